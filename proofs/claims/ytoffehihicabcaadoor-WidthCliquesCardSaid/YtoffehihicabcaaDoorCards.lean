/-
  DERIVED. GIVEN WITH THE SEED: THE CARDS: each row of YtoffehihicabcaaDoorRows.lean that lists a variable, with what it lists TIED to the program's text (the seventh form; the later family's looks); each row that meets fmt, with fmt's text TOLD by the authors' own Lean function (tested against real Go, not proved from fmt's source: count such statements apart). THE CARD IS WHAT COUNTS. Prove the row's statement (the work); the ties are given (YtoffehihicabcaaDoorTie.lean); close each card by the builder's one call (the guide's Derived/Test/ToyasCard.lean, 'card_holds'). Laid BY PROGRAM, IN A SANDBOX (cutbox-door.mjs). By AI agents, Wed Nov 11 2026. No macro, syntax, notation, axiom, sorry.
-/
import Derived.Test.YtoffehihicabcaaDoorRows
import GoSem.ClaimSeven
namespace Go.Proofs.YtoffehihicabcaaDoor
namespace Rows

/-- THE TIED CARD OF 'lampblacklaw02.WidthParts'. -/
def widthPartsCard : Claim7 := { stood := { row := widthPartsRow, standIns := [], harness := (true, "6e9e4d7db8f8d4ffca3d03b16034e6e31808a409725b46f42e097b083ef4ce8c"), looks := false }, kinds := [], alts := [], laidByText := true, laidKinds := [.data, .data], laidTests := true, laidLooks := .later }
def WidthPartsCardSaid : Prop := Claim7.holds Tryd.pinned (.plain (OpenSpec.ofChange widthPartsSpec)) widthPartsCard

/-- THE TIED CARD OF 'lampblacklaw02.WidthTouches'. -/
def widthTouchesCard : Claim7 := { stood := { row := widthTouchesRow, standIns := [], harness := (true, "6e9e4d7db8f8d4ffca3d03b16034e6e31808a409725b46f42e097b083ef4ce8c"), looks := false }, kinds := [], alts := [], laidByText := true, laidKinds := [.data, .data], laidTests := true, laidLooks := .later }
def WidthTouchesCardSaid : Prop := Claim7.holds Tryd.pinned (.plain (OpenSpec.ofChange widthTouchesSpec)) widthTouchesCard

/-- THE TIED CARD OF 'lampblacklaw02.WidthDivides'. -/
def widthDividesCard : Claim7 := { stood := { row := widthDividesRow, standIns := [], harness := (true, "6e9e4d7db8f8d4ffca3d03b16034e6e31808a409725b46f42e097b083ef4ce8c"), looks := false }, kinds := [], alts := [], laidByText := true, laidKinds := [.data, .data], laidTests := true, laidLooks := .later }
def WidthDividesCardSaid : Prop := Claim7.holds Tryd.pinned (.plain (OpenSpec.ofChange widthDividesSpec)) widthDividesCard

/-- THE TIED CARD OF 'lampblacklaw02.WidthDivided'. -/
def widthDividedCard : Claim7 := { stood := { row := widthDividedRow, standIns := [], harness := (true, "6e9e4d7db8f8d4ffca3d03b16034e6e31808a409725b46f42e097b083ef4ce8c"), looks := false }, kinds := [], alts := [], laidByText := true, laidKinds := [.data, .data], laidTests := true, laidLooks := .later }
def WidthDividedCardSaid : Prop := Claim7.holds Tryd.pinned (.plain (OpenSpec.ofChange widthDividedSpec)) widthDividedCard

/-- THE TIED CARD OF 'lampblacklaw02.WidthCovers'. -/
def widthCoversCard : Claim7 := { stood := { row := widthCoversRow, standIns := [], harness := (true, "6e9e4d7db8f8d4ffca3d03b16034e6e31808a409725b46f42e097b083ef4ce8c"), looks := false }, kinds := [], alts := [], laidByText := true, laidKinds := [.data, .data], laidTests := true, laidLooks := .later }
def WidthCoversCardSaid : Prop := Claim7.holds Tryd.pinned (.plain (OpenSpec.ofChange widthCoversSpec)) widthCoversCard

/-- THE TIED CARD OF 'lampblacklaw02.WidthOrders'. -/
def widthOrdersCard : Claim7 := { stood := { row := widthOrdersRow, standIns := [], harness := (true, "6e9e4d7db8f8d4ffca3d03b16034e6e31808a409725b46f42e097b083ef4ce8c"), looks := false }, kinds := [], alts := [], laidByText := true, laidKinds := [.data, .data], laidTests := true, laidLooks := .later }
def WidthOrdersCardSaid : Prop := Claim7.holds Tryd.pinned (.plain (OpenSpec.ofChange widthOrdersSpec)) widthOrdersCard

/-- THE TIED CARD OF 'lampblacklaw02.WidthNarrows'. -/
def widthNarrowsCard : Claim7 := { stood := { row := widthNarrowsRow, standIns := [], harness := (true, "6e9e4d7db8f8d4ffca3d03b16034e6e31808a409725b46f42e097b083ef4ce8c"), looks := false }, kinds := [], alts := [], laidByText := true, laidKinds := [.data, .data], laidTests := true, laidLooks := .later }
def WidthNarrowsCardSaid : Prop := Claim7.holds Tryd.pinned (.plain (OpenSpec.ofChange widthNarrowsSpec)) widthNarrowsCard

/-- THE TIED CARD OF 'lampblacklaw02.WidthLeast'. -/
def widthLeastCard : Claim7 := { stood := { row := widthLeastRow, standIns := [], harness := (true, "6e9e4d7db8f8d4ffca3d03b16034e6e31808a409725b46f42e097b083ef4ce8c"), looks := false }, kinds := [], alts := [], laidByText := true, laidKinds := [.data, .data], laidTests := true, laidLooks := .later }
def WidthLeastCardSaid : Prop := Claim7.holds Tryd.pinned (.plain (OpenSpec.ofChange widthLeastSpec)) widthLeastCard

/-- THE TIED CARD OF 'lampblacklaw02.WidthFew'. -/
def widthFewCard : Claim7 := { stood := { row := widthFewRow, standIns := [], harness := (true, "6e9e4d7db8f8d4ffca3d03b16034e6e31808a409725b46f42e097b083ef4ce8c"), looks := false }, kinds := [], alts := [], laidByText := true, laidKinds := [.data, .data], laidTests := true, laidLooks := .later }
def WidthFewCardSaid : Prop := Claim7.holds Tryd.pinned (.plain (OpenSpec.ofChange widthFewSpec)) widthFewCard

/-- THE TIED CARD OF 'lampblacklaw02.WidthTrees'. -/
def widthTreesCard : Claim7 := { stood := { row := widthTreesRow, standIns := [], harness := (true, "6e9e4d7db8f8d4ffca3d03b16034e6e31808a409725b46f42e097b083ef4ce8c"), looks := false }, kinds := [], alts := [], laidByText := true, laidKinds := [.data, .data], laidTests := true, laidLooks := .later }
def WidthTreesCardSaid : Prop := Claim7.holds Tryd.pinned (.plain (OpenSpec.ofChange widthTreesSpec)) widthTreesCard

/-- THE TIED CARD OF 'lampblacklaw02.WidthCliques'. -/
def widthCliquesCard : Claim7 := { stood := { row := widthCliquesRow, standIns := [], harness := (true, "6e9e4d7db8f8d4ffca3d03b16034e6e31808a409725b46f42e097b083ef4ce8c"), looks := false }, kinds := [], alts := [], laidByText := true, laidKinds := [.data, .data], laidTests := true, laidLooks := .later }
def WidthCliquesCardSaid : Prop := Claim7.holds Tryd.pinned (.plain (OpenSpec.ofChange widthCliquesSpec)) widthCliquesCard

/-- THE TIED CARD OF 'lampblacklaw02.WidthCounts'. -/
def widthCountsCard : Claim7 := { stood := { row := widthCountsRow, standIns := [], harness := (true, "6e9e4d7db8f8d4ffca3d03b16034e6e31808a409725b46f42e097b083ef4ce8c"), looks := false }, kinds := [], alts := [], laidByText := true, laidKinds := [.data, .data], laidTests := true, laidLooks := .later }
def WidthCountsCardSaid : Prop := Claim7.holds Tryd.pinned (.plain (OpenSpec.ofChange widthCountsSpec)) widthCountsCard

/-- THE TIED CARD OF 'lampblacklaw02.WidthColours'. -/
def widthColoursCard : Claim7 := { stood := { row := widthColoursRow, standIns := [], harness := (true, "6e9e4d7db8f8d4ffca3d03b16034e6e31808a409725b46f42e097b083ef4ce8c"), looks := false }, kinds := [], alts := [], laidByText := true, laidKinds := [.data, .data], laidTests := true, laidLooks := .later }
def WidthColoursCardSaid : Prop := Claim7.holds Tryd.pinned (.plain (OpenSpec.ofChange widthColoursSpec)) widthColoursCard

/-- THE TIED CARD OF 'lampblacklaw02.WidthBrambles'. -/
def widthBramblesCard : Claim7 := { stood := { row := widthBramblesRow, standIns := [], harness := (true, "6e9e4d7db8f8d4ffca3d03b16034e6e31808a409725b46f42e097b083ef4ce8c"), looks := false }, kinds := [], alts := [], laidByText := true, laidKinds := [.data, .data], laidTests := true, laidLooks := .later }
def WidthBramblesCardSaid : Prop := Claim7.holds Tryd.pinned (.plain (OpenSpec.ofChange widthBramblesSpec)) widthBramblesCard

/-- THE TIED CARD OF 'lampblacklaw02.WidthDual'. -/
def widthDualCard : Claim7 := { stood := { row := widthDualRow, standIns := [], harness := (true, "6e9e4d7db8f8d4ffca3d03b16034e6e31808a409725b46f42e097b083ef4ce8c"), looks := false }, kinds := [], alts := [], laidByText := true, laidKinds := [.data, .data], laidTests := true, laidLooks := .later }
def WidthDualCardSaid : Prop := Claim7.holds Tryd.pinned (.plain (OpenSpec.ofChange widthDualSpec)) widthDualCard

/-- THE SECOND FORM's CARD OF 'lampblacklaw02.WidthParts'. -/
def widthPartsUptoCard : Claim7 := { stood := { row := widthPartsUptoRow, standIns := [], harness := (true, "6e9e4d7db8f8d4ffca3d03b16034e6e31808a409725b46f42e097b083ef4ce8c"), looks := false }, kinds := [], alts := [], laidByText := true, laidKinds := [.data, .data], laidTests := true, laidLooks := .later }
def WidthPartsUptoCardSaid : Prop := Claim7.holds Tryd.pinned (.plain (OpenSpec.upto widthPartsSpec)) widthPartsUptoCard

/-- THE SECOND FORM's CARD OF 'lampblacklaw02.WidthTouches'. -/
def widthTouchesUptoCard : Claim7 := { stood := { row := widthTouchesUptoRow, standIns := [], harness := (true, "6e9e4d7db8f8d4ffca3d03b16034e6e31808a409725b46f42e097b083ef4ce8c"), looks := false }, kinds := [], alts := [], laidByText := true, laidKinds := [.data, .data], laidTests := true, laidLooks := .later }
def WidthTouchesUptoCardSaid : Prop := Claim7.holds Tryd.pinned (.plain (OpenSpec.upto widthTouchesSpec)) widthTouchesUptoCard

/-- THE SECOND FORM's CARD OF 'lampblacklaw02.WidthDivides'. -/
def widthDividesUptoCard : Claim7 := { stood := { row := widthDividesUptoRow, standIns := [], harness := (true, "6e9e4d7db8f8d4ffca3d03b16034e6e31808a409725b46f42e097b083ef4ce8c"), looks := false }, kinds := [], alts := [], laidByText := true, laidKinds := [.data, .data], laidTests := true, laidLooks := .later }
def WidthDividesUptoCardSaid : Prop := Claim7.holds Tryd.pinned (.plain (OpenSpec.upto widthDividesSpec)) widthDividesUptoCard

/-- THE SECOND FORM's CARD OF 'lampblacklaw02.WidthDivided'. -/
def widthDividedUptoCard : Claim7 := { stood := { row := widthDividedUptoRow, standIns := [], harness := (true, "6e9e4d7db8f8d4ffca3d03b16034e6e31808a409725b46f42e097b083ef4ce8c"), looks := false }, kinds := [], alts := [], laidByText := true, laidKinds := [.data, .data], laidTests := true, laidLooks := .later }
def WidthDividedUptoCardSaid : Prop := Claim7.holds Tryd.pinned (.plain (OpenSpec.upto widthDividedSpec)) widthDividedUptoCard

/-- THE SECOND FORM's CARD OF 'lampblacklaw02.WidthCovers'. -/
def widthCoversUptoCard : Claim7 := { stood := { row := widthCoversUptoRow, standIns := [], harness := (true, "6e9e4d7db8f8d4ffca3d03b16034e6e31808a409725b46f42e097b083ef4ce8c"), looks := false }, kinds := [], alts := [], laidByText := true, laidKinds := [.data, .data], laidTests := true, laidLooks := .later }
def WidthCoversUptoCardSaid : Prop := Claim7.holds Tryd.pinned (.plain (OpenSpec.upto widthCoversSpec)) widthCoversUptoCard

/-- THE SECOND FORM's CARD OF 'lampblacklaw02.WidthOrders'. -/
def widthOrdersUptoCard : Claim7 := { stood := { row := widthOrdersUptoRow, standIns := [], harness := (true, "6e9e4d7db8f8d4ffca3d03b16034e6e31808a409725b46f42e097b083ef4ce8c"), looks := false }, kinds := [], alts := [], laidByText := true, laidKinds := [.data, .data], laidTests := true, laidLooks := .later }
def WidthOrdersUptoCardSaid : Prop := Claim7.holds Tryd.pinned (.plain (OpenSpec.upto widthOrdersSpec)) widthOrdersUptoCard

/-- THE SECOND FORM's CARD OF 'lampblacklaw02.WidthNarrows'. -/
def widthNarrowsUptoCard : Claim7 := { stood := { row := widthNarrowsUptoRow, standIns := [], harness := (true, "6e9e4d7db8f8d4ffca3d03b16034e6e31808a409725b46f42e097b083ef4ce8c"), looks := false }, kinds := [], alts := [], laidByText := true, laidKinds := [.data, .data], laidTests := true, laidLooks := .later }
def WidthNarrowsUptoCardSaid : Prop := Claim7.holds Tryd.pinned (.plain (OpenSpec.upto widthNarrowsSpec)) widthNarrowsUptoCard

/-- THE SECOND FORM's CARD OF 'lampblacklaw02.WidthLeast'. -/
def widthLeastUptoCard : Claim7 := { stood := { row := widthLeastUptoRow, standIns := [], harness := (true, "6e9e4d7db8f8d4ffca3d03b16034e6e31808a409725b46f42e097b083ef4ce8c"), looks := false }, kinds := [], alts := [], laidByText := true, laidKinds := [.data, .data], laidTests := true, laidLooks := .later }
def WidthLeastUptoCardSaid : Prop := Claim7.holds Tryd.pinned (.plain (OpenSpec.upto widthLeastSpec)) widthLeastUptoCard

/-- THE SECOND FORM's CARD OF 'lampblacklaw02.WidthFew'. -/
def widthFewUptoCard : Claim7 := { stood := { row := widthFewUptoRow, standIns := [], harness := (true, "6e9e4d7db8f8d4ffca3d03b16034e6e31808a409725b46f42e097b083ef4ce8c"), looks := false }, kinds := [], alts := [], laidByText := true, laidKinds := [.data, .data], laidTests := true, laidLooks := .later }
def WidthFewUptoCardSaid : Prop := Claim7.holds Tryd.pinned (.plain (OpenSpec.upto widthFewSpec)) widthFewUptoCard

/-- THE SECOND FORM's CARD OF 'lampblacklaw02.WidthTrees'. -/
def widthTreesUptoCard : Claim7 := { stood := { row := widthTreesUptoRow, standIns := [], harness := (true, "6e9e4d7db8f8d4ffca3d03b16034e6e31808a409725b46f42e097b083ef4ce8c"), looks := false }, kinds := [], alts := [], laidByText := true, laidKinds := [.data, .data], laidTests := true, laidLooks := .later }
def WidthTreesUptoCardSaid : Prop := Claim7.holds Tryd.pinned (.plain (OpenSpec.upto widthTreesSpec)) widthTreesUptoCard

/-- THE SECOND FORM's CARD OF 'lampblacklaw02.WidthCliques'. -/
def widthCliquesUptoCard : Claim7 := { stood := { row := widthCliquesUptoRow, standIns := [], harness := (true, "6e9e4d7db8f8d4ffca3d03b16034e6e31808a409725b46f42e097b083ef4ce8c"), looks := false }, kinds := [], alts := [], laidByText := true, laidKinds := [.data, .data], laidTests := true, laidLooks := .later }
def WidthCliquesUptoCardSaid : Prop := Claim7.holds Tryd.pinned (.plain (OpenSpec.upto widthCliquesSpec)) widthCliquesUptoCard

/-- THE SECOND FORM's CARD OF 'lampblacklaw02.WidthCounts'. -/
def widthCountsUptoCard : Claim7 := { stood := { row := widthCountsUptoRow, standIns := [], harness := (true, "6e9e4d7db8f8d4ffca3d03b16034e6e31808a409725b46f42e097b083ef4ce8c"), looks := false }, kinds := [], alts := [], laidByText := true, laidKinds := [.data, .data], laidTests := true, laidLooks := .later }
def WidthCountsUptoCardSaid : Prop := Claim7.holds Tryd.pinned (.plain (OpenSpec.upto widthCountsSpec)) widthCountsUptoCard

/-- THE SECOND FORM's CARD OF 'lampblacklaw02.WidthColours'. -/
def widthColoursUptoCard : Claim7 := { stood := { row := widthColoursUptoRow, standIns := [], harness := (true, "6e9e4d7db8f8d4ffca3d03b16034e6e31808a409725b46f42e097b083ef4ce8c"), looks := false }, kinds := [], alts := [], laidByText := true, laidKinds := [.data, .data], laidTests := true, laidLooks := .later }
def WidthColoursUptoCardSaid : Prop := Claim7.holds Tryd.pinned (.plain (OpenSpec.upto widthColoursSpec)) widthColoursUptoCard

/-- THE SECOND FORM's CARD OF 'lampblacklaw02.WidthBrambles'. -/
def widthBramblesUptoCard : Claim7 := { stood := { row := widthBramblesUptoRow, standIns := [], harness := (true, "6e9e4d7db8f8d4ffca3d03b16034e6e31808a409725b46f42e097b083ef4ce8c"), looks := false }, kinds := [], alts := [], laidByText := true, laidKinds := [.data, .data], laidTests := true, laidLooks := .later }
def WidthBramblesUptoCardSaid : Prop := Claim7.holds Tryd.pinned (.plain (OpenSpec.upto widthBramblesSpec)) widthBramblesUptoCard

/-- THE SECOND FORM's CARD OF 'lampblacklaw02.WidthDual'. -/
def widthDualUptoCard : Claim7 := { stood := { row := widthDualUptoRow, standIns := [], harness := (true, "6e9e4d7db8f8d4ffca3d03b16034e6e31808a409725b46f42e097b083ef4ce8c"), looks := false }, kinds := [], alts := [], laidByText := true, laidKinds := [.data, .data], laidTests := true, laidLooks := .later }
def WidthDualUptoCardSaid : Prop := Claim7.holds Tryd.pinned (.plain (OpenSpec.upto widthDualSpec)) widthDualUptoCard
end Rows
end Go.Proofs.YtoffehihicabcaaDoor
