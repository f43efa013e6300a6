/-
  NARROWER THAN 'FOR EVERY INPUT', by the rows' own cells (each row's printed sentence says how): WidthParts: laid · WidthTouches: laid · WidthDivides: laid · WidthDivided: laid · WidthCovers: laid · WidthOrders: laid · WidthNarrows: laid · WidthLeast: laid · WidthFew: laid · WidthTrees: laid · WidthCliques: laid · WidthCounts: laid · WidthColours: laid · WidthBrambles: laid · WidthDual: laid.
  DERIVED. THE GIVEN ROWS OF THIS SEAT. 15 by the template 'for every input the law returns true; each argument reads behind the call as it read before'; 0 by the template 'total and deterministic' (their statements: YtoffehihicabcaaDoorTotals.lean).
  GIVEN WITH THE SEED: the statements are not yours to turn. If you find one false, say at which input.
  Laid BY PROGRAM, IN A SANDBOX (cutbox-rows.mjs): the forced cells as the released guide's own fill.sh prints them over the translation cf812d7417336323… (all of the seat's roots in one cut). By AI agents, Wed Nov 11 2026. No macro, syntax, notation, axiom, sorry.
-/
import Derived.Test.YtoffehihicabcaaDoorChecked
import GoSem.Claim
import GoSem.ClaimJoined
import GoSem.ClaimMapViews
import Derived.JoinedTies
import Derived.KernelRfl
namespace Go.Proofs.YtoffehihicabcaaDoor
/- THE CELL 'sum', in the pinned program and in every row, IS THE sha256 OF THE DUMP (.gsa) THAT YtoffehihicabcaaDoorProg.lean LOADS. Nothing in Lean hashes anything: it is a label: what it is worth is what the hold of that sum in a sandbox is worth. -/
noncomputable def Tryd.pinned : Pinned := { name := "ytoffehihicabcaadoor", sum := "cf812d74173363237f8ed7c0815ca378358dee2fe3c6f2518336201ba62510a1", checked := Tryd.checked }
namespace Rows
def none {H : Type} : Left H := { results := [], args := [] }

/- WHAT THE LISTED PACKAGE-LEVEL VARIABLES READ AS WHEN THE CALL BEGINS. Each datum BY PROGRAM (the guide's laid-datum.mjs) off the statement by which the dump's own 'gosem.cut.vars' lays the variable. In a bare row this is a premise. The card (YtoffehihicabcaaDoorCards.lean) ties it to the program's text. -/
def laid_math_bits_deBruijn32tab {H : Type} : DataW H := .agg [.lit (.int .u8 0), .lit (.int .u8 1), .lit (.int .u8 28), .lit (.int .u8 2), .lit (.int .u8 29), .lit (.int .u8 14), .lit (.int .u8 24), .lit (.int .u8 3), .lit (.int .u8 30), .lit (.int .u8 22), .lit (.int .u8 20), .lit (.int .u8 15), .lit (.int .u8 25), .lit (.int .u8 17), .lit (.int .u8 4), .lit (.int .u8 8), .lit (.int .u8 31), .lit (.int .u8 27), .lit (.int .u8 13), .lit (.int .u8 23), .lit (.int .u8 21), .lit (.int .u8 19), .lit (.int .u8 16), .lit (.int .u8 7), .lit (.int .u8 26), .lit (.int .u8 12), .lit (.int .u8 18), .lit (.int .u8 6), .lit (.int .u8 11), .lit (.int .u8 5), .lit (.int .u8 10), .lit (.int .u8 9)]
def laid_math_bits_deBruijn64tab {H : Type} : DataW H := .agg [.lit (.int .u8 0), .lit (.int .u8 1), .lit (.int .u8 56), .lit (.int .u8 2), .lit (.int .u8 57), .lit (.int .u8 49), .lit (.int .u8 28), .lit (.int .u8 3), .lit (.int .u8 61), .lit (.int .u8 58), .lit (.int .u8 42), .lit (.int .u8 50), .lit (.int .u8 38), .lit (.int .u8 29), .lit (.int .u8 17), .lit (.int .u8 4), .lit (.int .u8 62), .lit (.int .u8 47), .lit (.int .u8 59), .lit (.int .u8 36), .lit (.int .u8 45), .lit (.int .u8 43), .lit (.int .u8 51), .lit (.int .u8 22), .lit (.int .u8 53), .lit (.int .u8 39), .lit (.int .u8 33), .lit (.int .u8 30), .lit (.int .u8 24), .lit (.int .u8 18), .lit (.int .u8 12), .lit (.int .u8 5), .lit (.int .u8 63), .lit (.int .u8 55), .lit (.int .u8 48), .lit (.int .u8 27), .lit (.int .u8 60), .lit (.int .u8 41), .lit (.int .u8 37), .lit (.int .u8 16), .lit (.int .u8 46), .lit (.int .u8 35), .lit (.int .u8 44), .lit (.int .u8 21), .lit (.int .u8 52), .lit (.int .u8 32), .lit (.int .u8 23), .lit (.int .u8 11), .lit (.int .u8 54), .lit (.int .u8 26), .lit (.int .u8 40), .lit (.int .u8 15), .lit (.int .u8 34), .lit (.int .u8 20), .lit (.int .u8 31), .lit (.int .u8 10), .lit (.int .u8 25), .lit (.int .u8 14), .lit (.int .u8 19), .lit (.int .u8 9), .lit (.int .u8 13), .lit (.int .u8 8), .lit (.int .u8 7), .lit (.int .u8 6)]

/-- 'lampblacklaw02.WidthParts': WHATEVER THE INPUT: true; the input reads as it did. -/
def widthPartsSpec : ChangeSpec := { name := "widthParts", fn := fun _ => fun
  | [d1, d2, d3] => { results := [.lit (.bool true)], args := [d1, d2, d3] }
  | _ => none }
def widthPartsRow : OpenClaim := { program := "ytoffehihicabcaadoor", sum := "cf812d74173363237f8ed7c0815ca378358dee2fe3c6f2518336201ba62510a1", func := "lampblack/lampblacklaw02.WidthParts", spec := "widthParts", named := ["math/bits.deBruijn32tab", "math/bits.deBruijn64tab"], apart := false, laid := [("math/bits.deBruijn32tab", laid_math_bits_deBruijn32tab), ("math/bits.deBruijn64tab", laid_math_bits_deBruijn64tab)] }
def WidthPartsSaid : Prop := widthPartsRow.holds Tryd.pinned (OpenSpec.ofChange widthPartsSpec)

/-- ITS FALSE NEIGHBOUR: 'it returns false'. Refute it at one input. -/
def widthPartsWrong : ChangeSpec := { name := "widthParts", fn := fun _ => fun
  | [d1, d2, d3] => { results := [.lit (.bool false)], args := [d1, d2, d3] }
  | _ => none }
def WidthPartsWrongFalsely : Prop := widthPartsRow.holds Tryd.pinned (OpenSpec.ofChange widthPartsWrong)

/-- 'lampblacklaw02.WidthTouches': WHATEVER THE INPUT: true; the input reads as it did. -/
def widthTouchesSpec : ChangeSpec := { name := "widthTouches", fn := fun _ => fun
  | [d1, d2, d3] => { results := [.lit (.bool true)], args := [d1, d2, d3] }
  | _ => none }
def widthTouchesRow : OpenClaim := { program := "ytoffehihicabcaadoor", sum := "cf812d74173363237f8ed7c0815ca378358dee2fe3c6f2518336201ba62510a1", func := "lampblack/lampblacklaw02.WidthTouches", spec := "widthTouches", named := ["math/bits.deBruijn32tab", "math/bits.deBruijn64tab"], apart := false, laid := [("math/bits.deBruijn32tab", laid_math_bits_deBruijn32tab), ("math/bits.deBruijn64tab", laid_math_bits_deBruijn64tab)] }
def WidthTouchesSaid : Prop := widthTouchesRow.holds Tryd.pinned (OpenSpec.ofChange widthTouchesSpec)

/-- ITS FALSE NEIGHBOUR: 'it returns false'. Refute it at one input. -/
def widthTouchesWrong : ChangeSpec := { name := "widthTouches", fn := fun _ => fun
  | [d1, d2, d3] => { results := [.lit (.bool false)], args := [d1, d2, d3] }
  | _ => none }
def WidthTouchesWrongFalsely : Prop := widthTouchesRow.holds Tryd.pinned (OpenSpec.ofChange widthTouchesWrong)

/-- 'lampblacklaw02.WidthDivides': WHATEVER THE INPUT: true; the input reads as it did. -/
def widthDividesSpec : ChangeSpec := { name := "widthDivides", fn := fun _ => fun
  | [d] => { results := [.lit (.bool true)], args := [d] }
  | _ => none }
def widthDividesRow : OpenClaim := { program := "ytoffehihicabcaadoor", sum := "cf812d74173363237f8ed7c0815ca378358dee2fe3c6f2518336201ba62510a1", func := "lampblack/lampblacklaw02.WidthDivides", spec := "widthDivides", named := ["math/bits.deBruijn32tab", "math/bits.deBruijn64tab"], apart := false, laid := [("math/bits.deBruijn32tab", laid_math_bits_deBruijn32tab), ("math/bits.deBruijn64tab", laid_math_bits_deBruijn64tab)] }
def WidthDividesSaid : Prop := widthDividesRow.holds Tryd.pinned (OpenSpec.ofChange widthDividesSpec)

/-- ITS FALSE NEIGHBOUR: 'it returns false'. Refute it at one input. -/
def widthDividesWrong : ChangeSpec := { name := "widthDivides", fn := fun _ => fun
  | [d] => { results := [.lit (.bool false)], args := [d] }
  | _ => none }
def WidthDividesWrongFalsely : Prop := widthDividesRow.holds Tryd.pinned (OpenSpec.ofChange widthDividesWrong)

/-- 'lampblacklaw02.WidthDivided': WHATEVER THE INPUT: true; the input reads as it did. -/
def widthDividedSpec : ChangeSpec := { name := "widthDivided", fn := fun _ => fun
  | [d] => { results := [.lit (.bool true)], args := [d] }
  | _ => none }
def widthDividedRow : OpenClaim := { program := "ytoffehihicabcaadoor", sum := "cf812d74173363237f8ed7c0815ca378358dee2fe3c6f2518336201ba62510a1", func := "lampblack/lampblacklaw02.WidthDivided", spec := "widthDivided", named := ["math/bits.deBruijn32tab", "math/bits.deBruijn64tab"], apart := false, laid := [("math/bits.deBruijn32tab", laid_math_bits_deBruijn32tab), ("math/bits.deBruijn64tab", laid_math_bits_deBruijn64tab)] }
def WidthDividedSaid : Prop := widthDividedRow.holds Tryd.pinned (OpenSpec.ofChange widthDividedSpec)

/-- ITS FALSE NEIGHBOUR: 'it returns false'. Refute it at one input. -/
def widthDividedWrong : ChangeSpec := { name := "widthDivided", fn := fun _ => fun
  | [d] => { results := [.lit (.bool false)], args := [d] }
  | _ => none }
def WidthDividedWrongFalsely : Prop := widthDividedRow.holds Tryd.pinned (OpenSpec.ofChange widthDividedWrong)

/-- 'lampblacklaw02.WidthCovers': WHATEVER THE INPUT: true; the input reads as it did. -/
def widthCoversSpec : ChangeSpec := { name := "widthCovers", fn := fun _ => fun
  | [d1, d2] => { results := [.lit (.bool true)], args := [d1, d2] }
  | _ => none }
def widthCoversRow : OpenClaim := { program := "ytoffehihicabcaadoor", sum := "cf812d74173363237f8ed7c0815ca378358dee2fe3c6f2518336201ba62510a1", func := "lampblack/lampblacklaw02.WidthCovers", spec := "widthCovers", unfollowed := true, recurses := true, named := ["math/bits.deBruijn32tab", "math/bits.deBruijn64tab"], apart := false, laid := [("math/bits.deBruijn32tab", laid_math_bits_deBruijn32tab), ("math/bits.deBruijn64tab", laid_math_bits_deBruijn64tab)] }
def WidthCoversSaid : Prop := widthCoversRow.holds Tryd.pinned (OpenSpec.ofChange widthCoversSpec)

/-- ITS FALSE NEIGHBOUR: 'it returns false'. Refute it at one input. -/
def widthCoversWrong : ChangeSpec := { name := "widthCovers", fn := fun _ => fun
  | [d1, d2] => { results := [.lit (.bool false)], args := [d1, d2] }
  | _ => none }
def WidthCoversWrongFalsely : Prop := widthCoversRow.holds Tryd.pinned (OpenSpec.ofChange widthCoversWrong)

/-- 'lampblacklaw02.WidthOrders': WHATEVER THE INPUT: true; the input reads as it did. -/
def widthOrdersSpec : ChangeSpec := { name := "widthOrders", fn := fun _ => fun
  | [d1, d2] => { results := [.lit (.bool true)], args := [d1, d2] }
  | _ => none }
def widthOrdersRow : OpenClaim := { program := "ytoffehihicabcaadoor", sum := "cf812d74173363237f8ed7c0815ca378358dee2fe3c6f2518336201ba62510a1", func := "lampblack/lampblacklaw02.WidthOrders", spec := "widthOrders", unfollowed := true, recurses := true, named := ["math/bits.deBruijn32tab", "math/bits.deBruijn64tab"], apart := false, laid := [("math/bits.deBruijn32tab", laid_math_bits_deBruijn32tab), ("math/bits.deBruijn64tab", laid_math_bits_deBruijn64tab)] }
def WidthOrdersSaid : Prop := widthOrdersRow.holds Tryd.pinned (OpenSpec.ofChange widthOrdersSpec)

/-- ITS FALSE NEIGHBOUR: 'it returns false'. Refute it at one input. -/
def widthOrdersWrong : ChangeSpec := { name := "widthOrders", fn := fun _ => fun
  | [d1, d2] => { results := [.lit (.bool false)], args := [d1, d2] }
  | _ => none }
def WidthOrdersWrongFalsely : Prop := widthOrdersRow.holds Tryd.pinned (OpenSpec.ofChange widthOrdersWrong)

/-- 'lampblacklaw02.WidthNarrows': WHATEVER THE INPUT: true; the input reads as it did. -/
def widthNarrowsSpec : ChangeSpec := { name := "widthNarrows", fn := fun _ => fun
  | [d1, d2] => { results := [.lit (.bool true)], args := [d1, d2] }
  | _ => none }
def widthNarrowsRow : OpenClaim := { program := "ytoffehihicabcaadoor", sum := "cf812d74173363237f8ed7c0815ca378358dee2fe3c6f2518336201ba62510a1", func := "lampblack/lampblacklaw02.WidthNarrows", spec := "widthNarrows", unfollowed := true, recurses := true, named := ["math/bits.deBruijn32tab", "math/bits.deBruijn64tab"], apart := false, laid := [("math/bits.deBruijn32tab", laid_math_bits_deBruijn32tab), ("math/bits.deBruijn64tab", laid_math_bits_deBruijn64tab)] }
def WidthNarrowsSaid : Prop := widthNarrowsRow.holds Tryd.pinned (OpenSpec.ofChange widthNarrowsSpec)

/-- ITS FALSE NEIGHBOUR: 'it returns false'. Refute it at one input. -/
def widthNarrowsWrong : ChangeSpec := { name := "widthNarrows", fn := fun _ => fun
  | [d1, d2] => { results := [.lit (.bool false)], args := [d1, d2] }
  | _ => none }
def WidthNarrowsWrongFalsely : Prop := widthNarrowsRow.holds Tryd.pinned (OpenSpec.ofChange widthNarrowsWrong)

/-- 'lampblacklaw02.WidthLeast': WHATEVER THE INPUT: true; the input reads as it did. -/
def widthLeastSpec : ChangeSpec := { name := "widthLeast", fn := fun _ => fun
  | [d1, d2] => { results := [.lit (.bool true)], args := [d1, d2] }
  | _ => none }
def widthLeastRow : OpenClaim := { program := "ytoffehihicabcaadoor", sum := "cf812d74173363237f8ed7c0815ca378358dee2fe3c6f2518336201ba62510a1", func := "lampblack/lampblacklaw02.WidthLeast", spec := "widthLeast", unfollowed := true, recurses := true, named := ["math/bits.deBruijn32tab", "math/bits.deBruijn64tab"], apart := false, laid := [("math/bits.deBruijn32tab", laid_math_bits_deBruijn32tab), ("math/bits.deBruijn64tab", laid_math_bits_deBruijn64tab)] }
def WidthLeastSaid : Prop := widthLeastRow.holds Tryd.pinned (OpenSpec.ofChange widthLeastSpec)

/-- ITS FALSE NEIGHBOUR: 'it returns false'. Refute it at one input. -/
def widthLeastWrong : ChangeSpec := { name := "widthLeast", fn := fun _ => fun
  | [d1, d2] => { results := [.lit (.bool false)], args := [d1, d2] }
  | _ => none }
def WidthLeastWrongFalsely : Prop := widthLeastRow.holds Tryd.pinned (OpenSpec.ofChange widthLeastWrong)

/-- 'lampblacklaw02.WidthFew': WHATEVER THE INPUT: true; the input reads as it did. -/
def widthFewSpec : ChangeSpec := { name := "widthFew", fn := fun _ => fun
  | [d1, d2] => { results := [.lit (.bool true)], args := [d1, d2] }
  | _ => none }
def widthFewRow : OpenClaim := { program := "ytoffehihicabcaadoor", sum := "cf812d74173363237f8ed7c0815ca378358dee2fe3c6f2518336201ba62510a1", func := "lampblack/lampblacklaw02.WidthFew", spec := "widthFew", unfollowed := true, recurses := true, named := ["math/bits.deBruijn32tab", "math/bits.deBruijn64tab"], apart := false, laid := [("math/bits.deBruijn32tab", laid_math_bits_deBruijn32tab), ("math/bits.deBruijn64tab", laid_math_bits_deBruijn64tab)] }
def WidthFewSaid : Prop := widthFewRow.holds Tryd.pinned (OpenSpec.ofChange widthFewSpec)

/-- ITS FALSE NEIGHBOUR: 'it returns false'. Refute it at one input. -/
def widthFewWrong : ChangeSpec := { name := "widthFew", fn := fun _ => fun
  | [d1, d2] => { results := [.lit (.bool false)], args := [d1, d2] }
  | _ => none }
def WidthFewWrongFalsely : Prop := widthFewRow.holds Tryd.pinned (OpenSpec.ofChange widthFewWrong)

/-- 'lampblacklaw02.WidthTrees': WHATEVER THE INPUT: true; the input reads as it did. -/
def widthTreesSpec : ChangeSpec := { name := "widthTrees", fn := fun _ => fun
  | [d1, d2] => { results := [.lit (.bool true)], args := [d1, d2] }
  | _ => none }
def widthTreesRow : OpenClaim := { program := "ytoffehihicabcaadoor", sum := "cf812d74173363237f8ed7c0815ca378358dee2fe3c6f2518336201ba62510a1", func := "lampblack/lampblacklaw02.WidthTrees", spec := "widthTrees", unfollowed := true, recurses := true, named := ["math/bits.deBruijn32tab", "math/bits.deBruijn64tab"], apart := false, laid := [("math/bits.deBruijn32tab", laid_math_bits_deBruijn32tab), ("math/bits.deBruijn64tab", laid_math_bits_deBruijn64tab)] }
def WidthTreesSaid : Prop := widthTreesRow.holds Tryd.pinned (OpenSpec.ofChange widthTreesSpec)

/-- ITS FALSE NEIGHBOUR: 'it returns false'. Refute it at one input. -/
def widthTreesWrong : ChangeSpec := { name := "widthTrees", fn := fun _ => fun
  | [d1, d2] => { results := [.lit (.bool false)], args := [d1, d2] }
  | _ => none }
def WidthTreesWrongFalsely : Prop := widthTreesRow.holds Tryd.pinned (OpenSpec.ofChange widthTreesWrong)

/-- 'lampblacklaw02.WidthCliques': WHATEVER THE INPUT: true; the input reads as it did. -/
def widthCliquesSpec : ChangeSpec := { name := "widthCliques", fn := fun _ => fun
  | [d1, d2] => { results := [.lit (.bool true)], args := [d1, d2] }
  | _ => none }
def widthCliquesRow : OpenClaim := { program := "ytoffehihicabcaadoor", sum := "cf812d74173363237f8ed7c0815ca378358dee2fe3c6f2518336201ba62510a1", func := "lampblack/lampblacklaw02.WidthCliques", spec := "widthCliques", unfollowed := true, recurses := true, named := ["math/bits.deBruijn32tab", "math/bits.deBruijn64tab"], apart := false, laid := [("math/bits.deBruijn32tab", laid_math_bits_deBruijn32tab), ("math/bits.deBruijn64tab", laid_math_bits_deBruijn64tab)] }
def WidthCliquesSaid : Prop := widthCliquesRow.holds Tryd.pinned (OpenSpec.ofChange widthCliquesSpec)

/-- ITS FALSE NEIGHBOUR: 'it returns false'. Refute it at one input. -/
def widthCliquesWrong : ChangeSpec := { name := "widthCliques", fn := fun _ => fun
  | [d1, d2] => { results := [.lit (.bool false)], args := [d1, d2] }
  | _ => none }
def WidthCliquesWrongFalsely : Prop := widthCliquesRow.holds Tryd.pinned (OpenSpec.ofChange widthCliquesWrong)

/-- 'lampblacklaw02.WidthCounts': WHATEVER THE INPUT: true; the input reads as it did. -/
def widthCountsSpec : ChangeSpec := { name := "widthCounts", fn := fun _ => fun
  | [d1, d2, d3] => { results := [.lit (.bool true)], args := [d1, d2, d3] }
  | _ => none }
def widthCountsRow : OpenClaim := { program := "ytoffehihicabcaadoor", sum := "cf812d74173363237f8ed7c0815ca378358dee2fe3c6f2518336201ba62510a1", func := "lampblack/lampblacklaw02.WidthCounts", spec := "widthCounts", unfollowed := true, recurses := true, named := ["math/bits.deBruijn32tab", "math/bits.deBruijn64tab"], apart := false, laid := [("math/bits.deBruijn32tab", laid_math_bits_deBruijn32tab), ("math/bits.deBruijn64tab", laid_math_bits_deBruijn64tab)] }
def WidthCountsSaid : Prop := widthCountsRow.holds Tryd.pinned (OpenSpec.ofChange widthCountsSpec)

/-- ITS FALSE NEIGHBOUR: 'it returns false'. Refute it at one input. -/
def widthCountsWrong : ChangeSpec := { name := "widthCounts", fn := fun _ => fun
  | [d1, d2, d3] => { results := [.lit (.bool false)], args := [d1, d2, d3] }
  | _ => none }
def WidthCountsWrongFalsely : Prop := widthCountsRow.holds Tryd.pinned (OpenSpec.ofChange widthCountsWrong)

/-- 'lampblacklaw02.WidthColours': WHATEVER THE INPUT: true; the input reads as it did. -/
def widthColoursSpec : ChangeSpec := { name := "widthColours", fn := fun _ => fun
  | [d1, d2, d3] => { results := [.lit (.bool true)], args := [d1, d2, d3] }
  | _ => none }
def widthColoursRow : OpenClaim := { program := "ytoffehihicabcaadoor", sum := "cf812d74173363237f8ed7c0815ca378358dee2fe3c6f2518336201ba62510a1", func := "lampblack/lampblacklaw02.WidthColours", spec := "widthColours", unfollowed := true, recurses := true, named := ["math/bits.deBruijn32tab", "math/bits.deBruijn64tab"], apart := false, laid := [("math/bits.deBruijn32tab", laid_math_bits_deBruijn32tab), ("math/bits.deBruijn64tab", laid_math_bits_deBruijn64tab)] }
def WidthColoursSaid : Prop := widthColoursRow.holds Tryd.pinned (OpenSpec.ofChange widthColoursSpec)

/-- ITS FALSE NEIGHBOUR: 'it returns false'. Refute it at one input. -/
def widthColoursWrong : ChangeSpec := { name := "widthColours", fn := fun _ => fun
  | [d1, d2, d3] => { results := [.lit (.bool false)], args := [d1, d2, d3] }
  | _ => none }
def WidthColoursWrongFalsely : Prop := widthColoursRow.holds Tryd.pinned (OpenSpec.ofChange widthColoursWrong)

/-- 'lampblacklaw02.WidthBrambles': WHATEVER THE INPUT: true; the input reads as it did. -/
def widthBramblesSpec : ChangeSpec := { name := "widthBrambles", fn := fun _ => fun
  | [d] => { results := [.lit (.bool true)], args := [d] }
  | _ => none }
def widthBramblesRow : OpenClaim := { program := "ytoffehihicabcaadoor", sum := "cf812d74173363237f8ed7c0815ca378358dee2fe3c6f2518336201ba62510a1", func := "lampblack/lampblacklaw02.WidthBrambles", spec := "widthBrambles", unfollowed := true, recurses := true, named := ["math/bits.deBruijn32tab", "math/bits.deBruijn64tab"], apart := false, laid := [("math/bits.deBruijn32tab", laid_math_bits_deBruijn32tab), ("math/bits.deBruijn64tab", laid_math_bits_deBruijn64tab)] }
def WidthBramblesSaid : Prop := widthBramblesRow.holds Tryd.pinned (OpenSpec.ofChange widthBramblesSpec)

/-- ITS FALSE NEIGHBOUR: 'it returns false'. Refute it at one input. -/
def widthBramblesWrong : ChangeSpec := { name := "widthBrambles", fn := fun _ => fun
  | [d] => { results := [.lit (.bool false)], args := [d] }
  | _ => none }
def WidthBramblesWrongFalsely : Prop := widthBramblesRow.holds Tryd.pinned (OpenSpec.ofChange widthBramblesWrong)

/-- 'lampblacklaw02.WidthDual': WHATEVER THE INPUT: true; the input reads as it did. -/
def widthDualSpec : ChangeSpec := { name := "widthDual", fn := fun _ => fun
  | [d1, d2, d3] => { results := [.lit (.bool true)], args := [d1, d2, d3] }
  | _ => none }
def widthDualRow : OpenClaim := { program := "ytoffehihicabcaadoor", sum := "cf812d74173363237f8ed7c0815ca378358dee2fe3c6f2518336201ba62510a1", func := "lampblack/lampblacklaw02.WidthDual", spec := "widthDual", unfollowed := true, recurses := true, named := ["math/bits.deBruijn32tab", "math/bits.deBruijn64tab"], apart := false, laid := [("math/bits.deBruijn32tab", laid_math_bits_deBruijn32tab), ("math/bits.deBruijn64tab", laid_math_bits_deBruijn64tab)] }
def WidthDualSaid : Prop := widthDualRow.holds Tryd.pinned (OpenSpec.ofChange widthDualSpec)

/-- ITS FALSE NEIGHBOUR: 'it returns false'. Refute it at one input. -/
def widthDualWrong : ChangeSpec := { name := "widthDual", fn := fun _ => fun
  | [d1, d2, d3] => { results := [.lit (.bool false)], args := [d1, d2, d3] }
  | _ => none }
def WidthDualWrongFalsely : Prop := widthDualRow.holds Tryd.pinned (OpenSpec.ofChange widthDualWrong)

/- THE SECOND FORM. 'bulk': how many values and letters a reading holds, each counted each time it is reached (what is shared counts as often as it is met; a slice's spare places count too). A statement '..UptoSaid' is the law's where the arguments, and the package variables that the reading takes, are together of bulk at most 1048576: NARROWER than '..Said'. Prove '..Said' where nothing that the law and all that it calls make is longer than what came in: it says more and counts as full. Else prove '..UptoSaid'. A law counts once. -/
mutual
def uptoBulk {H : Type} : DataW H → Nat
  | .lit (.string bytes) => bytes.length + 1
  | .lit _ => 1
  | .nil => 1
  | .ptr d => uptoBulk d + 1
  | .slice elems spare => uptoBulkAll elems + uptoBulkAll spare + 1
  | .agg parts => uptoBulkAll parts + 1
  | .iface _ d => uptoBulk d + 1
  | .map entries => uptoBulkEntries entries + 1
  | .held _ => 1
def uptoBulkAll {H : Type} : List (DataW H) → Nat
  | [] => 0
  | d :: r => uptoBulk d + uptoBulkAll r
def uptoBulkEntries {H : Type} : List (Lit × DataW H) → Nat
  | [] => 0
  | x :: r => uptoBulkEntry x + uptoBulkEntries r
def uptoBulkEntry {H : Type} : Lit × DataW H → Nat
  | (.string bytes, d) => bytes.length + uptoBulk d + 1
  | (_, d) => uptoBulk d + 1
 end
def uptoSmall : (H : Type) → List (DataW H) → Bool := fun _ ds => decide (uptoBulkAll ds ≤ 1048576)
def OpenSpec.upto (s : _root_.Go.ChangeSpec) : _root_.Go.OpenSpec := { _root_.Go.OpenSpec.ofChange s with cond := some uptoSmall }

/-- 'lampblacklaw02.WidthParts', WHERE WHAT IT READS IS OF BULK AT MOST 1048576: true; the input reads as it did. -/
def widthPartsUptoRow : OpenClaim := { program := "ytoffehihicabcaadoor", sum := "cf812d74173363237f8ed7c0815ca378358dee2fe3c6f2518336201ba62510a1", func := "lampblack/lampblacklaw02.WidthParts", spec := "widthParts", named := ["math/bits.deBruijn32tab", "math/bits.deBruijn64tab"], apart := false, laid := [("math/bits.deBruijn32tab", laid_math_bits_deBruijn32tab), ("math/bits.deBruijn64tab", laid_math_bits_deBruijn64tab)], narrowed := true }
def WidthPartsUptoSaid : Prop := widthPartsUptoRow.holds Tryd.pinned (OpenSpec.upto widthPartsSpec)

/-- 'lampblacklaw02.WidthTouches', WHERE WHAT IT READS IS OF BULK AT MOST 1048576: true; the input reads as it did. -/
def widthTouchesUptoRow : OpenClaim := { program := "ytoffehihicabcaadoor", sum := "cf812d74173363237f8ed7c0815ca378358dee2fe3c6f2518336201ba62510a1", func := "lampblack/lampblacklaw02.WidthTouches", spec := "widthTouches", named := ["math/bits.deBruijn32tab", "math/bits.deBruijn64tab"], apart := false, laid := [("math/bits.deBruijn32tab", laid_math_bits_deBruijn32tab), ("math/bits.deBruijn64tab", laid_math_bits_deBruijn64tab)], narrowed := true }
def WidthTouchesUptoSaid : Prop := widthTouchesUptoRow.holds Tryd.pinned (OpenSpec.upto widthTouchesSpec)

/-- 'lampblacklaw02.WidthDivides', WHERE WHAT IT READS IS OF BULK AT MOST 1048576: true; the input reads as it did. -/
def widthDividesUptoRow : OpenClaim := { program := "ytoffehihicabcaadoor", sum := "cf812d74173363237f8ed7c0815ca378358dee2fe3c6f2518336201ba62510a1", func := "lampblack/lampblacklaw02.WidthDivides", spec := "widthDivides", named := ["math/bits.deBruijn32tab", "math/bits.deBruijn64tab"], apart := false, laid := [("math/bits.deBruijn32tab", laid_math_bits_deBruijn32tab), ("math/bits.deBruijn64tab", laid_math_bits_deBruijn64tab)], narrowed := true }
def WidthDividesUptoSaid : Prop := widthDividesUptoRow.holds Tryd.pinned (OpenSpec.upto widthDividesSpec)

/-- 'lampblacklaw02.WidthDivided', WHERE WHAT IT READS IS OF BULK AT MOST 1048576: true; the input reads as it did. -/
def widthDividedUptoRow : OpenClaim := { program := "ytoffehihicabcaadoor", sum := "cf812d74173363237f8ed7c0815ca378358dee2fe3c6f2518336201ba62510a1", func := "lampblack/lampblacklaw02.WidthDivided", spec := "widthDivided", named := ["math/bits.deBruijn32tab", "math/bits.deBruijn64tab"], apart := false, laid := [("math/bits.deBruijn32tab", laid_math_bits_deBruijn32tab), ("math/bits.deBruijn64tab", laid_math_bits_deBruijn64tab)], narrowed := true }
def WidthDividedUptoSaid : Prop := widthDividedUptoRow.holds Tryd.pinned (OpenSpec.upto widthDividedSpec)

/-- 'lampblacklaw02.WidthCovers', WHERE WHAT IT READS IS OF BULK AT MOST 1048576: true; the input reads as it did. -/
def widthCoversUptoRow : OpenClaim := { program := "ytoffehihicabcaadoor", sum := "cf812d74173363237f8ed7c0815ca378358dee2fe3c6f2518336201ba62510a1", func := "lampblack/lampblacklaw02.WidthCovers", spec := "widthCovers", unfollowed := true, recurses := true, named := ["math/bits.deBruijn32tab", "math/bits.deBruijn64tab"], apart := false, laid := [("math/bits.deBruijn32tab", laid_math_bits_deBruijn32tab), ("math/bits.deBruijn64tab", laid_math_bits_deBruijn64tab)], narrowed := true }
def WidthCoversUptoSaid : Prop := widthCoversUptoRow.holds Tryd.pinned (OpenSpec.upto widthCoversSpec)

/-- 'lampblacklaw02.WidthOrders', WHERE WHAT IT READS IS OF BULK AT MOST 1048576: true; the input reads as it did. -/
def widthOrdersUptoRow : OpenClaim := { program := "ytoffehihicabcaadoor", sum := "cf812d74173363237f8ed7c0815ca378358dee2fe3c6f2518336201ba62510a1", func := "lampblack/lampblacklaw02.WidthOrders", spec := "widthOrders", unfollowed := true, recurses := true, named := ["math/bits.deBruijn32tab", "math/bits.deBruijn64tab"], apart := false, laid := [("math/bits.deBruijn32tab", laid_math_bits_deBruijn32tab), ("math/bits.deBruijn64tab", laid_math_bits_deBruijn64tab)], narrowed := true }
def WidthOrdersUptoSaid : Prop := widthOrdersUptoRow.holds Tryd.pinned (OpenSpec.upto widthOrdersSpec)

/-- 'lampblacklaw02.WidthNarrows', WHERE WHAT IT READS IS OF BULK AT MOST 1048576: true; the input reads as it did. -/
def widthNarrowsUptoRow : OpenClaim := { program := "ytoffehihicabcaadoor", sum := "cf812d74173363237f8ed7c0815ca378358dee2fe3c6f2518336201ba62510a1", func := "lampblack/lampblacklaw02.WidthNarrows", spec := "widthNarrows", unfollowed := true, recurses := true, named := ["math/bits.deBruijn32tab", "math/bits.deBruijn64tab"], apart := false, laid := [("math/bits.deBruijn32tab", laid_math_bits_deBruijn32tab), ("math/bits.deBruijn64tab", laid_math_bits_deBruijn64tab)], narrowed := true }
def WidthNarrowsUptoSaid : Prop := widthNarrowsUptoRow.holds Tryd.pinned (OpenSpec.upto widthNarrowsSpec)

/-- 'lampblacklaw02.WidthLeast', WHERE WHAT IT READS IS OF BULK AT MOST 1048576: true; the input reads as it did. -/
def widthLeastUptoRow : OpenClaim := { program := "ytoffehihicabcaadoor", sum := "cf812d74173363237f8ed7c0815ca378358dee2fe3c6f2518336201ba62510a1", func := "lampblack/lampblacklaw02.WidthLeast", spec := "widthLeast", unfollowed := true, recurses := true, named := ["math/bits.deBruijn32tab", "math/bits.deBruijn64tab"], apart := false, laid := [("math/bits.deBruijn32tab", laid_math_bits_deBruijn32tab), ("math/bits.deBruijn64tab", laid_math_bits_deBruijn64tab)], narrowed := true }
def WidthLeastUptoSaid : Prop := widthLeastUptoRow.holds Tryd.pinned (OpenSpec.upto widthLeastSpec)

/-- 'lampblacklaw02.WidthFew', WHERE WHAT IT READS IS OF BULK AT MOST 1048576: true; the input reads as it did. -/
def widthFewUptoRow : OpenClaim := { program := "ytoffehihicabcaadoor", sum := "cf812d74173363237f8ed7c0815ca378358dee2fe3c6f2518336201ba62510a1", func := "lampblack/lampblacklaw02.WidthFew", spec := "widthFew", unfollowed := true, recurses := true, named := ["math/bits.deBruijn32tab", "math/bits.deBruijn64tab"], apart := false, laid := [("math/bits.deBruijn32tab", laid_math_bits_deBruijn32tab), ("math/bits.deBruijn64tab", laid_math_bits_deBruijn64tab)], narrowed := true }
def WidthFewUptoSaid : Prop := widthFewUptoRow.holds Tryd.pinned (OpenSpec.upto widthFewSpec)

/-- 'lampblacklaw02.WidthTrees', WHERE WHAT IT READS IS OF BULK AT MOST 1048576: true; the input reads as it did. -/
def widthTreesUptoRow : OpenClaim := { program := "ytoffehihicabcaadoor", sum := "cf812d74173363237f8ed7c0815ca378358dee2fe3c6f2518336201ba62510a1", func := "lampblack/lampblacklaw02.WidthTrees", spec := "widthTrees", unfollowed := true, recurses := true, named := ["math/bits.deBruijn32tab", "math/bits.deBruijn64tab"], apart := false, laid := [("math/bits.deBruijn32tab", laid_math_bits_deBruijn32tab), ("math/bits.deBruijn64tab", laid_math_bits_deBruijn64tab)], narrowed := true }
def WidthTreesUptoSaid : Prop := widthTreesUptoRow.holds Tryd.pinned (OpenSpec.upto widthTreesSpec)

/-- 'lampblacklaw02.WidthCliques', WHERE WHAT IT READS IS OF BULK AT MOST 1048576: true; the input reads as it did. -/
def widthCliquesUptoRow : OpenClaim := { program := "ytoffehihicabcaadoor", sum := "cf812d74173363237f8ed7c0815ca378358dee2fe3c6f2518336201ba62510a1", func := "lampblack/lampblacklaw02.WidthCliques", spec := "widthCliques", unfollowed := true, recurses := true, named := ["math/bits.deBruijn32tab", "math/bits.deBruijn64tab"], apart := false, laid := [("math/bits.deBruijn32tab", laid_math_bits_deBruijn32tab), ("math/bits.deBruijn64tab", laid_math_bits_deBruijn64tab)], narrowed := true }
def WidthCliquesUptoSaid : Prop := widthCliquesUptoRow.holds Tryd.pinned (OpenSpec.upto widthCliquesSpec)

/-- 'lampblacklaw02.WidthCounts', WHERE WHAT IT READS IS OF BULK AT MOST 1048576: true; the input reads as it did. -/
def widthCountsUptoRow : OpenClaim := { program := "ytoffehihicabcaadoor", sum := "cf812d74173363237f8ed7c0815ca378358dee2fe3c6f2518336201ba62510a1", func := "lampblack/lampblacklaw02.WidthCounts", spec := "widthCounts", unfollowed := true, recurses := true, named := ["math/bits.deBruijn32tab", "math/bits.deBruijn64tab"], apart := false, laid := [("math/bits.deBruijn32tab", laid_math_bits_deBruijn32tab), ("math/bits.deBruijn64tab", laid_math_bits_deBruijn64tab)], narrowed := true }
def WidthCountsUptoSaid : Prop := widthCountsUptoRow.holds Tryd.pinned (OpenSpec.upto widthCountsSpec)

/-- 'lampblacklaw02.WidthColours', WHERE WHAT IT READS IS OF BULK AT MOST 1048576: true; the input reads as it did. -/
def widthColoursUptoRow : OpenClaim := { program := "ytoffehihicabcaadoor", sum := "cf812d74173363237f8ed7c0815ca378358dee2fe3c6f2518336201ba62510a1", func := "lampblack/lampblacklaw02.WidthColours", spec := "widthColours", unfollowed := true, recurses := true, named := ["math/bits.deBruijn32tab", "math/bits.deBruijn64tab"], apart := false, laid := [("math/bits.deBruijn32tab", laid_math_bits_deBruijn32tab), ("math/bits.deBruijn64tab", laid_math_bits_deBruijn64tab)], narrowed := true }
def WidthColoursUptoSaid : Prop := widthColoursUptoRow.holds Tryd.pinned (OpenSpec.upto widthColoursSpec)

/-- 'lampblacklaw02.WidthBrambles', WHERE WHAT IT READS IS OF BULK AT MOST 1048576: true; the input reads as it did. -/
def widthBramblesUptoRow : OpenClaim := { program := "ytoffehihicabcaadoor", sum := "cf812d74173363237f8ed7c0815ca378358dee2fe3c6f2518336201ba62510a1", func := "lampblack/lampblacklaw02.WidthBrambles", spec := "widthBrambles", unfollowed := true, recurses := true, named := ["math/bits.deBruijn32tab", "math/bits.deBruijn64tab"], apart := false, laid := [("math/bits.deBruijn32tab", laid_math_bits_deBruijn32tab), ("math/bits.deBruijn64tab", laid_math_bits_deBruijn64tab)], narrowed := true }
def WidthBramblesUptoSaid : Prop := widthBramblesUptoRow.holds Tryd.pinned (OpenSpec.upto widthBramblesSpec)

/-- 'lampblacklaw02.WidthDual', WHERE WHAT IT READS IS OF BULK AT MOST 1048576: true; the input reads as it did. -/
def widthDualUptoRow : OpenClaim := { program := "ytoffehihicabcaadoor", sum := "cf812d74173363237f8ed7c0815ca378358dee2fe3c6f2518336201ba62510a1", func := "lampblack/lampblacklaw02.WidthDual", spec := "widthDual", unfollowed := true, recurses := true, named := ["math/bits.deBruijn32tab", "math/bits.deBruijn64tab"], apart := false, laid := [("math/bits.deBruijn32tab", laid_math_bits_deBruijn32tab), ("math/bits.deBruijn64tab", laid_math_bits_deBruijn64tab)], narrowed := true }
def WidthDualUptoSaid : Prop := widthDualUptoRow.holds Tryd.pinned (OpenSpec.upto widthDualSpec)

end Rows
end Go.Proofs.YtoffehihicabcaaDoor
