/- The law MinorNamed of lampblack: it answers true for every input. -/
import Derived.Test.YtjloppfdagfpmaaDoorCards
import Derived.Test.YtjloppfdagfpmaaDoorTie
import Derived.Test.YtjloppfdagfpmaaDoorZMinorNamed0
import Derived.Test.YtjloppfdagfpmaaDoorZMinorNamed1
import Derived.WalkKit
import Derived.ProofKit
import Derived.OpenShut
import Derived.ShutString
import Derived.ChangeOld
import Derived.Below
import Derived.SizedLaws
import Derived.Handed
import Derived.SevenTiedAt
import Derived.ChangeSlices
namespace Go.Proofs.YtjloppfdagfpmaaDoor.minorNamed
open Go.ChangeShapes Go.WideShapes Go.ChangeAt Go.RowKit
open Go.ChangeMaps (open_string shut_string)
open Go.Proofs.YtjloppfdagfpmaaDoorW
set_option linter.unusedVariables false
theorem walk (a0 : Int) (w : World) (hGL : X.GL w) (w0 : (Lit.int .i64 a0).wf = true):
    Calls Tryd.prog 5 #[.int .i64 a0] w fun e w' => e = .returned (.bool true) ∧ Below w.heap.size w w' := by
  obtain ⟨k, h⟩ := Pure.MinorNamed a0 w0
  refine (X.lampblacklaw07_MinorNamed.calls k a0 true w hGL h).mono ?_
  rintro e w' ⟨rfl, hd⟩
  exact ⟨rfl, hd⟩
set_option maxRecDepth 100000 in
theorem lifted (os : Os) (started : os.Started) (H : Type) (enc : TypeId × Value → H) :
    ReturnsInHanded {} Tryd.checked os 5 .any (fun w args => (Rows.minorNamedSpec.pre enc Tryd.prog Tryd.f5 Rows.minorNamedRow.domain false w args ∧ laidMetH Tryd.prog X.LAID w) ∧ sizedMet enc Tryd.prog Tryd.f5 (OpenSpec.ofChange Rows.minorNamedSpec) false w args) (Rows.minorNamedSpec.post enc Tryd.prog Tryd.f5 false true false false) := by
  refine returnsInHanded_of_change_and (C := Tryd.checked) (X := fun w _ => laidMetH Tryd.prog X.LAID w) (fun _ _ _ hh h => h.of_heap hh) X.own started (by kernel_rfl) Tryd.func5
    (ChangeSpec.witness_at (enc := enc) (C := Tryd.checked) (os := os) (X := fun w _ => laidMetH Tryd.prog X.LAID w) false (X.laidWorld os) #[.int .i64 0] 8 rfl (by kernel_rfl) (by kernel_rfl) (by kernel_rfl) (by kernel_rfl) (by kernel_rfl) (X.laidWorld_met os _)) ?_
  intro W base args ds gs before hval0 hW _ hsz0 hL _
  have hsz : (DataW.weightsEach Tryd.prog (Tryd.f5.params.toList ++ Rows.minorNamedSpec.plain.varTypes Tryd.prog) (ds ++ gs)).all (· ≤ reachBytes) = true := hsz0
  have hval : ∀ (j : Nat) t v, Tryd.f5.params[j]? = some t → args[j]? = some v → Value.okWide Tryd.prog W .any base t v := hval0
  have hW' := hW
  obtain ⟨p, q, hA0, hV, rfl, hfz, hnd⟩ := hW
  have hA : DataW.TrodAll enc Tryd.prog W 0 (fun _ => true) true Tryd.f5.params.toList args.toList ds p := hA0
  rw [Tryd.params5] at hA hval hsz
  obtain ⟨v0, vs0, d0, ds0, p0, q0, hargs, rfl, rfl, h0, r0⟩ := trodAll_cons hA
  obtain ⟨rfl, rfl, rfl⟩ := trodAll_nil r0
  obtain rfl : args = #[v0] := by cases args; simp_all
  obtain ⟨rfl, rfl⟩ := trodVars_none hV
  obtain ⟨a0, rfl, rfl, rfl, w0⟩ := open_int Tryd.underlying3 (hval 0 3 v0 rfl rfl) h0
  clear hA0 hval0 hsz0 hsz
  refine (walk a0 W (X.gl_of_laid hL) w0).mono fun e W' ⟨he, bel⟩ => ?_
  subst he
  exact ⟨_, rfl, _, _, _, [], _, [], hW', trodAll_mk1 (shut_bool Tryd.underlying4 _), (trodAll_cons_mk (shut_int Tryd.underlying3 w0) trodAll_mk0), rfl, bel.frame _, fun h => by cases h⟩
theorem over : Rows.minorNamedRow.holds Tryd.pinned (OpenSpec.ofChange Rows.minorNamedSpec) :=
  OpenClaim.holds_of_wide 5 Tryd.f5 rfl rfl rfl rfl rfl rfl rfl ⟨rfl, rfl, rfl, rfl, rfl⟩ rfl rfl rfl rfl rfl (by kernel_rfl) Tryd.func5 (by kernel_rfl)
    (of_decide_eq_true (by kernel_rfl)) (by unfold Func.isWrapper; first | (rw [if_pos (by decide +kernel)]; kernel_rfl) | (rw [if_neg (by decide +kernel)]; exact ⟨rfl, rfl⟩))
    (fun os started H enc _ => lifted os started H enc)
theorem row_holds : Rows.MinorNamedSaid := over
theorem card : Rows.MinorNamedCardSaid :=
  Claim7.holds_tied_plain_at .later [] [.data, .data] true (true, "35cf15ad6f56a0c55c91c3d9586a8484f4b00226a585b4d0fde8f1083c6febd9") false
    row_holds (fun _ h => by cases h) (by kernel_rfl) (fun _ h => by cases h) minorNamed_row_tie rfl ⟨rfl, rfl⟩ (by kernel_rfl) rfl
    (fun f fn hf hfn => by
      obtain rfl : f = 5 := Option.some.inj ((show Tryd.prog.funcNamed "lampblack/lampblacklaw07.MinorNamed" = some 5 by kernel_rfl).symm.trans hf) |>.symm
      obtain rfl : fn = Tryd.f5 := (Option.some.inj (Tryd.func5.symm.trans hfn)).symm
      exact ⟨by kernel_rfl, fun j t ht => by
        rw [Tryd.params5] at ht
        have h3 : t = 3 := by
          match j, ht with
          | 0, ht => simp at ht; subst ht; simp
          | (j + 1), ht => simp at ht
        rcases h3 with rfl
        exact (show Tryd.prog.wantsStandIn 3 = false by kernel_rfl)
      ⟩)
    (by kernel_rfl)
end Go.Proofs.YtjloppfdagfpmaaDoor.minorNamed
namespace Go.Proofs.YtjloppfdagfpmaaDoor
/-- The tied card, under a short name, for the claim. -/
theorem minorNamed_card_holds : Rows.MinorNamedCardSaid := minorNamed.card
#print axioms minorNamed_card_holds
end Go.Proofs.YtjloppfdagfpmaaDoor
