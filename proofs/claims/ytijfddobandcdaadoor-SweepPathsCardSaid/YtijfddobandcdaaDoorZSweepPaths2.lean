/- Part 2 of what SweepPaths rests on: contracts of the functions that it reaches, and what they compute, in plain words. -/
import Derived.Test.YtijfddobandcdaaDoorZSweepPaths0
import Derived.Test.YtijfddobandcdaaDoorZSweepPaths1
section
-- by ownprint.py (wip/tool), over the kit's print
namespace Go.Proofs.YtijfddobandcdaaDoor.X
open Go.RowKit Go.Proofs.YtijfddobandcdaaDoorW.PrintWords Go.Proofs.YtijfddobandcdaaDoorW.PrintLast Go.Proofs.YtijfddobandcdaaDoorW.PrintMore
attribute [local go_sem] max2_int min2_int max_two min_two max_three min_three max_four min_four
set_option linter.unusedVariables false
set_option linter.unusedSimpArgs false

/-! ### sweep_Follow: function 41 -/
def sweep_Follow.f (k : Nat) (l0 : List Int) (l1 : List Int) : Option ((List (S85)) × Int) := (sweep_read.f k l0).bind fun bt452 => (if bt452.2 = true then ((sweep_town_isPath.f k bt452.1 l1).bind fun t456 => (if t456 = true then ((sweep_follow.f l1).bind fun t457 => (some (t457, 0))) else (some (([] : List (S85)), 2)))) else (some (([] : List (S85)), 2)))
theorem sweep_Follow.mono : ∀ a0 a1 k, LeO (sweep_Follow.f k a0 a1) (sweep_Follow.f (k + 1) a0 a1) := by
  intro a0 a1 k
  unfold sweep_Follow.f
  repeat' first
      | (with_reducible exact sweep_read.mono _ _)
      | (with_reducible exact sweep_town_isPath.mono _ _ _)
      | (with_reducible exact LeO.refl _)
      | (with_reducible exact LeO.none _)
      | (with_reducible refine LeO.ite ?_ ?_)
      | (with_reducible refine LeO.bind ?_ (fun _ => ?_))
      | exact sweep_read.mono _ _
      | exact sweep_town_isPath.mono _ _ _
      | exact LeO.none _
      | refine LeO.ite ?_ ?_
      | refine LeO.bind ?_ (fun _ => ?_)
set_option maxHeartbeats 8000000 in
set_option maxRecDepth 100000 in
theorem sweep_Follow.calls (k : Nat) (A0 : Option Addr) (c0 : Nat) (l0 : List Int) (A1 : Option Addr) (c1 : Nat) (l1 : List Int) (r1 : List (S85)) (r2 : Int) (w : World) (hGL : GL w) (hr0 : Kd.C (Kd.int .i64) w A0 l0.length l0) (hc0 : l0.length ≤ c0) (hr1 : Kd.C (Kd.int .i64) w A1 l1.length l1) (hc1 : l1.length ≤ c1) (h : sweep_Follow.f k l0 l1 = some (r1, r2)) :
    Calls Tryd.prog 41 #[.slice A0 l0.length c0, .slice A1 l1.length c1] w fun e w' => ∃ v0_ : Value, e = .returned (.tuple #[v0_, .int .i64 r2]) ∧ Kd.R k85 85 w' w.heap.size (fun _ => True) v0_ r1 ∧ Below w.heap.size w w' := by
  have HGL := Aside0.mk hGL
  clear hGL
  have HR0 := Aside0.mk hr0
  have HC0 := Aside0.mk hc0
  clear hr0 hc0
  have HR1 := Aside0.mk hr1
  have HC1 := Aside0.mk hc1
  clear hr1 hc1
  have HB := Aside0.mk (Below.refl w.heap.size w)
  have H : ((sweep_read.f k l0).bind fun bt452 => (if bt452.2 = true then ((sweep_town_isPath.f k bt452.1 l1).bind fun t456 => (if t456 = true then ((sweep_follow.f l1).bind fun t457 => (some (t457, 0))) else (some (([] : List (S85)), 2)))) else (some (([] : List (S85)), 2)))) = some (r1, r2) := h
  clear h
  replace H := Option.bind_eq_some_iff.mp H
  obtain ⟨⟨t452, t455⟩, A30, H⟩ := H
  replace H : (if t455 = true then ((sweep_town_isPath.f k t452 l1).bind fun t456 => (if t456 = true then ((sweep_follow.f l1).bind fun t457 => (some (t457, 0))) else (some (([] : List (S85)), 2)))) else (some (([] : List (S85)), 2))) = some (r1, r2) := H
  have A3 := Aside0.mk A30
  clear A30
  by_cases c4 : t455 = true
  · subst c4
    have H1 : ((sweep_town_isPath.f k t452 l1).bind fun t456 => (if t456 = true then ((sweep_follow.f l1).bind fun t457 => (some (t457, 0))) else (some (([] : List (S85)), 2)))) = some (r1, r2) := by rw [if_pos rfl] at H; exact H
    clear H
    have H := H1
    clear H1
    replace H := Option.bind_eq_some_iff.mp H
    obtain ⟨t456, A50, H⟩ := H
    replace H : (if t456 = true then ((sweep_follow.f l1).bind fun t457 => (some (t457, 0))) else (some (([] : List (S85)), 2))) = some (r1, r2) := H
    have A5 := Aside0.mk A50
    clear A50
    by_cases c6 : t456 = true
    · subst c6
      have H1 : ((sweep_follow.f l1).bind fun t457 => (some (t457, 0))) = some (r1, r2) := by rw [if_pos rfl] at H; exact H
      clear H
      have H := H1
      clear H1
      replace H := Option.bind_eq_some_iff.mp H
      obtain ⟨t457, A70, H⟩ := H
      replace H : (some (t457, 0)) = some (r1, r2) := H
      have A7 := Aside0.mk A70
      clear A70
      simp only [Option.some.injEq, Prod.mk.injEq] at H
      obtain ⟨rfl, rfl⟩ := H
      go_enter Tryd.func41, Tryd.ntmps41
      go_wp2_with (first | ((with_reducible refine gate_callee (f := 49) rfl ?_); refine goesL_ (some 10) rfl rfl Tryd.func49 (by kernel_rfl) rfl #[.slice A0 l0.length c0] rfl (by (try simp only [List.map_toArray, List.map_cons, List.map_nil]); first | done | rfl | (simp only [List.length_drop, List.length_take]; rfl)) ?_; (with_reducible refine (sweep_read.calls k (fun k_ => k_ < w.heap.size) _ _ l0 t452 true _ ?side1 A3.out).mono ?_); (case side1 => exact Kd.V_mk HC0.out (Kd.F_below (Kd.C_F (Kd.heap_int .i64) HR0.out) (by repeat (first | (with_reducible first | exact HB.out | apply below_alloc | apply pw_below_drewN | apply below_drew1) | exact HB.out)))); rintro e w8 ⟨v453, rfl, ho0, hb⟩; refine ⟨_, rfl, ?_⟩; have n0_ := Aside0.mk (Kd.V_lower (Kd.V_mono (ok' := fun k_ => True) ho0 (fun k_ hk_ => trivial)) (below_size (by repeat (first | (with_reducible first | exact HB.out | apply below_alloc | apply pw_below_drewN | apply below_drew1) | exact HB.out)))); have n1_ := Aside0.mk (below_step (by repeat (first | (with_reducible first | exact HB.out | apply below_alloc | apply pw_below_drewN | apply below_drew1) | exact HB.out)) hb); clear HB; have HO454 := n0_; have HB := n1_; clear n0_ n1_; (try clear hb); (try clear hb2); (try clear hk); (try clear hi); (try clear ho0); obtain ⟨Ao9, co9, eo9⟩ := Kd.V_slice HO454.out; subst eo9) | (go_at_call 62; (with_reducible refine (sweep_town_isPath.calls k _ _ t452 _ _ l1 true _ ?side1 ?side2 ?side3 ?side4 A5.out).mono ?_); (case side1 => repeat (first | exact (Kd.V_reads' HO454.out).2.2 | (with_reducible refine Kd.C_alloc ?_ _) | (with_reducible refine Kd.C_drewN ?_ _) | (with_reducible refine Kd.C_drew ?_))); (case side2 => exact (Kd.V_reads' HO454.out).2.1); (case side3 => repeat (first | exact (Kd.C_below HR1.out HB.out) | (with_reducible refine Kd.C_alloc ?_ _) | (with_reducible refine Kd.C_drewN ?_ _) | (with_reducible refine Kd.C_drew ?_))); (case side4 => exact HC1.out); rintro e w10 ⟨rfl, hb⟩; have n0_ := Aside0.mk (Kd.V_below (by (with_reducible repeat (first | apply Kd.V_alloc | apply Kd.V_drewN | apply Kd.V_drew)); exact HO454.out) hb); have n1_ := Aside0.mk (below_step (by repeat (first | (with_reducible first | exact HB.out | apply below_alloc | apply pw_below_drewN | apply below_drew1) | exact HB.out)) hb); clear HO454; clear HB; have HO454 := n0_; have HB := n1_; clear n0_ n1_; (try clear hb); (try clear hb2); (try clear hk); (try clear hi)) | ((with_reducible refine gate_callee (f := 51) rfl ?_); refine goesL_ (some 22) rfl rfl Tryd.func51 (by kernel_rfl) rfl #[.slice A1 l1.length c1] rfl (by (try simp only [List.map_toArray, List.map_cons, List.map_nil]); first | done | rfl | (simp only [List.length_drop, List.length_take]; rfl)) ?_; (with_reducible refine (sweep_follow.calls (hGL := (by repeat (first | (with_reducible exact HGL.out) | (with_reducible exact GL_below HGL.out HB.out) | (with_reducible refine GL_alloc ?_ _) | (with_reducible refine GL_drewN ?_ _) | (with_reducible refine GL_drew ?_)))) _ _ l1 t457 _ ?side1 ?side2 A7.out).mono ?_); (case side1 => repeat (first | exact (Kd.C_below HR1.out HB.out) | (with_reducible refine Kd.C_alloc ?_ _) | (with_reducible refine Kd.C_drewN ?_ _) | (with_reducible refine Kd.C_drew ?_))); (case side2 => exact HC1.out); rintro e w11 ⟨v458, rfl, ho0, hb⟩; refine ⟨_, rfl, ?_⟩; have n0_ := Aside0.mk (Kd.V_elder' (by (with_reducible repeat (first | apply Kd.V_alloc | apply Kd.V_drewN | apply Kd.V_drew)); exact HO454.out) (Kd.R_base ho0) hb); have n1_ := Aside0.mk (Kd.R_lower ho0 (below_size (by repeat (first | (with_reducible first | exact HB.out | apply below_alloc | apply pw_below_drewN | apply below_drew1) | exact HB.out)))); have n2_ := Aside0.mk (below_step (by repeat (first | (with_reducible first | exact HB.out | apply below_alloc | apply pw_below_drewN | apply below_drew1) | exact HB.out)) hb); clear HO454; clear HB; have HO454 := n0_; have HO459 := n1_; have HB := n2_; clear n0_ n1_ n2_; (try clear hb); (try clear hb2); (try clear hk); (try clear hi); (try clear ho0)))
      go_ret2
      exact ⟨_, by first | rfl | (simp [errW_none, errW_some] <;> rfl) | (simp [*, errW_none, errW_some] <;> rfl), by (with_reducible repeat (first | apply Kd.R_alloc | apply Kd.R_drewN | apply Kd.R_drew)); exact HO459.out, by repeat (first | (with_reducible first | exact HB.out | apply below_alloc | apply pw_below_drewN | apply below_drew1) | exact HB.out)⟩
    · replace c6 := Bool.eq_false_iff.mpr c6
      subst c6
      have H1 : (some (([] : List (S85)), 2)) = some (r1, r2) := by rw [if_neg (show ¬ (false = true) by decide)] at H; exact H
      clear H
      have H := H1
      clear H1
      simp only [Option.some.injEq, Prod.mk.injEq] at H
      obtain ⟨rfl, rfl⟩ := H
      go_enter Tryd.func41, Tryd.ntmps41
      go_wp2_with (first | ((with_reducible refine gate_callee (f := 49) rfl ?_); refine goesL_ (some 10) rfl rfl Tryd.func49 (by kernel_rfl) rfl #[.slice A0 l0.length c0] rfl (by (try simp only [List.map_toArray, List.map_cons, List.map_nil]); first | done | rfl | (simp only [List.length_drop, List.length_take]; rfl)) ?_; (with_reducible refine (sweep_read.calls k (fun k_ => k_ < w.heap.size) _ _ l0 t452 true _ ?side1 A3.out).mono ?_); (case side1 => exact Kd.V_mk HC0.out (Kd.F_below (Kd.C_F (Kd.heap_int .i64) HR0.out) (by repeat (first | (with_reducible first | exact HB.out | apply below_alloc | apply pw_below_drewN | apply below_drew1) | exact HB.out)))); rintro e w12 ⟨v453, rfl, ho0, hb⟩; refine ⟨_, rfl, ?_⟩; have n0_ := Aside0.mk (Kd.V_lower (Kd.V_mono (ok' := fun k_ => True) ho0 (fun k_ hk_ => trivial)) (below_size (by repeat (first | (with_reducible first | exact HB.out | apply below_alloc | apply pw_below_drewN | apply below_drew1) | exact HB.out)))); have n1_ := Aside0.mk (below_step (by repeat (first | (with_reducible first | exact HB.out | apply below_alloc | apply pw_below_drewN | apply below_drew1) | exact HB.out)) hb); clear HB; have HO454 := n0_; have HB := n1_; clear n0_ n1_; (try clear hb); (try clear hb2); (try clear hk); (try clear hi); (try clear ho0); obtain ⟨Ao13, co13, eo13⟩ := Kd.V_slice HO454.out; subst eo13) | (go_at_call 62; (with_reducible refine (sweep_town_isPath.calls k _ _ t452 _ _ l1 false _ ?side1 ?side2 ?side3 ?side4 A5.out).mono ?_); (case side1 => repeat (first | exact (Kd.V_reads' HO454.out).2.2 | (with_reducible refine Kd.C_alloc ?_ _) | (with_reducible refine Kd.C_drewN ?_ _) | (with_reducible refine Kd.C_drew ?_))); (case side2 => exact (Kd.V_reads' HO454.out).2.1); (case side3 => repeat (first | exact (Kd.C_below HR1.out HB.out) | (with_reducible refine Kd.C_alloc ?_ _) | (with_reducible refine Kd.C_drewN ?_ _) | (with_reducible refine Kd.C_drew ?_))); (case side4 => exact HC1.out); rintro e w14 ⟨rfl, hb⟩; have n0_ := Aside0.mk (Kd.V_below (by (with_reducible repeat (first | apply Kd.V_alloc | apply Kd.V_drewN | apply Kd.V_drew)); exact HO454.out) hb); have n1_ := Aside0.mk (below_step (by repeat (first | (with_reducible first | exact HB.out | apply below_alloc | apply pw_below_drewN | apply below_drew1) | exact HB.out)) hb); clear HO454; clear HB; have HO454 := n0_; have HB := n1_; clear n0_ n1_; (try clear hb); (try clear hb2); (try clear hk); (try clear hi)))
      go_ret2
      exact ⟨_, by first | rfl | (simp [errW_none, errW_some] <;> rfl) | (simp [*, errW_none, errW_some] <;> rfl), by first | exact Kd.R_nil _ _ _ _ _ | exact Kd.N_nil _ _ _ _ _ | exact Kd.V_nil _ _ _ _ _ | exact Kd.Q_nil _ _ _ _ _ | exact Kd.S_nil _ _ _ _ _, by repeat (first | (with_reducible first | exact HB.out | apply below_alloc | apply pw_below_drewN | apply below_drew1) | exact HB.out)⟩
  · replace c4 := Bool.eq_false_iff.mpr c4
    subst c4
    have H1 : (some (([] : List (S85)), 2)) = some (r1, r2) := by rw [if_neg (show ¬ (false = true) by decide)] at H; exact H
    clear H
    have H := H1
    clear H1
    simp only [Option.some.injEq, Prod.mk.injEq] at H
    obtain ⟨rfl, rfl⟩ := H
    go_enter Tryd.func41, Tryd.ntmps41
    go_wp2_with (first | ((with_reducible refine gate_callee (f := 49) rfl ?_); refine goesL_ (some 10) rfl rfl Tryd.func49 (by kernel_rfl) rfl #[.slice A0 l0.length c0] rfl (by (try simp only [List.map_toArray, List.map_cons, List.map_nil]); first | done | rfl | (simp only [List.length_drop, List.length_take]; rfl)) ?_; (with_reducible refine (sweep_read.calls k (fun k_ => k_ < w.heap.size) _ _ l0 t452 false _ ?side1 A3.out).mono ?_); (case side1 => exact Kd.V_mk HC0.out (Kd.F_below (Kd.C_F (Kd.heap_int .i64) HR0.out) (by repeat (first | (with_reducible first | exact HB.out | apply below_alloc | apply pw_below_drewN | apply below_drew1) | exact HB.out)))); rintro e w15 ⟨v453, rfl, ho0, hb⟩; refine ⟨_, rfl, ?_⟩; have n0_ := Aside0.mk (Kd.V_lower (Kd.V_mono (ok' := fun k_ => True) ho0 (fun k_ hk_ => trivial)) (below_size (by repeat (first | (with_reducible first | exact HB.out | apply below_alloc | apply pw_below_drewN | apply below_drew1) | exact HB.out)))); have n1_ := Aside0.mk (below_step (by repeat (first | (with_reducible first | exact HB.out | apply below_alloc | apply pw_below_drewN | apply below_drew1) | exact HB.out)) hb); clear HB; have HO454 := n0_; have HB := n1_; clear n0_ n1_; (try clear hb); (try clear hb2); (try clear hk); (try clear hi); (try clear ho0)))
    go_ret2
    exact ⟨_, by first | rfl | (simp [errW_none, errW_some] <;> rfl) | (simp [*, errW_none, errW_some] <;> rfl), by first | exact Kd.R_nil _ _ _ _ _ | exact Kd.N_nil _ _ _ _ _ | exact Kd.V_nil _ _ _ _ _ | exact Kd.Q_nil _ _ _ _ _ | exact Kd.S_nil _ _ _ _ _, by repeat (first | (with_reducible first | exact HB.out | apply below_alloc | apply pw_below_drewN | apply below_drew1) | exact HB.out)⟩

end Go.Proofs.YtijfddobandcdaaDoor.X
end
section
-- by ownprint.py (wip/tool), over the kit's print
namespace Go.Proofs.YtijfddobandcdaaDoor.X
open Go.RowKit Go.Proofs.YtijfddobandcdaaDoorW.PrintWords Go.Proofs.YtijfddobandcdaaDoorW.PrintLast Go.Proofs.YtijfddobandcdaaDoorW.PrintMore
attribute [local go_sem] max2_int min2_int max_two min_two max_three min_three max_four min_four
set_option linter.unusedVariables false
set_option linter.unusedSimpArgs false

/-! ### lampblacklaw03_SweepPaths: function 12 -/
def lampblacklaw03_SweepPaths.j0 : Nat → List Int → List Int → List (S85) → Int → Bool → Bool → Option (Bool)
  | 0, _, _, _, _, _, _ => none
  | k + 1, x0, x1, x8, x9, x11, x75 => if x75 = true then (some false) else (if x11 = true then ((lampblacklaw03_own.f k x8).bind fun t507 => ((lampblackref03_Follow.f k x0 x1).bind fun t510 => ((lampblackref03_Act.f k t507 t510).bind fun t513 => (if t513 = true then (some (x9 == 0)) else (some false))))) else (if (x8.length : Int) = 0 then (some (x9 == 2)) else (some false)))
def lampblacklaw03_SweepPaths.f (k : Nat) (l0 : List Int) (l1 : List Int) : Option (Bool) := (lampblacklaw03_Few.f l0).bind fun t483 => ((lampblacklaw03_list.f l1).bind fun t486 => ((sweep_Check.f k t483 t486).bind fun bt489 => ((lampblacklaw03_Few.f l0).bind fun t492 => ((lampblacklaw03_list.f l1).bind fun t495 => ((sweep_Follow.f k t492 t495).bind fun bt498 => ((lampblackref03_Valid.f k l0).bind fun t502 => (if t502 = true then ((lampblackref03_IsPath.f k l0 l1).bind fun bt504 => (if bt489.1 = bt504.1 then (if (bt489.2.1 != bt504.2) = true then (lampblacklaw03_SweepPaths.j0 k l0 l1 bt498.1 bt498.2 bt504.2 true) else (if bt489.2.2 = 0 then ((lampblacklaw03_awake.f k).bind fun t506 => (lampblacklaw03_SweepPaths.j0 k l0 l1 bt498.1 bt498.2 bt504.2 (!t506))) else (lampblacklaw03_SweepPaths.j0 k l0 l1 bt498.1 bt498.2 bt504.2 true))) else (lampblacklaw03_SweepPaths.j0 k l0 l1 bt498.1 bt498.2 bt504.2 true))) else (if bt489.1 = 0 then (if bt489.2.1 = true then (some false) else (if (bt498.1.length : Int) = 0 then (if bt489.2.2 = 2 then (if bt498.2 = 2 then ((lampblacklaw03_awake.f k).bind fun t503 => (some t503)) else (some false)) else (some false)) else (some false))) else (some false)))))))))
theorem lampblacklaw03_SweepPaths.mono_l : ∀ k, (∀ y0 y1 y2 y3 y4 y5, LeO (lampblacklaw03_SweepPaths.j0 k y0 y1 y2 y3 y4 y5) (lampblacklaw03_SweepPaths.j0 (k + 1) y0 y1 y2 y3 y4 y5))
  | 0 => fun _ _ _ _ _ _ r h => by simp [lampblacklaw03_SweepPaths.j0] at h
  | k + 1 => by
    have ih0 := lampblacklaw03_SweepPaths.mono_l k
    · intro y0 y1 y2 y3 y4 y5
      unfold lampblacklaw03_SweepPaths.j0
      repeat' first
      | (with_reducible exact ih0 _ _ _ _ _ _)
      | (with_reducible exact lampblacklaw03_awake.mono _)
      | (with_reducible exact lampblacklaw03_own.mono _ _)
      | (with_reducible exact lampblackref03_Act.mono _ _ _)
      | (with_reducible exact lampblackref03_Follow.mono _ _ _)
      | (with_reducible exact lampblackref03_IsPath.mono _ _ _)
      | (with_reducible exact lampblackref03_Valid.mono _ _)
      | (with_reducible exact sweep_Check.mono _ _ _)
      | (with_reducible exact sweep_Follow.mono _ _ _)
      | (with_reducible exact LeO.refl _)
      | (with_reducible exact LeO.none _)
      | (with_reducible refine LeO.ite ?_ ?_)
      | (with_reducible refine LeO.bind ?_ (fun _ => ?_))
      | exact ih0 _ _ _ _ _ _
      | exact lampblacklaw03_awake.mono _
      | exact lampblacklaw03_own.mono _ _
      | exact lampblackref03_Act.mono _ _ _
      | exact lampblackref03_Follow.mono _ _ _
      | exact lampblackref03_IsPath.mono _ _ _
      | exact lampblackref03_Valid.mono _ _
      | exact sweep_Check.mono _ _ _
      | exact sweep_Follow.mono _ _ _
      | exact LeO.none _
      | refine LeO.ite ?_ ?_
      | refine LeO.bind ?_ (fun _ => ?_)
theorem lampblacklaw03_SweepPaths.mono : ∀ a0 a1 k, LeO (lampblacklaw03_SweepPaths.f k a0 a1) (lampblacklaw03_SweepPaths.f (k + 1) a0 a1) := by
  intro a0 a1 k
  have ih0 := lampblacklaw03_SweepPaths.mono_l k
  unfold lampblacklaw03_SweepPaths.f
  repeat' first
      | (with_reducible exact ih0 _ _ _ _ _ _)
      | (with_reducible exact lampblacklaw03_awake.mono _)
      | (with_reducible exact lampblacklaw03_own.mono _ _)
      | (with_reducible exact lampblackref03_Act.mono _ _ _)
      | (with_reducible exact lampblackref03_Follow.mono _ _ _)
      | (with_reducible exact lampblackref03_IsPath.mono _ _ _)
      | (with_reducible exact lampblackref03_Valid.mono _ _)
      | (with_reducible exact sweep_Check.mono _ _ _)
      | (with_reducible exact sweep_Follow.mono _ _ _)
      | (with_reducible exact LeO.refl _)
      | (with_reducible exact LeO.none _)
      | (with_reducible refine LeO.ite ?_ ?_)
      | (with_reducible refine LeO.bind ?_ (fun _ => ?_))
      | exact ih0 _ _ _ _ _ _
      | exact lampblacklaw03_awake.mono _
      | exact lampblacklaw03_own.mono _ _
      | exact lampblackref03_Act.mono _ _ _
      | exact lampblackref03_Follow.mono _ _ _
      | exact lampblackref03_IsPath.mono _ _ _
      | exact lampblackref03_Valid.mono _ _
      | exact sweep_Check.mono _ _ _
      | exact sweep_Follow.mono _ _ _
      | exact LeO.none _
      | refine LeO.ite ?_ ?_
      | refine LeO.bind ?_ (fun _ => ?_)
set_option maxHeartbeats 8000000 in
set_option maxRecDepth 100000 in
theorem lampblacklaw03_SweepPaths.calls (k : Nat) (A0 : Option Addr) (c0 : Nat) (l0 : List Int) (A1 : Option Addr) (c1 : Nat) (l1 : List Int) (r : Bool) (w : World) (hGL : GL w) (hr0 : Kd.C (Kd.int .i64) w A0 l0.length l0) (hc0 : l0.length ≤ c0) (hr1 : Kd.C (Kd.int .i64) w A1 l1.length l1) (hc1 : l1.length ≤ c1) (h : lampblacklaw03_SweepPaths.f k l0 l1 = some r) :
    Calls Tryd.prog 12 #[.slice A0 l0.length c0, .slice A1 l1.length c1] w fun e w' => e = .returned (.bool r) ∧ Below w.heap.size w w' := by
  have HGL := Aside0.mk hGL
  clear hGL
  have HR0 := Aside0.mk hr0
  have HC0 := Aside0.mk hc0
  clear hr0 hc0
  have HR1 := Aside0.mk hr1
  have HC1 := Aside0.mk hc1
  clear hr1 hc1
  have HB := Aside0.mk (Below.refl w.heap.size w)
  have H : ((lampblacklaw03_Few.f l0).bind fun t483 => ((lampblacklaw03_list.f l1).bind fun t486 => ((sweep_Check.f k t483 t486).bind fun bt489 => ((lampblacklaw03_Few.f l0).bind fun t492 => ((lampblacklaw03_list.f l1).bind fun t495 => ((sweep_Follow.f k t492 t495).bind fun bt498 => ((lampblackref03_Valid.f k l0).bind fun t502 => (if t502 = true then ((lampblackref03_IsPath.f k l0 l1).bind fun bt504 => (if bt489.1 = bt504.1 then (if (bt489.2.1 != bt504.2) = true then (lampblacklaw03_SweepPaths.j0 k l0 l1 bt498.1 bt498.2 bt504.2 true) else (if bt489.2.2 = 0 then ((lampblacklaw03_awake.f k).bind fun t506 => (lampblacklaw03_SweepPaths.j0 k l0 l1 bt498.1 bt498.2 bt504.2 (!t506))) else (lampblacklaw03_SweepPaths.j0 k l0 l1 bt498.1 bt498.2 bt504.2 true))) else (lampblacklaw03_SweepPaths.j0 k l0 l1 bt498.1 bt498.2 bt504.2 true))) else (if bt489.1 = 0 then (if bt489.2.1 = true then (some false) else (if (bt498.1.length : Int) = 0 then (if bt489.2.2 = 2 then (if bt498.2 = 2 then ((lampblacklaw03_awake.f k).bind fun t503 => (some t503)) else (some false)) else (some false)) else (some false))) else (some false)))))))))) = some r := h
  clear h
  replace H := Option.bind_eq_some_iff.mp H
  obtain ⟨t483, A30, H⟩ := H
  replace H : ((lampblacklaw03_list.f l1).bind fun t486 => ((sweep_Check.f k t483 t486).bind fun bt489 => ((lampblacklaw03_Few.f l0).bind fun t492 => ((lampblacklaw03_list.f l1).bind fun t495 => ((sweep_Follow.f k t492 t495).bind fun bt498 => ((lampblackref03_Valid.f k l0).bind fun t502 => (if t502 = true then ((lampblackref03_IsPath.f k l0 l1).bind fun bt504 => (if bt489.1 = bt504.1 then (if (bt489.2.1 != bt504.2) = true then (lampblacklaw03_SweepPaths.j0 k l0 l1 bt498.1 bt498.2 bt504.2 true) else (if bt489.2.2 = 0 then ((lampblacklaw03_awake.f k).bind fun t506 => (lampblacklaw03_SweepPaths.j0 k l0 l1 bt498.1 bt498.2 bt504.2 (!t506))) else (lampblacklaw03_SweepPaths.j0 k l0 l1 bt498.1 bt498.2 bt504.2 true))) else (lampblacklaw03_SweepPaths.j0 k l0 l1 bt498.1 bt498.2 bt504.2 true))) else (if bt489.1 = 0 then (if bt489.2.1 = true then (some false) else (if (bt498.1.length : Int) = 0 then (if bt489.2.2 = 2 then (if bt498.2 = 2 then ((lampblacklaw03_awake.f k).bind fun t503 => (some t503)) else (some false)) else (some false)) else (some false))) else (some false))))))))) = some r := H
  have A3 := Aside0.mk A30
  clear A30
  replace H := Option.bind_eq_some_iff.mp H
  obtain ⟨t486, A40, H⟩ := H
  replace H : ((sweep_Check.f k t483 t486).bind fun bt489 => ((lampblacklaw03_Few.f l0).bind fun t492 => ((lampblacklaw03_list.f l1).bind fun t495 => ((sweep_Follow.f k t492 t495).bind fun bt498 => ((lampblackref03_Valid.f k l0).bind fun t502 => (if t502 = true then ((lampblackref03_IsPath.f k l0 l1).bind fun bt504 => (if bt489.1 = bt504.1 then (if (bt489.2.1 != bt504.2) = true then (lampblacklaw03_SweepPaths.j0 k l0 l1 bt498.1 bt498.2 bt504.2 true) else (if bt489.2.2 = 0 then ((lampblacklaw03_awake.f k).bind fun t506 => (lampblacklaw03_SweepPaths.j0 k l0 l1 bt498.1 bt498.2 bt504.2 (!t506))) else (lampblacklaw03_SweepPaths.j0 k l0 l1 bt498.1 bt498.2 bt504.2 true))) else (lampblacklaw03_SweepPaths.j0 k l0 l1 bt498.1 bt498.2 bt504.2 true))) else (if bt489.1 = 0 then (if bt489.2.1 = true then (some false) else (if (bt498.1.length : Int) = 0 then (if bt489.2.2 = 2 then (if bt498.2 = 2 then ((lampblacklaw03_awake.f k).bind fun t503 => (some t503)) else (some false)) else (some false)) else (some false))) else (some false)))))))) = some r := H
  have A4 := Aside0.mk A40
  clear A40
  replace H := Option.bind_eq_some_iff.mp H
  obtain ⟨⟨t489, t490, t491⟩, A50, H⟩ := H
  replace H : ((lampblacklaw03_Few.f l0).bind fun t492 => ((lampblacklaw03_list.f l1).bind fun t495 => ((sweep_Follow.f k t492 t495).bind fun bt498 => ((lampblackref03_Valid.f k l0).bind fun t502 => (if t502 = true then ((lampblackref03_IsPath.f k l0 l1).bind fun bt504 => (if t489 = bt504.1 then (if (t490 != bt504.2) = true then (lampblacklaw03_SweepPaths.j0 k l0 l1 bt498.1 bt498.2 bt504.2 true) else (if t491 = 0 then ((lampblacklaw03_awake.f k).bind fun t506 => (lampblacklaw03_SweepPaths.j0 k l0 l1 bt498.1 bt498.2 bt504.2 (!t506))) else (lampblacklaw03_SweepPaths.j0 k l0 l1 bt498.1 bt498.2 bt504.2 true))) else (lampblacklaw03_SweepPaths.j0 k l0 l1 bt498.1 bt498.2 bt504.2 true))) else (if t489 = 0 then (if t490 = true then (some false) else (if (bt498.1.length : Int) = 0 then (if t491 = 2 then (if bt498.2 = 2 then ((lampblacklaw03_awake.f k).bind fun t503 => (some t503)) else (some false)) else (some false)) else (some false))) else (some false))))))) = some r := H
  have A5 := Aside0.mk A50
  clear A50
  replace H := Option.bind_eq_some_iff.mp H
  obtain ⟨t492, A60, H⟩ := H
  replace H : ((lampblacklaw03_list.f l1).bind fun t495 => ((sweep_Follow.f k t492 t495).bind fun bt498 => ((lampblackref03_Valid.f k l0).bind fun t502 => (if t502 = true then ((lampblackref03_IsPath.f k l0 l1).bind fun bt504 => (if t489 = bt504.1 then (if (t490 != bt504.2) = true then (lampblacklaw03_SweepPaths.j0 k l0 l1 bt498.1 bt498.2 bt504.2 true) else (if t491 = 0 then ((lampblacklaw03_awake.f k).bind fun t506 => (lampblacklaw03_SweepPaths.j0 k l0 l1 bt498.1 bt498.2 bt504.2 (!t506))) else (lampblacklaw03_SweepPaths.j0 k l0 l1 bt498.1 bt498.2 bt504.2 true))) else (lampblacklaw03_SweepPaths.j0 k l0 l1 bt498.1 bt498.2 bt504.2 true))) else (if t489 = 0 then (if t490 = true then (some false) else (if (bt498.1.length : Int) = 0 then (if t491 = 2 then (if bt498.2 = 2 then ((lampblacklaw03_awake.f k).bind fun t503 => (some t503)) else (some false)) else (some false)) else (some false))) else (some false)))))) = some r := H
  have A6 := Aside0.mk A60
  clear A60
  replace H := Option.bind_eq_some_iff.mp H
  obtain ⟨t495, A70, H⟩ := H
  replace H : ((sweep_Follow.f k t492 t495).bind fun bt498 => ((lampblackref03_Valid.f k l0).bind fun t502 => (if t502 = true then ((lampblackref03_IsPath.f k l0 l1).bind fun bt504 => (if t489 = bt504.1 then (if (t490 != bt504.2) = true then (lampblacklaw03_SweepPaths.j0 k l0 l1 bt498.1 bt498.2 bt504.2 true) else (if t491 = 0 then ((lampblacklaw03_awake.f k).bind fun t506 => (lampblacklaw03_SweepPaths.j0 k l0 l1 bt498.1 bt498.2 bt504.2 (!t506))) else (lampblacklaw03_SweepPaths.j0 k l0 l1 bt498.1 bt498.2 bt504.2 true))) else (lampblacklaw03_SweepPaths.j0 k l0 l1 bt498.1 bt498.2 bt504.2 true))) else (if t489 = 0 then (if t490 = true then (some false) else (if (bt498.1.length : Int) = 0 then (if t491 = 2 then (if bt498.2 = 2 then ((lampblacklaw03_awake.f k).bind fun t503 => (some t503)) else (some false)) else (some false)) else (some false))) else (some false))))) = some r := H
  have A7 := Aside0.mk A70
  clear A70
  replace H := Option.bind_eq_some_iff.mp H
  obtain ⟨⟨t498, t499⟩, A80, H⟩ := H
  replace H : ((lampblackref03_Valid.f k l0).bind fun t502 => (if t502 = true then ((lampblackref03_IsPath.f k l0 l1).bind fun bt504 => (if t489 = bt504.1 then (if (t490 != bt504.2) = true then (lampblacklaw03_SweepPaths.j0 k l0 l1 t498 t499 bt504.2 true) else (if t491 = 0 then ((lampblacklaw03_awake.f k).bind fun t506 => (lampblacklaw03_SweepPaths.j0 k l0 l1 t498 t499 bt504.2 (!t506))) else (lampblacklaw03_SweepPaths.j0 k l0 l1 t498 t499 bt504.2 true))) else (lampblacklaw03_SweepPaths.j0 k l0 l1 t498 t499 bt504.2 true))) else (if t489 = 0 then (if t490 = true then (some false) else (if (t498.length : Int) = 0 then (if t491 = 2 then (if t499 = 2 then ((lampblacklaw03_awake.f k).bind fun t503 => (some t503)) else (some false)) else (some false)) else (some false))) else (some false)))) = some r := H
  have A8 := Aside0.mk A80
  clear A80
  replace H := Option.bind_eq_some_iff.mp H
  obtain ⟨t502, A90, H⟩ := H
  replace H : (if t502 = true then ((lampblackref03_IsPath.f k l0 l1).bind fun bt504 => (if t489 = bt504.1 then (if (t490 != bt504.2) = true then (lampblacklaw03_SweepPaths.j0 k l0 l1 t498 t499 bt504.2 true) else (if t491 = 0 then ((lampblacklaw03_awake.f k).bind fun t506 => (lampblacklaw03_SweepPaths.j0 k l0 l1 t498 t499 bt504.2 (!t506))) else (lampblacklaw03_SweepPaths.j0 k l0 l1 t498 t499 bt504.2 true))) else (lampblacklaw03_SweepPaths.j0 k l0 l1 t498 t499 bt504.2 true))) else (if t489 = 0 then (if t490 = true then (some false) else (if (t498.length : Int) = 0 then (if t491 = 2 then (if t499 = 2 then ((lampblacklaw03_awake.f k).bind fun t503 => (some t503)) else (some false)) else (some false)) else (some false))) else (some false))) = some r := H
  have A9 := Aside0.mk A90
  clear A90
  by_cases c10 : t502 = true
  · subst c10
    have H1 : ((lampblackref03_IsPath.f k l0 l1).bind fun bt504 => (if t489 = bt504.1 then (if (t490 != bt504.2) = true then (lampblacklaw03_SweepPaths.j0 k l0 l1 t498 t499 bt504.2 true) else (if t491 = 0 then ((lampblacklaw03_awake.f k).bind fun t506 => (lampblacklaw03_SweepPaths.j0 k l0 l1 t498 t499 bt504.2 (!t506))) else (lampblacklaw03_SweepPaths.j0 k l0 l1 t498 t499 bt504.2 true))) else (lampblacklaw03_SweepPaths.j0 k l0 l1 t498 t499 bt504.2 true))) = some r := by rw [if_pos rfl] at H; exact H
    clear H
    have H := H1
    clear H1
    replace H := Option.bind_eq_some_iff.mp H
    obtain ⟨⟨t504, t505⟩, A110, H⟩ := H
    replace H : (if t489 = t504 then (if (t490 != t505) = true then (lampblacklaw03_SweepPaths.j0 k l0 l1 t498 t499 t505 true) else (if t491 = 0 then ((lampblacklaw03_awake.f k).bind fun t506 => (lampblacklaw03_SweepPaths.j0 k l0 l1 t498 t499 t505 (!t506))) else (lampblacklaw03_SweepPaths.j0 k l0 l1 t498 t499 t505 true))) else (lampblacklaw03_SweepPaths.j0 k l0 l1 t498 t499 t505 true)) = some r := H
    have A11 := Aside0.mk A110
    clear A110
    have HC12 := Aside0.mk H
    clear H
    go_enter Tryd.func12, Tryd.ntmps12
    go_upto_region 6 with (first | ((with_reducible refine gate_callee (f := 18) rfl ?_); refine goesL_ (some 14) rfl rfl Tryd.func18 (by kernel_rfl) rfl #[.slice A0 l0.length c0] rfl (by (try simp only [List.map_toArray, List.map_cons, List.map_nil]); first | done | rfl | (simp only [List.length_drop, List.length_take]; rfl)) ?_; (with_reducible refine (lampblacklaw03_Few.calls _ _ l0 t483 _ ?side1 ?side2 A3.out).mono ?_); (case side1 => repeat (first | exact HR0.out | (with_reducible refine Kd.C_alloc ?_ _) | (with_reducible refine Kd.C_drewN ?_ _) | (with_reducible refine Kd.C_drew ?_))); (case side2 => exact HC0.out); rintro e w13 ⟨v484, rfl, ho0, hb⟩; refine ⟨_, rfl, ?_⟩; have n0_ := Aside0.mk (Kd.R_lower ho0 (below_size (by repeat (first | (with_reducible first | exact HB.out | apply below_alloc | apply pw_below_drewN | apply below_drew1) | exact HB.out)))); have n1_ := Aside0.mk (below_step (by repeat (first | (with_reducible first | exact HB.out | apply below_alloc | apply pw_below_drewN | apply below_drew1) | exact HB.out)) hb); clear HB; have HO485 := n0_; have HB := n1_; clear n0_ n1_; (try clear hb); (try clear hb2); (try clear hk); (try clear hi); (try clear ho0)) | ((with_reducible refine gate_callee (f := 27) rfl ?_); refine goesL_ (some 16) rfl rfl Tryd.func27 (by kernel_rfl) rfl #[.slice A1 l1.length c1] rfl (by (try simp only [List.map_toArray, List.map_cons, List.map_nil]); first | done | rfl | (simp only [List.length_drop, List.length_take]; rfl)) ?_; (with_reducible refine (lampblacklaw03_list.calls _ _ l1 t486 _ ?side1 ?side2 A4.out).mono ?_); (case side1 => repeat (first | exact (Kd.C_below HR1.out HB.out) | (with_reducible refine Kd.C_alloc ?_ _) | (with_reducible refine Kd.C_drewN ?_ _) | (with_reducible refine Kd.C_drew ?_))); (case side2 => exact HC1.out); rintro e w14 ⟨v487, rfl, ho0, hb⟩; refine ⟨_, rfl, ?_⟩; have n0_ := Aside0.mk (Kd.R_elder' (by (with_reducible repeat (first | apply Kd.R_alloc | apply Kd.R_drewN | apply Kd.R_drew)); exact HO485.out) (Kd.R_base ho0) hb); have n1_ := Aside0.mk (Kd.R_lower (Kd.R_new' ho0 (Kd.R_lt (by (with_reducible repeat (first | apply Kd.R_alloc | apply Kd.R_drewN | apply Kd.R_drew)); exact HO485.out))) (below_size (by repeat (first | (with_reducible first | exact HB.out | apply below_alloc | apply pw_below_drewN | apply below_drew1) | exact HB.out)))); have n2_ := Aside0.mk (below_step (by repeat (first | (with_reducible first | exact HB.out | apply below_alloc | apply pw_below_drewN | apply below_drew1) | exact HB.out)) hb); clear HO485; clear HB; have HO485 := n0_; have HO488 := n1_; have HB := n2_; clear n0_ n1_ n2_; (try clear hb); (try clear hb2); (try clear hk); (try clear hi); (try clear ho0); obtain ⟨Ao15, co15, eo15⟩ := Kd.R_slice HO485.out; subst eo15; obtain ⟨Ao16, co16, eo16⟩ := Kd.R_slice HO488.out; subst eo16) | ((with_reducible refine gate_callee (f := 36) rfl ?_); refine goesL_ (some 17) rfl rfl Tryd.func36 (by kernel_rfl) rfl #[.slice Ao15 t483.length co15, .slice Ao16 t486.length co16] rfl (by (try simp only [List.map_toArray, List.map_cons, List.map_nil]); first | done | rfl | (simp only [List.length_drop, List.length_take]; rfl)) ?_; (with_reducible refine (sweep_Check.calls k _ _ t483 _ _ t486 t489 t490 t491 _ ?side1 ?side2 ?side3 ?side4 A5.out).mono ?_); (case side1 => repeat (first | exact (Kd.R_reads' HO485.out).2.2 | (with_reducible refine Kd.C_alloc ?_ _) | (with_reducible refine Kd.C_drewN ?_ _) | (with_reducible refine Kd.C_drew ?_))); (case side2 => exact (Kd.R_reads' HO485.out).2.1); (case side3 => repeat (first | exact (Kd.R_reads' HO488.out).2.2 | (with_reducible refine Kd.C_alloc ?_ _) | (with_reducible refine Kd.C_drewN ?_ _) | (with_reducible refine Kd.C_drew ?_))); (case side4 => exact (Kd.R_reads' HO488.out).2.1); rintro e w17 ⟨rfl, hb⟩; refine ⟨_, rfl, ?_⟩; have n0_ := Aside0.mk (Kd.R_below (by (with_reducible repeat (first | apply Kd.R_alloc | apply Kd.R_drewN | apply Kd.R_drew)); exact HO485.out) hb); have n1_ := Aside0.mk (Kd.R_below (by (with_reducible repeat (first | apply Kd.R_alloc | apply Kd.R_drewN | apply Kd.R_drew)); exact HO488.out) hb); have n2_ := Aside0.mk (below_step (by repeat (first | (with_reducible first | exact HB.out | apply below_alloc | apply pw_below_drewN | apply below_drew1) | exact HB.out)) hb); clear HO485; clear HO488; clear HB; have HO485 := n0_; have HO488 := n1_; have HB := n2_; clear n0_ n1_ n2_; (try clear hb); (try clear hb2); (try clear hk); (try clear hi)) | ((with_reducible refine gate_callee (f := 18) rfl ?_); refine goesL_ (some 23) rfl rfl Tryd.func18 (by kernel_rfl) rfl #[.slice A0 l0.length c0] rfl (by (try simp only [List.map_toArray, List.map_cons, List.map_nil]); first | done | rfl | (simp only [List.length_drop, List.length_take]; rfl)) ?_; (with_reducible refine (lampblacklaw03_Few.calls _ _ l0 t492 _ ?side1 ?side2 A6.out).mono ?_); (case side1 => repeat (first | exact (Kd.C_below HR0.out HB.out) | (with_reducible refine Kd.C_alloc ?_ _) | (with_reducible refine Kd.C_drewN ?_ _) | (with_reducible refine Kd.C_drew ?_))); (case side2 => exact HC0.out); rintro e w18 ⟨v493, rfl, ho0, hb⟩; refine ⟨_, rfl, ?_⟩; have n0_ := Aside0.mk (Kd.R_elder' (by (with_reducible repeat (first | apply Kd.R_alloc | apply Kd.R_drewN | apply Kd.R_drew)); exact HO485.out) (Kd.R_base ho0) hb); have n1_ := Aside0.mk (Kd.R_elder' (by (with_reducible repeat (first | apply Kd.R_alloc | apply Kd.R_drewN | apply Kd.R_drew)); exact HO488.out) (Kd.R_base ho0) hb); have n2_ := Aside0.mk (Kd.R_lower (Kd.R_new' (Kd.R_new' ho0 (Kd.R_lt (by (with_reducible repeat (first | apply Kd.R_alloc | apply Kd.R_drewN | apply Kd.R_drew)); exact HO485.out))) (Kd.R_lt (by (with_reducible repeat (first | apply Kd.R_alloc | apply Kd.R_drewN | apply Kd.R_drew)); exact HO488.out))) (below_size (by repeat (first | (with_reducible first | exact HB.out | apply below_alloc | apply pw_below_drewN | apply below_drew1) | exact HB.out)))); have n3_ := Aside0.mk (below_step (by repeat (first | (with_reducible first | exact HB.out | apply below_alloc | apply pw_below_drewN | apply below_drew1) | exact HB.out)) hb); clear HO485; clear HO488; clear HB; have HO485 := n0_; have HO488 := n1_; have HO494 := n2_; have HB := n3_; clear n0_ n1_ n2_ n3_; (try clear hb); (try clear hb2); (try clear hk); (try clear hi); (try clear ho0)) | ((with_reducible refine gate_callee (f := 27) rfl ?_); refine goesL_ (some 25) rfl rfl Tryd.func27 (by kernel_rfl) rfl #[.slice A1 l1.length c1] rfl (by (try simp only [List.map_toArray, List.map_cons, List.map_nil]); first | done | rfl | (simp only [List.length_drop, List.length_take]; rfl)) ?_; (with_reducible refine (lampblacklaw03_list.calls _ _ l1 t495 _ ?side1 ?side2 A7.out).mono ?_); (case side1 => repeat (first | exact (Kd.C_below HR1.out HB.out) | (with_reducible refine Kd.C_alloc ?_ _) | (with_reducible refine Kd.C_drewN ?_ _) | (with_reducible refine Kd.C_drew ?_))); (case side2 => exact HC1.out); rintro e w19 ⟨v496, rfl, ho0, hb⟩; refine ⟨_, rfl, ?_⟩; have n0_ := Aside0.mk (Kd.R_elder' (by (with_reducible repeat (first | apply Kd.R_alloc | apply Kd.R_drewN | apply Kd.R_drew)); exact HO485.out) (Kd.R_base ho0) hb); have n1_ := Aside0.mk (Kd.R_elder' (by (with_reducible repeat (first | apply Kd.R_alloc | apply Kd.R_drewN | apply Kd.R_drew)); exact HO488.out) (Kd.R_base ho0) hb); have n2_ := Aside0.mk (Kd.R_elder' (by (with_reducible repeat (first | apply Kd.R_alloc | apply Kd.R_drewN | apply Kd.R_drew)); exact HO494.out) (Kd.R_base ho0) hb); have n3_ := Aside0.mk (Kd.R_lower (Kd.R_new' (Kd.R_new' (Kd.R_new' ho0 (Kd.R_lt (by (with_reducible repeat (first | apply Kd.R_alloc | apply Kd.R_drewN | apply Kd.R_drew)); exact HO485.out))) (Kd.R_lt (by (with_reducible repeat (first | apply Kd.R_alloc | apply Kd.R_drewN | apply Kd.R_drew)); exact HO488.out))) (Kd.R_lt (by (with_reducible repeat (first | apply Kd.R_alloc | apply Kd.R_drewN | apply Kd.R_drew)); exact HO494.out))) (below_size (by repeat (first | (with_reducible first | exact HB.out | apply below_alloc | apply pw_below_drewN | apply below_drew1) | exact HB.out)))); have n4_ := Aside0.mk (below_step (by repeat (first | (with_reducible first | exact HB.out | apply below_alloc | apply pw_below_drewN | apply below_drew1) | exact HB.out)) hb); clear HO485; clear HO488; clear HO494; clear HB; have HO485 := n0_; have HO488 := n1_; have HO494 := n2_; have HO497 := n3_; have HB := n4_; clear n0_ n1_ n2_ n3_ n4_; (try clear hb); (try clear hb2); (try clear hk); (try clear hi); (try clear ho0); obtain ⟨Ao20, co20, eo20⟩ := Kd.R_slice HO494.out; subst eo20; obtain ⟨Ao21, co21, eo21⟩ := Kd.R_slice HO497.out; subst eo21) | ((with_reducible refine gate_callee (f := 41) rfl ?_); refine goesL_ (some 26) rfl rfl Tryd.func41 (by kernel_rfl) rfl #[.slice Ao20 t492.length co20, .slice Ao21 t495.length co21] rfl (by (try simp only [List.map_toArray, List.map_cons, List.map_nil]); first | done | rfl | (simp only [List.length_drop, List.length_take]; rfl)) ?_; (with_reducible refine (sweep_Follow.calls (hGL := (by repeat (first | (with_reducible exact HGL.out) | (with_reducible exact GL_below HGL.out HB.out) | (with_reducible refine GL_alloc ?_ _) | (with_reducible refine GL_drewN ?_ _) | (with_reducible refine GL_drew ?_)))) k _ _ t492 _ _ t495 t498 t499 _ ?side1 ?side2 ?side3 ?side4 A8.out).mono ?_); (case side1 => repeat (first | exact (Kd.R_reads' HO494.out).2.2 | (with_reducible refine Kd.C_alloc ?_ _) | (with_reducible refine Kd.C_drewN ?_ _) | (with_reducible refine Kd.C_drew ?_))); (case side2 => exact (Kd.R_reads' HO494.out).2.1); (case side3 => repeat (first | exact (Kd.R_reads' HO497.out).2.2 | (with_reducible refine Kd.C_alloc ?_ _) | (with_reducible refine Kd.C_drewN ?_ _) | (with_reducible refine Kd.C_drew ?_))); (case side4 => exact (Kd.R_reads' HO497.out).2.1); rintro e w22 ⟨v500, rfl, ho0, hb⟩; refine ⟨_, rfl, ?_⟩; have n0_ := Aside0.mk (Kd.R_below (by (with_reducible repeat (first | apply Kd.R_alloc | apply Kd.R_drewN | apply Kd.R_drew)); exact HO485.out) hb); have n1_ := Aside0.mk (Kd.R_below (by (with_reducible repeat (first | apply Kd.R_alloc | apply Kd.R_drewN | apply Kd.R_drew)); exact HO488.out) hb); have n2_ := Aside0.mk (Kd.R_below (by (with_reducible repeat (first | apply Kd.R_alloc | apply Kd.R_drewN | apply Kd.R_drew)); exact HO494.out) hb); have n3_ := Aside0.mk (Kd.R_below (by (with_reducible repeat (first | apply Kd.R_alloc | apply Kd.R_drewN | apply Kd.R_drew)); exact HO497.out) hb); have n4_ := Aside0.mk (Kd.R_lower ho0 (below_size (by repeat (first | (with_reducible first | exact HB.out | apply below_alloc | apply pw_below_drewN | apply below_drew1) | exact HB.out)))); have n5_ := Aside0.mk (below_step (by repeat (first | (with_reducible first | exact HB.out | apply below_alloc | apply pw_below_drewN | apply below_drew1) | exact HB.out)) hb); clear HO485; clear HO488; clear HO494; clear HO497; clear HB; have HO485 := n0_; have HO488 := n1_; have HO494 := n2_; have HO497 := n3_; have HO501 := n4_; have HB := n5_; clear n0_ n1_ n2_ n3_ n4_ n5_; (try clear hb); (try clear hb2); (try clear hk); (try clear hi); (try clear ho0)) | ((with_reducible refine gate_callee (f := 19) rfl ?_); refine goesL_ (some 30) rfl rfl Tryd.func19 (by kernel_rfl) rfl #[.slice A0 l0.length c0] rfl (by (try simp only [List.map_toArray, List.map_cons, List.map_nil]); first | done | rfl | (simp only [List.length_drop, List.length_take]; rfl)) ?_; (with_reducible refine (lampblackref03_Valid.calls k _ _ l0 true _ ?side1 ?side2 A9.out).mono ?_); (case side1 => repeat (first | exact (Kd.C_below HR0.out HB.out) | (with_reducible refine Kd.C_alloc ?_ _) | (with_reducible refine Kd.C_drewN ?_ _) | (with_reducible refine Kd.C_drew ?_))); (case side2 => exact HC0.out); rintro e w' ⟨rfl, ⟨nd, rfl⟩⟩; refine ⟨_, rfl, ?_⟩) | ((with_reducible refine gate_callee (f := 42) rfl ?_); refine goesL_ (some 57) rfl rfl Tryd.func42 (by kernel_rfl) rfl #[.slice A0 l0.length c0, .slice A1 l1.length c1] rfl (by (try simp only [List.map_toArray, List.map_cons, List.map_nil]); first | done | rfl | (simp only [List.length_drop, List.length_take]; rfl)) ?_; (with_reducible refine (lampblackref03_IsPath.calls k _ _ l0 _ _ l1 t504 t505 _ ?side1 ?side2 ?side3 ?side4 A11.out).mono ?_); (case side1 => repeat (first | exact (Kd.C_below HR0.out (by repeat (first | (with_reducible first | exact HB.out | apply below_alloc | apply pw_below_drewN | apply below_drew1) | exact HB.out))) | (with_reducible refine Kd.C_alloc ?_ _) | (with_reducible refine Kd.C_drewN ?_ _) | (with_reducible refine Kd.C_drew ?_))); (case side2 => exact HC0.out); (case side3 => repeat (first | exact (Kd.C_below HR1.out (by repeat (first | (with_reducible first | exact HB.out | apply below_alloc | apply pw_below_drewN | apply below_drew1) | exact HB.out))) | (with_reducible refine Kd.C_alloc ?_ _) | (with_reducible refine Kd.C_drewN ?_ _) | (with_reducible refine Kd.C_drew ?_))); (case side4 => exact HC1.out); rintro e w23 ⟨rfl, hb⟩; refine ⟨_, rfl, ?_⟩; have n0_ := Aside0.mk (Kd.R_below (by (with_reducible repeat (first | apply Kd.R_alloc | apply Kd.R_drewN | apply Kd.R_drew)); exact HO485.out) hb); have n1_ := Aside0.mk (Kd.R_below (by (with_reducible repeat (first | apply Kd.R_alloc | apply Kd.R_drewN | apply Kd.R_drew)); exact HO488.out) hb); have n2_ := Aside0.mk (Kd.R_below (by (with_reducible repeat (first | apply Kd.R_alloc | apply Kd.R_drewN | apply Kd.R_drew)); exact HO494.out) hb); have n3_ := Aside0.mk (Kd.R_below (by (with_reducible repeat (first | apply Kd.R_alloc | apply Kd.R_drewN | apply Kd.R_drew)); exact HO497.out) hb); have n4_ := Aside0.mk (Kd.R_below (by (with_reducible repeat (first | apply Kd.R_alloc | apply Kd.R_drewN | apply Kd.R_drew)); exact HO501.out) hb); have n5_ := Aside0.mk (below_step (by repeat (first | (with_reducible first | exact HB.out | apply below_alloc | apply pw_below_drewN | apply below_drew1) | exact HB.out)) hb); clear HO485; clear HO488; clear HO494; clear HO497; clear HO501; clear HB; have HO485 := n0_; have HO488 := n1_; have HO494 := n2_; have HO497 := n3_; have HO501 := n4_; have HB := n5_; clear n0_ n1_ n2_ n3_ n4_ n5_; (try clear hb); (try clear hb2); (try clear hk); (try clear hi)))
    (try simp only [Act.put, List.setIfInBounds_toArray, List.set_cons_zero, List.set_cons_succ])
    go_cut [75] (fun v75 wc => ∃ (kq : Nat) (x75_11 : Bool), v75 = .bool x75_11 ∧ Aside0 (lampblacklaw03_SweepPaths.j0 kq l0 l1 t498 t499 t505 x75_11 = some r) ∧ Aside0 (kq ≤ k) ∧ Aside0 (Kd.R k85 85 wc w.heap.size (fun _ => True) v500 t498) ∧ Aside0 (Below w.heap.size w wc))
    case first =>
      have H := HC12.out
      clear HC12
      by_cases c24 : t489 = t504
      · rw [if_pos c24] at H
        have c24b0 : (t489 == t504) = true := beq_iff_eq.mpr c24
        have c24b1 : (t489 != t504) = false := bne_eq_false_iff_eq.mpr c24
        clear c24
        (first | rw [c24b0] | (simp only [i64_w, i32_w]; rw [c24b0]) | skip)
        by_cases c25 : (t490 != t505) = true
        · rw [if_pos c25] at H
          have c25b0 : (t490 != t505) = true := c25
          (try (have c25b1 : decide (t490 = t505) = false := by simpa using c25))
          (try (have c25b2 : (t490 == t505) = false := by simpa using c25))
          (try (have c25b3 : ¬ (t490 = t505) := by simpa using c25))
          clear c25
          have H' := Aside0.mk H
          clear H
          go_wp2
          go_meet
          case rel => exact ⟨_, (true), (by first | rfl | (simp; done) | (simp [*]; done)), H', ⟨by first | omega | exact Nat.le_refl _⟩, ⟨by (with_reducible repeat (first | apply Kd.R_alloc | apply Kd.R_drewN | apply Kd.R_drew)); exact HO501.out⟩, ⟨by repeat (first | (with_reducible first | exact HB.out | apply below_alloc | apply pw_below_drewN | apply below_drew1) | exact HB.out)⟩⟩
        · rw [if_neg c25] at H
          have c25b0 : (t490 != t505) = false := by simpa using c25
          (try (have c25b1 : decide (t490 = t505) = true := by simpa using c25))
          (try (have c25b2 : (t490 == t505) = true := by simpa using c25))
          clear c25
          by_cases c26 : t491 = 0
          · rw [if_pos c26] at H
            have c26b0 : (t491 == 0) = true := beq_iff_eq.mpr c26
            have c26b1 : (t491 != 0) = false := bne_eq_false_iff_eq.mpr c26
            clear c26
            replace H := Option.bind_eq_some_iff.mp H
            obtain ⟨t506, A270, H⟩ := H
            replace H : (lampblacklaw03_SweepPaths.j0 k l0 l1 t498 t499 t505 (!t506)) = some r := H
            have A27 := Aside0.mk A270
            clear A270
            have H' := Aside0.mk H
            clear H
            go_wp2_with (first | (go_at_call 20; (with_reducible refine (lampblacklaw03_awake.calls (hGL := (by repeat (first | (with_reducible exact HGL.out) | (with_reducible exact GL_below HGL.out HB.out) | (with_reducible refine GL_alloc ?_ _) | (with_reducible refine GL_drewN ?_ _) | (with_reducible refine GL_drew ?_)))) k  t506 _ A27.out).mono ?_); rintro e w28 ⟨rfl, hb⟩; have n0_ := Aside0.mk (Kd.R_below (by (with_reducible repeat (first | apply Kd.R_alloc | apply Kd.R_drewN | apply Kd.R_drew)); exact HO485.out) hb); have n1_ := Aside0.mk (Kd.R_below (by (with_reducible repeat (first | apply Kd.R_alloc | apply Kd.R_drewN | apply Kd.R_drew)); exact HO488.out) hb); have n2_ := Aside0.mk (Kd.R_below (by (with_reducible repeat (first | apply Kd.R_alloc | apply Kd.R_drewN | apply Kd.R_drew)); exact HO494.out) hb); have n3_ := Aside0.mk (Kd.R_below (by (with_reducible repeat (first | apply Kd.R_alloc | apply Kd.R_drewN | apply Kd.R_drew)); exact HO497.out) hb); have n4_ := Aside0.mk (Kd.R_below (by (with_reducible repeat (first | apply Kd.R_alloc | apply Kd.R_drewN | apply Kd.R_drew)); exact HO501.out) hb); have n5_ := Aside0.mk (below_step (by repeat (first | (with_reducible first | exact HB.out | apply below_alloc | apply pw_below_drewN | apply below_drew1) | exact HB.out)) hb); clear HO485; clear HO488; clear HO494; clear HO497; clear HO501; clear HB; have HO485 := n0_; have HO488 := n1_; have HO494 := n2_; have HO497 := n3_; have HO501 := n4_; have HB := n5_; clear n0_ n1_ n2_ n3_ n4_ n5_; (try clear hb); (try clear hb2); (try clear hk); (try clear hi)))
            go_meet
            case rel => exact ⟨_, (!t506), (by first | rfl | (simp; done) | (simp [*]; done)), H', ⟨by first | omega | exact Nat.le_refl _⟩, ⟨by (with_reducible repeat (first | apply Kd.R_alloc | apply Kd.R_drewN | apply Kd.R_drew)); exact HO501.out⟩, ⟨by repeat (first | (with_reducible first | exact HB.out | apply below_alloc | apply pw_below_drewN | apply below_drew1) | exact HB.out)⟩⟩
          · rw [if_neg c26] at H
            have c26b0 : (t491 == 0) = false := beq_eq_false_iff_ne.mpr c26
            have c26b1 : (t491 != 0) = true := bne_iff_ne.mpr c26
            have H' := Aside0.mk H
            clear H
            go_wp2
            go_meet
            case rel => exact ⟨_, (true), (by first | rfl | (simp; done) | (simp [*]; done)), H', ⟨by first | omega | exact Nat.le_refl _⟩, ⟨by (with_reducible repeat (first | apply Kd.R_alloc | apply Kd.R_drewN | apply Kd.R_drew)); exact HO501.out⟩, ⟨by repeat (first | (with_reducible first | exact HB.out | apply below_alloc | apply pw_below_drewN | apply below_drew1) | exact HB.out)⟩⟩
      · rw [if_neg c24] at H
        have c24b0 : (t489 == t504) = false := beq_eq_false_iff_ne.mpr c24
        have c24b1 : (t489 != t504) = true := bne_iff_ne.mpr c24
        (first | rw [c24b0] | (simp only [i64_w, i32_w]; rw [c24b0]) | skip)
        have H' := Aside0.mk H
        clear H
        go_wp2
        go_meet
        case rel => exact ⟨_, (true), (by first | rfl | (simp; done) | (simp [*]; done)), H', ⟨by first | omega | exact Nat.le_refl _⟩, ⟨by (with_reducible repeat (first | apply Kd.R_alloc | apply Kd.R_drewN | apply Kd.R_drew)); exact HO501.out⟩, ⟨by repeat (first | (with_reducible first | exact HB.out | apply below_alloc | apply pw_below_drewN | apply below_drew1) | exact HB.out)⟩⟩
    case rest =>
      clear HC12
      try clear c1
      try clear c2
      try clear p2
      try clear c3
      try clear c4
      try clear c10
      try clear c12
      try clear c18
      try clear c19
      try clear c24
      try clear c24b0
      try clear c24b1
      try clear c25
      try clear c25b0
      try clear c25b1
      try clear c25b2
      try clear c26
      try clear c26b0
      try clear c26b1
      try clear c27
      obtain ⟨kq, x75_11, rfl, HA, HJ11, HO_8, HB⟩ := hcut
      cases kq with
      | zero => exact absurd HA.out (by simp [lampblacklaw03_SweepPaths.j0])
      | succ kj11 =>
        have H := HA.out
        clear HA
        simp only [lampblacklaw03_SweepPaths.j0] at H
        by_cases c29 : x75_11 = true
        · subst c29
          have H1 : (some false) = some r := by rw [if_pos rfl] at H; exact H
          clear H
          have H := H1
          clear H1
          obtain rfl := Option.some.inj H
          go_wp2
          go_ret
          exact ⟨by first | rfl | (simp [errW_none, errW_some] <;> rfl) | (simp [*, errW_none, errW_some] <;> rfl), by repeat (first | (with_reducible first | exact HB.out | apply below_alloc | apply pw_below_drewN | apply below_drew1) | exact HB.out)⟩
        · replace c29 := Bool.eq_false_iff.mpr c29
          subst c29
          have H1 : (if t505 = true then ((lampblacklaw03_own.f kj11 t498).bind fun t507 => ((lampblackref03_Follow.f kj11 l0 l1).bind fun t510 => ((lampblackref03_Act.f kj11 t507 t510).bind fun t513 => (if t513 = true then (some (t499 == 0)) else (some false))))) else (if (t498.length : Int) = 0 then (some (t499 == 2)) else (some false))) = some r := by rw [if_neg (show ¬ (false = true) by decide)] at H; exact H
          clear H
          have H := H1
          clear H1
          by_cases c30 : t505 = true
          · subst c30
            have H1 : ((lampblacklaw03_own.f kj11 t498).bind fun t507 => ((lampblackref03_Follow.f kj11 l0 l1).bind fun t510 => ((lampblackref03_Act.f kj11 t507 t510).bind fun t513 => (if t513 = true then (some (t499 == 0)) else (some false))))) = some r := by rw [if_pos rfl] at H; exact H
            clear H
            have H := H1
            clear H1
            replace H := Option.bind_eq_some_iff.mp H
            obtain ⟨t507, A310, H⟩ := H
            replace H : ((lampblackref03_Follow.f kj11 l0 l1).bind fun t510 => ((lampblackref03_Act.f kj11 t507 t510).bind fun t513 => (if t513 = true then (some (t499 == 0)) else (some false)))) = some r := H
            have A31 := Aside0.mk A310
            clear A310
            replace H := Option.bind_eq_some_iff.mp H
            obtain ⟨t510, A320, H⟩ := H
            replace H : ((lampblackref03_Act.f kj11 t507 t510).bind fun t513 => (if t513 = true then (some (t499 == 0)) else (some false))) = some r := H
            have A32 := Aside0.mk A320
            clear A320
            replace H := Option.bind_eq_some_iff.mp H
            obtain ⟨t513, A330, H⟩ := H
            replace H : (if t513 = true then (some (t499 == 0)) else (some false)) = some r := H
            have A33 := Aside0.mk A330
            clear A330
            by_cases c34 : t513 = true
            · subst c34
              have H1 : (some (t499 == 0)) = some r := by rw [if_pos rfl] at H; exact H
              clear H
              have H := H1
              clear H1
              obtain rfl := Option.some.inj H
              obtain ⟨Ao35, co35, eo35⟩ := Kd.R_slice HO_8.out
              subst eo35
              go_wp2_with (first | ((with_reducible refine gate_callee (f := 25) rfl ?_); refine goesL_ (some 86) rfl rfl Tryd.func25 (by kernel_rfl) rfl #[.slice Ao35 t498.length co35] rfl (by (try simp only [List.map_toArray, List.map_cons, List.map_nil]); first | done | rfl | (simp only [List.length_drop, List.length_take]; rfl)) ?_; (with_reducible refine (lampblacklaw03_own.calls kj11 _ _ t498 t507 _ ?side1 ?side2 A31.out).mono ?_); (case side1 => repeat (first | exact (Kd.R_reads' HO_8.out).2.2 | (with_reducible refine Kd.C_alloc ?_ _) | (with_reducible refine Kd.C_drewN ?_ _) | (with_reducible refine Kd.C_drew ?_))); (case side2 => exact (Kd.R_reads' HO_8.out).2.1); rintro e w36 ⟨v508, rfl, ho0, hb⟩; refine ⟨_, rfl, ?_⟩; have n0_ := Aside0.mk (Kd.R_below (by (with_reducible repeat (first | apply Kd.R_alloc | apply Kd.R_drewN | apply Kd.R_drew)); exact HO_8.out) hb); have n1_ := Aside0.mk (Kd.R_lower ho0 (below_size (by repeat (first | (with_reducible first | exact HB.out | apply below_alloc | apply pw_below_drewN | apply below_drew1) | exact HB.out)))); have n2_ := Aside0.mk (below_step (by repeat (first | (with_reducible first | exact HB.out | apply below_alloc | apply pw_below_drewN | apply below_drew1) | exact HB.out)) hb); clear HO_8; clear HB; have HO_8 := n0_; have HO509 := n1_; have HB := n2_; clear n0_ n1_ n2_; (try clear hb); (try clear hb2); (try clear hk); (try clear hi); (try clear ho0)) | ((with_reducible refine gate_callee (f := 44) rfl ?_); refine goesL_ (some 89) rfl rfl Tryd.func44 (by kernel_rfl) rfl #[.slice A0 l0.length c0, .slice A1 l1.length c1] rfl (by (try simp only [List.map_toArray, List.map_cons, List.map_nil]); first | done | rfl | (simp only [List.length_drop, List.length_take]; rfl)) ?_; (with_reducible refine (lampblackref03_Follow.calls kj11 _ _ l0 _ _ l1 t510 _ ?side1 ?side2 ?side3 ?side4 A32.out).mono ?_); (case side1 => repeat (first | exact (Kd.C_below HR0.out HB.out) | (with_reducible refine Kd.C_alloc ?_ _) | (with_reducible refine Kd.C_drewN ?_ _) | (with_reducible refine Kd.C_drew ?_))); (case side2 => exact HC0.out); (case side3 => repeat (first | exact (Kd.C_below HR1.out HB.out) | (with_reducible refine Kd.C_alloc ?_ _) | (with_reducible refine Kd.C_drewN ?_ _) | (with_reducible refine Kd.C_drew ?_))); (case side4 => exact HC1.out); rintro e w37 ⟨v511, rfl, ho0, hb⟩; refine ⟨_, rfl, ?_⟩; have n0_ := Aside0.mk (Kd.R_below (by (with_reducible repeat (first | apply Kd.R_alloc | apply Kd.R_drewN | apply Kd.R_drew)); exact HO_8.out) hb); have n1_ := Aside0.mk (Kd.R_elder' (by (with_reducible repeat (first | apply Kd.R_alloc | apply Kd.R_drewN | apply Kd.R_drew)); exact HO509.out) (Kd.R_base ho0) hb); have n2_ := Aside0.mk (Kd.R_lower (Kd.R_new' ho0 (Kd.R_lt (by (with_reducible repeat (first | apply Kd.R_alloc | apply Kd.R_drewN | apply Kd.R_drew)); exact HO509.out))) (below_size (by repeat (first | (with_reducible first | exact HB.out | apply below_alloc | apply pw_below_drewN | apply below_drew1) | exact HB.out)))); have n3_ := Aside0.mk (below_step (by repeat (first | (with_reducible first | exact HB.out | apply below_alloc | apply pw_below_drewN | apply below_drew1) | exact HB.out)) hb); clear HO_8; clear HO509; clear HB; have HO_8 := n0_; have HO509 := n1_; have HO512 := n2_; have HB := n3_; clear n0_ n1_ n2_ n3_; (try clear hb); (try clear hb2); (try clear hk); (try clear hi); (try clear ho0); obtain ⟨Ao38, co38, eo38⟩ := Kd.R_slice HO509.out; subst eo38; obtain ⟨Ao39, co39, eo39⟩ := Kd.R_slice HO512.out; subst eo39) | ((with_reducible refine gate_callee (f := 43) rfl ?_); refine goesL_ (some 90) rfl rfl Tryd.func43 (by kernel_rfl) rfl #[.slice Ao38 t507.length co38, .slice Ao39 t510.length co39] rfl (by (try simp only [List.map_toArray, List.map_cons, List.map_nil]); first | done | rfl | (simp only [List.length_drop, List.length_take]; rfl)) ?_; (with_reducible refine (lampblackref03_Act.calls kj11 _ _ t507 _ _ t510 true _ ?side1 ?side2 ?side3 ?side4 A33.out).mono ?_); (case side1 => repeat (first | exact (Kd.R_reads' HO509.out).2.2 | (with_reducible refine Kd.C_alloc ?_ _) | (with_reducible refine Kd.C_drewN ?_ _) | (with_reducible refine Kd.C_drew ?_))); (case side2 => exact (Kd.R_reads' HO509.out).2.1); (case side3 => repeat (first | exact (Kd.R_reads' HO512.out).2.2 | (with_reducible refine Kd.C_alloc ?_ _) | (with_reducible refine Kd.C_drewN ?_ _) | (with_reducible refine Kd.C_drew ?_))); (case side4 => exact (Kd.R_reads' HO512.out).2.1); rintro e w' ⟨rfl, ⟨nd, rfl⟩⟩; refine ⟨_, rfl, ?_⟩))
              go_ret
              exact ⟨by first | rfl | (simp [errW_none, errW_some] <;> rfl) | (simp [*, errW_none, errW_some] <;> rfl), by repeat (first | (with_reducible first | exact HB.out | apply below_alloc | apply pw_below_drewN | apply below_drew1) | exact HB.out)⟩
            · replace c34 := Bool.eq_false_iff.mpr c34
              subst c34
              have H1 : (some false) = some r := by rw [if_neg (show ¬ (false = true) by decide)] at H; exact H
              clear H
              have H := H1
              clear H1
              obtain rfl := Option.some.inj H
              obtain ⟨Ao40, co40, eo40⟩ := Kd.R_slice HO_8.out
              subst eo40
              go_wp2_with (first | ((with_reducible refine gate_callee (f := 25) rfl ?_); refine goesL_ (some 86) rfl rfl Tryd.func25 (by kernel_rfl) rfl #[.slice Ao40 t498.length co40] rfl (by (try simp only [List.map_toArray, List.map_cons, List.map_nil]); first | done | rfl | (simp only [List.length_drop, List.length_take]; rfl)) ?_; (with_reducible refine (lampblacklaw03_own.calls kj11 _ _ t498 t507 _ ?side1 ?side2 A31.out).mono ?_); (case side1 => repeat (first | exact (Kd.R_reads' HO_8.out).2.2 | (with_reducible refine Kd.C_alloc ?_ _) | (with_reducible refine Kd.C_drewN ?_ _) | (with_reducible refine Kd.C_drew ?_))); (case side2 => exact (Kd.R_reads' HO_8.out).2.1); rintro e w41 ⟨v508, rfl, ho0, hb⟩; refine ⟨_, rfl, ?_⟩; have n0_ := Aside0.mk (Kd.R_below (by (with_reducible repeat (first | apply Kd.R_alloc | apply Kd.R_drewN | apply Kd.R_drew)); exact HO_8.out) hb); have n1_ := Aside0.mk (Kd.R_lower ho0 (below_size (by repeat (first | (with_reducible first | exact HB.out | apply below_alloc | apply pw_below_drewN | apply below_drew1) | exact HB.out)))); have n2_ := Aside0.mk (below_step (by repeat (first | (with_reducible first | exact HB.out | apply below_alloc | apply pw_below_drewN | apply below_drew1) | exact HB.out)) hb); clear HO_8; clear HB; have HO_8 := n0_; have HO509 := n1_; have HB := n2_; clear n0_ n1_ n2_; (try clear hb); (try clear hb2); (try clear hk); (try clear hi); (try clear ho0)) | ((with_reducible refine gate_callee (f := 44) rfl ?_); refine goesL_ (some 89) rfl rfl Tryd.func44 (by kernel_rfl) rfl #[.slice A0 l0.length c0, .slice A1 l1.length c1] rfl (by (try simp only [List.map_toArray, List.map_cons, List.map_nil]); first | done | rfl | (simp only [List.length_drop, List.length_take]; rfl)) ?_; (with_reducible refine (lampblackref03_Follow.calls kj11 _ _ l0 _ _ l1 t510 _ ?side1 ?side2 ?side3 ?side4 A32.out).mono ?_); (case side1 => repeat (first | exact (Kd.C_below HR0.out HB.out) | (with_reducible refine Kd.C_alloc ?_ _) | (with_reducible refine Kd.C_drewN ?_ _) | (with_reducible refine Kd.C_drew ?_))); (case side2 => exact HC0.out); (case side3 => repeat (first | exact (Kd.C_below HR1.out HB.out) | (with_reducible refine Kd.C_alloc ?_ _) | (with_reducible refine Kd.C_drewN ?_ _) | (with_reducible refine Kd.C_drew ?_))); (case side4 => exact HC1.out); rintro e w42 ⟨v511, rfl, ho0, hb⟩; refine ⟨_, rfl, ?_⟩; have n0_ := Aside0.mk (Kd.R_below (by (with_reducible repeat (first | apply Kd.R_alloc | apply Kd.R_drewN | apply Kd.R_drew)); exact HO_8.out) hb); have n1_ := Aside0.mk (Kd.R_elder' (by (with_reducible repeat (first | apply Kd.R_alloc | apply Kd.R_drewN | apply Kd.R_drew)); exact HO509.out) (Kd.R_base ho0) hb); have n2_ := Aside0.mk (Kd.R_lower (Kd.R_new' ho0 (Kd.R_lt (by (with_reducible repeat (first | apply Kd.R_alloc | apply Kd.R_drewN | apply Kd.R_drew)); exact HO509.out))) (below_size (by repeat (first | (with_reducible first | exact HB.out | apply below_alloc | apply pw_below_drewN | apply below_drew1) | exact HB.out)))); have n3_ := Aside0.mk (below_step (by repeat (first | (with_reducible first | exact HB.out | apply below_alloc | apply pw_below_drewN | apply below_drew1) | exact HB.out)) hb); clear HO_8; clear HO509; clear HB; have HO_8 := n0_; have HO509 := n1_; have HO512 := n2_; have HB := n3_; clear n0_ n1_ n2_ n3_; (try clear hb); (try clear hb2); (try clear hk); (try clear hi); (try clear ho0); obtain ⟨Ao43, co43, eo43⟩ := Kd.R_slice HO509.out; subst eo43; obtain ⟨Ao44, co44, eo44⟩ := Kd.R_slice HO512.out; subst eo44) | ((with_reducible refine gate_callee (f := 43) rfl ?_); refine goesL_ (some 90) rfl rfl Tryd.func43 (by kernel_rfl) rfl #[.slice Ao43 t507.length co43, .slice Ao44 t510.length co44] rfl (by (try simp only [List.map_toArray, List.map_cons, List.map_nil]); first | done | rfl | (simp only [List.length_drop, List.length_take]; rfl)) ?_; (with_reducible refine (lampblackref03_Act.calls kj11 _ _ t507 _ _ t510 false _ ?side1 ?side2 ?side3 ?side4 A33.out).mono ?_); (case side1 => repeat (first | exact (Kd.R_reads' HO509.out).2.2 | (with_reducible refine Kd.C_alloc ?_ _) | (with_reducible refine Kd.C_drewN ?_ _) | (with_reducible refine Kd.C_drew ?_))); (case side2 => exact (Kd.R_reads' HO509.out).2.1); (case side3 => repeat (first | exact (Kd.R_reads' HO512.out).2.2 | (with_reducible refine Kd.C_alloc ?_ _) | (with_reducible refine Kd.C_drewN ?_ _) | (with_reducible refine Kd.C_drew ?_))); (case side4 => exact (Kd.R_reads' HO512.out).2.1); rintro e w' ⟨rfl, ⟨nd, rfl⟩⟩; refine ⟨_, rfl, ?_⟩))
              go_ret
              exact ⟨by first | rfl | (simp [errW_none, errW_some] <;> rfl) | (simp [*, errW_none, errW_some] <;> rfl), by repeat (first | (with_reducible first | exact HB.out | apply below_alloc | apply pw_below_drewN | apply below_drew1) | exact HB.out)⟩
          · replace c30 := Bool.eq_false_iff.mpr c30
            subst c30
            have H1 : (if (t498.length : Int) = 0 then (some (t499 == 2)) else (some false)) = some r := by rw [if_neg (show ¬ (false = true) by decide)] at H; exact H
            clear H
            have H := H1
            clear H1
            by_cases c45 : (t498.length : Int) = 0
            · rw [if_pos c45] at H
              have c45b0 : ((t498.length : Int) == 0) = true := beq_iff_eq.mpr c45
              have c45b1 : ((t498.length : Int) != 0) = false := bne_eq_false_iff_eq.mpr c45
              clear c45
              obtain rfl := Option.some.inj H
              obtain ⟨Ao46, co46, eo46⟩ := Kd.R_slice HO_8.out
              subst eo46
              go_wp2
              go_ret
              exact ⟨by first | rfl | (simp [errW_none, errW_some] <;> rfl) | (simp [*, errW_none, errW_some] <;> rfl), by repeat (first | (with_reducible first | exact HB.out | apply below_alloc | apply pw_below_drewN | apply below_drew1) | exact HB.out)⟩
            · rw [if_neg c45] at H
              have c45b0 : ((t498.length : Int) == 0) = false := beq_eq_false_iff_ne.mpr c45
              have c45b1 : ((t498.length : Int) != 0) = true := bne_iff_ne.mpr c45
              have c45b2 : ¬ (t498 = []) := fun h_ => c45 (by rw [h_]; rfl)
              obtain rfl := Option.some.inj H
              obtain ⟨Ao47, co47, eo47⟩ := Kd.R_slice HO_8.out
              subst eo47
              go_wp2
              go_ret
              exact ⟨by first | rfl | (simp [errW_none, errW_some] <;> rfl) | (simp [*, errW_none, errW_some] <;> rfl), by repeat (first | (with_reducible first | exact HB.out | apply below_alloc | apply pw_below_drewN | apply below_drew1) | exact HB.out)⟩
  · replace c10 := Bool.eq_false_iff.mpr c10
    subst c10
    have H1 : (if t489 = 0 then (if t490 = true then (some false) else (if (t498.length : Int) = 0 then (if t491 = 2 then (if t499 = 2 then ((lampblacklaw03_awake.f k).bind fun t503 => (some t503)) else (some false)) else (some false)) else (some false))) else (some false)) = some r := by rw [if_neg (show ¬ (false = true) by decide)] at H; exact H
    clear H
    have H := H1
    clear H1
    by_cases c48 : t489 = 0
    · rw [if_pos c48] at H
      have c48b0 : (t489 == 0) = true := beq_iff_eq.mpr c48
      have c48b1 : (t489 != 0) = false := bne_eq_false_iff_eq.mpr c48
      clear c48
      by_cases c49 : t490 = true
      · subst c49
        have H1 : (some false) = some r := by rw [if_pos rfl] at H; exact H
        clear H
        have H := H1
        clear H1
        obtain rfl := Option.some.inj H
        go_enter Tryd.func12, Tryd.ntmps12
        go_wp2_with (first | ((with_reducible refine gate_callee (f := 18) rfl ?_); refine goesL_ (some 14) rfl rfl Tryd.func18 (by kernel_rfl) rfl #[.slice A0 l0.length c0] rfl (by (try simp only [List.map_toArray, List.map_cons, List.map_nil]); first | done | rfl | (simp only [List.length_drop, List.length_take]; rfl)) ?_; (with_reducible refine (lampblacklaw03_Few.calls _ _ l0 t483 _ ?side1 ?side2 A3.out).mono ?_); (case side1 => repeat (first | exact HR0.out | (with_reducible refine Kd.C_alloc ?_ _) | (with_reducible refine Kd.C_drewN ?_ _) | (with_reducible refine Kd.C_drew ?_))); (case side2 => exact HC0.out); rintro e w50 ⟨v484, rfl, ho0, hb⟩; refine ⟨_, rfl, ?_⟩; have n0_ := Aside0.mk (Kd.R_lower ho0 (below_size (by repeat (first | (with_reducible first | exact HB.out | apply below_alloc | apply pw_below_drewN | apply below_drew1) | exact HB.out)))); have n1_ := Aside0.mk (below_step (by repeat (first | (with_reducible first | exact HB.out | apply below_alloc | apply pw_below_drewN | apply below_drew1) | exact HB.out)) hb); clear HB; have HO485 := n0_; have HB := n1_; clear n0_ n1_; (try clear hb); (try clear hb2); (try clear hk); (try clear hi); (try clear ho0)) | ((with_reducible refine gate_callee (f := 27) rfl ?_); refine goesL_ (some 16) rfl rfl Tryd.func27 (by kernel_rfl) rfl #[.slice A1 l1.length c1] rfl (by (try simp only [List.map_toArray, List.map_cons, List.map_nil]); first | done | rfl | (simp only [List.length_drop, List.length_take]; rfl)) ?_; (with_reducible refine (lampblacklaw03_list.calls _ _ l1 t486 _ ?side1 ?side2 A4.out).mono ?_); (case side1 => repeat (first | exact (Kd.C_below HR1.out HB.out) | (with_reducible refine Kd.C_alloc ?_ _) | (with_reducible refine Kd.C_drewN ?_ _) | (with_reducible refine Kd.C_drew ?_))); (case side2 => exact HC1.out); rintro e w51 ⟨v487, rfl, ho0, hb⟩; refine ⟨_, rfl, ?_⟩; have n0_ := Aside0.mk (Kd.R_elder' (by (with_reducible repeat (first | apply Kd.R_alloc | apply Kd.R_drewN | apply Kd.R_drew)); exact HO485.out) (Kd.R_base ho0) hb); have n1_ := Aside0.mk (Kd.R_lower (Kd.R_new' ho0 (Kd.R_lt (by (with_reducible repeat (first | apply Kd.R_alloc | apply Kd.R_drewN | apply Kd.R_drew)); exact HO485.out))) (below_size (by repeat (first | (with_reducible first | exact HB.out | apply below_alloc | apply pw_below_drewN | apply below_drew1) | exact HB.out)))); have n2_ := Aside0.mk (below_step (by repeat (first | (with_reducible first | exact HB.out | apply below_alloc | apply pw_below_drewN | apply below_drew1) | exact HB.out)) hb); clear HO485; clear HB; have HO485 := n0_; have HO488 := n1_; have HB := n2_; clear n0_ n1_ n2_; (try clear hb); (try clear hb2); (try clear hk); (try clear hi); (try clear ho0); obtain ⟨Ao52, co52, eo52⟩ := Kd.R_slice HO485.out; subst eo52; obtain ⟨Ao53, co53, eo53⟩ := Kd.R_slice HO488.out; subst eo53) | ((with_reducible refine gate_callee (f := 36) rfl ?_); refine goesL_ (some 17) rfl rfl Tryd.func36 (by kernel_rfl) rfl #[.slice Ao52 t483.length co52, .slice Ao53 t486.length co53] rfl (by (try simp only [List.map_toArray, List.map_cons, List.map_nil]); first | done | rfl | (simp only [List.length_drop, List.length_take]; rfl)) ?_; (with_reducible refine (sweep_Check.calls k _ _ t483 _ _ t486 t489 true t491 _ ?side1 ?side2 ?side3 ?side4 A5.out).mono ?_); (case side1 => repeat (first | exact (Kd.R_reads' HO485.out).2.2 | (with_reducible refine Kd.C_alloc ?_ _) | (with_reducible refine Kd.C_drewN ?_ _) | (with_reducible refine Kd.C_drew ?_))); (case side2 => exact (Kd.R_reads' HO485.out).2.1); (case side3 => repeat (first | exact (Kd.R_reads' HO488.out).2.2 | (with_reducible refine Kd.C_alloc ?_ _) | (with_reducible refine Kd.C_drewN ?_ _) | (with_reducible refine Kd.C_drew ?_))); (case side4 => exact (Kd.R_reads' HO488.out).2.1); rintro e w54 ⟨rfl, hb⟩; refine ⟨_, rfl, ?_⟩; have n0_ := Aside0.mk (Kd.R_below (by (with_reducible repeat (first | apply Kd.R_alloc | apply Kd.R_drewN | apply Kd.R_drew)); exact HO485.out) hb); have n1_ := Aside0.mk (Kd.R_below (by (with_reducible repeat (first | apply Kd.R_alloc | apply Kd.R_drewN | apply Kd.R_drew)); exact HO488.out) hb); have n2_ := Aside0.mk (below_step (by repeat (first | (with_reducible first | exact HB.out | apply below_alloc | apply pw_below_drewN | apply below_drew1) | exact HB.out)) hb); clear HO485; clear HO488; clear HB; have HO485 := n0_; have HO488 := n1_; have HB := n2_; clear n0_ n1_ n2_; (try clear hb); (try clear hb2); (try clear hk); (try clear hi)) | ((with_reducible refine gate_callee (f := 18) rfl ?_); refine goesL_ (some 23) rfl rfl Tryd.func18 (by kernel_rfl) rfl #[.slice A0 l0.length c0] rfl (by (try simp only [List.map_toArray, List.map_cons, List.map_nil]); first | done | rfl | (simp only [List.length_drop, List.length_take]; rfl)) ?_; (with_reducible refine (lampblacklaw03_Few.calls _ _ l0 t492 _ ?side1 ?side2 A6.out).mono ?_); (case side1 => repeat (first | exact (Kd.C_below HR0.out HB.out) | (with_reducible refine Kd.C_alloc ?_ _) | (with_reducible refine Kd.C_drewN ?_ _) | (with_reducible refine Kd.C_drew ?_))); (case side2 => exact HC0.out); rintro e w55 ⟨v493, rfl, ho0, hb⟩; refine ⟨_, rfl, ?_⟩; have n0_ := Aside0.mk (Kd.R_elder' (by (with_reducible repeat (first | apply Kd.R_alloc | apply Kd.R_drewN | apply Kd.R_drew)); exact HO485.out) (Kd.R_base ho0) hb); have n1_ := Aside0.mk (Kd.R_elder' (by (with_reducible repeat (first | apply Kd.R_alloc | apply Kd.R_drewN | apply Kd.R_drew)); exact HO488.out) (Kd.R_base ho0) hb); have n2_ := Aside0.mk (Kd.R_lower (Kd.R_new' (Kd.R_new' ho0 (Kd.R_lt (by (with_reducible repeat (first | apply Kd.R_alloc | apply Kd.R_drewN | apply Kd.R_drew)); exact HO485.out))) (Kd.R_lt (by (with_reducible repeat (first | apply Kd.R_alloc | apply Kd.R_drewN | apply Kd.R_drew)); exact HO488.out))) (below_size (by repeat (first | (with_reducible first | exact HB.out | apply below_alloc | apply pw_below_drewN | apply below_drew1) | exact HB.out)))); have n3_ := Aside0.mk (below_step (by repeat (first | (with_reducible first | exact HB.out | apply below_alloc | apply pw_below_drewN | apply below_drew1) | exact HB.out)) hb); clear HO485; clear HO488; clear HB; have HO485 := n0_; have HO488 := n1_; have HO494 := n2_; have HB := n3_; clear n0_ n1_ n2_ n3_; (try clear hb); (try clear hb2); (try clear hk); (try clear hi); (try clear ho0)) | ((with_reducible refine gate_callee (f := 27) rfl ?_); refine goesL_ (some 25) rfl rfl Tryd.func27 (by kernel_rfl) rfl #[.slice A1 l1.length c1] rfl (by (try simp only [List.map_toArray, List.map_cons, List.map_nil]); first | done | rfl | (simp only [List.length_drop, List.length_take]; rfl)) ?_; (with_reducible refine (lampblacklaw03_list.calls _ _ l1 t495 _ ?side1 ?side2 A7.out).mono ?_); (case side1 => repeat (first | exact (Kd.C_below HR1.out HB.out) | (with_reducible refine Kd.C_alloc ?_ _) | (with_reducible refine Kd.C_drewN ?_ _) | (with_reducible refine Kd.C_drew ?_))); (case side2 => exact HC1.out); rintro e w56 ⟨v496, rfl, ho0, hb⟩; refine ⟨_, rfl, ?_⟩; have n0_ := Aside0.mk (Kd.R_elder' (by (with_reducible repeat (first | apply Kd.R_alloc | apply Kd.R_drewN | apply Kd.R_drew)); exact HO485.out) (Kd.R_base ho0) hb); have n1_ := Aside0.mk (Kd.R_elder' (by (with_reducible repeat (first | apply Kd.R_alloc | apply Kd.R_drewN | apply Kd.R_drew)); exact HO488.out) (Kd.R_base ho0) hb); have n2_ := Aside0.mk (Kd.R_elder' (by (with_reducible repeat (first | apply Kd.R_alloc | apply Kd.R_drewN | apply Kd.R_drew)); exact HO494.out) (Kd.R_base ho0) hb); have n3_ := Aside0.mk (Kd.R_lower (Kd.R_new' (Kd.R_new' (Kd.R_new' ho0 (Kd.R_lt (by (with_reducible repeat (first | apply Kd.R_alloc | apply Kd.R_drewN | apply Kd.R_drew)); exact HO485.out))) (Kd.R_lt (by (with_reducible repeat (first | apply Kd.R_alloc | apply Kd.R_drewN | apply Kd.R_drew)); exact HO488.out))) (Kd.R_lt (by (with_reducible repeat (first | apply Kd.R_alloc | apply Kd.R_drewN | apply Kd.R_drew)); exact HO494.out))) (below_size (by repeat (first | (with_reducible first | exact HB.out | apply below_alloc | apply pw_below_drewN | apply below_drew1) | exact HB.out)))); have n4_ := Aside0.mk (below_step (by repeat (first | (with_reducible first | exact HB.out | apply below_alloc | apply pw_below_drewN | apply below_drew1) | exact HB.out)) hb); clear HO485; clear HO488; clear HO494; clear HB; have HO485 := n0_; have HO488 := n1_; have HO494 := n2_; have HO497 := n3_; have HB := n4_; clear n0_ n1_ n2_ n3_ n4_; (try clear hb); (try clear hb2); (try clear hk); (try clear hi); (try clear ho0); obtain ⟨Ao57, co57, eo57⟩ := Kd.R_slice HO494.out; subst eo57; obtain ⟨Ao58, co58, eo58⟩ := Kd.R_slice HO497.out; subst eo58) | ((with_reducible refine gate_callee (f := 41) rfl ?_); refine goesL_ (some 26) rfl rfl Tryd.func41 (by kernel_rfl) rfl #[.slice Ao57 t492.length co57, .slice Ao58 t495.length co58] rfl (by (try simp only [List.map_toArray, List.map_cons, List.map_nil]); first | done | rfl | (simp only [List.length_drop, List.length_take]; rfl)) ?_; (with_reducible refine (sweep_Follow.calls (hGL := (by repeat (first | (with_reducible exact HGL.out) | (with_reducible exact GL_below HGL.out HB.out) | (with_reducible refine GL_alloc ?_ _) | (with_reducible refine GL_drewN ?_ _) | (with_reducible refine GL_drew ?_)))) k _ _ t492 _ _ t495 t498 t499 _ ?side1 ?side2 ?side3 ?side4 A8.out).mono ?_); (case side1 => repeat (first | exact (Kd.R_reads' HO494.out).2.2 | (with_reducible refine Kd.C_alloc ?_ _) | (with_reducible refine Kd.C_drewN ?_ _) | (with_reducible refine Kd.C_drew ?_))); (case side2 => exact (Kd.R_reads' HO494.out).2.1); (case side3 => repeat (first | exact (Kd.R_reads' HO497.out).2.2 | (with_reducible refine Kd.C_alloc ?_ _) | (with_reducible refine Kd.C_drewN ?_ _) | (with_reducible refine Kd.C_drew ?_))); (case side4 => exact (Kd.R_reads' HO497.out).2.1); rintro e w59 ⟨v500, rfl, ho0, hb⟩; refine ⟨_, rfl, ?_⟩; have n0_ := Aside0.mk (Kd.R_below (by (with_reducible repeat (first | apply Kd.R_alloc | apply Kd.R_drewN | apply Kd.R_drew)); exact HO485.out) hb); have n1_ := Aside0.mk (Kd.R_below (by (with_reducible repeat (first | apply Kd.R_alloc | apply Kd.R_drewN | apply Kd.R_drew)); exact HO488.out) hb); have n2_ := Aside0.mk (Kd.R_below (by (with_reducible repeat (first | apply Kd.R_alloc | apply Kd.R_drewN | apply Kd.R_drew)); exact HO494.out) hb); have n3_ := Aside0.mk (Kd.R_below (by (with_reducible repeat (first | apply Kd.R_alloc | apply Kd.R_drewN | apply Kd.R_drew)); exact HO497.out) hb); have n4_ := Aside0.mk (Kd.R_lower ho0 (below_size (by repeat (first | (with_reducible first | exact HB.out | apply below_alloc | apply pw_below_drewN | apply below_drew1) | exact HB.out)))); have n5_ := Aside0.mk (below_step (by repeat (first | (with_reducible first | exact HB.out | apply below_alloc | apply pw_below_drewN | apply below_drew1) | exact HB.out)) hb); clear HO485; clear HO488; clear HO494; clear HO497; clear HB; have HO485 := n0_; have HO488 := n1_; have HO494 := n2_; have HO497 := n3_; have HO501 := n4_; have HB := n5_; clear n0_ n1_ n2_ n3_ n4_ n5_; (try clear hb); (try clear hb2); (try clear hk); (try clear hi); (try clear ho0)) | ((with_reducible refine gate_callee (f := 19) rfl ?_); refine goesL_ (some 30) rfl rfl Tryd.func19 (by kernel_rfl) rfl #[.slice A0 l0.length c0] rfl (by (try simp only [List.map_toArray, List.map_cons, List.map_nil]); first | done | rfl | (simp only [List.length_drop, List.length_take]; rfl)) ?_; (with_reducible refine (lampblackref03_Valid.calls k _ _ l0 false _ ?side1 ?side2 A9.out).mono ?_); (case side1 => repeat (first | exact (Kd.C_below HR0.out HB.out) | (with_reducible refine Kd.C_alloc ?_ _) | (with_reducible refine Kd.C_drewN ?_ _) | (with_reducible refine Kd.C_drew ?_))); (case side2 => exact HC0.out); rintro e w' ⟨rfl, ⟨nd, rfl⟩⟩; refine ⟨_, rfl, ?_⟩))
        go_ret
        exact ⟨by first | rfl | (simp [errW_none, errW_some] <;> rfl) | (simp [*, errW_none, errW_some] <;> rfl), by repeat (first | (with_reducible first | exact HB.out | apply below_alloc | apply pw_below_drewN | apply below_drew1) | exact HB.out)⟩
      · replace c49 := Bool.eq_false_iff.mpr c49
        subst c49
        have H1 : (if (t498.length : Int) = 0 then (if t491 = 2 then (if t499 = 2 then ((lampblacklaw03_awake.f k).bind fun t503 => (some t503)) else (some false)) else (some false)) else (some false)) = some r := by rw [if_neg (show ¬ (false = true) by decide)] at H; exact H
        clear H
        have H := H1
        clear H1
        by_cases c60 : (t498.length : Int) = 0
        · rw [if_pos c60] at H
          have c60b0 : ((t498.length : Int) == 0) = true := beq_iff_eq.mpr c60
          have c60b1 : ((t498.length : Int) != 0) = false := bne_eq_false_iff_eq.mpr c60
          clear c60
          by_cases c61 : t491 = 2
          · rw [if_pos c61] at H
            have c61b0 : (t491 == 2) = true := beq_iff_eq.mpr c61
            have c61b1 : (t491 != 2) = false := bne_eq_false_iff_eq.mpr c61
            clear c61
            by_cases c62 : t499 = 2
            · rw [if_pos c62] at H
              have c62b0 : (t499 == 2) = true := beq_iff_eq.mpr c62
              have c62b1 : (t499 != 2) = false := bne_eq_false_iff_eq.mpr c62
              clear c62
              replace H := Option.bind_eq_some_iff.mp H
              obtain ⟨t503, A630, H⟩ := H
              replace H : (some t503) = some r := H
              have A63 := Aside0.mk A630
              clear A630
              obtain rfl := Option.some.inj H
              go_enter Tryd.func12, Tryd.ntmps12
              go_wp2_with (first | ((with_reducible refine gate_callee (f := 18) rfl ?_); refine goesL_ (some 14) rfl rfl Tryd.func18 (by kernel_rfl) rfl #[.slice A0 l0.length c0] rfl (by (try simp only [List.map_toArray, List.map_cons, List.map_nil]); first | done | rfl | (simp only [List.length_drop, List.length_take]; rfl)) ?_; (with_reducible refine (lampblacklaw03_Few.calls _ _ l0 t483 _ ?side1 ?side2 A3.out).mono ?_); (case side1 => repeat (first | exact HR0.out | (with_reducible refine Kd.C_alloc ?_ _) | (with_reducible refine Kd.C_drewN ?_ _) | (with_reducible refine Kd.C_drew ?_))); (case side2 => exact HC0.out); rintro e w64 ⟨v484, rfl, ho0, hb⟩; refine ⟨_, rfl, ?_⟩; have n0_ := Aside0.mk (Kd.R_lower ho0 (below_size (by repeat (first | (with_reducible first | exact HB.out | apply below_alloc | apply pw_below_drewN | apply below_drew1) | exact HB.out)))); have n1_ := Aside0.mk (below_step (by repeat (first | (with_reducible first | exact HB.out | apply below_alloc | apply pw_below_drewN | apply below_drew1) | exact HB.out)) hb); clear HB; have HO485 := n0_; have HB := n1_; clear n0_ n1_; (try clear hb); (try clear hb2); (try clear hk); (try clear hi); (try clear ho0)) | ((with_reducible refine gate_callee (f := 27) rfl ?_); refine goesL_ (some 16) rfl rfl Tryd.func27 (by kernel_rfl) rfl #[.slice A1 l1.length c1] rfl (by (try simp only [List.map_toArray, List.map_cons, List.map_nil]); first | done | rfl | (simp only [List.length_drop, List.length_take]; rfl)) ?_; (with_reducible refine (lampblacklaw03_list.calls _ _ l1 t486 _ ?side1 ?side2 A4.out).mono ?_); (case side1 => repeat (first | exact (Kd.C_below HR1.out HB.out) | (with_reducible refine Kd.C_alloc ?_ _) | (with_reducible refine Kd.C_drewN ?_ _) | (with_reducible refine Kd.C_drew ?_))); (case side2 => exact HC1.out); rintro e w65 ⟨v487, rfl, ho0, hb⟩; refine ⟨_, rfl, ?_⟩; have n0_ := Aside0.mk (Kd.R_elder' (by (with_reducible repeat (first | apply Kd.R_alloc | apply Kd.R_drewN | apply Kd.R_drew)); exact HO485.out) (Kd.R_base ho0) hb); have n1_ := Aside0.mk (Kd.R_lower (Kd.R_new' ho0 (Kd.R_lt (by (with_reducible repeat (first | apply Kd.R_alloc | apply Kd.R_drewN | apply Kd.R_drew)); exact HO485.out))) (below_size (by repeat (first | (with_reducible first | exact HB.out | apply below_alloc | apply pw_below_drewN | apply below_drew1) | exact HB.out)))); have n2_ := Aside0.mk (below_step (by repeat (first | (with_reducible first | exact HB.out | apply below_alloc | apply pw_below_drewN | apply below_drew1) | exact HB.out)) hb); clear HO485; clear HB; have HO485 := n0_; have HO488 := n1_; have HB := n2_; clear n0_ n1_ n2_; (try clear hb); (try clear hb2); (try clear hk); (try clear hi); (try clear ho0); obtain ⟨Ao66, co66, eo66⟩ := Kd.R_slice HO485.out; subst eo66; obtain ⟨Ao67, co67, eo67⟩ := Kd.R_slice HO488.out; subst eo67) | ((with_reducible refine gate_callee (f := 36) rfl ?_); refine goesL_ (some 17) rfl rfl Tryd.func36 (by kernel_rfl) rfl #[.slice Ao66 t483.length co66, .slice Ao67 t486.length co67] rfl (by (try simp only [List.map_toArray, List.map_cons, List.map_nil]); first | done | rfl | (simp only [List.length_drop, List.length_take]; rfl)) ?_; (with_reducible refine (sweep_Check.calls k _ _ t483 _ _ t486 t489 false t491 _ ?side1 ?side2 ?side3 ?side4 A5.out).mono ?_); (case side1 => repeat (first | exact (Kd.R_reads' HO485.out).2.2 | (with_reducible refine Kd.C_alloc ?_ _) | (with_reducible refine Kd.C_drewN ?_ _) | (with_reducible refine Kd.C_drew ?_))); (case side2 => exact (Kd.R_reads' HO485.out).2.1); (case side3 => repeat (first | exact (Kd.R_reads' HO488.out).2.2 | (with_reducible refine Kd.C_alloc ?_ _) | (with_reducible refine Kd.C_drewN ?_ _) | (with_reducible refine Kd.C_drew ?_))); (case side4 => exact (Kd.R_reads' HO488.out).2.1); rintro e w68 ⟨rfl, hb⟩; refine ⟨_, rfl, ?_⟩; have n0_ := Aside0.mk (Kd.R_below (by (with_reducible repeat (first | apply Kd.R_alloc | apply Kd.R_drewN | apply Kd.R_drew)); exact HO485.out) hb); have n1_ := Aside0.mk (Kd.R_below (by (with_reducible repeat (first | apply Kd.R_alloc | apply Kd.R_drewN | apply Kd.R_drew)); exact HO488.out) hb); have n2_ := Aside0.mk (below_step (by repeat (first | (with_reducible first | exact HB.out | apply below_alloc | apply pw_below_drewN | apply below_drew1) | exact HB.out)) hb); clear HO485; clear HO488; clear HB; have HO485 := n0_; have HO488 := n1_; have HB := n2_; clear n0_ n1_ n2_; (try clear hb); (try clear hb2); (try clear hk); (try clear hi)) | ((with_reducible refine gate_callee (f := 18) rfl ?_); refine goesL_ (some 23) rfl rfl Tryd.func18 (by kernel_rfl) rfl #[.slice A0 l0.length c0] rfl (by (try simp only [List.map_toArray, List.map_cons, List.map_nil]); first | done | rfl | (simp only [List.length_drop, List.length_take]; rfl)) ?_; (with_reducible refine (lampblacklaw03_Few.calls _ _ l0 t492 _ ?side1 ?side2 A6.out).mono ?_); (case side1 => repeat (first | exact (Kd.C_below HR0.out HB.out) | (with_reducible refine Kd.C_alloc ?_ _) | (with_reducible refine Kd.C_drewN ?_ _) | (with_reducible refine Kd.C_drew ?_))); (case side2 => exact HC0.out); rintro e w69 ⟨v493, rfl, ho0, hb⟩; refine ⟨_, rfl, ?_⟩; have n0_ := Aside0.mk (Kd.R_elder' (by (with_reducible repeat (first | apply Kd.R_alloc | apply Kd.R_drewN | apply Kd.R_drew)); exact HO485.out) (Kd.R_base ho0) hb); have n1_ := Aside0.mk (Kd.R_elder' (by (with_reducible repeat (first | apply Kd.R_alloc | apply Kd.R_drewN | apply Kd.R_drew)); exact HO488.out) (Kd.R_base ho0) hb); have n2_ := Aside0.mk (Kd.R_lower (Kd.R_new' (Kd.R_new' ho0 (Kd.R_lt (by (with_reducible repeat (first | apply Kd.R_alloc | apply Kd.R_drewN | apply Kd.R_drew)); exact HO485.out))) (Kd.R_lt (by (with_reducible repeat (first | apply Kd.R_alloc | apply Kd.R_drewN | apply Kd.R_drew)); exact HO488.out))) (below_size (by repeat (first | (with_reducible first | exact HB.out | apply below_alloc | apply pw_below_drewN | apply below_drew1) | exact HB.out)))); have n3_ := Aside0.mk (below_step (by repeat (first | (with_reducible first | exact HB.out | apply below_alloc | apply pw_below_drewN | apply below_drew1) | exact HB.out)) hb); clear HO485; clear HO488; clear HB; have HO485 := n0_; have HO488 := n1_; have HO494 := n2_; have HB := n3_; clear n0_ n1_ n2_ n3_; (try clear hb); (try clear hb2); (try clear hk); (try clear hi); (try clear ho0)) | ((with_reducible refine gate_callee (f := 27) rfl ?_); refine goesL_ (some 25) rfl rfl Tryd.func27 (by kernel_rfl) rfl #[.slice A1 l1.length c1] rfl (by (try simp only [List.map_toArray, List.map_cons, List.map_nil]); first | done | rfl | (simp only [List.length_drop, List.length_take]; rfl)) ?_; (with_reducible refine (lampblacklaw03_list.calls _ _ l1 t495 _ ?side1 ?side2 A7.out).mono ?_); (case side1 => repeat (first | exact (Kd.C_below HR1.out HB.out) | (with_reducible refine Kd.C_alloc ?_ _) | (with_reducible refine Kd.C_drewN ?_ _) | (with_reducible refine Kd.C_drew ?_))); (case side2 => exact HC1.out); rintro e w70 ⟨v496, rfl, ho0, hb⟩; refine ⟨_, rfl, ?_⟩; have n0_ := Aside0.mk (Kd.R_elder' (by (with_reducible repeat (first | apply Kd.R_alloc | apply Kd.R_drewN | apply Kd.R_drew)); exact HO485.out) (Kd.R_base ho0) hb); have n1_ := Aside0.mk (Kd.R_elder' (by (with_reducible repeat (first | apply Kd.R_alloc | apply Kd.R_drewN | apply Kd.R_drew)); exact HO488.out) (Kd.R_base ho0) hb); have n2_ := Aside0.mk (Kd.R_elder' (by (with_reducible repeat (first | apply Kd.R_alloc | apply Kd.R_drewN | apply Kd.R_drew)); exact HO494.out) (Kd.R_base ho0) hb); have n3_ := Aside0.mk (Kd.R_lower (Kd.R_new' (Kd.R_new' (Kd.R_new' ho0 (Kd.R_lt (by (with_reducible repeat (first | apply Kd.R_alloc | apply Kd.R_drewN | apply Kd.R_drew)); exact HO485.out))) (Kd.R_lt (by (with_reducible repeat (first | apply Kd.R_alloc | apply Kd.R_drewN | apply Kd.R_drew)); exact HO488.out))) (Kd.R_lt (by (with_reducible repeat (first | apply Kd.R_alloc | apply Kd.R_drewN | apply Kd.R_drew)); exact HO494.out))) (below_size (by repeat (first | (with_reducible first | exact HB.out | apply below_alloc | apply pw_below_drewN | apply below_drew1) | exact HB.out)))); have n4_ := Aside0.mk (below_step (by repeat (first | (with_reducible first | exact HB.out | apply below_alloc | apply pw_below_drewN | apply below_drew1) | exact HB.out)) hb); clear HO485; clear HO488; clear HO494; clear HB; have HO485 := n0_; have HO488 := n1_; have HO494 := n2_; have HO497 := n3_; have HB := n4_; clear n0_ n1_ n2_ n3_ n4_; (try clear hb); (try clear hb2); (try clear hk); (try clear hi); (try clear ho0); obtain ⟨Ao71, co71, eo71⟩ := Kd.R_slice HO494.out; subst eo71; obtain ⟨Ao72, co72, eo72⟩ := Kd.R_slice HO497.out; subst eo72) | ((with_reducible refine gate_callee (f := 41) rfl ?_); refine goesL_ (some 26) rfl rfl Tryd.func41 (by kernel_rfl) rfl #[.slice Ao71 t492.length co71, .slice Ao72 t495.length co72] rfl (by (try simp only [List.map_toArray, List.map_cons, List.map_nil]); first | done | rfl | (simp only [List.length_drop, List.length_take]; rfl)) ?_; (with_reducible refine (sweep_Follow.calls (hGL := (by repeat (first | (with_reducible exact HGL.out) | (with_reducible exact GL_below HGL.out HB.out) | (with_reducible refine GL_alloc ?_ _) | (with_reducible refine GL_drewN ?_ _) | (with_reducible refine GL_drew ?_)))) k _ _ t492 _ _ t495 t498 t499 _ ?side1 ?side2 ?side3 ?side4 A8.out).mono ?_); (case side1 => repeat (first | exact (Kd.R_reads' HO494.out).2.2 | (with_reducible refine Kd.C_alloc ?_ _) | (with_reducible refine Kd.C_drewN ?_ _) | (with_reducible refine Kd.C_drew ?_))); (case side2 => exact (Kd.R_reads' HO494.out).2.1); (case side3 => repeat (first | exact (Kd.R_reads' HO497.out).2.2 | (with_reducible refine Kd.C_alloc ?_ _) | (with_reducible refine Kd.C_drewN ?_ _) | (with_reducible refine Kd.C_drew ?_))); (case side4 => exact (Kd.R_reads' HO497.out).2.1); rintro e w73 ⟨v500, rfl, ho0, hb⟩; refine ⟨_, rfl, ?_⟩; have n0_ := Aside0.mk (Kd.R_below (by (with_reducible repeat (first | apply Kd.R_alloc | apply Kd.R_drewN | apply Kd.R_drew)); exact HO485.out) hb); have n1_ := Aside0.mk (Kd.R_below (by (with_reducible repeat (first | apply Kd.R_alloc | apply Kd.R_drewN | apply Kd.R_drew)); exact HO488.out) hb); have n2_ := Aside0.mk (Kd.R_below (by (with_reducible repeat (first | apply Kd.R_alloc | apply Kd.R_drewN | apply Kd.R_drew)); exact HO494.out) hb); have n3_ := Aside0.mk (Kd.R_below (by (with_reducible repeat (first | apply Kd.R_alloc | apply Kd.R_drewN | apply Kd.R_drew)); exact HO497.out) hb); have n4_ := Aside0.mk (Kd.R_lower ho0 (below_size (by repeat (first | (with_reducible first | exact HB.out | apply below_alloc | apply pw_below_drewN | apply below_drew1) | exact HB.out)))); have n5_ := Aside0.mk (below_step (by repeat (first | (with_reducible first | exact HB.out | apply below_alloc | apply pw_below_drewN | apply below_drew1) | exact HB.out)) hb); clear HO485; clear HO488; clear HO494; clear HO497; clear HB; have HO485 := n0_; have HO488 := n1_; have HO494 := n2_; have HO497 := n3_; have HO501 := n4_; have HB := n5_; clear n0_ n1_ n2_ n3_ n4_ n5_; (try clear hb); (try clear hb2); (try clear hk); (try clear hi); (try clear ho0)) | ((with_reducible refine gate_callee (f := 19) rfl ?_); refine goesL_ (some 30) rfl rfl Tryd.func19 (by kernel_rfl) rfl #[.slice A0 l0.length c0] rfl (by (try simp only [List.map_toArray, List.map_cons, List.map_nil]); first | done | rfl | (simp only [List.length_drop, List.length_take]; rfl)) ?_; (with_reducible refine (lampblackref03_Valid.calls k _ _ l0 false _ ?side1 ?side2 A9.out).mono ?_); (case side1 => repeat (first | exact (Kd.C_below HR0.out HB.out) | (with_reducible refine Kd.C_alloc ?_ _) | (with_reducible refine Kd.C_drewN ?_ _) | (with_reducible refine Kd.C_drew ?_))); (case side2 => exact HC0.out); rintro e w' ⟨rfl, ⟨nd, rfl⟩⟩; refine ⟨_, rfl, ?_⟩; obtain ⟨Ao74, co74, eo74⟩ := Kd.R_slice HO501.out; subst eo74) | (go_at_call 20; (with_reducible refine (lampblacklaw03_awake.calls (hGL := (by repeat (first | (with_reducible exact HGL.out) | (with_reducible exact GL_below HGL.out HB.out) | (with_reducible refine GL_alloc ?_ _) | (with_reducible refine GL_drewN ?_ _) | (with_reducible refine GL_drew ?_)))) k  t503 _ A63.out).mono ?_); rintro e w75 ⟨rfl, hb⟩; have n0_ := Aside0.mk (Kd.R_below (by (with_reducible repeat (first | apply Kd.R_alloc | apply Kd.R_drewN | apply Kd.R_drew)); exact HO485.out) hb); have n1_ := Aside0.mk (Kd.R_below (by (with_reducible repeat (first | apply Kd.R_alloc | apply Kd.R_drewN | apply Kd.R_drew)); exact HO488.out) hb); have n2_ := Aside0.mk (Kd.R_below (by (with_reducible repeat (first | apply Kd.R_alloc | apply Kd.R_drewN | apply Kd.R_drew)); exact HO494.out) hb); have n3_ := Aside0.mk (Kd.R_below (by (with_reducible repeat (first | apply Kd.R_alloc | apply Kd.R_drewN | apply Kd.R_drew)); exact HO497.out) hb); have n4_ := Aside0.mk (Kd.R_below (by (with_reducible repeat (first | apply Kd.R_alloc | apply Kd.R_drewN | apply Kd.R_drew)); exact HO501.out) hb); have n5_ := Aside0.mk (below_step (by repeat (first | (with_reducible first | exact HB.out | apply below_alloc | apply pw_below_drewN | apply below_drew1) | exact HB.out)) hb); clear HO485; clear HO488; clear HO494; clear HO497; clear HO501; clear HB; have HO485 := n0_; have HO488 := n1_; have HO494 := n2_; have HO497 := n3_; have HO501 := n4_; have HB := n5_; clear n0_ n1_ n2_ n3_ n4_ n5_; (try clear hb); (try clear hb2); (try clear hk); (try clear hi)))
              go_ret
              exact ⟨by first | rfl | (simp [errW_none, errW_some] <;> rfl) | (simp [*, errW_none, errW_some] <;> rfl), by repeat (first | (with_reducible first | exact HB.out | apply below_alloc | apply pw_below_drewN | apply below_drew1) | exact HB.out)⟩
            · rw [if_neg c62] at H
              have c62b0 : (t499 == 2) = false := beq_eq_false_iff_ne.mpr c62
              have c62b1 : (t499 != 2) = true := bne_iff_ne.mpr c62
              obtain rfl := Option.some.inj H
              go_enter Tryd.func12, Tryd.ntmps12
              go_wp2_with (first | ((with_reducible refine gate_callee (f := 18) rfl ?_); refine goesL_ (some 14) rfl rfl Tryd.func18 (by kernel_rfl) rfl #[.slice A0 l0.length c0] rfl (by (try simp only [List.map_toArray, List.map_cons, List.map_nil]); first | done | rfl | (simp only [List.length_drop, List.length_take]; rfl)) ?_; (with_reducible refine (lampblacklaw03_Few.calls _ _ l0 t483 _ ?side1 ?side2 A3.out).mono ?_); (case side1 => repeat (first | exact HR0.out | (with_reducible refine Kd.C_alloc ?_ _) | (with_reducible refine Kd.C_drewN ?_ _) | (with_reducible refine Kd.C_drew ?_))); (case side2 => exact HC0.out); rintro e w76 ⟨v484, rfl, ho0, hb⟩; refine ⟨_, rfl, ?_⟩; have n0_ := Aside0.mk (Kd.R_lower ho0 (below_size (by repeat (first | (with_reducible first | exact HB.out | apply below_alloc | apply pw_below_drewN | apply below_drew1) | exact HB.out)))); have n1_ := Aside0.mk (below_step (by repeat (first | (with_reducible first | exact HB.out | apply below_alloc | apply pw_below_drewN | apply below_drew1) | exact HB.out)) hb); clear HB; have HO485 := n0_; have HB := n1_; clear n0_ n1_; (try clear hb); (try clear hb2); (try clear hk); (try clear hi); (try clear ho0)) | ((with_reducible refine gate_callee (f := 27) rfl ?_); refine goesL_ (some 16) rfl rfl Tryd.func27 (by kernel_rfl) rfl #[.slice A1 l1.length c1] rfl (by (try simp only [List.map_toArray, List.map_cons, List.map_nil]); first | done | rfl | (simp only [List.length_drop, List.length_take]; rfl)) ?_; (with_reducible refine (lampblacklaw03_list.calls _ _ l1 t486 _ ?side1 ?side2 A4.out).mono ?_); (case side1 => repeat (first | exact (Kd.C_below HR1.out HB.out) | (with_reducible refine Kd.C_alloc ?_ _) | (with_reducible refine Kd.C_drewN ?_ _) | (with_reducible refine Kd.C_drew ?_))); (case side2 => exact HC1.out); rintro e w77 ⟨v487, rfl, ho0, hb⟩; refine ⟨_, rfl, ?_⟩; have n0_ := Aside0.mk (Kd.R_elder' (by (with_reducible repeat (first | apply Kd.R_alloc | apply Kd.R_drewN | apply Kd.R_drew)); exact HO485.out) (Kd.R_base ho0) hb); have n1_ := Aside0.mk (Kd.R_lower (Kd.R_new' ho0 (Kd.R_lt (by (with_reducible repeat (first | apply Kd.R_alloc | apply Kd.R_drewN | apply Kd.R_drew)); exact HO485.out))) (below_size (by repeat (first | (with_reducible first | exact HB.out | apply below_alloc | apply pw_below_drewN | apply below_drew1) | exact HB.out)))); have n2_ := Aside0.mk (below_step (by repeat (first | (with_reducible first | exact HB.out | apply below_alloc | apply pw_below_drewN | apply below_drew1) | exact HB.out)) hb); clear HO485; clear HB; have HO485 := n0_; have HO488 := n1_; have HB := n2_; clear n0_ n1_ n2_; (try clear hb); (try clear hb2); (try clear hk); (try clear hi); (try clear ho0); obtain ⟨Ao78, co78, eo78⟩ := Kd.R_slice HO485.out; subst eo78; obtain ⟨Ao79, co79, eo79⟩ := Kd.R_slice HO488.out; subst eo79) | ((with_reducible refine gate_callee (f := 36) rfl ?_); refine goesL_ (some 17) rfl rfl Tryd.func36 (by kernel_rfl) rfl #[.slice Ao78 t483.length co78, .slice Ao79 t486.length co79] rfl (by (try simp only [List.map_toArray, List.map_cons, List.map_nil]); first | done | rfl | (simp only [List.length_drop, List.length_take]; rfl)) ?_; (with_reducible refine (sweep_Check.calls k _ _ t483 _ _ t486 t489 false t491 _ ?side1 ?side2 ?side3 ?side4 A5.out).mono ?_); (case side1 => repeat (first | exact (Kd.R_reads' HO485.out).2.2 | (with_reducible refine Kd.C_alloc ?_ _) | (with_reducible refine Kd.C_drewN ?_ _) | (with_reducible refine Kd.C_drew ?_))); (case side2 => exact (Kd.R_reads' HO485.out).2.1); (case side3 => repeat (first | exact (Kd.R_reads' HO488.out).2.2 | (with_reducible refine Kd.C_alloc ?_ _) | (with_reducible refine Kd.C_drewN ?_ _) | (with_reducible refine Kd.C_drew ?_))); (case side4 => exact (Kd.R_reads' HO488.out).2.1); rintro e w80 ⟨rfl, hb⟩; refine ⟨_, rfl, ?_⟩; have n0_ := Aside0.mk (Kd.R_below (by (with_reducible repeat (first | apply Kd.R_alloc | apply Kd.R_drewN | apply Kd.R_drew)); exact HO485.out) hb); have n1_ := Aside0.mk (Kd.R_below (by (with_reducible repeat (first | apply Kd.R_alloc | apply Kd.R_drewN | apply Kd.R_drew)); exact HO488.out) hb); have n2_ := Aside0.mk (below_step (by repeat (first | (with_reducible first | exact HB.out | apply below_alloc | apply pw_below_drewN | apply below_drew1) | exact HB.out)) hb); clear HO485; clear HO488; clear HB; have HO485 := n0_; have HO488 := n1_; have HB := n2_; clear n0_ n1_ n2_; (try clear hb); (try clear hb2); (try clear hk); (try clear hi)) | ((with_reducible refine gate_callee (f := 18) rfl ?_); refine goesL_ (some 23) rfl rfl Tryd.func18 (by kernel_rfl) rfl #[.slice A0 l0.length c0] rfl (by (try simp only [List.map_toArray, List.map_cons, List.map_nil]); first | done | rfl | (simp only [List.length_drop, List.length_take]; rfl)) ?_; (with_reducible refine (lampblacklaw03_Few.calls _ _ l0 t492 _ ?side1 ?side2 A6.out).mono ?_); (case side1 => repeat (first | exact (Kd.C_below HR0.out HB.out) | (with_reducible refine Kd.C_alloc ?_ _) | (with_reducible refine Kd.C_drewN ?_ _) | (with_reducible refine Kd.C_drew ?_))); (case side2 => exact HC0.out); rintro e w81 ⟨v493, rfl, ho0, hb⟩; refine ⟨_, rfl, ?_⟩; have n0_ := Aside0.mk (Kd.R_elder' (by (with_reducible repeat (first | apply Kd.R_alloc | apply Kd.R_drewN | apply Kd.R_drew)); exact HO485.out) (Kd.R_base ho0) hb); have n1_ := Aside0.mk (Kd.R_elder' (by (with_reducible repeat (first | apply Kd.R_alloc | apply Kd.R_drewN | apply Kd.R_drew)); exact HO488.out) (Kd.R_base ho0) hb); have n2_ := Aside0.mk (Kd.R_lower (Kd.R_new' (Kd.R_new' ho0 (Kd.R_lt (by (with_reducible repeat (first | apply Kd.R_alloc | apply Kd.R_drewN | apply Kd.R_drew)); exact HO485.out))) (Kd.R_lt (by (with_reducible repeat (first | apply Kd.R_alloc | apply Kd.R_drewN | apply Kd.R_drew)); exact HO488.out))) (below_size (by repeat (first | (with_reducible first | exact HB.out | apply below_alloc | apply pw_below_drewN | apply below_drew1) | exact HB.out)))); have n3_ := Aside0.mk (below_step (by repeat (first | (with_reducible first | exact HB.out | apply below_alloc | apply pw_below_drewN | apply below_drew1) | exact HB.out)) hb); clear HO485; clear HO488; clear HB; have HO485 := n0_; have HO488 := n1_; have HO494 := n2_; have HB := n3_; clear n0_ n1_ n2_ n3_; (try clear hb); (try clear hb2); (try clear hk); (try clear hi); (try clear ho0)) | ((with_reducible refine gate_callee (f := 27) rfl ?_); refine goesL_ (some 25) rfl rfl Tryd.func27 (by kernel_rfl) rfl #[.slice A1 l1.length c1] rfl (by (try simp only [List.map_toArray, List.map_cons, List.map_nil]); first | done | rfl | (simp only [List.length_drop, List.length_take]; rfl)) ?_; (with_reducible refine (lampblacklaw03_list.calls _ _ l1 t495 _ ?side1 ?side2 A7.out).mono ?_); (case side1 => repeat (first | exact (Kd.C_below HR1.out HB.out) | (with_reducible refine Kd.C_alloc ?_ _) | (with_reducible refine Kd.C_drewN ?_ _) | (with_reducible refine Kd.C_drew ?_))); (case side2 => exact HC1.out); rintro e w82 ⟨v496, rfl, ho0, hb⟩; refine ⟨_, rfl, ?_⟩; have n0_ := Aside0.mk (Kd.R_elder' (by (with_reducible repeat (first | apply Kd.R_alloc | apply Kd.R_drewN | apply Kd.R_drew)); exact HO485.out) (Kd.R_base ho0) hb); have n1_ := Aside0.mk (Kd.R_elder' (by (with_reducible repeat (first | apply Kd.R_alloc | apply Kd.R_drewN | apply Kd.R_drew)); exact HO488.out) (Kd.R_base ho0) hb); have n2_ := Aside0.mk (Kd.R_elder' (by (with_reducible repeat (first | apply Kd.R_alloc | apply Kd.R_drewN | apply Kd.R_drew)); exact HO494.out) (Kd.R_base ho0) hb); have n3_ := Aside0.mk (Kd.R_lower (Kd.R_new' (Kd.R_new' (Kd.R_new' ho0 (Kd.R_lt (by (with_reducible repeat (first | apply Kd.R_alloc | apply Kd.R_drewN | apply Kd.R_drew)); exact HO485.out))) (Kd.R_lt (by (with_reducible repeat (first | apply Kd.R_alloc | apply Kd.R_drewN | apply Kd.R_drew)); exact HO488.out))) (Kd.R_lt (by (with_reducible repeat (first | apply Kd.R_alloc | apply Kd.R_drewN | apply Kd.R_drew)); exact HO494.out))) (below_size (by repeat (first | (with_reducible first | exact HB.out | apply below_alloc | apply pw_below_drewN | apply below_drew1) | exact HB.out)))); have n4_ := Aside0.mk (below_step (by repeat (first | (with_reducible first | exact HB.out | apply below_alloc | apply pw_below_drewN | apply below_drew1) | exact HB.out)) hb); clear HO485; clear HO488; clear HO494; clear HB; have HO485 := n0_; have HO488 := n1_; have HO494 := n2_; have HO497 := n3_; have HB := n4_; clear n0_ n1_ n2_ n3_ n4_; (try clear hb); (try clear hb2); (try clear hk); (try clear hi); (try clear ho0); obtain ⟨Ao83, co83, eo83⟩ := Kd.R_slice HO494.out; subst eo83; obtain ⟨Ao84, co84, eo84⟩ := Kd.R_slice HO497.out; subst eo84) | ((with_reducible refine gate_callee (f := 41) rfl ?_); refine goesL_ (some 26) rfl rfl Tryd.func41 (by kernel_rfl) rfl #[.slice Ao83 t492.length co83, .slice Ao84 t495.length co84] rfl (by (try simp only [List.map_toArray, List.map_cons, List.map_nil]); first | done | rfl | (simp only [List.length_drop, List.length_take]; rfl)) ?_; (with_reducible refine (sweep_Follow.calls (hGL := (by repeat (first | (with_reducible exact HGL.out) | (with_reducible exact GL_below HGL.out HB.out) | (with_reducible refine GL_alloc ?_ _) | (with_reducible refine GL_drewN ?_ _) | (with_reducible refine GL_drew ?_)))) k _ _ t492 _ _ t495 t498 t499 _ ?side1 ?side2 ?side3 ?side4 A8.out).mono ?_); (case side1 => repeat (first | exact (Kd.R_reads' HO494.out).2.2 | (with_reducible refine Kd.C_alloc ?_ _) | (with_reducible refine Kd.C_drewN ?_ _) | (with_reducible refine Kd.C_drew ?_))); (case side2 => exact (Kd.R_reads' HO494.out).2.1); (case side3 => repeat (first | exact (Kd.R_reads' HO497.out).2.2 | (with_reducible refine Kd.C_alloc ?_ _) | (with_reducible refine Kd.C_drewN ?_ _) | (with_reducible refine Kd.C_drew ?_))); (case side4 => exact (Kd.R_reads' HO497.out).2.1); rintro e w85 ⟨v500, rfl, ho0, hb⟩; refine ⟨_, rfl, ?_⟩; have n0_ := Aside0.mk (Kd.R_below (by (with_reducible repeat (first | apply Kd.R_alloc | apply Kd.R_drewN | apply Kd.R_drew)); exact HO485.out) hb); have n1_ := Aside0.mk (Kd.R_below (by (with_reducible repeat (first | apply Kd.R_alloc | apply Kd.R_drewN | apply Kd.R_drew)); exact HO488.out) hb); have n2_ := Aside0.mk (Kd.R_below (by (with_reducible repeat (first | apply Kd.R_alloc | apply Kd.R_drewN | apply Kd.R_drew)); exact HO494.out) hb); have n3_ := Aside0.mk (Kd.R_below (by (with_reducible repeat (first | apply Kd.R_alloc | apply Kd.R_drewN | apply Kd.R_drew)); exact HO497.out) hb); have n4_ := Aside0.mk (Kd.R_lower ho0 (below_size (by repeat (first | (with_reducible first | exact HB.out | apply below_alloc | apply pw_below_drewN | apply below_drew1) | exact HB.out)))); have n5_ := Aside0.mk (below_step (by repeat (first | (with_reducible first | exact HB.out | apply below_alloc | apply pw_below_drewN | apply below_drew1) | exact HB.out)) hb); clear HO485; clear HO488; clear HO494; clear HO497; clear HB; have HO485 := n0_; have HO488 := n1_; have HO494 := n2_; have HO497 := n3_; have HO501 := n4_; have HB := n5_; clear n0_ n1_ n2_ n3_ n4_ n5_; (try clear hb); (try clear hb2); (try clear hk); (try clear hi); (try clear ho0)) | ((with_reducible refine gate_callee (f := 19) rfl ?_); refine goesL_ (some 30) rfl rfl Tryd.func19 (by kernel_rfl) rfl #[.slice A0 l0.length c0] rfl (by (try simp only [List.map_toArray, List.map_cons, List.map_nil]); first | done | rfl | (simp only [List.length_drop, List.length_take]; rfl)) ?_; (with_reducible refine (lampblackref03_Valid.calls k _ _ l0 false _ ?side1 ?side2 A9.out).mono ?_); (case side1 => repeat (first | exact (Kd.C_below HR0.out HB.out) | (with_reducible refine Kd.C_alloc ?_ _) | (with_reducible refine Kd.C_drewN ?_ _) | (with_reducible refine Kd.C_drew ?_))); (case side2 => exact HC0.out); rintro e w' ⟨rfl, ⟨nd, rfl⟩⟩; refine ⟨_, rfl, ?_⟩; obtain ⟨Ao86, co86, eo86⟩ := Kd.R_slice HO501.out; subst eo86))
              go_ret
              exact ⟨by first | rfl | (simp [errW_none, errW_some] <;> rfl) | (simp [*, errW_none, errW_some] <;> rfl), by repeat (first | (with_reducible first | exact HB.out | apply below_alloc | apply pw_below_drewN | apply below_drew1) | exact HB.out)⟩
          · rw [if_neg c61] at H
            have c61b0 : (t491 == 2) = false := beq_eq_false_iff_ne.mpr c61
            have c61b1 : (t491 != 2) = true := bne_iff_ne.mpr c61
            obtain rfl := Option.some.inj H
            go_enter Tryd.func12, Tryd.ntmps12
            go_wp2_with (first | ((with_reducible refine gate_callee (f := 18) rfl ?_); refine goesL_ (some 14) rfl rfl Tryd.func18 (by kernel_rfl) rfl #[.slice A0 l0.length c0] rfl (by (try simp only [List.map_toArray, List.map_cons, List.map_nil]); first | done | rfl | (simp only [List.length_drop, List.length_take]; rfl)) ?_; (with_reducible refine (lampblacklaw03_Few.calls _ _ l0 t483 _ ?side1 ?side2 A3.out).mono ?_); (case side1 => repeat (first | exact HR0.out | (with_reducible refine Kd.C_alloc ?_ _) | (with_reducible refine Kd.C_drewN ?_ _) | (with_reducible refine Kd.C_drew ?_))); (case side2 => exact HC0.out); rintro e w87 ⟨v484, rfl, ho0, hb⟩; refine ⟨_, rfl, ?_⟩; have n0_ := Aside0.mk (Kd.R_lower ho0 (below_size (by repeat (first | (with_reducible first | exact HB.out | apply below_alloc | apply pw_below_drewN | apply below_drew1) | exact HB.out)))); have n1_ := Aside0.mk (below_step (by repeat (first | (with_reducible first | exact HB.out | apply below_alloc | apply pw_below_drewN | apply below_drew1) | exact HB.out)) hb); clear HB; have HO485 := n0_; have HB := n1_; clear n0_ n1_; (try clear hb); (try clear hb2); (try clear hk); (try clear hi); (try clear ho0)) | ((with_reducible refine gate_callee (f := 27) rfl ?_); refine goesL_ (some 16) rfl rfl Tryd.func27 (by kernel_rfl) rfl #[.slice A1 l1.length c1] rfl (by (try simp only [List.map_toArray, List.map_cons, List.map_nil]); first | done | rfl | (simp only [List.length_drop, List.length_take]; rfl)) ?_; (with_reducible refine (lampblacklaw03_list.calls _ _ l1 t486 _ ?side1 ?side2 A4.out).mono ?_); (case side1 => repeat (first | exact (Kd.C_below HR1.out HB.out) | (with_reducible refine Kd.C_alloc ?_ _) | (with_reducible refine Kd.C_drewN ?_ _) | (with_reducible refine Kd.C_drew ?_))); (case side2 => exact HC1.out); rintro e w88 ⟨v487, rfl, ho0, hb⟩; refine ⟨_, rfl, ?_⟩; have n0_ := Aside0.mk (Kd.R_elder' (by (with_reducible repeat (first | apply Kd.R_alloc | apply Kd.R_drewN | apply Kd.R_drew)); exact HO485.out) (Kd.R_base ho0) hb); have n1_ := Aside0.mk (Kd.R_lower (Kd.R_new' ho0 (Kd.R_lt (by (with_reducible repeat (first | apply Kd.R_alloc | apply Kd.R_drewN | apply Kd.R_drew)); exact HO485.out))) (below_size (by repeat (first | (with_reducible first | exact HB.out | apply below_alloc | apply pw_below_drewN | apply below_drew1) | exact HB.out)))); have n2_ := Aside0.mk (below_step (by repeat (first | (with_reducible first | exact HB.out | apply below_alloc | apply pw_below_drewN | apply below_drew1) | exact HB.out)) hb); clear HO485; clear HB; have HO485 := n0_; have HO488 := n1_; have HB := n2_; clear n0_ n1_ n2_; (try clear hb); (try clear hb2); (try clear hk); (try clear hi); (try clear ho0); obtain ⟨Ao89, co89, eo89⟩ := Kd.R_slice HO485.out; subst eo89; obtain ⟨Ao90, co90, eo90⟩ := Kd.R_slice HO488.out; subst eo90) | ((with_reducible refine gate_callee (f := 36) rfl ?_); refine goesL_ (some 17) rfl rfl Tryd.func36 (by kernel_rfl) rfl #[.slice Ao89 t483.length co89, .slice Ao90 t486.length co90] rfl (by (try simp only [List.map_toArray, List.map_cons, List.map_nil]); first | done | rfl | (simp only [List.length_drop, List.length_take]; rfl)) ?_; (with_reducible refine (sweep_Check.calls k _ _ t483 _ _ t486 t489 false t491 _ ?side1 ?side2 ?side3 ?side4 A5.out).mono ?_); (case side1 => repeat (first | exact (Kd.R_reads' HO485.out).2.2 | (with_reducible refine Kd.C_alloc ?_ _) | (with_reducible refine Kd.C_drewN ?_ _) | (with_reducible refine Kd.C_drew ?_))); (case side2 => exact (Kd.R_reads' HO485.out).2.1); (case side3 => repeat (first | exact (Kd.R_reads' HO488.out).2.2 | (with_reducible refine Kd.C_alloc ?_ _) | (with_reducible refine Kd.C_drewN ?_ _) | (with_reducible refine Kd.C_drew ?_))); (case side4 => exact (Kd.R_reads' HO488.out).2.1); rintro e w91 ⟨rfl, hb⟩; refine ⟨_, rfl, ?_⟩; have n0_ := Aside0.mk (Kd.R_below (by (with_reducible repeat (first | apply Kd.R_alloc | apply Kd.R_drewN | apply Kd.R_drew)); exact HO485.out) hb); have n1_ := Aside0.mk (Kd.R_below (by (with_reducible repeat (first | apply Kd.R_alloc | apply Kd.R_drewN | apply Kd.R_drew)); exact HO488.out) hb); have n2_ := Aside0.mk (below_step (by repeat (first | (with_reducible first | exact HB.out | apply below_alloc | apply pw_below_drewN | apply below_drew1) | exact HB.out)) hb); clear HO485; clear HO488; clear HB; have HO485 := n0_; have HO488 := n1_; have HB := n2_; clear n0_ n1_ n2_; (try clear hb); (try clear hb2); (try clear hk); (try clear hi)) | ((with_reducible refine gate_callee (f := 18) rfl ?_); refine goesL_ (some 23) rfl rfl Tryd.func18 (by kernel_rfl) rfl #[.slice A0 l0.length c0] rfl (by (try simp only [List.map_toArray, List.map_cons, List.map_nil]); first | done | rfl | (simp only [List.length_drop, List.length_take]; rfl)) ?_; (with_reducible refine (lampblacklaw03_Few.calls _ _ l0 t492 _ ?side1 ?side2 A6.out).mono ?_); (case side1 => repeat (first | exact (Kd.C_below HR0.out HB.out) | (with_reducible refine Kd.C_alloc ?_ _) | (with_reducible refine Kd.C_drewN ?_ _) | (with_reducible refine Kd.C_drew ?_))); (case side2 => exact HC0.out); rintro e w92 ⟨v493, rfl, ho0, hb⟩; refine ⟨_, rfl, ?_⟩; have n0_ := Aside0.mk (Kd.R_elder' (by (with_reducible repeat (first | apply Kd.R_alloc | apply Kd.R_drewN | apply Kd.R_drew)); exact HO485.out) (Kd.R_base ho0) hb); have n1_ := Aside0.mk (Kd.R_elder' (by (with_reducible repeat (first | apply Kd.R_alloc | apply Kd.R_drewN | apply Kd.R_drew)); exact HO488.out) (Kd.R_base ho0) hb); have n2_ := Aside0.mk (Kd.R_lower (Kd.R_new' (Kd.R_new' ho0 (Kd.R_lt (by (with_reducible repeat (first | apply Kd.R_alloc | apply Kd.R_drewN | apply Kd.R_drew)); exact HO485.out))) (Kd.R_lt (by (with_reducible repeat (first | apply Kd.R_alloc | apply Kd.R_drewN | apply Kd.R_drew)); exact HO488.out))) (below_size (by repeat (first | (with_reducible first | exact HB.out | apply below_alloc | apply pw_below_drewN | apply below_drew1) | exact HB.out)))); have n3_ := Aside0.mk (below_step (by repeat (first | (with_reducible first | exact HB.out | apply below_alloc | apply pw_below_drewN | apply below_drew1) | exact HB.out)) hb); clear HO485; clear HO488; clear HB; have HO485 := n0_; have HO488 := n1_; have HO494 := n2_; have HB := n3_; clear n0_ n1_ n2_ n3_; (try clear hb); (try clear hb2); (try clear hk); (try clear hi); (try clear ho0)) | ((with_reducible refine gate_callee (f := 27) rfl ?_); refine goesL_ (some 25) rfl rfl Tryd.func27 (by kernel_rfl) rfl #[.slice A1 l1.length c1] rfl (by (try simp only [List.map_toArray, List.map_cons, List.map_nil]); first | done | rfl | (simp only [List.length_drop, List.length_take]; rfl)) ?_; (with_reducible refine (lampblacklaw03_list.calls _ _ l1 t495 _ ?side1 ?side2 A7.out).mono ?_); (case side1 => repeat (first | exact (Kd.C_below HR1.out HB.out) | (with_reducible refine Kd.C_alloc ?_ _) | (with_reducible refine Kd.C_drewN ?_ _) | (with_reducible refine Kd.C_drew ?_))); (case side2 => exact HC1.out); rintro e w93 ⟨v496, rfl, ho0, hb⟩; refine ⟨_, rfl, ?_⟩; have n0_ := Aside0.mk (Kd.R_elder' (by (with_reducible repeat (first | apply Kd.R_alloc | apply Kd.R_drewN | apply Kd.R_drew)); exact HO485.out) (Kd.R_base ho0) hb); have n1_ := Aside0.mk (Kd.R_elder' (by (with_reducible repeat (first | apply Kd.R_alloc | apply Kd.R_drewN | apply Kd.R_drew)); exact HO488.out) (Kd.R_base ho0) hb); have n2_ := Aside0.mk (Kd.R_elder' (by (with_reducible repeat (first | apply Kd.R_alloc | apply Kd.R_drewN | apply Kd.R_drew)); exact HO494.out) (Kd.R_base ho0) hb); have n3_ := Aside0.mk (Kd.R_lower (Kd.R_new' (Kd.R_new' (Kd.R_new' ho0 (Kd.R_lt (by (with_reducible repeat (first | apply Kd.R_alloc | apply Kd.R_drewN | apply Kd.R_drew)); exact HO485.out))) (Kd.R_lt (by (with_reducible repeat (first | apply Kd.R_alloc | apply Kd.R_drewN | apply Kd.R_drew)); exact HO488.out))) (Kd.R_lt (by (with_reducible repeat (first | apply Kd.R_alloc | apply Kd.R_drewN | apply Kd.R_drew)); exact HO494.out))) (below_size (by repeat (first | (with_reducible first | exact HB.out | apply below_alloc | apply pw_below_drewN | apply below_drew1) | exact HB.out)))); have n4_ := Aside0.mk (below_step (by repeat (first | (with_reducible first | exact HB.out | apply below_alloc | apply pw_below_drewN | apply below_drew1) | exact HB.out)) hb); clear HO485; clear HO488; clear HO494; clear HB; have HO485 := n0_; have HO488 := n1_; have HO494 := n2_; have HO497 := n3_; have HB := n4_; clear n0_ n1_ n2_ n3_ n4_; (try clear hb); (try clear hb2); (try clear hk); (try clear hi); (try clear ho0); obtain ⟨Ao94, co94, eo94⟩ := Kd.R_slice HO494.out; subst eo94; obtain ⟨Ao95, co95, eo95⟩ := Kd.R_slice HO497.out; subst eo95) | ((with_reducible refine gate_callee (f := 41) rfl ?_); refine goesL_ (some 26) rfl rfl Tryd.func41 (by kernel_rfl) rfl #[.slice Ao94 t492.length co94, .slice Ao95 t495.length co95] rfl (by (try simp only [List.map_toArray, List.map_cons, List.map_nil]); first | done | rfl | (simp only [List.length_drop, List.length_take]; rfl)) ?_; (with_reducible refine (sweep_Follow.calls (hGL := (by repeat (first | (with_reducible exact HGL.out) | (with_reducible exact GL_below HGL.out HB.out) | (with_reducible refine GL_alloc ?_ _) | (with_reducible refine GL_drewN ?_ _) | (with_reducible refine GL_drew ?_)))) k _ _ t492 _ _ t495 t498 t499 _ ?side1 ?side2 ?side3 ?side4 A8.out).mono ?_); (case side1 => repeat (first | exact (Kd.R_reads' HO494.out).2.2 | (with_reducible refine Kd.C_alloc ?_ _) | (with_reducible refine Kd.C_drewN ?_ _) | (with_reducible refine Kd.C_drew ?_))); (case side2 => exact (Kd.R_reads' HO494.out).2.1); (case side3 => repeat (first | exact (Kd.R_reads' HO497.out).2.2 | (with_reducible refine Kd.C_alloc ?_ _) | (with_reducible refine Kd.C_drewN ?_ _) | (with_reducible refine Kd.C_drew ?_))); (case side4 => exact (Kd.R_reads' HO497.out).2.1); rintro e w96 ⟨v500, rfl, ho0, hb⟩; refine ⟨_, rfl, ?_⟩; have n0_ := Aside0.mk (Kd.R_below (by (with_reducible repeat (first | apply Kd.R_alloc | apply Kd.R_drewN | apply Kd.R_drew)); exact HO485.out) hb); have n1_ := Aside0.mk (Kd.R_below (by (with_reducible repeat (first | apply Kd.R_alloc | apply Kd.R_drewN | apply Kd.R_drew)); exact HO488.out) hb); have n2_ := Aside0.mk (Kd.R_below (by (with_reducible repeat (first | apply Kd.R_alloc | apply Kd.R_drewN | apply Kd.R_drew)); exact HO494.out) hb); have n3_ := Aside0.mk (Kd.R_below (by (with_reducible repeat (first | apply Kd.R_alloc | apply Kd.R_drewN | apply Kd.R_drew)); exact HO497.out) hb); have n4_ := Aside0.mk (Kd.R_lower ho0 (below_size (by repeat (first | (with_reducible first | exact HB.out | apply below_alloc | apply pw_below_drewN | apply below_drew1) | exact HB.out)))); have n5_ := Aside0.mk (below_step (by repeat (first | (with_reducible first | exact HB.out | apply below_alloc | apply pw_below_drewN | apply below_drew1) | exact HB.out)) hb); clear HO485; clear HO488; clear HO494; clear HO497; clear HB; have HO485 := n0_; have HO488 := n1_; have HO494 := n2_; have HO497 := n3_; have HO501 := n4_; have HB := n5_; clear n0_ n1_ n2_ n3_ n4_ n5_; (try clear hb); (try clear hb2); (try clear hk); (try clear hi); (try clear ho0)) | ((with_reducible refine gate_callee (f := 19) rfl ?_); refine goesL_ (some 30) rfl rfl Tryd.func19 (by kernel_rfl) rfl #[.slice A0 l0.length c0] rfl (by (try simp only [List.map_toArray, List.map_cons, List.map_nil]); first | done | rfl | (simp only [List.length_drop, List.length_take]; rfl)) ?_; (with_reducible refine (lampblackref03_Valid.calls k _ _ l0 false _ ?side1 ?side2 A9.out).mono ?_); (case side1 => repeat (first | exact (Kd.C_below HR0.out HB.out) | (with_reducible refine Kd.C_alloc ?_ _) | (with_reducible refine Kd.C_drewN ?_ _) | (with_reducible refine Kd.C_drew ?_))); (case side2 => exact HC0.out); rintro e w' ⟨rfl, ⟨nd, rfl⟩⟩; refine ⟨_, rfl, ?_⟩; obtain ⟨Ao97, co97, eo97⟩ := Kd.R_slice HO501.out; subst eo97))
            go_ret
            exact ⟨by first | rfl | (simp [errW_none, errW_some] <;> rfl) | (simp [*, errW_none, errW_some] <;> rfl), by repeat (first | (with_reducible first | exact HB.out | apply below_alloc | apply pw_below_drewN | apply below_drew1) | exact HB.out)⟩
        · rw [if_neg c60] at H
          have c60b0 : ((t498.length : Int) == 0) = false := beq_eq_false_iff_ne.mpr c60
          have c60b1 : ((t498.length : Int) != 0) = true := bne_iff_ne.mpr c60
          have c60b2 : ¬ (t498 = []) := fun h_ => c60 (by rw [h_]; rfl)
          obtain rfl := Option.some.inj H
          go_enter Tryd.func12, Tryd.ntmps12
          go_wp2_with (first | ((with_reducible refine gate_callee (f := 18) rfl ?_); refine goesL_ (some 14) rfl rfl Tryd.func18 (by kernel_rfl) rfl #[.slice A0 l0.length c0] rfl (by (try simp only [List.map_toArray, List.map_cons, List.map_nil]); first | done | rfl | (simp only [List.length_drop, List.length_take]; rfl)) ?_; (with_reducible refine (lampblacklaw03_Few.calls _ _ l0 t483 _ ?side1 ?side2 A3.out).mono ?_); (case side1 => repeat (first | exact HR0.out | (with_reducible refine Kd.C_alloc ?_ _) | (with_reducible refine Kd.C_drewN ?_ _) | (with_reducible refine Kd.C_drew ?_))); (case side2 => exact HC0.out); rintro e w98 ⟨v484, rfl, ho0, hb⟩; refine ⟨_, rfl, ?_⟩; have n0_ := Aside0.mk (Kd.R_lower ho0 (below_size (by repeat (first | (with_reducible first | exact HB.out | apply below_alloc | apply pw_below_drewN | apply below_drew1) | exact HB.out)))); have n1_ := Aside0.mk (below_step (by repeat (first | (with_reducible first | exact HB.out | apply below_alloc | apply pw_below_drewN | apply below_drew1) | exact HB.out)) hb); clear HB; have HO485 := n0_; have HB := n1_; clear n0_ n1_; (try clear hb); (try clear hb2); (try clear hk); (try clear hi); (try clear ho0)) | ((with_reducible refine gate_callee (f := 27) rfl ?_); refine goesL_ (some 16) rfl rfl Tryd.func27 (by kernel_rfl) rfl #[.slice A1 l1.length c1] rfl (by (try simp only [List.map_toArray, List.map_cons, List.map_nil]); first | done | rfl | (simp only [List.length_drop, List.length_take]; rfl)) ?_; (with_reducible refine (lampblacklaw03_list.calls _ _ l1 t486 _ ?side1 ?side2 A4.out).mono ?_); (case side1 => repeat (first | exact (Kd.C_below HR1.out HB.out) | (with_reducible refine Kd.C_alloc ?_ _) | (with_reducible refine Kd.C_drewN ?_ _) | (with_reducible refine Kd.C_drew ?_))); (case side2 => exact HC1.out); rintro e w99 ⟨v487, rfl, ho0, hb⟩; refine ⟨_, rfl, ?_⟩; have n0_ := Aside0.mk (Kd.R_elder' (by (with_reducible repeat (first | apply Kd.R_alloc | apply Kd.R_drewN | apply Kd.R_drew)); exact HO485.out) (Kd.R_base ho0) hb); have n1_ := Aside0.mk (Kd.R_lower (Kd.R_new' ho0 (Kd.R_lt (by (with_reducible repeat (first | apply Kd.R_alloc | apply Kd.R_drewN | apply Kd.R_drew)); exact HO485.out))) (below_size (by repeat (first | (with_reducible first | exact HB.out | apply below_alloc | apply pw_below_drewN | apply below_drew1) | exact HB.out)))); have n2_ := Aside0.mk (below_step (by repeat (first | (with_reducible first | exact HB.out | apply below_alloc | apply pw_below_drewN | apply below_drew1) | exact HB.out)) hb); clear HO485; clear HB; have HO485 := n0_; have HO488 := n1_; have HB := n2_; clear n0_ n1_ n2_; (try clear hb); (try clear hb2); (try clear hk); (try clear hi); (try clear ho0); obtain ⟨Ao100, co100, eo100⟩ := Kd.R_slice HO485.out; subst eo100; obtain ⟨Ao101, co101, eo101⟩ := Kd.R_slice HO488.out; subst eo101) | ((with_reducible refine gate_callee (f := 36) rfl ?_); refine goesL_ (some 17) rfl rfl Tryd.func36 (by kernel_rfl) rfl #[.slice Ao100 t483.length co100, .slice Ao101 t486.length co101] rfl (by (try simp only [List.map_toArray, List.map_cons, List.map_nil]); first | done | rfl | (simp only [List.length_drop, List.length_take]; rfl)) ?_; (with_reducible refine (sweep_Check.calls k _ _ t483 _ _ t486 t489 false t491 _ ?side1 ?side2 ?side3 ?side4 A5.out).mono ?_); (case side1 => repeat (first | exact (Kd.R_reads' HO485.out).2.2 | (with_reducible refine Kd.C_alloc ?_ _) | (with_reducible refine Kd.C_drewN ?_ _) | (with_reducible refine Kd.C_drew ?_))); (case side2 => exact (Kd.R_reads' HO485.out).2.1); (case side3 => repeat (first | exact (Kd.R_reads' HO488.out).2.2 | (with_reducible refine Kd.C_alloc ?_ _) | (with_reducible refine Kd.C_drewN ?_ _) | (with_reducible refine Kd.C_drew ?_))); (case side4 => exact (Kd.R_reads' HO488.out).2.1); rintro e w102 ⟨rfl, hb⟩; refine ⟨_, rfl, ?_⟩; have n0_ := Aside0.mk (Kd.R_below (by (with_reducible repeat (first | apply Kd.R_alloc | apply Kd.R_drewN | apply Kd.R_drew)); exact HO485.out) hb); have n1_ := Aside0.mk (Kd.R_below (by (with_reducible repeat (first | apply Kd.R_alloc | apply Kd.R_drewN | apply Kd.R_drew)); exact HO488.out) hb); have n2_ := Aside0.mk (below_step (by repeat (first | (with_reducible first | exact HB.out | apply below_alloc | apply pw_below_drewN | apply below_drew1) | exact HB.out)) hb); clear HO485; clear HO488; clear HB; have HO485 := n0_; have HO488 := n1_; have HB := n2_; clear n0_ n1_ n2_; (try clear hb); (try clear hb2); (try clear hk); (try clear hi)) | ((with_reducible refine gate_callee (f := 18) rfl ?_); refine goesL_ (some 23) rfl rfl Tryd.func18 (by kernel_rfl) rfl #[.slice A0 l0.length c0] rfl (by (try simp only [List.map_toArray, List.map_cons, List.map_nil]); first | done | rfl | (simp only [List.length_drop, List.length_take]; rfl)) ?_; (with_reducible refine (lampblacklaw03_Few.calls _ _ l0 t492 _ ?side1 ?side2 A6.out).mono ?_); (case side1 => repeat (first | exact (Kd.C_below HR0.out HB.out) | (with_reducible refine Kd.C_alloc ?_ _) | (with_reducible refine Kd.C_drewN ?_ _) | (with_reducible refine Kd.C_drew ?_))); (case side2 => exact HC0.out); rintro e w103 ⟨v493, rfl, ho0, hb⟩; refine ⟨_, rfl, ?_⟩; have n0_ := Aside0.mk (Kd.R_elder' (by (with_reducible repeat (first | apply Kd.R_alloc | apply Kd.R_drewN | apply Kd.R_drew)); exact HO485.out) (Kd.R_base ho0) hb); have n1_ := Aside0.mk (Kd.R_elder' (by (with_reducible repeat (first | apply Kd.R_alloc | apply Kd.R_drewN | apply Kd.R_drew)); exact HO488.out) (Kd.R_base ho0) hb); have n2_ := Aside0.mk (Kd.R_lower (Kd.R_new' (Kd.R_new' ho0 (Kd.R_lt (by (with_reducible repeat (first | apply Kd.R_alloc | apply Kd.R_drewN | apply Kd.R_drew)); exact HO485.out))) (Kd.R_lt (by (with_reducible repeat (first | apply Kd.R_alloc | apply Kd.R_drewN | apply Kd.R_drew)); exact HO488.out))) (below_size (by repeat (first | (with_reducible first | exact HB.out | apply below_alloc | apply pw_below_drewN | apply below_drew1) | exact HB.out)))); have n3_ := Aside0.mk (below_step (by repeat (first | (with_reducible first | exact HB.out | apply below_alloc | apply pw_below_drewN | apply below_drew1) | exact HB.out)) hb); clear HO485; clear HO488; clear HB; have HO485 := n0_; have HO488 := n1_; have HO494 := n2_; have HB := n3_; clear n0_ n1_ n2_ n3_; (try clear hb); (try clear hb2); (try clear hk); (try clear hi); (try clear ho0)) | ((with_reducible refine gate_callee (f := 27) rfl ?_); refine goesL_ (some 25) rfl rfl Tryd.func27 (by kernel_rfl) rfl #[.slice A1 l1.length c1] rfl (by (try simp only [List.map_toArray, List.map_cons, List.map_nil]); first | done | rfl | (simp only [List.length_drop, List.length_take]; rfl)) ?_; (with_reducible refine (lampblacklaw03_list.calls _ _ l1 t495 _ ?side1 ?side2 A7.out).mono ?_); (case side1 => repeat (first | exact (Kd.C_below HR1.out HB.out) | (with_reducible refine Kd.C_alloc ?_ _) | (with_reducible refine Kd.C_drewN ?_ _) | (with_reducible refine Kd.C_drew ?_))); (case side2 => exact HC1.out); rintro e w104 ⟨v496, rfl, ho0, hb⟩; refine ⟨_, rfl, ?_⟩; have n0_ := Aside0.mk (Kd.R_elder' (by (with_reducible repeat (first | apply Kd.R_alloc | apply Kd.R_drewN | apply Kd.R_drew)); exact HO485.out) (Kd.R_base ho0) hb); have n1_ := Aside0.mk (Kd.R_elder' (by (with_reducible repeat (first | apply Kd.R_alloc | apply Kd.R_drewN | apply Kd.R_drew)); exact HO488.out) (Kd.R_base ho0) hb); have n2_ := Aside0.mk (Kd.R_elder' (by (with_reducible repeat (first | apply Kd.R_alloc | apply Kd.R_drewN | apply Kd.R_drew)); exact HO494.out) (Kd.R_base ho0) hb); have n3_ := Aside0.mk (Kd.R_lower (Kd.R_new' (Kd.R_new' (Kd.R_new' ho0 (Kd.R_lt (by (with_reducible repeat (first | apply Kd.R_alloc | apply Kd.R_drewN | apply Kd.R_drew)); exact HO485.out))) (Kd.R_lt (by (with_reducible repeat (first | apply Kd.R_alloc | apply Kd.R_drewN | apply Kd.R_drew)); exact HO488.out))) (Kd.R_lt (by (with_reducible repeat (first | apply Kd.R_alloc | apply Kd.R_drewN | apply Kd.R_drew)); exact HO494.out))) (below_size (by repeat (first | (with_reducible first | exact HB.out | apply below_alloc | apply pw_below_drewN | apply below_drew1) | exact HB.out)))); have n4_ := Aside0.mk (below_step (by repeat (first | (with_reducible first | exact HB.out | apply below_alloc | apply pw_below_drewN | apply below_drew1) | exact HB.out)) hb); clear HO485; clear HO488; clear HO494; clear HB; have HO485 := n0_; have HO488 := n1_; have HO494 := n2_; have HO497 := n3_; have HB := n4_; clear n0_ n1_ n2_ n3_ n4_; (try clear hb); (try clear hb2); (try clear hk); (try clear hi); (try clear ho0); obtain ⟨Ao105, co105, eo105⟩ := Kd.R_slice HO494.out; subst eo105; obtain ⟨Ao106, co106, eo106⟩ := Kd.R_slice HO497.out; subst eo106) | ((with_reducible refine gate_callee (f := 41) rfl ?_); refine goesL_ (some 26) rfl rfl Tryd.func41 (by kernel_rfl) rfl #[.slice Ao105 t492.length co105, .slice Ao106 t495.length co106] rfl (by (try simp only [List.map_toArray, List.map_cons, List.map_nil]); first | done | rfl | (simp only [List.length_drop, List.length_take]; rfl)) ?_; (with_reducible refine (sweep_Follow.calls (hGL := (by repeat (first | (with_reducible exact HGL.out) | (with_reducible exact GL_below HGL.out HB.out) | (with_reducible refine GL_alloc ?_ _) | (with_reducible refine GL_drewN ?_ _) | (with_reducible refine GL_drew ?_)))) k _ _ t492 _ _ t495 t498 t499 _ ?side1 ?side2 ?side3 ?side4 A8.out).mono ?_); (case side1 => repeat (first | exact (Kd.R_reads' HO494.out).2.2 | (with_reducible refine Kd.C_alloc ?_ _) | (with_reducible refine Kd.C_drewN ?_ _) | (with_reducible refine Kd.C_drew ?_))); (case side2 => exact (Kd.R_reads' HO494.out).2.1); (case side3 => repeat (first | exact (Kd.R_reads' HO497.out).2.2 | (with_reducible refine Kd.C_alloc ?_ _) | (with_reducible refine Kd.C_drewN ?_ _) | (with_reducible refine Kd.C_drew ?_))); (case side4 => exact (Kd.R_reads' HO497.out).2.1); rintro e w107 ⟨v500, rfl, ho0, hb⟩; refine ⟨_, rfl, ?_⟩; have n0_ := Aside0.mk (Kd.R_below (by (with_reducible repeat (first | apply Kd.R_alloc | apply Kd.R_drewN | apply Kd.R_drew)); exact HO485.out) hb); have n1_ := Aside0.mk (Kd.R_below (by (with_reducible repeat (first | apply Kd.R_alloc | apply Kd.R_drewN | apply Kd.R_drew)); exact HO488.out) hb); have n2_ := Aside0.mk (Kd.R_below (by (with_reducible repeat (first | apply Kd.R_alloc | apply Kd.R_drewN | apply Kd.R_drew)); exact HO494.out) hb); have n3_ := Aside0.mk (Kd.R_below (by (with_reducible repeat (first | apply Kd.R_alloc | apply Kd.R_drewN | apply Kd.R_drew)); exact HO497.out) hb); have n4_ := Aside0.mk (Kd.R_lower ho0 (below_size (by repeat (first | (with_reducible first | exact HB.out | apply below_alloc | apply pw_below_drewN | apply below_drew1) | exact HB.out)))); have n5_ := Aside0.mk (below_step (by repeat (first | (with_reducible first | exact HB.out | apply below_alloc | apply pw_below_drewN | apply below_drew1) | exact HB.out)) hb); clear HO485; clear HO488; clear HO494; clear HO497; clear HB; have HO485 := n0_; have HO488 := n1_; have HO494 := n2_; have HO497 := n3_; have HO501 := n4_; have HB := n5_; clear n0_ n1_ n2_ n3_ n4_ n5_; (try clear hb); (try clear hb2); (try clear hk); (try clear hi); (try clear ho0)) | ((with_reducible refine gate_callee (f := 19) rfl ?_); refine goesL_ (some 30) rfl rfl Tryd.func19 (by kernel_rfl) rfl #[.slice A0 l0.length c0] rfl (by (try simp only [List.map_toArray, List.map_cons, List.map_nil]); first | done | rfl | (simp only [List.length_drop, List.length_take]; rfl)) ?_; (with_reducible refine (lampblackref03_Valid.calls k _ _ l0 false _ ?side1 ?side2 A9.out).mono ?_); (case side1 => repeat (first | exact (Kd.C_below HR0.out HB.out) | (with_reducible refine Kd.C_alloc ?_ _) | (with_reducible refine Kd.C_drewN ?_ _) | (with_reducible refine Kd.C_drew ?_))); (case side2 => exact HC0.out); rintro e w' ⟨rfl, ⟨nd, rfl⟩⟩; refine ⟨_, rfl, ?_⟩; obtain ⟨Ao108, co108, eo108⟩ := Kd.R_slice HO501.out; subst eo108))
          go_ret
          exact ⟨by first | rfl | (simp [errW_none, errW_some] <;> rfl) | (simp [*, errW_none, errW_some] <;> rfl), by repeat (first | (with_reducible first | exact HB.out | apply below_alloc | apply pw_below_drewN | apply below_drew1) | exact HB.out)⟩
    · rw [if_neg c48] at H
      have c48b0 : (t489 == 0) = false := beq_eq_false_iff_ne.mpr c48
      have c48b1 : (t489 != 0) = true := bne_iff_ne.mpr c48
      obtain rfl := Option.some.inj H
      go_enter Tryd.func12, Tryd.ntmps12
      go_wp2_with (first | ((with_reducible refine gate_callee (f := 18) rfl ?_); refine goesL_ (some 14) rfl rfl Tryd.func18 (by kernel_rfl) rfl #[.slice A0 l0.length c0] rfl (by (try simp only [List.map_toArray, List.map_cons, List.map_nil]); first | done | rfl | (simp only [List.length_drop, List.length_take]; rfl)) ?_; (with_reducible refine (lampblacklaw03_Few.calls _ _ l0 t483 _ ?side1 ?side2 A3.out).mono ?_); (case side1 => repeat (first | exact HR0.out | (with_reducible refine Kd.C_alloc ?_ _) | (with_reducible refine Kd.C_drewN ?_ _) | (with_reducible refine Kd.C_drew ?_))); (case side2 => exact HC0.out); rintro e w109 ⟨v484, rfl, ho0, hb⟩; refine ⟨_, rfl, ?_⟩; have n0_ := Aside0.mk (Kd.R_lower ho0 (below_size (by repeat (first | (with_reducible first | exact HB.out | apply below_alloc | apply pw_below_drewN | apply below_drew1) | exact HB.out)))); have n1_ := Aside0.mk (below_step (by repeat (first | (with_reducible first | exact HB.out | apply below_alloc | apply pw_below_drewN | apply below_drew1) | exact HB.out)) hb); clear HB; have HO485 := n0_; have HB := n1_; clear n0_ n1_; (try clear hb); (try clear hb2); (try clear hk); (try clear hi); (try clear ho0)) | ((with_reducible refine gate_callee (f := 27) rfl ?_); refine goesL_ (some 16) rfl rfl Tryd.func27 (by kernel_rfl) rfl #[.slice A1 l1.length c1] rfl (by (try simp only [List.map_toArray, List.map_cons, List.map_nil]); first | done | rfl | (simp only [List.length_drop, List.length_take]; rfl)) ?_; (with_reducible refine (lampblacklaw03_list.calls _ _ l1 t486 _ ?side1 ?side2 A4.out).mono ?_); (case side1 => repeat (first | exact (Kd.C_below HR1.out HB.out) | (with_reducible refine Kd.C_alloc ?_ _) | (with_reducible refine Kd.C_drewN ?_ _) | (with_reducible refine Kd.C_drew ?_))); (case side2 => exact HC1.out); rintro e w110 ⟨v487, rfl, ho0, hb⟩; refine ⟨_, rfl, ?_⟩; have n0_ := Aside0.mk (Kd.R_elder' (by (with_reducible repeat (first | apply Kd.R_alloc | apply Kd.R_drewN | apply Kd.R_drew)); exact HO485.out) (Kd.R_base ho0) hb); have n1_ := Aside0.mk (Kd.R_lower (Kd.R_new' ho0 (Kd.R_lt (by (with_reducible repeat (first | apply Kd.R_alloc | apply Kd.R_drewN | apply Kd.R_drew)); exact HO485.out))) (below_size (by repeat (first | (with_reducible first | exact HB.out | apply below_alloc | apply pw_below_drewN | apply below_drew1) | exact HB.out)))); have n2_ := Aside0.mk (below_step (by repeat (first | (with_reducible first | exact HB.out | apply below_alloc | apply pw_below_drewN | apply below_drew1) | exact HB.out)) hb); clear HO485; clear HB; have HO485 := n0_; have HO488 := n1_; have HB := n2_; clear n0_ n1_ n2_; (try clear hb); (try clear hb2); (try clear hk); (try clear hi); (try clear ho0); obtain ⟨Ao111, co111, eo111⟩ := Kd.R_slice HO485.out; subst eo111; obtain ⟨Ao112, co112, eo112⟩ := Kd.R_slice HO488.out; subst eo112) | ((with_reducible refine gate_callee (f := 36) rfl ?_); refine goesL_ (some 17) rfl rfl Tryd.func36 (by kernel_rfl) rfl #[.slice Ao111 t483.length co111, .slice Ao112 t486.length co112] rfl (by (try simp only [List.map_toArray, List.map_cons, List.map_nil]); first | done | rfl | (simp only [List.length_drop, List.length_take]; rfl)) ?_; (with_reducible refine (sweep_Check.calls k _ _ t483 _ _ t486 t489 t490 t491 _ ?side1 ?side2 ?side3 ?side4 A5.out).mono ?_); (case side1 => repeat (first | exact (Kd.R_reads' HO485.out).2.2 | (with_reducible refine Kd.C_alloc ?_ _) | (with_reducible refine Kd.C_drewN ?_ _) | (with_reducible refine Kd.C_drew ?_))); (case side2 => exact (Kd.R_reads' HO485.out).2.1); (case side3 => repeat (first | exact (Kd.R_reads' HO488.out).2.2 | (with_reducible refine Kd.C_alloc ?_ _) | (with_reducible refine Kd.C_drewN ?_ _) | (with_reducible refine Kd.C_drew ?_))); (case side4 => exact (Kd.R_reads' HO488.out).2.1); rintro e w113 ⟨rfl, hb⟩; refine ⟨_, rfl, ?_⟩; have n0_ := Aside0.mk (Kd.R_below (by (with_reducible repeat (first | apply Kd.R_alloc | apply Kd.R_drewN | apply Kd.R_drew)); exact HO485.out) hb); have n1_ := Aside0.mk (Kd.R_below (by (with_reducible repeat (first | apply Kd.R_alloc | apply Kd.R_drewN | apply Kd.R_drew)); exact HO488.out) hb); have n2_ := Aside0.mk (below_step (by repeat (first | (with_reducible first | exact HB.out | apply below_alloc | apply pw_below_drewN | apply below_drew1) | exact HB.out)) hb); clear HO485; clear HO488; clear HB; have HO485 := n0_; have HO488 := n1_; have HB := n2_; clear n0_ n1_ n2_; (try clear hb); (try clear hb2); (try clear hk); (try clear hi)) | ((with_reducible refine gate_callee (f := 18) rfl ?_); refine goesL_ (some 23) rfl rfl Tryd.func18 (by kernel_rfl) rfl #[.slice A0 l0.length c0] rfl (by (try simp only [List.map_toArray, List.map_cons, List.map_nil]); first | done | rfl | (simp only [List.length_drop, List.length_take]; rfl)) ?_; (with_reducible refine (lampblacklaw03_Few.calls _ _ l0 t492 _ ?side1 ?side2 A6.out).mono ?_); (case side1 => repeat (first | exact (Kd.C_below HR0.out HB.out) | (with_reducible refine Kd.C_alloc ?_ _) | (with_reducible refine Kd.C_drewN ?_ _) | (with_reducible refine Kd.C_drew ?_))); (case side2 => exact HC0.out); rintro e w114 ⟨v493, rfl, ho0, hb⟩; refine ⟨_, rfl, ?_⟩; have n0_ := Aside0.mk (Kd.R_elder' (by (with_reducible repeat (first | apply Kd.R_alloc | apply Kd.R_drewN | apply Kd.R_drew)); exact HO485.out) (Kd.R_base ho0) hb); have n1_ := Aside0.mk (Kd.R_elder' (by (with_reducible repeat (first | apply Kd.R_alloc | apply Kd.R_drewN | apply Kd.R_drew)); exact HO488.out) (Kd.R_base ho0) hb); have n2_ := Aside0.mk (Kd.R_lower (Kd.R_new' (Kd.R_new' ho0 (Kd.R_lt (by (with_reducible repeat (first | apply Kd.R_alloc | apply Kd.R_drewN | apply Kd.R_drew)); exact HO485.out))) (Kd.R_lt (by (with_reducible repeat (first | apply Kd.R_alloc | apply Kd.R_drewN | apply Kd.R_drew)); exact HO488.out))) (below_size (by repeat (first | (with_reducible first | exact HB.out | apply below_alloc | apply pw_below_drewN | apply below_drew1) | exact HB.out)))); have n3_ := Aside0.mk (below_step (by repeat (first | (with_reducible first | exact HB.out | apply below_alloc | apply pw_below_drewN | apply below_drew1) | exact HB.out)) hb); clear HO485; clear HO488; clear HB; have HO485 := n0_; have HO488 := n1_; have HO494 := n2_; have HB := n3_; clear n0_ n1_ n2_ n3_; (try clear hb); (try clear hb2); (try clear hk); (try clear hi); (try clear ho0)) | ((with_reducible refine gate_callee (f := 27) rfl ?_); refine goesL_ (some 25) rfl rfl Tryd.func27 (by kernel_rfl) rfl #[.slice A1 l1.length c1] rfl (by (try simp only [List.map_toArray, List.map_cons, List.map_nil]); first | done | rfl | (simp only [List.length_drop, List.length_take]; rfl)) ?_; (with_reducible refine (lampblacklaw03_list.calls _ _ l1 t495 _ ?side1 ?side2 A7.out).mono ?_); (case side1 => repeat (first | exact (Kd.C_below HR1.out HB.out) | (with_reducible refine Kd.C_alloc ?_ _) | (with_reducible refine Kd.C_drewN ?_ _) | (with_reducible refine Kd.C_drew ?_))); (case side2 => exact HC1.out); rintro e w115 ⟨v496, rfl, ho0, hb⟩; refine ⟨_, rfl, ?_⟩; have n0_ := Aside0.mk (Kd.R_elder' (by (with_reducible repeat (first | apply Kd.R_alloc | apply Kd.R_drewN | apply Kd.R_drew)); exact HO485.out) (Kd.R_base ho0) hb); have n1_ := Aside0.mk (Kd.R_elder' (by (with_reducible repeat (first | apply Kd.R_alloc | apply Kd.R_drewN | apply Kd.R_drew)); exact HO488.out) (Kd.R_base ho0) hb); have n2_ := Aside0.mk (Kd.R_elder' (by (with_reducible repeat (first | apply Kd.R_alloc | apply Kd.R_drewN | apply Kd.R_drew)); exact HO494.out) (Kd.R_base ho0) hb); have n3_ := Aside0.mk (Kd.R_lower (Kd.R_new' (Kd.R_new' (Kd.R_new' ho0 (Kd.R_lt (by (with_reducible repeat (first | apply Kd.R_alloc | apply Kd.R_drewN | apply Kd.R_drew)); exact HO485.out))) (Kd.R_lt (by (with_reducible repeat (first | apply Kd.R_alloc | apply Kd.R_drewN | apply Kd.R_drew)); exact HO488.out))) (Kd.R_lt (by (with_reducible repeat (first | apply Kd.R_alloc | apply Kd.R_drewN | apply Kd.R_drew)); exact HO494.out))) (below_size (by repeat (first | (with_reducible first | exact HB.out | apply below_alloc | apply pw_below_drewN | apply below_drew1) | exact HB.out)))); have n4_ := Aside0.mk (below_step (by repeat (first | (with_reducible first | exact HB.out | apply below_alloc | apply pw_below_drewN | apply below_drew1) | exact HB.out)) hb); clear HO485; clear HO488; clear HO494; clear HB; have HO485 := n0_; have HO488 := n1_; have HO494 := n2_; have HO497 := n3_; have HB := n4_; clear n0_ n1_ n2_ n3_ n4_; (try clear hb); (try clear hb2); (try clear hk); (try clear hi); (try clear ho0); obtain ⟨Ao116, co116, eo116⟩ := Kd.R_slice HO494.out; subst eo116; obtain ⟨Ao117, co117, eo117⟩ := Kd.R_slice HO497.out; subst eo117) | ((with_reducible refine gate_callee (f := 41) rfl ?_); refine goesL_ (some 26) rfl rfl Tryd.func41 (by kernel_rfl) rfl #[.slice Ao116 t492.length co116, .slice Ao117 t495.length co117] rfl (by (try simp only [List.map_toArray, List.map_cons, List.map_nil]); first | done | rfl | (simp only [List.length_drop, List.length_take]; rfl)) ?_; (with_reducible refine (sweep_Follow.calls (hGL := (by repeat (first | (with_reducible exact HGL.out) | (with_reducible exact GL_below HGL.out HB.out) | (with_reducible refine GL_alloc ?_ _) | (with_reducible refine GL_drewN ?_ _) | (with_reducible refine GL_drew ?_)))) k _ _ t492 _ _ t495 t498 t499 _ ?side1 ?side2 ?side3 ?side4 A8.out).mono ?_); (case side1 => repeat (first | exact (Kd.R_reads' HO494.out).2.2 | (with_reducible refine Kd.C_alloc ?_ _) | (with_reducible refine Kd.C_drewN ?_ _) | (with_reducible refine Kd.C_drew ?_))); (case side2 => exact (Kd.R_reads' HO494.out).2.1); (case side3 => repeat (first | exact (Kd.R_reads' HO497.out).2.2 | (with_reducible refine Kd.C_alloc ?_ _) | (with_reducible refine Kd.C_drewN ?_ _) | (with_reducible refine Kd.C_drew ?_))); (case side4 => exact (Kd.R_reads' HO497.out).2.1); rintro e w118 ⟨v500, rfl, ho0, hb⟩; refine ⟨_, rfl, ?_⟩; have n0_ := Aside0.mk (Kd.R_below (by (with_reducible repeat (first | apply Kd.R_alloc | apply Kd.R_drewN | apply Kd.R_drew)); exact HO485.out) hb); have n1_ := Aside0.mk (Kd.R_below (by (with_reducible repeat (first | apply Kd.R_alloc | apply Kd.R_drewN | apply Kd.R_drew)); exact HO488.out) hb); have n2_ := Aside0.mk (Kd.R_below (by (with_reducible repeat (first | apply Kd.R_alloc | apply Kd.R_drewN | apply Kd.R_drew)); exact HO494.out) hb); have n3_ := Aside0.mk (Kd.R_below (by (with_reducible repeat (first | apply Kd.R_alloc | apply Kd.R_drewN | apply Kd.R_drew)); exact HO497.out) hb); have n4_ := Aside0.mk (Kd.R_lower ho0 (below_size (by repeat (first | (with_reducible first | exact HB.out | apply below_alloc | apply pw_below_drewN | apply below_drew1) | exact HB.out)))); have n5_ := Aside0.mk (below_step (by repeat (first | (with_reducible first | exact HB.out | apply below_alloc | apply pw_below_drewN | apply below_drew1) | exact HB.out)) hb); clear HO485; clear HO488; clear HO494; clear HO497; clear HB; have HO485 := n0_; have HO488 := n1_; have HO494 := n2_; have HO497 := n3_; have HO501 := n4_; have HB := n5_; clear n0_ n1_ n2_ n3_ n4_ n5_; (try clear hb); (try clear hb2); (try clear hk); (try clear hi); (try clear ho0)) | ((with_reducible refine gate_callee (f := 19) rfl ?_); refine goesL_ (some 30) rfl rfl Tryd.func19 (by kernel_rfl) rfl #[.slice A0 l0.length c0] rfl (by (try simp only [List.map_toArray, List.map_cons, List.map_nil]); first | done | rfl | (simp only [List.length_drop, List.length_take]; rfl)) ?_; (with_reducible refine (lampblackref03_Valid.calls k _ _ l0 false _ ?side1 ?side2 A9.out).mono ?_); (case side1 => repeat (first | exact (Kd.C_below HR0.out HB.out) | (with_reducible refine Kd.C_alloc ?_ _) | (with_reducible refine Kd.C_drewN ?_ _) | (with_reducible refine Kd.C_drew ?_))); (case side2 => exact HC0.out); rintro e w' ⟨rfl, ⟨nd, rfl⟩⟩; refine ⟨_, rfl, ?_⟩))
      go_ret
      exact ⟨by first | rfl | (simp [errW_none, errW_some] <;> rfl) | (simp [*, errW_none, errW_some] <;> rfl), by repeat (first | (with_reducible first | exact HB.out | apply below_alloc | apply pw_below_drewN | apply below_drew1) | exact HB.out)⟩

end Go.Proofs.YtijfddobandcdaaDoor.X
end
section
/- The width of a graph: the least k with which all nodes can be eliminated; its step from a set to the set without a node. -/
set_option linter.unusedVariables false
namespace Go.Proofs.YtijfddobandcdaaDoor.T
open Go.RowKit Go.Proofs.YtijfddobandcdaaDoorW.PrintWords Go.Proofs.YtijfddobandcdaaDoorW.PrintLast Go.Proofs.YtijfddobandcdaaDoorW.PrintMore

def ElimG (G : List Nat) (k S : Nat) : Prop := Elim (fun u => u < G.length) (Adj G) k (bset S)
theorem elimG_zero (G : List Nat) (k : Nat) : ElimG G k 0 := Elim.nil.ext fun u => by simp [bset]
theorem elimG_step {m : Nat} {G : List Nat} (hG : Gr m G) {k S : Nat} (hS : S < 2 ^ G.length) (h0 : S ≠ 0) :
    ElimG G k S ↔ ∃ v, bset S v ∧ ElimG G k (diff S (2 ^ v)) ∧ pc (nbset G (diff S (2 ^ v)) v) G.length ≤ k := by
  have nb : ∀ v, bset S v → (AtMost k (Nb (Adj G) (bset (diff S (2 ^ v))) v) ↔ pc (nbset G (diff S (2 ^ v)) v) G.length ≤ k) := fun v hv => by
    rw [← atMost_pc (nbset_lt hG _ _)]
    have e : bset (nbset G (diff S (2 ^ v)) v) = Nb (Adj G) (bset (diff S (2 ^ v))) v := funext fun j => propext (nbset_bit hG (bit_lt hS hv) j)
    rw [e]
  constructor
  · intro h
    unfold ElimG at h
    generalize hT : bset S = T at h
    cases h with
    | nil =>
      exfalso
      apply h0
      apply Nat.eq_of_testBit_eq
      intro i
      have : ¬ bset S i := by rw [hT]; exact id
      unfold bset at this
      simpa using this
    | @snoc S' v h1 hv hs ha =>
      have hv' : bset S v := by rw [hT]; exact .inr rfl
      have e : S' = bset (diff S (2 ^ v)) := funext fun u => propext (by
        rw [diff_bset, hT, two_pow_bit]
        constructor
        · intro h; exact ⟨.inl h, fun e => hs (e ▸ h)⟩
        · rintro ⟨h | h, h'⟩
          · exact h
          · exact (h' h).elim)
      subst e
      exact ⟨v, by rw [← hT]; exact hv', h1, (nb v hv').1 ha⟩
  · rintro ⟨v, hv, h1, h2⟩
    refine (Elim.snoc v h1 (bit_lt hS hv) (fun h => ?_) ((nb v hv).2 h2)).ext fun u => ?_
    · rw [diff_bset] at h
      exact h.2 ((two_pow_bit v v).2 rfl)
    · rw [diff_bset, two_pow_bit]
      constructor
      · rintro (h | h)
        · exact h.1
        · subst h; exact hv
      · intro h
        by_cases e : u = v
        · exact .inr e
        · exact .inl ⟨h, e⟩
theorem diff_lt {S v : Nat} (h : bset S v) : diff S (2 ^ v) < S := by
  have h1 := diff_le S (2 ^ v)
  have h2 : diff S (2 ^ v) ≠ S := fun e => by
    have := (diff_bset S (2 ^ v) v).1 (by rw [e]; exact h)
    exact this.2 ((two_pow_bit v v).2 rfl)
  omega
theorem some_bit {S : Nat} (h : S ≠ 0) : ∃ v, bset S v := by
  apply Classical.byContradiction
  intro hn
  apply h
  apply Nat.eq_of_testBit_eq
  intro i
  have : ¬ bset S i := fun hi => hn ⟨i, hi⟩
  unfold bset at this
  simpa using this
theorem elimG_big {m : Nat} {G : List Nat} (hG : Gr m G) {k : Nat} (hk : G.length ≤ k) : ∀ S, S < 2 ^ G.length → ElimG G k S := by
  intro S
  induction S using Nat.strongRecOn with
  | _ S ih =>
    intro hS
    by_cases h0 : S = 0
    · subst h0; exact elimG_zero G k
    · obtain ⟨v, hv⟩ := some_bit h0
      have hd := diff_lt hv
      exact (elimG_step hG hS h0).2 ⟨v, hv, ih _ hd (by omega), Nat.le_trans (pc_le _ _) hk⟩
theorem pc_more {x n : Nat} (hx : x < 2 ^ n) : ∀ d, pc x (n + d) = pc x n
  | 0 => rfl
  | d + 1 => by
    rw [← Nat.add_assoc]
    simp only [pc]
    rw [pc_more hx d, testBit_ge hx (by omega)]
    rfl
theorem pc_nine {x n : Nat} (hx : x < 2 ^ n) (hn : n ≤ 9) : pc x 9 = pc x n := by
  have := pc_more hx (9 - n)
  rwa [show n + (9 - n) = 9 by omega] at this

/-- W is the width of G. -/
def IsWidth (G : List Nat) (W : Nat) : Prop := ∀ k, W ≤ k ↔ ElimG G k (2 ^ G.length - 1)
theorem IsWidth.uniq {G : List Nat} {a b : Nat} (h : IsWidth G a) (h' : IsWidth G b) : a = b := by
  have h1 := (h b).2 ((h' b).1 (Nat.le_refl _))
  have h2 := (h' a).2 ((h a).1 (Nat.le_refl _))
  omega
theorem all_bit (n u : Nat) : bset (2 ^ n - 1) u ↔ u < n := by
  unfold bset; rw [Nat.testBit_two_pow_sub_one, decide_eq_true_eq]
theorem elimG_all {G : List Nat} {k : Nat} : ElimG G k (2 ^ G.length - 1) ↔ Elim (fun u => u < G.length) (Adj G) k (fun u => u < G.length) := by
  unfold ElimG
  have e : bset (2 ^ G.length - 1) = fun u => u < G.length := funext fun u => propext (all_bit _ u)
  rw [e]
theorem isWidth_iff {G : List Nat} {W : Nat} : IsWidth G W ↔ ∀ k, W ≤ k ↔ Elim (fun u => u < G.length) (Adj G) k (fun u => u < G.length) :=
  ⟨fun h k => (h k).trans elimG_all, fun h k => (h k).trans elimG_all.symm⟩
theorem width_exists {m : Nat} {G : List Nat} (hG : Gr m G) : ∃ W, IsWidth G W ∧ W ≤ G.length := by
  have h2 := Nat.two_pow_pos G.length
  have hall : ElimG G G.length (2 ^ G.length - 1) := elimG_big hG (Nat.le_refl _) _ (by omega)
  have key : ∀ n, ElimG G n (2 ^ G.length - 1) → ∃ W, IsWidth G W ∧ W ≤ n := by
    intro n
    induction n with
    | zero => intro h; exact ⟨0, fun k => ⟨fun _ => Elim.mono h (Nat.zero_le k), fun _ => Nat.zero_le k⟩, Nat.le_refl _⟩
    | succ n ih =>
      intro h
      by_cases h' : ElimG G n (2 ^ G.length - 1)
      · obtain ⟨W, h1, h2⟩ := ih h'; exact ⟨W, h1, by omega⟩
      · refine ⟨n + 1, fun k => ⟨fun hk => Elim.mono h hk, fun hk => ?_⟩, Nat.le_refl _⟩
        apply Classical.byContradiction
        intro hlt
        exact h' (Elim.mono hk (by omega))
  exact key _ hall
end Go.Proofs.YtijfddobandcdaaDoor.T
end
section
/- A node less, an edge less, two neighbours made one: what becomes of a graph, and of its width. -/
set_option linter.unusedVariables false
namespace Go.Proofs.YtijfddobandcdaaDoor.T
open Go.RowKit Go.Proofs.YtijfddobandcdaaDoorW.PrintWords Go.Proofs.YtijfddobandcdaaDoorW.PrintLast Go.Proofs.YtijfddobandcdaaDoorW.PrintMore

/-- The number that a node has when node v is put back. -/
def up (v u : Nat) : Nat := if u < v then u else u + 1
def down (v u : Nat) : Nat := if u < v then u else u - 1
theorem down_up (v u : Nat) : down v (up v u) = u := by
  unfold down up
  by_cases h : u < v
  · rw [if_pos h, if_pos h]
  · rw [if_neg h, if_neg (by omega)]; omega
theorem up_ne (v u : Nat) : up v u ≠ v := by unfold up; split <;> omega
theorem up_inj (v a b : Nat) (h : up v a = up v b) : a = b := by rw [← down_up v a, h, down_up]
theorem up_onto {v u : Nat} (h : u ≠ v) : up v (down v u) = u := by
  unfold up down
  by_cases h1 : u < v
  · rw [if_pos h1, if_pos h1]
  · rw [if_neg h1, if_neg (by omega)]; omega
theorem up_lt {v u n : Nat} (hv : v < n) : up v u < n ↔ u < n - 1 := by unfold up; split <;> omega
/-- A set without node v, the nodes behind it one place ahead. -/
def delbits (v s : Nat) : Nat := (s &&& (2 ^ v - 1)) ||| (s / 2 ^ (v + 1) * 2 ^ v)
theorem delbits_bit (v s j : Nat) : (delbits v s).testBit j = s.testBit (up v j) := by
  unfold delbits up
  rw [Nat.testBit_or, Nat.testBit_and, Nat.testBit_two_pow_sub_one, Nat.testBit_mul_two_pow, Nat.testBit_div_two_pow]
  by_cases h : j < v
  · rw [if_pos h, decide_eq_true h, decide_eq_false (show ¬ v ≤ j by omega)]; simp
  · rw [if_neg h, decide_eq_false h, decide_eq_true (show v ≤ j by omega), show j - v + (v + 1) = j + 1 by omega]; simp
/-- The rows up to i, without row v. -/
def delTo (G : List Nat) (v : Nat) : Nat → List Nat
  | 0 => []
  | i + 1 => if i = v then delTo G v i else delTo G v i ++ [delbits v (G.getD i 0)]
def del (G : List Nat) (v : Nat) : List Nat := delTo G v G.length
theorem delTo_length (G : List Nat) (v : Nat) : ∀ i, (delTo G v i).length = if i ≤ v then i else i - 1
  | 0 => by simp [delTo]
  | i + 1 => by
    have ih := delTo_length G v i
    unfold delTo
    by_cases h : i = v
    · subst h; rw [if_pos rfl, ih]; simp
    · rw [if_neg h, List.length_append, ih]; simp; split <;> split <;> omega
theorem delTo_get (G : List Nat) (v : Nat) : ∀ i u, u < (delTo G v i).length → (delTo G v i).getD u 0 = delbits v (G.getD (up v u) 0)
  | 0, u, h => by simp [delTo] at h
  | i + 1, u, h => by
    have hl := delTo_length G v i
    have ih := delTo_get G v i u
    unfold delTo at h ⊢
    by_cases e : i = v
    · rw [if_pos e] at h ⊢; exact ih h
    · rw [if_neg e] at h ⊢
      by_cases hu : u < (delTo G v i).length
      · rw [← ih hu]
        simp only [List.getD_eq_getElem?_getD]
        rw [List.getElem?_append_left hu]
      · have hu2 : u = (delTo G v i).length := by simp at h; omega
        simp only [List.getD_eq_getElem?_getD]
        rw [List.getElem?_append_right (by omega), hu2]
        have : up v (delTo G v i).length = i := by
          rw [hl]; unfold up
          by_cases h1 : i ≤ v
          · rw [if_pos h1, if_pos (by omega)]
          · rw [if_neg h1, if_neg (by omega)]; omega
        rw [this]
        simp
theorem del_length {G : List Nat} {v : Nat} (hv : v < G.length) : (del G v).length = G.length - 1 := by
  unfold del; rw [delTo_length, if_neg (by omega)]
theorem del_adj {G : List Nat} {v : Nat} (hv : v < G.length) (u w : Nat) : Adj (del G v) u w ↔ u < G.length - 1 ∧ Adj G (up v u) (up v w) := by
  unfold Adj
  by_cases hu : u < G.length - 1
  · have h := delTo_get G v G.length u (by have := del_length hv; unfold del at this; omega)
    have h' : (del G v).getD u 0 = delbits v (G.getD (up v u) 0) := h
    rw [h', delbits_bit]
    exact ⟨fun h => ⟨hu, h⟩, fun h => h.2⟩
  · rw [getD_out (del G v) u (by rw [del_length hv]; omega)]
    simp [hu]
theorem gr_of {m : Nat} {H : List Nat} (h1 : 1 ≤ H.length) (h2 : H.length ≤ m) (h3 : ∀ u w, Adj H u w → w < H.length ∧ Adj H w u ∧ u ≠ w) : Gr m H where
  pos := h1
  most := h2
  lt := fun i hi => lt_of_bits fun j hj => (h3 i j hj).1
  irr := fun i hi => by
    cases hb : (H.getD i 0).testBit i
    · rfl
    · exact ((h3 i i hb).2.2 rfl).elim
  symm := fun i j hi hj => by
    have a := h3 i j
    have b := h3 j i
    unfold Adj at a b
    cases ha : (H.getD i 0).testBit j <;> cases hb : (H.getD j 0).testBit i <;> simp_all
theorem del_gr {m : Nat} {G : List Nat} (hG : Gr m G) {v : Nat} (hv : v < G.length) (hn : 2 ≤ G.length) : Gr m (del G v) := by
  have hl := del_length hv
  refine gr_of (by omega) (by have := hG.most; omega) fun u w h => ?_
  obtain ⟨hu, ha⟩ := (del_adj hv u w).1 h
  have hw := (up_lt hv).1 (hG.adj_lt ha)
  refine ⟨by omega, (del_adj hv w u).2 ⟨hw, hG.adj_symm ha⟩, fun e => ?_⟩
  subst e
  exact hG.adj_irr ha

abbrev Full (G : List Nat) (k : Nat) : Prop := Elim (fun u => u < G.length) (Adj G) k (fun u => u < G.length)
/-- A part of a graph (by a renaming) has no greater width. -/
theorem full_part {m m' : Nat} {G H : List Nat} (hH : Gr m' H) {k : Nat} (φ ψ : Nat → Nat) (hψ : ∀ u, ψ (φ u) = u) (hφ : ∀ u, u < H.length → φ u < G.length)
    (hadj : ∀ u w, Adj H u w → Adj G (φ u) (φ w)) (h : Full G k) : Full H k :=
  (Elim.part (W := fun u => u < H.length) φ ψ hψ (fun _ _ a => hH.adj_lt a) hadj h).ext fun u => ⟨fun h => h.1, fun h => ⟨h, hφ u h⟩⟩
theorem full_del {m : Nat} {G : List Nat} (hG : Gr m G) {v : Nat} (hv : v < G.length) (hn : 2 ≤ G.length) {k : Nat} (h : Full G k) : Full (del G v) k :=
  full_part (m := m) (del_gr hG hv hn) (up v) (down v) (down_up v) (fun u hu => (up_lt hv).2 (by rw [del_length hv] at hu; exact hu)) (fun u w a => ((del_adj hv u w).1 a).2) h
theorem full_more {m : Nat} {G : List Nat} (hG : Gr m G) {v : Nat} (hv : v < G.length) {k : Nat} (h : Full (del G v) k) : Full G (k + 1) := by
  refine Elim.more_all (W := fun u => u < (del G v).length) v (up v) (up_inj v) (fun u => ?_) (up_ne v) (fun _ _ a => hG.adj_lt a) (fun u w a => ?_) h
  · rw [del_length hv]
    constructor
    · intro hu
      by_cases e : u = v
      · exact .inl e
      · exact .inr ⟨down v u, (up_lt hv).1 (by rw [up_onto e]; exact hu), up_onto e⟩
    · rintro (e | ⟨x, hx, rfl⟩)
      · rw [e]; exact hv
      · exact (up_lt hv).2 hx
  · exact (del_adj hv u w).2 ⟨(up_lt hv).1 (hG.adj_lt' a), a⟩
/-- The widths of two graphs, when what eliminates one eliminates the other. -/
theorem width_le {G H : List Nat} {a b d : Nat} (hG : IsWidth G a) (hH : IsWidth H b) (h : ∀ k, Full G k → Full H (k + d)) : b ≤ a + d :=
  (isWidth_iff.1 hH _).2 (h a ((isWidth_iff.1 hG a).1 (Nat.le_refl _)))

/-- H is a graph whose width is that of G or one less. -/
def Less (G H : List Nat) : Prop := Gr 9 H ∧ (∀ k, Full G k → Full H k) ∧ ∀ k, Full H k → Full G (k + 1)
theorem less_del {G : List Nat} (hG : Gr 9 G) {v : Nat} (hv : v < G.length) (hn : 2 ≤ G.length) : Less G (del G v) :=
  ⟨del_gr hG hv hn, fun _ => full_del hG hv hn, fun _ => full_more hG hv⟩
/-- An edge less. -/
theorem less_cut {G H : List Nat} (hG : Gr 9 G) {a b : Nat} (ha : a < G.length) (hn : 2 ≤ G.length) (hl : H.length = G.length)
    (hadj : ∀ u w, Adj H u w ↔ Adj G u w ∧ ¬ (u = a ∧ w = b) ∧ ¬ (u = b ∧ w = a)) : Less G H := by
  have hH : Gr 9 H := gr_of (by omega) (by have := hG.most; omega) fun u w h => by
    obtain ⟨h1, h2, h3⟩ := (hadj u w).1 h
    exact ⟨by rw [hl]; exact hG.adj_lt h1, (hadj w u).2 ⟨hG.adj_symm h1, fun e => h3 ⟨e.2, e.1⟩, fun e => h2 ⟨e.2, e.1⟩⟩, fun e => by subst e; exact hG.adj_irr h1⟩
  refine ⟨hH, fun k h => full_part (m := 9) hH id id (fun _ => rfl) (fun u hu => by rw [hl] at hu; exact hu) (fun u w a => ((hadj u w).1 a).1) h, fun k h => full_more hG ha ?_⟩
  refine full_part (m := 9) (del_gr hG ha hn) (up a) (down a) (down_up a) (fun u hu => by rw [hl]; exact (up_lt ha).2 (by rw [del_length ha] at hu; exact hu)) (fun u w e => ?_) h
  obtain ⟨h1, h2⟩ := (del_adj ha u w).1 e
  exact (hadj _ _).2 ⟨h2, fun e => up_ne a u e.1, fun e => up_ne a w e.2⟩
/-- Two neighbours made one: J is G with b's neighbours as a's, too. -/
theorem less_join {G J : List Nat} (hG : Gr 9 G) {a b : Nat} (hab : Adj G a b) (hl : J.length = G.length)
    (hadj : ∀ u w, Adj J u w ↔ Adj G u w ∨ (w = a ∧ u ≠ a ∧ Adj G b u) ∨ (u = a ∧ w ≠ a ∧ Adj G b w)) : Less G (del J b) := by
  have ha := hG.adj_lt' hab
  have hb := hG.adj_lt hab
  have hne : a ≠ b := fun e => by subst e; exact hG.adj_irr hab
  have hn : 2 ≤ G.length := by omega
  have hJ : Gr 9 J := gr_of (by omega) (by have := hG.most; omega) fun u w h => by
    rcases (hadj u w).1 h with h1 | ⟨h1, h2, h3⟩ | ⟨h1, h2, h3⟩
    · exact ⟨by rw [hl]; exact hG.adj_lt h1, (hadj w u).2 (.inl (hG.adj_symm h1)), fun e => by subst e; exact hG.adj_irr h1⟩
    · subst h1; exact ⟨by omega, (hadj _ _).2 (.inr (.inr ⟨rfl, h2, h3⟩)), h2⟩
    · subst h1; exact ⟨by rw [hl]; exact hG.adj_lt h3, (hadj _ _).2 (.inr (.inl ⟨rfl, h2, h3⟩)), fun e => h2 e.symm⟩
  have hb' : b < J.length := by omega
  have hD := del_gr hJ hb' (by omega)
  refine ⟨hD, fun k h => ?_, fun k h => full_more hG hb ?_⟩
  · have h1 := Elim.contract (adj' := fun u w => u ≠ b ∧ w ≠ b ∧ Adj J u w) a b hab (hG.adj_symm hab) hne ha (fun u w e => by
      obtain ⟨e1, e2, e3⟩ := e
      refine ⟨fun e => by subst e; exact hJ.adj_irr e3, ?_⟩
      have gu : ∀ x, x ≠ b → glue a b x = x := fun x h => by unfold glue; rw [if_neg h]
      have gb : glue a b b = a := by unfold glue; rw [if_pos rfl]
      rcases (hadj u w).1 e3 with h1 | ⟨h1, h2, h3⟩ | ⟨h1, h2, h3⟩
      · exact ⟨u, w, gu u e1, gu w e2, h1⟩
      · subst h1; exact ⟨u, b, gu u e1, gb, hG.adj_symm h3⟩
      · subst h1; exact ⟨b, w, gb, gu w e2, h3⟩) h
    refine (Elim.part (W := fun u => u < (del J b).length) (up b) (down b) (down_up b) (fun _ _ e => hD.adj_lt e) (fun u w e => ⟨up_ne b u, up_ne b w, ((del_adj hb' u w).1 e).2⟩) h1).ext fun u => ⟨fun h => h.1, fun h => ⟨h, up_ne b u, fun x hx => ?_⟩⟩
    by_cases e : x = b
    · rw [e]; exact hb
    · unfold glue at hx
      rw [if_neg e] at hx
      rw [hx]
      exact (up_lt hb).2 (by rw [del_length hb'] at h; omega)
  · refine full_part (m := 9) (del_gr hG hb hn) id id (fun _ => rfl) (fun u hu => by rw [del_length hb] at hu; show u < _; rw [del_length hb']; omega) (fun u w e => ?_) h
    obtain ⟨h1, h2⟩ := (del_adj hb u w).1 e
    exact (del_adj hb' u w).2 ⟨by omega, (hadj _ _).2 (.inl h2)⟩
end Go.Proofs.YtijfddobandcdaaDoor.T
end
section
/- Layouts of a town: the border of a set, what can come behind a set with borders of at most k nodes; a node less, an edge less. -/
set_option linter.unusedVariables false
namespace Go.Proofs.YtijfddobandcdaaDoor.T
open Go.RowKit Go.Proofs.YtijfddobandcdaaDoorW.PrintWords Go.Proofs.YtijfddobandcdaaDoorW.PrintLast Go.Proofs.YtijfddobandcdaaDoorW.PrintMore

/-- The border of a set: those of its nodes that have a neighbour outside. -/
noncomputable def bor (G : List Nat) (S : Nat) : Nat := ofSet (fun j => bset S j ∧ ∃ u, Adj G j u ∧ ¬ bset S u) G.length
theorem bor_bit {m : Nat} {G : List Nat} (hG : Gr m G) (S j : Nat) : bset (bor G S) j ↔ bset S j ∧ ∃ u, Adj G j u ∧ ¬ bset S u := by
  unfold bor
  rw [ofSet_bit]
  exact ⟨fun h => h.2, fun h => ⟨by obtain ⟨_, u, ha, _⟩ := h; exact hG.adj_lt' ha, h⟩⟩
theorem bor_lt (G : List Nat) (S : Nat) : bor G S < 2 ^ G.length := ofSet_lt _ _

/-- All nodes can be laid out behind S with borders of at most k nodes. -/
inductive Lay (G : List Nat) (k : Nat) : Nat → Prop
  | done : Lay G k (2 ^ G.length - 1)
  | step {S v : Nat} : v < G.length → ¬ bset S v → pc (bor G (S ||| 2 ^ v)) 9 ≤ k → Lay G k (S ||| 2 ^ v) → Lay G k S
/-- x is the path width. -/
def IsVs (G : List Nat) (x : Nat) : Prop := ∀ k, x ≤ k ↔ Lay G k 0
theorem IsVs.uniq {G : List Nat} {a b : Nat} (h : IsVs G a) (h' : IsVs G b) : a = b :=
  Nat.le_antisymm ((h b).2 ((h' b).1 (Nat.le_refl _))) ((h' a).2 ((h a).1 (Nat.le_refl _)))

theorem full_bit (n j : Nat) : bset (2 ^ n - 1) j ↔ j < n := by
  unfold bset
  rw [Nat.testBit_two_pow_sub_one, decide_eq_true_eq]
theorem pc_full (x n : Nat) : pc x n ≤ n := pc_le x n
/-- A set whose elements are on a list, or come of another one's elements, has no more. -/
theorem pc_onto {x y n : Nat} (l : List Nat) (g : Nat → Nat) (h : ∀ j, j < n → bset x j → j ∈ l ∨ ∃ i, i < n ∧ bset y i ∧ g i = j) : pc x n ≤ pc y n + l.length := by
  rw [← els_length x n, ← els_length y n]
  have := nodup_le (els_nodup x n) (m := (els y n).map g ++ l) (fun j hj => by
    obtain ⟨h1, h2⟩ := mem_els.1 hj
    rcases h j h1 h2 with h | ⟨i, h3, h4, h5⟩
    · exact List.mem_append_right _ h
    · exact List.mem_append_left _ (List.mem_map.2 ⟨i, mem_els.2 ⟨h3, h4⟩, h5⟩))
  simpa using this

theorem pc_onto0 {x y n : Nat} (g : Nat → Nat) (h : ∀ j, j < n → bset x j → ∃ i, i < n ∧ bset y i ∧ g i = j) : pc x n ≤ pc y n := by
  have := pc_onto (x := x) (y := y) (n := n) [] g (fun j h1 h2 => .inr (h j h1 h2))
  simpa using this
theorem pc_onto1 {x y n : Nat} (a : Nat) (g : Nat → Nat) (h : ∀ j, j < n → bset x j → j = a ∨ ∃ i, i < n ∧ bset y i ∧ g i = j) : pc x n ≤ pc y n + 1 := by
  have := pc_onto (x := x) (y := y) (n := n) [a] g (fun j h1 h2 => (h j h1 h2).imp (fun e => by simp [e]) id)
  simpa using this
/-- What is missing grows less. -/
theorem or_new {S v n : Nat} (hS : S < 2 ^ n) (hv : v < n) : S ||| 2 ^ v < 2 ^ n := or_lt hS (Nat.pow_lt_pow_right (by omega) hv)
theorem or_gt {S v : Nat} (h : ¬ bset S v) : S < S ||| 2 ^ v := by
  have h1 : S ≤ S ||| 2 ^ v := Nat.left_le_or
  rcases Nat.lt_or_ge S (S ||| 2 ^ v) with h2 | h2
  · exact h2
  · have e : S ||| 2 ^ v = S := by omega
    have : bset (S ||| 2 ^ v) v := (or_bset _ _ _).2 (.inr ((two_pow_bit v v).2 rfl))
    rw [e] at this
    exact (h this).elim
theorem missing {S n : Nat} (hS : S < 2 ^ n) (h : S ≠ 2 ^ n - 1) : ∃ v, v < n ∧ ¬ bset S v := by
  apply Classical.byContradiction
  intro hno
  refine h (eq_of_bits fun j => ?_)
  have := full_bit n j
  unfold bset at this
  rw [this]
  refine ⟨fun hj => bit_lt hS hj, fun hj => Classical.byContradiction fun hb => hno ⟨j, hj, hb⟩⟩
theorem lay_big {G : List Nat} {k : Nat} (hk : 9 ≤ k ∨ G.length ≤ k) (hn : G.length ≤ 9) : ∀ d S, 2 ^ G.length - S = d → S < 2 ^ G.length → Lay G k S := by
  intro d
  induction d using Nat.strongRecOn with
  | _ d ih =>
    intro S hd hS
    by_cases h : S = 2 ^ G.length - 1
    · rw [h]; exact .done
    · obtain ⟨v, hv, hb⟩ := missing hS h
      have h1 := or_new hS hv
      have h2 := or_gt hb
      refine .step hv hb ?_ (ih _ (by omega) _ rfl h1)
      have h3 := pc_onto (x := bor G (S ||| 2 ^ v)) (y := 0) (n := 9) (List.range G.length) id (fun j _ hj => .inl (List.mem_range.2 (bit_lt (bor_lt G _) hj)))
      have h4 := pc_le (bor G (S ||| 2 ^ v)) 9
      have h5 : pc 0 9 = 0 := by decide
      rw [List.length_range] at h3
      omega
theorem Lay.mono {G : List Nat} {k k' S : Nat} (h : Lay G k S) (hk : k ≤ k') : Lay G k' S := by
  induction h with
  | done => exact .done
  | step h1 h2 h3 _ ih => exact .step h1 h2 (by omega) ih

/-! A node less. -/
theorem up_of_ne {v j : Nat} (h : j ≠ v) : ∃ i, up v i = j := ⟨down v j, up_onto h⟩
theorem delbits_bset (v s j : Nat) : bset (delbits v s) j ↔ bset s (up v j) := by unfold bset; rw [delbits_bit]
theorem lay_del {m : Nat} {G : List Nat} (hG : Gr m G) (hm : m ≤ 9) {v : Nat} (hv : v < G.length) (hn : 2 ≤ G.length) {k S : Nat} (h : Lay G k S) : Lay (del G v) k (delbits v S) := by
  have hl := del_length hv
  have hD := del_gr hG hv hn
  have hlen := hG.most
  induction h with
  | done =>
    have e : delbits v (2 ^ G.length - 1) = 2 ^ (del G v).length - 1 := eq_of_bits fun j => by
      have h1 := delbits_bset v (2 ^ G.length - 1) j
      have h2 := full_bit (del G v).length j
      have h3 := full_bit G.length (up v j)
      unfold bset at *
      rw [h1, h2, h3, hl]
      exact up_lt hv
    rw [e]
    exact .done
  | @step S u h1 h2 h3 _ ih =>
    by_cases e : u = v
    · have e1 : delbits v (S ||| 2 ^ u) = delbits v S := eq_of_bits fun j => by
        have a := delbits_bset v (S ||| 2 ^ u) j
        have b := delbits_bset v S j
        unfold bset at *
        rw [a, b]
        show bset _ _ ↔ bset _ _
        rw [or_bset, two_pow_bit, e]
        exact ⟨fun h => h.resolve_right (up_ne v j), .inl⟩
      rw [← e1]
      exact ih
    · obtain ⟨x, rfl⟩ := up_of_ne e
      have hx : x < (del G v).length := by rw [hl]; exact (up_lt hv).1 h1
      have e1 : delbits v (S ||| 2 ^ up v x) = delbits v S ||| 2 ^ x := eq_of_bits fun j => by
        show bset _ _ ↔ bset _ _
        rw [delbits_bset, or_bset, or_bset, delbits_bset, two_pow_bit, two_pow_bit]
        exact ⟨fun h => h.imp id (fun h => up_inj v _ _ h), fun h => h.imp id (fun h => by rw [h])⟩
      rw [e1] at ih
      refine .step hx (fun h => h2 ((delbits_bset v S x).1 h)) (Nat.le_trans ?_ h3) ih
      rw [← e1]
      refine pc_onto0 (down v) fun j _ hj => ⟨up v j, ?_, ?_, down_up v j⟩
      · obtain ⟨_, u, hu, _⟩ := (bor_bit hD _ _).1 hj
        have := hG.adj_lt' ((del_adj hv j u).1 hu).2
        omega
      · obtain ⟨h4, u, hu, h5⟩ := (bor_bit hD _ _).1 hj
        exact (bor_bit hG _ _).2 ⟨(delbits_bset _ _ _).1 h4, up v u, ((del_adj hv j u).1 hu).2, fun h => h5 ((delbits_bset _ _ _).2 h)⟩
/-- v put in front of a set of the smaller graph. -/
noncomputable def putv (v n T : Nat) : Nat := ofSet (fun j => j = v ∨ ∃ i, up v i = j ∧ bset T i) n
theorem putv_bit {v n T : Nat} (hv : v < n) (hT : T < 2 ^ (n - 1)) (j : Nat) : bset (putv v n T) j ↔ j = v ∨ ∃ i, up v i = j ∧ bset T i := by
  unfold putv
  rw [ofSet_bit]
  refine ⟨fun h => h.2, fun h => ⟨?_, h⟩⟩
  rcases h with h | ⟨i, rfl, h⟩
  · omega
  · exact (up_lt hv).2 (bit_lt hT h)
theorem lay_lt {G : List Nat} {k S : Nat} (h : Lay G k S) : S < 2 ^ G.length := by
  induction h with
  | done => have := Nat.two_pow_pos G.length; omega
  | step _ _ _ _ ih => exact Nat.lt_of_le_of_lt Nat.left_le_or ih
theorem lay_put {m : Nat} {G : List Nat} (hG : Gr m G) (hm : m ≤ 9) {v : Nat} (hv : v < G.length) (hn : 2 ≤ G.length) {k T : Nat} (h : Lay (del G v) k T) : Lay G (k + 1) (putv v G.length T) := by
  have hl := del_length hv
  have hD := del_gr hG hv hn
  have hlen := hG.most
  induction h with
  | done =>
    have e : putv v G.length (2 ^ (del G v).length - 1) = 2 ^ G.length - 1 := eq_of_bits fun j => by
      show bset _ _ ↔ bset _ _
      rw [putv_bit hv (by rw [hl]; have := Nat.two_pow_pos (G.length - 1); omega), full_bit]
      constructor
      · rintro (h | ⟨i, rfl, h⟩)
        · omega
        · rw [full_bit, hl] at h; exact (up_lt hv).2 h
      · intro h
        by_cases e : j = v
        · exact .inl e
        · obtain ⟨i, rfl⟩ := up_of_ne e
          exact .inr ⟨i, rfl, (full_bit _ _).2 (by rw [hl]; exact (up_lt hv).1 h)⟩
    rw [e]
    exact .done
  | @step T u h1 h2 h3 h4 ih =>
    have hT' : T ||| 2 ^ u < 2 ^ (G.length - 1) := by have := lay_lt h4; rw [hl] at this; exact this
    have hT : T < 2 ^ (G.length - 1) := Nat.lt_of_le_of_lt Nat.left_le_or hT'
    have e1 : putv v G.length (T ||| 2 ^ u) = putv v G.length T ||| 2 ^ up v u := eq_of_bits fun j => by
      show bset _ _ ↔ bset _ _
      rw [putv_bit hv hT', or_bset, putv_bit hv hT, two_pow_bit]
      constructor
      · rintro (h | ⟨i, rfl, h⟩)
        · exact .inl (.inl h)
        · rcases (or_bset _ _ _).1 h with h | h
          · exact .inl (.inr ⟨i, rfl, h⟩)
          · exact .inr (by rw [(two_pow_bit u i).1 h])
      · rintro ((h | ⟨i, rfl, h⟩) | h)
        · exact .inl h
        · exact .inr ⟨i, rfl, (or_bset _ _ _).2 (.inl h)⟩
        · exact .inr ⟨u, h.symm, (or_bset _ _ _).2 (.inr ((two_pow_bit u u).2 rfl))⟩
    rw [e1] at ih
    refine .step ((up_lt hv).2 (by rw [hl] at h1; exact h1)) (fun h => ?_) (Nat.le_trans ?_ (Nat.add_le_add_right h3 1)) ih
    · rcases (putv_bit hv hT _).1 h with h | ⟨i, hi, h⟩
      · exact up_ne v u h
      · rw [up_inj v _ _ hi] at h; exact h2 h
    · rw [← e1]
      refine pc_onto1 v (up v) fun j hj hb => ?_
      obtain ⟨h5, w, hw, h6⟩ := (bor_bit hG _ _).1 hb
      by_cases e : j = v
      · exact .inl e
      · obtain ⟨i, rfl⟩ := up_of_ne e
        have hwv : w ≠ v := fun e => h6 ((putv_bit hv hT' _).2 (.inl e))
        obtain ⟨y, rfl⟩ := up_of_ne hwv
        refine .inr ⟨i, ?_, (bor_bit hD _ _).2 ⟨?_, y, (del_adj hv i y).2 ⟨(up_lt hv).1 (hG.adj_lt' hw), hw⟩, fun h => h6 ((putv_bit hv hT' _).2 (.inr ⟨y, rfl, h⟩))⟩, rfl⟩
        · have := hG.adj_lt' hw
          have := (up_lt hv).1 this
          omega
        · rcases (putv_bit hv hT' _).1 h5 with h | ⟨q, hq, h⟩
          · exact (e h).elim
          · rw [up_inj v _ _ hq] at h; exact h
theorem lay_more {m : Nat} {G : List Nat} (hG : Gr m G) (hm : m ≤ 9) {v : Nat} (hv : v < G.length) (hn : 2 ≤ G.length) {k : Nat} (h : Lay (del G v) k 0) : Lay G (k + 1) 0 := by
  have h0 : (0 : Nat) < 2 ^ (G.length - 1) := Nat.two_pow_pos _
  have e : putv v G.length 0 = 0 ||| 2 ^ v := eq_of_bits fun j => by
    show bset _ _ ↔ bset _ _
    rw [putv_bit hv h0, or_bset, two_pow_bit]
    have z : ∀ i, ¬ bset 0 i := fun i h => by unfold bset at h; simp at h
    exact ⟨fun h => h.elim .inr (fun ⟨i, _, h⟩ => (z i h).elim), fun h => h.elim (fun h => (z j h).elim) .inl⟩
  have h1 := lay_put hG hm hv hn h
  rw [e] at h1
  refine .step hv (fun h => by unfold bset at h; simp at h) ?_ h1
  have := pc_onto (x := bor G (0 ||| 2 ^ v)) (y := 0) (n := 9) [v] id (fun j _ hj => .inl (by
    have h2 := ((bor_bit hG _ _).1 hj).1
    rw [Nat.zero_or] at h2
    simp [(two_pow_bit v j).1 h2]))
  have h5 : pc 0 9 = 0 := by decide
  simp at this
  simp
  omega
theorem delbits_zero (v : Nat) : delbits v 0 = 0 := by unfold delbits; simp

/-! An edge less. -/
theorem lay_cut {m : Nat} {G H : List Nat} (hG : Gr m G) (hH : Gr m H) (hm : m ≤ 9) (hl : H.length = G.length) (hadj : ∀ u w, Adj H u w → Adj G u w) {k S : Nat} (h : Lay G k S) : Lay H k S := by
  induction h with
  | done => rw [← hl]; exact .done
  | @step S u h1 h2 h3 _ ih =>
    refine .step (by rw [hl]; exact h1) h2 (Nat.le_trans ?_ h3) ih
    refine pc_mono 9 fun j hj hb => ?_
    obtain ⟨h4, w, hw, h5⟩ := (bor_bit hH _ _).1 hb
    exact (bor_bit hG _ _).2 ⟨h4, w, hadj _ _ hw, h5⟩
theorem lay_uncut {m : Nat} {G H : List Nat} (hG : Gr m G) (hH : Gr m H) (hm : m ≤ 9) (hl : H.length = G.length) {a b : Nat} (hadj : ∀ u w, Adj G u w → Adj H u w ∨ (u = a ∧ w = b) ∨ (u = b ∧ w = a)) {k S : Nat} (h : Lay H k S) : Lay G (k + 1) S := by
  induction h with
  | done => rw [hl]; exact .done
  | @step S u h1 h2 h3 _ ih =>
    refine .step (by rw [← hl]; exact h1) h2 (Nat.le_trans ?_ (Nat.add_le_add_right h3 1)) ih
    by_cases ha : bset (S ||| 2 ^ u) a
    · refine pc_onto1 a id fun j hj hb => ?_
      obtain ⟨h4, w, hw, h5⟩ := (bor_bit hG _ _).1 hb
      rcases hadj j w hw with h | h | h
      · exact .inr ⟨j, hj, (bor_bit hH _ _).2 ⟨h4, w, h, h5⟩, rfl⟩
      · exact .inl h.1
      · rw [h.2] at h5; exact (h5 ha).elim
    · refine pc_onto1 b id fun j hj hb => ?_
      obtain ⟨h4, w, hw, h5⟩ := (bor_bit hG _ _).1 hb
      rcases hadj j w hw with h | h | h
      · exact .inr ⟨j, hj, (bor_bit hH _ _).2 ⟨h4, w, h, h5⟩, rfl⟩
      · rw [h.1] at h4; exact (ha h4).elim
      · exact .inl h.1
/-- H is a graph whose path width is that of G or one less. -/
def LessV (G H : List Nat) : Prop := Gr 7 H ∧ (∀ k, Lay G k 0 → Lay H k 0) ∧ ∀ k, Lay H k 0 → Lay G (k + 1) 0
theorem lessV_del {G : List Nat} (hG : Gr 7 G) {v : Nat} (hv : v < G.length) (hn : 2 ≤ G.length) : LessV G (del G v) :=
  ⟨del_gr hG hv hn, fun _ h => by have := lay_del hG (by omega) hv hn h; rwa [delbits_zero] at this, fun _ => lay_more hG (by omega) hv hn⟩
theorem lessV_cut {G H : List Nat} (hG : Gr 7 G) (a b : Nat) (hl : H.length = G.length) (hadj : ∀ u w, Adj H u w ↔ Adj G u w ∧ ¬ (u = a ∧ w = b) ∧ ¬ (u = b ∧ w = a)) : LessV G H := by
  have hH : Gr 7 H := gr_of (by have := hG.pos; omega) (by have := hG.most; omega) fun u w h => by
    obtain ⟨h1, h2, h3⟩ := (hadj u w).1 h
    exact ⟨by rw [hl]; exact hG.adj_lt h1, (hadj w u).2 ⟨hG.adj_symm h1, fun e => h3 ⟨e.2, e.1⟩, fun e => h2 ⟨e.2, e.1⟩⟩, fun e => by subst e; exact hG.adj_irr h1⟩
  refine ⟨hH, fun _ => lay_cut hG hH (by omega) hl (fun u w h => ((hadj u w).1 h).1), fun _ => lay_uncut hG hH (by omega) hl (a := a) (b := b) fun u w h => ?_⟩
  by_cases h1 : u = a ∧ w = b
  · exact .inr (.inl h1)
  · by_cases h2 : u = b ∧ w = a
    · exact .inr (.inr h2)
    · exact .inl ((hadj u w).2 ⟨h, h1, h2⟩)
theorem lessV_le {G H : List Nat} {a b : Nat} (hG : IsVs G a) (hH : IsVs H b) (h : LessV G H) : b ≤ a ∧ a ≤ b + 1 :=
  ⟨(hH a).2 (h.2.1 a ((hG a).1 (Nat.le_refl _))), (hG (b + 1)).2 (h.2.2 b ((hH b).1 (Nat.le_refl _)))⟩
end Go.Proofs.YtijfddobandcdaaDoor.T
end
section
/- What read tells: a graph that is valid, or nothing. -/
set_option linter.unusedVariables false
namespace Go.Proofs.YtijfddobandcdaaDoor.X
open Go.RowKit Go.Proofs.YtijfddobandcdaaDoorW.PrintWords Go.Proofs.YtijfddobandcdaaDoorW.PrintLast Go.Proofs.YtijfddobandcdaaDoorW.PrintMore Go.Proofs.YtijfddobandcdaaDoor.T

theorem read_l1 (g : List Int) (hn : g.length ≤ 7) (i : Nat) (hi : i < g.length) (r : List Int × Bool)
    (hrest : Ev (fun k => sweep_read.l0 k g (g.length : Int) g (g.length : Int) ((i + 1 : Nat) : Int)) r) :
    ∀ d j, j + d = g.length → Ev (fun k => sweep_read.l1 k g (g.length : Int) (i : Int) (rd g (i : Int)) g (g.length : Int) (i : Int) (g.length : Int) (j : Int))
      (cond (allFrom (fun j => decide (ibit (rd g (i : Int)) j = ibit (rd g (j : Int)) i)) g.length d j) r (([] : List Int), false)) := by
  intro d
  induction d with
  | zero =>
    intro j hj
    refine Ev.step (fun k => ?_) hrest
    rw [sweep_read.l1, if_neg (by omega), wrap_succ i (by omega)]
  | succ d ih =>
    intro j hj
    simp only [allFrom]
    by_cases hb : ibit (rd g (i : Int)) j = ibit (rd g (j : Int)) i
    · refine Ev.step (f := fun k => sweep_read.l1 k g (g.length : Int) (i : Int) (rd g (i : Int)) g (g.length : Int) (i : Int) (g.length : Int) ((j + 1 : Nat) : Int)) (fun k => ?_) ?_
      · rw [sweep_read.l1, if_pos (by omega), if_pos (by omega), if_pos (by omega), if_pos (by omega), wrap_succ j (by omega)]
        exact if_pos hb
      · have := ih (j + 1) (by omega)
        simpa [hb] using this
    · refine Ev.step (f := fun _ => some (([] : List Int), false)) (fun k => ?_) (Ev.some (by simp [hb]))
      rw [sweep_read.l1, if_pos (by omega), if_pos (by omega), if_pos (by omega), if_pos (by omega)]
      exact if_neg hb

theorem read_l0 (g : List Int) (hn : g.length ≤ 7) :
    ∀ d i, i + d = g.length → Ev (fun k => sweep_read.l0 k g (g.length : Int) g (g.length : Int) (i : Int)) (cond (allFrom (rowOk g) g.length d i) (g, true) (([] : List Int), false)) := by
  intro d
  induction d with
  | zero =>
    intro i hi
    refine Ev.step (f := fun _ => some (g, true)) (fun k => ?_) (Ev.some (by simp [allFrom]))
    rw [sweep_read.l0, if_neg (by omega)]
  | succ d ih =>
    intro i hi
    have stop : ∀ k, sweep_read.j2 (k + 1) g (g.length : Int) (i : Int) (rd g (i : Int)) g (g.length : Int) (i : Int) true = some (([] : List Int), false) := fun k => by
      rw [sweep_read.j2, if_pos rfl]
    simp only [allFrom, rowOk]
    by_cases h1 : rd g (i : Int) < 0
    · refine Ev.step (fun k => ?_) (f := fun k => sweep_read.j2 k g (g.length : Int) (i : Int) (rd g (i : Int)) g (g.length : Int) (i : Int) true) ?_
      · rw [sweep_read.l0, if_pos (by omega), if_pos (by omega), if_pos (by omega), if_pos h1]
      · exact Ev.step stop (Ev.some (by simp [h1]))
    · by_cases h2 : rd g (i : Int) ≥ shl .i64 1 (g.length : Int)
      · refine Ev.step (fun k => ?_) (f := fun k => sweep_read.j2 k g (g.length : Int) (i : Int) (rd g (i : Int)) g (g.length : Int) (i : Int) true) ?_
        · rw [sweep_read.l0, if_pos (by omega), if_pos (by omega), if_pos (by omega), if_neg h1, if_pos (by omega), if_pos h2]
        · exact Ev.step stop (Ev.some (by simp [h2]))
      · refine Ev.step (fun k => ?_) (f := fun k => sweep_read.j2 k g (g.length : Int) (i : Int) (rd g (i : Int)) g (g.length : Int) (i : Int) (ibit (rd g (i : Int)) i == 1)) ?_
        · rw [sweep_read.l0, if_pos (by omega), if_pos (by omega), if_pos (by omega), if_neg h1, if_pos (by omega), if_neg h2]
          rfl
        · by_cases h3 : (ibit (rd g (i : Int)) i == 1) = true
          · simp only [h3]
            exact Ev.step stop (Ev.some (by simp))
          · refine Ev.step (fun k => by rw [sweep_read.j2, if_neg h3]) ?_
            have := read_l1 g hn i (by omega) _ (ih (i + 1) (by omega)) g.length 0 (by omega)
            have h3' : (ibit (rd g (i : Int)) i == 1) = false := by simpa using h3
            simp only [h1, h2, h3', decide_false, Bool.not_false, Bool.true_and]
            cases h4 : allFrom (fun j => decide (ibit (rd g (i : Int)) j = ibit (rd g (j : Int)) i)) g.length g.length 0
            · simpa [h4] using this
            · simpa [h4] using this

theorem read_ev (g : List Int) (hg : g.length < 2 ^ 60) : Ev (fun k => sweep_read.f k g) (cond (chk 7 g) (g, true) (([] : List Int), false)) := by
  have stop : ∀ k, sweep_read.j0 (k + 1) g (g.length : Int) true = some (([] : List Int), false) := fun k => by
    rw [sweep_read.j0, if_pos rfl]
  by_cases h1 : g.length < 1
  · refine Ev.congr (f := fun k => sweep_read.j0 k g (g.length : Int) true) (fun k => ?_) (Ev.step stop (Ev.some ?_))
    · rw [sweep_read.f, if_pos (by omega)]
    · have : ¬ 1 ≤ g.length := by omega
      simp [chk, this]
  · refine Ev.congr (f := fun k => sweep_read.j0 k g (g.length : Int) (decide ((g.length : Int) > 7))) (fun k => ?_) ?_
    · rw [sweep_read.f, if_neg (by omega)]
    · by_cases h2 : g.length ≤ 7
      · have e : decide ((g.length : Int) > 7) = false := decide_eq_false (by omega)
        rw [e]
        refine Ev.step (fun k => by rw [sweep_read.j0, if_neg (by simp)]) ?_
        have := read_l0 g h2 g.length 0 (by omega)
        have h3 : decide (1 ≤ g.length) = true := decide_eq_true (by omega)
        simpa [chk, h2, h3] using this
      · have e : decide ((g.length : Int) > 7) = true := decide_eq_true (by omega)
        rw [e]
        refine Ev.step stop (Ev.some ?_)
        simp [chk, h2]
end Go.Proofs.YtijfddobandcdaaDoor.X
end
section
/- The references' own words: IsGraph. -/
set_option linter.unusedVariables false
namespace Go.Proofs.YtijfddobandcdaaDoor.X
open Go.RowKit Go.Proofs.YtijfddobandcdaaDoorW.PrintWords Go.Proofs.YtijfddobandcdaaDoorW.PrintLast Go.Proofs.YtijfddobandcdaaDoorW.PrintMore Go.Proofs.YtijfddobandcdaaDoor.T

theorem isGraph_l1 (m : Nat) (g : List Int) (hn : g.length ≤ 13) (i : Nat) (hi : i < g.length) (r : Bool)
    (hrest : Ev (fun k => lampblackref01_IsGraph.l0 k g (m : Int) g (g.length : Int) ((i + 1 : Nat) : Int)) r) :
    ∀ d j, j + d = g.length → Ev (fun k => lampblackref01_IsGraph.l1 k g (m : Int) (i : Int) (rd g (i : Int)) g (g.length : Int) (i : Int) (g.length : Int) (j : Int))
      (allFrom (fun j => decide (ibit (rd g (i : Int)) j = ibit (rd g (j : Int)) i)) g.length d j && r) := by
  intro d
  induction d with
  | zero =>
    intro j hj
    refine Ev.step (fun k => ?_) hrest
    rw [lampblackref01_IsGraph.l1, if_neg (by omega), wrap_succ i (by omega)]
  | succ d ih =>
    intro j hj
    simp only [allFrom]
    by_cases hb : ibit (rd g (i : Int)) j = ibit (rd g (j : Int)) i
    · refine Ev.step (f := fun k => lampblackref01_IsGraph.l1 k g (m : Int) (i : Int) (rd g (i : Int)) g (g.length : Int) (i : Int) (g.length : Int) ((j + 1 : Nat) : Int)) (fun k => ?_) ?_
      · rw [lampblackref01_IsGraph.l1, if_pos (by omega), if_pos (by omega), if_pos (by omega), if_pos (by omega), wrap_succ j (by omega)]
        exact if_pos hb
      · have := ih (j + 1) (by omega)
        simpa [hb] using this
    · refine Ev.step (f := fun _ => some false) (fun k => ?_) (Ev.some (by simp [hb]))
      rw [lampblackref01_IsGraph.l1, if_pos (by omega), if_pos (by omega), if_pos (by omega), if_pos (by omega)]
      exact if_neg hb

theorem isGraph_l0 (m : Nat) (hm : m ≤ 13) (g : List Int) (h1 : 1 ≤ g.length) (hn : g.length ≤ m) :
    ∀ d i, i + d = g.length → Ev (fun k => lampblackref01_IsGraph.l0 k g (m : Int) g (g.length : Int) (i : Int)) (allFrom (rowOk g) g.length d i) := by
  intro d
  induction d with
  | zero =>
    intro i hi
    refine Ev.step (f := fun _ => some true) (fun k => ?_) (Ev.some (by simp [allFrom]))
    rw [lampblackref01_IsGraph.l0, if_neg (by omega), if_pos (by omega), decide_eq_true (by omega)]
  | succ d ih =>
    intro i hi
    have stop : ∀ k, lampblackref01_IsGraph.j1 (k + 1) g (m : Int) (i : Int) (rd g (i : Int)) g (g.length : Int) (i : Int) true = some false := fun k => by
      rw [lampblackref01_IsGraph.j1, if_pos rfl]
    simp only [allFrom, rowOk]
    by_cases h1' : rd g (i : Int) < 0
    · refine Ev.step (fun k => ?_) (f := fun k => lampblackref01_IsGraph.j1 k g (m : Int) (i : Int) (rd g (i : Int)) g (g.length : Int) (i : Int) true) ?_
      · rw [lampblackref01_IsGraph.l0, if_pos (by omega), if_pos (by omega), if_pos (by omega), if_neg (by omega), if_pos h1']
      · exact Ev.step stop (Ev.some (by simp [h1']))
    · by_cases h2 : rd g (i : Int) ≥ shl .i64 1 (g.length : Int)
      · refine Ev.step (fun k => ?_) (f := fun k => lampblackref01_IsGraph.j1 k g (m : Int) (i : Int) (rd g (i : Int)) g (g.length : Int) (i : Int) true) ?_
        · rw [lampblackref01_IsGraph.l0, if_pos (by omega), if_pos (by omega), if_pos (by omega), if_neg (by omega), if_neg h1', if_pos h2]
        · exact Ev.step stop (Ev.some (by simp [h2]))
      · refine Ev.step (fun k => ?_) (f := fun k => lampblackref01_IsGraph.j1 k g (m : Int) (i : Int) (rd g (i : Int)) g (g.length : Int) (i : Int) (ibit (rd g (i : Int)) i == 1)) ?_
        · rw [lampblackref01_IsGraph.l0, if_pos (by omega), if_pos (by omega), if_pos (by omega), if_neg (by omega), if_neg h1', if_neg h2]
          rfl
        · by_cases h3 : (ibit (rd g (i : Int)) i == 1) = true
          · simp only [h3]
            exact Ev.step stop (Ev.some (by simp))
          · refine Ev.step (fun k => by rw [lampblackref01_IsGraph.j1, if_neg h3]) ?_
            have := isGraph_l1 m g (by omega) i (by omega) _ (ih (i + 1) (by omega)) g.length 0 (by omega)
            have h3' : (ibit (rd g (i : Int)) i == 1) = false := by simpa using h3
            simp only [h1', h2, h3', decide_false, Bool.not_false, Bool.true_and]
            exact this

theorem isGraph_ev (m : Nat) (hm : m ≤ 13) (g : List Int) (hg : g.length < 2 ^ 60) : Ev (fun k => lampblackref01_IsGraph.f k g (m : Int)) (chk m g) := by
  unfold lampblackref01_IsGraph.f
  by_cases h1 : 1 ≤ g.length
  · by_cases h2 : g.length ≤ m
    · have := isGraph_l0 m hm g h1 h2 g.length 0 (by omega)
      simpa [chk, h1, h2] using this
    · refine Ev.step (f := fun k => lampblackref01_IsGraph.j1 k g (m : Int) 0 (rd g 0) g (g.length : Int) 0 true) (fun k => ?_) (Ev.step (f := fun _ => some false) (fun k => ?_) (Ev.some (by simp [chk, h2])))
      · rw [lampblackref01_IsGraph.l0, if_pos (by omega), if_pos (by omega), if_pos (by omega), if_pos (by omega)]
      · rw [lampblackref01_IsGraph.j1, if_pos rfl]
  · refine Ev.step (f := fun _ => some false) (fun k => ?_) (Ev.some (by simp [chk, h1]))
    rw [lampblackref01_IsGraph.l0, if_neg (by omega), if_neg (by omega)]

end Go.Proofs.YtijfddobandcdaaDoor.X
end
section
/- border, count, layout: what they compute, in plain words; Layout, Least, awake, Few. -/
set_option linter.unusedVariables false
namespace Go.Proofs.YtijfddobandcdaaDoor.X
open Go.RowKit Go.Proofs.YtijfddobandcdaaDoorW.PrintWords Go.Proofs.YtijfddobandcdaaDoorW.PrintLast Go.Proofs.YtijfddobandcdaaDoorW.PrintMore Go.Proofs.YtijfddobandcdaaDoor.T

theorem mx_nat (a b : Nat) : mx (a : Int) (b : Int) = ((max a b : Nat) : Int) := by unfold mx; split <;> omega
theorem mn_nat (a b : Nat) : mn (a : Int) (b : Int) = ((min a b : Nat) : Int) := by unfold mn; split <;> omega
theorem small (G : List Nat) (h : G.length ≤ 9) {x : Nat} (hx : x < 2 ^ G.length) : x < 512 := Nat.lt_of_lt_of_le hx (show 2 ^ G.length ≤ 2 ^ 9 from Nat.pow_le_pow_right (by omega) h)
theorem big {x : Nat} (h : x < 512) : x < 2 ^ 62 := by omega
theorem ctz_all : ∀ z : Fin 512, 0 < z.val → Lib.ctz 64 z.val < 9 ∧ z.val.testBit (Lib.ctz 64 z.val) = true ∧ rest z.val = diff z.val (2 ^ Lib.ctz 64 z.val) ∧ ∀ j : Fin 9, z.val.testBit j.val = true → Lib.ctz 64 z.val ≤ j.val := by decide +kernel
theorem ctz_bit {z : Nat} (hz : z < 512) (h0 : z ≠ 0) : bset z (Lib.ctz 64 z) := (ctz_all ⟨z, hz⟩ (by show 0 < z; omega)).2.1
theorem ctz_low {z : Nat} (hz : z < 512) (h0 : z ≠ 0) {j : Nat} (hj : bset z j) : Lib.ctz 64 z ≤ j := (ctz_all ⟨z, hz⟩ (by show 0 < z; omega)).2.2.2 ⟨j, bit_lt (n := 9) (by omega) hj⟩ hj
theorem rest_diff {z : Nat} (hz : z < 512) (h0 : z ≠ 0) : rest z = diff z (2 ^ Lib.ctz 64 z) := (ctz_all ⟨z, hz⟩ (by show 0 < z; omega)).2.2.1
theorem rest_bset {z : Nat} (hz : z < 512) (h0 : z ≠ 0) (j : Nat) : bset (rest z) j ↔ bset z j ∧ j ≠ Lib.ctz 64 z := by
  rw [rest_diff hz h0, diff_bset, two_pow_bit]
theorem rest_pc {z : Nat} (hz : z < 512) (h0 : z ≠ 0) : pc (rest z) 9 < pc z 9 := by
  have h1 := ctz_bit hz h0
  refine pc_lt (Lib.ctz 64 z) 9 (fun j _ h => ((rest_bset hz h0 j).1 h).1) (bit_lt (n := 9) (by omega) h1) ?_ h1
  have := rest_bset hz h0 (Lib.ctz 64 z)
  cases h : (rest z).testBit (Lib.ctz 64 z)
  · rfl
  · exact ((this.1 h).2 rfl).elim
theorem diff_ne {a b : Nat} : diff a b ≠ 0 ↔ ∃ u, bset a u ∧ ¬ bset b u := by
  constructor
  · intro h
    obtain ⟨i, hi⟩ := Nat.exists_testBit_of_ne_zero h
    exact ⟨i, (diff_bset a b i).1 hi⟩
  · rintro ⟨u, hu⟩ h
    have := (diff_bset a b u).2 hu
    rw [h] at this
    unfold bset at this
    simp at this

theorem count_all : ∀ x : Fin 512, sweep_count.f (x.val : Int) = some (pc x.val 9 : Int) := by decide +kernel
theorem count_eq (x : Nat) (hx : x < 512) : sweep_count.f (x : Int) = some (pc x 9 : Int) := count_all ⟨x, hx⟩

theorem rest_lt' {s n : Nat} (hs5 : s < 512) (h0 : s ≠ 0) (hs : s < 2 ^ n) : rest s < 2 ^ n := lt_of_bits fun j hj => bit_lt hs ((rest_bset hs5 h0 j).1 hj).1
theorem bordTo_eq (G : List Nat) (hG : Gr 7 G) (S : Nat) (hS : S < 2 ^ G.length) : ∀ (k s o : Nat), pc s 9 < k → s < 2 ^ G.length → o < 2 ^ G.length → (∀ j, bset s j → bset S j) →
    ∃ r : Nat, bordTo (gi G) S k s (o : Int) = some (r : Int) ∧ r < 2 ^ G.length ∧ ∀ j, bset r j ↔ bset o j ∨ (bset s j ∧ ∃ u, Adj G j u ∧ ¬ bset S u) := by
  have hn := hG.most
  intro k
  induction k with
  | zero => intro s o h; omega
  | succ k ih =>
    intro s o hk hs ho hsS
    have hs5 := small G (by omega) hs
    by_cases h0 : s = 0
    · subst h0
      refine ⟨o, by rw [bordTo, if_pos rfl], ho, fun j => ⟨.inl, fun h => h.elim id (fun h => ?_)⟩⟩
      have := h.1
      unfold bset at this
      simp at this
    · have hb := ctz_bit hs5 h0
      have hp := rest_pc hs5 h0
      have hr := rest_bset hs5 h0
      have hrl := rest_lt' hs5 h0 hs
      rw [bordTo, if_neg h0]
      generalize Lib.ctz 64 s = v at *
      have hv : v < G.length := bit_lt hs hb
      have hpv : 2 ^ v < 2 ^ G.length := Nat.pow_lt_pow_right (by omega) hv
      have hrow := hG.row v
      rw [if_pos (by rw [gi_length]; omega), rd_gi, b_andNot _ _ (big (small G (by omega) hrow)) (big (small G (by omega) hS)), s_one v (by omega), b_or _ _ (big (small G (by omega) ho)) (big (small G (by omega) hpv))]
      by_cases hd : diff (G.getD v 0) S = 0
      · rw [hd, if_neg (by decide)]
        obtain ⟨r, h1, h2, h3⟩ := ih (rest s) o (by omega) hrl ho (fun j hj => hsS j ((hr j).1 hj).1)
        refine ⟨r, h1, h2, fun j => ?_⟩
        rw [h3, hr]
        constructor
        · rintro (h | ⟨h, h'⟩)
          · exact .inl h
          · exact .inr ⟨h.1, h'⟩
        · rintro (h | ⟨h, u, hu, hu'⟩)
          · exact .inl h
          · refine .inr ⟨⟨h, fun e => ?_⟩, u, hu, hu'⟩
            subst e
            exact (diff_ne.2 ⟨u, hu, hu'⟩ hd).elim
      · have hd' : ((diff (G.getD v 0) S : Nat) : Int) ≠ 0 := by omega
        rw [if_pos (by simpa using hd)]
        obtain ⟨r, h1, h2, h3⟩ := ih (rest s) (o ||| 2 ^ v) (by omega) hrl (or_lt ho hpv) (fun j hj => hsS j ((hr j).1 hj).1)
        refine ⟨r, h1, h2, fun j => ?_⟩
        rw [h3, hr, or_bset, two_pow_bit]
        obtain ⟨u, hu, hu'⟩ := diff_ne.1 hd
        constructor
        · rintro ((h | h) | ⟨h, h'⟩)
          · exact .inl h
          · subst h; exact .inr ⟨hb, u, hu, hu'⟩
          · exact .inr ⟨h.1, h'⟩
        · rintro (h | ⟨h, h'⟩)
          · exact .inl (.inl h)
          · by_cases e : j = v
            · exact .inl (.inr e)
            · exact .inr ⟨⟨h, e⟩, h'⟩
theorem border_eq (G : List Nat) (hG : Gr 7 G) (S : Nat) (hS : S < 2 ^ G.length) : sweep_town_border.f (gi G) (S : Int) = some ((bor G S : Nat) : Int) := by
  have hn := hG.most
  have hS5 := small G (by omega) hS
  unfold sweep_town_border.f
  rw [if_pos (by omega), if_pos (by have := big hS5; omega), Int.toNat_natCast]
  obtain ⟨r, h1, h2, h3⟩ := bordTo_eq G hG S hS 64 S 0 (by have := pc_le S 9; omega) hS (Nat.two_pow_pos _) (fun _ h => h)
  have e : r = bor G S := eq_of_bits fun j => by
    have a := h3 j
    have b := bor_bit hG S j
    unfold bset at *
    rw [a, b]
    simp
  subst e
  exact h1
/-- How many nodes a set's border has. -/
noncomputable def bc (G : List Nat) (S : Nat) : Nat := pc (bor G S) 9
theorem cost_eq (G : List Nat) (hG : Gr 7 G) (S : Nat) (hS : S < 2 ^ G.length) : cost (gi G) (S : Int) = some ((bc G S : Nat) : Int) := by
  unfold cost bc
  rw [border_eq G hG S hS, Option.bind_some]
  exact count_eq _ (small G (by have := hG.most; omega) (bor_lt G S))

/-- x is the least breadth of what can come behind S. -/
def PV (G : List Nat) (S x : Nat) : Prop := ∀ q, x ≤ q ↔ Lay G q S
theorem getD_set (W : List Nat) (i j x : Nat) (hi : i < W.length) : (W.set i x).getD j 0 = if j = i then x else W.getD j 0 := by
  simp only [List.getD_eq_getElem?_getD, List.getElem?_set]
  by_cases h : i = j
  · subst h; simp [hi]
  · rw [if_neg h, if_neg (fun e => h e.symm)]
theorem bestIn_eq (G : List Nat) (hG : Gr 7 G) (S : Nat) (hS : S < 2 ^ G.length) : ∀ (k s : Nat) (W : List Nat), pc s 9 < k → s < 2 ^ G.length → (∀ j, bset s j → ¬ bset S j) → W.length = 2 ^ G.length →
    ∃ x, bestIn (gi G) S k s (gi W) = some (gi (W.set S x)) ∧ ∀ q, x ≤ q ↔ W.getD S 0 ≤ q ∨ ∃ v, bset s v ∧ W.getD (S ||| 2 ^ v) 0 ≤ q ∧ bc G (S ||| 2 ^ v) ≤ q := by
  have hn := hG.most
  intro k
  induction k with
  | zero => intro s W h; omega
  | succ k ih =>
    intro s W hk hs hsS hW
    have hs5 := small G (by omega) hs
    by_cases h0 : s = 0
    · subst h0
      refine ⟨W.getD S 0, ?_, fun q => ⟨.inl, fun h => h.elim id (fun ⟨v, h, _⟩ => by unfold bset at h; simp at h)⟩⟩
      rw [bestIn, if_pos rfl]
      congr 2
      apply List.ext_getElem?
      intro i
      rw [List.getElem?_set]
      by_cases e : S = i
      · subst e
        rw [if_pos rfl, if_pos (by omega), List.getD_eq_getElem?_getD, List.getElem?_eq_getElem (by omega)]
        rfl
      · rw [if_neg e]
    · have hb := ctz_bit hs5 h0
      have hp := rest_pc hs5 h0
      have hr := rest_bset hs5 h0
      have hrl := rest_lt' hs5 h0 hs
      rw [bestIn, if_neg h0]
      unfold nxt
      generalize Lib.ctz 64 s = v at *
      have hv : v < G.length := bit_lt hs hb
      have hX := or_new hS hv
      have hgt := or_gt (hsS v hb)
      have hSW : S < W.length := by rw [hW]; exact hS
      have hXW : S ||| 2 ^ v < W.length := by rw [hW]; exact hX
      rw [if_pos (by rw [gi_length]; exact ⟨hSW, hXW⟩), cost_eq G hG _ hX, Option.bind_some, rd_gi, rd_gi, mx_nat, mn_nat, gi_set]
      obtain ⟨x, h1, h2⟩ := ih (rest s) (W.set S (min (W.getD S 0) (max (W.getD (S ||| 2 ^ v) 0) (bc G (S ||| 2 ^ v))))) (Nat.lt_of_lt_of_le hp (Nat.le_of_lt_succ hk)) hrl (fun j hj => hsS j ((hr j).1 hj).1) (by rw [List.length_set]; exact hW)
      refine ⟨x, by rw [h1, List.set_set], fun q => ?_⟩
      rw [h2, getD_set _ _ _ _ hSW, if_pos rfl]
      have hoth : ∀ u, bset (rest s) u → (W.set S (min (W.getD S 0) (max (W.getD (S ||| 2 ^ v) 0) (bc G (S ||| 2 ^ v))))).getD (S ||| 2 ^ u) 0 = W.getD (S ||| 2 ^ u) 0 := fun u hu => by
        have := or_gt (hsS u ((hr u).1 hu).1)
        rw [getD_set _ _ _ _ hSW, if_neg (Nat.ne_of_gt this)]
      clear hX hgt hSW hXW hs hrl hW hs5 hv hp hk ih h1 h2 h0
      constructor
      · rintro (h | ⟨u, hu, h3, h4⟩)
        · rcases Nat.le_total (W.getD S 0) (max (W.getD (S ||| 2 ^ v) 0) (bc G (S ||| 2 ^ v))) with h5 | h5
          · rw [Nat.min_eq_left h5] at h
            exact .inl h
          · rw [Nat.min_eq_right h5] at h
            exact .inr ⟨v, hb, Nat.le_trans (Nat.le_max_left _ _) h, Nat.le_trans (Nat.le_max_right _ _) h⟩
        · rw [hoth u hu] at h3
          exact .inr ⟨u, ((hr u).1 hu).1, h3, h4⟩
      · rintro (h | ⟨u, hu, h3, h4⟩)
        · exact .inl (Nat.le_trans (Nat.min_le_left _ _) h)
        · by_cases e : u = v
          · subst e; exact .inl (Nat.le_trans (Nat.min_le_right _ _) (Nat.max_le.2 ⟨h3, h4⟩))
          · have hu' := (hr u).2 ⟨hu, e⟩
            exact .inr ⟨u, hu', by rw [hoth u hu']; exact h3, h4⟩
theorem bestTo_eq (G : List Nat) (hG : Gr 7 G) : ∀ (d : Nat) (W : List Nat), d < 2 ^ G.length → W.length = 2 ^ G.length → (∀ T, d ≤ T → T < 2 ^ G.length → PV G T (W.getD T 0)) →
    ∃ W2 : List Nat, bestTo (gi G) d (gi W) = some (gi W2) ∧ W2.length = 2 ^ G.length ∧ ∀ T, T < 2 ^ G.length → PV G T (W2.getD T 0) := by
  have hn := hG.most
  intro d
  induction d with
  | zero => intro W _ hW h; exact ⟨W, rfl, hW, fun T hT => h T (by omega) hT⟩
  | succ d ih =>
    intro W hd hW h
    have hd' : d < 2 ^ G.length := by omega
    have hS5 := small G (by omega) hd'
    have h2 := Nat.two_pow_pos G.length
    have hc : ∀ j, bset (diff (2 ^ G.length - 1) d) j ↔ j < G.length ∧ ¬ bset d j := fun j => by rw [diff_bset, full_bit]
    rw [bestTo]
    simp only [gi_length]
    have e1 : (gi W).set d (G.length : Int) = gi (W.set d G.length) := gi_set W d G.length
    rw [e1]
    obtain ⟨x, h3, h4⟩ := bestIn_eq G hG d hd' 64 (diff (2 ^ G.length - 1) d) (W.set d G.length) (by have := pc_le (diff (2 ^ G.length - 1) d) 9; omega) (Nat.lt_of_le_of_lt (diff_le _ _) (by omega)) (fun j hj => ((hc j).1 hj).2) (by rw [List.length_set]; exact hW)
    rw [h3, Option.bind_some, List.set_set]
    refine ih _ hd' (by rw [List.length_set]; exact hW) fun T h5 h6 => ?_
    rw [getD_set _ _ _ _ (by omega)]
    by_cases e : T = d
    · subst e
      rw [if_pos rfl]
      intro q
      rw [h4, getD_set _ _ _ _ (by omega), if_pos rfl]
      have hoth : ∀ v, v < G.length → ¬ bset T v → (W.set T G.length).getD (T ||| 2 ^ v) 0 = W.getD (T ||| 2 ^ v) 0 ∧ PV G (T ||| 2 ^ v) (W.getD (T ||| 2 ^ v) 0) := fun v hv hb => by
        have h7 := or_gt hb
        have h8 := or_new hd' hv
        rw [getD_set _ _ _ _ (by omega), if_neg (by omega)]
        exact ⟨rfl, h _ (by omega) h8⟩
      constructor
      · rintro (h7 | ⟨v, hv, h7, h8⟩)
        · exact lay_big (.inr h7) (by omega) _ _ rfl hd'
        · obtain ⟨h9, h10⟩ := (hc v).1 hv
          obtain ⟨h11, h12⟩ := hoth v h9 h10
          rw [h11] at h7
          exact .step h9 h10 h8 ((h12 q).1 h7)
      · intro h7
        cases h7 with
        | done => omega
        | step h9 h10 h8 h13 =>
          obtain ⟨h11, h12⟩ := hoth _ h9 h10
          exact .inr ⟨_, (hc _).2 ⟨h9, h10⟩, by rw [h11]; exact (h12 q).2 h13, h8⟩
    · rw [if_neg e]
      exact h T (by omega) h6

/-- Node v can come behind S, if all is to be laid out with borders of at most m nodes. -/
def Can (G : List Nat) (m S v : Nat) : Prop := Lay G m (S ||| 2 ^ v) ∧ bc G (S ||| 2 ^ v) ≤ m
/-- Node by node the first one that can come. -/
inductive Greedy (G : List Nat) (m : Nat) : Nat → List Nat → Prop
  | nil : Greedy G m (2 ^ G.length - 1) []
  | cons {S v : Nat} {L : List Nat} : v < G.length → ¬ bset S v → Can G m S v → (∀ u, u < v → ¬ bset S u → ¬ Can G m S u) → Greedy G m (S ||| 2 ^ v) L → Greedy G m S (v :: L)
theorem goOn_eq (G : List Nat) (hG : Gr 7 G) (W : List Nat) (m : Nat) (hW : W.length = 2 ^ G.length) (hP : ∀ T, T < 2 ^ G.length → PV G T (W.getD T 0)) (hm : W.getD 0 0 = m) (S : Nat) (hS : S < 2 ^ G.length) :
    ∀ (k s : Nat), pc s 9 < k → s < 2 ^ G.length → (∀ j, bset s j → ¬ bset S j) → (∃ v, bset s v ∧ Can G m S v) →
      ∃ v : Nat, goOn (gi G) (gi W) S k s = some (some ((v : Int), S ||| 2 ^ v)) ∧ bset s v ∧ Can G m S v ∧ ∀ u, u < v → bset s u → ¬ Can G m S u := by
  have hn := hG.most
  intro k
  induction k with
  | zero => intro s h; omega
  | succ k ih =>
    intro s hk hs hsS hex
    have hs5 := small G (by omega) hs
    have h0 : s ≠ 0 := fun e => by obtain ⟨v, h, _⟩ := hex; subst e; unfold bset at h; simp at h
    have hb := ctz_bit hs5 h0
    have hlow : ∀ j, bset s j → Lib.ctz 64 s ≤ j := fun j hj => ctz_low hs5 h0 hj
    have hp := rest_pc hs5 h0
    have hr := rest_bset hs5 h0
    have hrl := rest_lt' hs5 h0 hs
    rw [goOn, if_neg h0]
    unfold nxt
    generalize Lib.ctz 64 s = v at *
    have hv : v < G.length := bit_lt hs hb
    have hX := or_new hS hv
    have hXW : S ||| 2 ^ v < W.length := by rw [hW]; exact hX
    have hp' := Nat.lt_of_lt_of_le hp (Nat.le_of_lt_succ hk)
    rw [if_pos (by rw [gi_length]; exact hXW), cost_eq G hG _ hX, Option.bind_some, rd_gi, show rd (gi W) 0 = ((W.getD 0 0 : Nat) : Int) from rd_gi W 0, mx_nat, hm]
    have hPX := hP _ hX
    clear hX hs hW hs5 hv hp hk h0 hS hXW
    by_cases hc : max (W.getD (S ||| 2 ^ v) 0) (bc G (S ||| 2 ^ v)) ≤ m
    · rw [if_pos (by omega)]
      exact ⟨v, rfl, hb, ⟨(hPX m).1 (by omega), by omega⟩, fun u hu hsu => by have := hlow u hsu; omega⟩
    · rw [if_neg (by omega)]
      have hno : ¬ Can G m S v := fun h => hc (by have := (hPX m).2 h.1; have := h.2; omega)
      obtain ⟨u, h1, h2, h3, h4⟩ := ih (rest s) hp' hrl (fun j hj => hsS j ((hr j).1 hj).1) (by
        obtain ⟨u, hu, hcu⟩ := hex
        exact ⟨u, (hr u).2 ⟨hu, fun e => hno (e ▸ hcu)⟩, hcu⟩)
      refine ⟨u, h1, ((hr u).1 h2).1, h3, fun x hx hsx => ?_⟩
      by_cases e : x = v
      · subst e; exact hno
      · exact h4 x hx ((hr x).2 ⟨hsx, e⟩)
theorem layTo_eq (G : List Nat) (hG : Gr 7 G) (W : List Nat) (m : Nat) (hW : W.length = 2 ^ G.length) (hP : ∀ T, T < 2 ^ G.length → PV G T (W.getD T 0)) (hm : W.getD 0 0 = m) :
    ∀ (k S : Nat) (pre : List Int), pc (diff (2 ^ G.length - 1) S) 9 < k → S < 2 ^ G.length → Lay G m S → ∃ L, layTo (gi G) (gi W) k S pre = some (pre ++ gi L) ∧ Greedy G m S L := by
  have hn := hG.most
  intro k
  induction k with
  | zero => intro S pre h; omega
  | succ k ih =>
    intro S pre hk hS hL
    have h2 := Nat.two_pow_pos G.length
    rw [layTo]
    simp only [gi_length]
    by_cases e : S = 2 ^ G.length - 1
    · rw [if_pos e, e]
      exact ⟨[], by simp [gi], .nil⟩
    · rw [if_neg e]
      have hc : ∀ j, bset (diff (2 ^ G.length - 1) S) j ↔ j < G.length ∧ ¬ bset S j := fun j => by rw [diff_bset, full_bit]
      obtain ⟨v, h3, h4, h5, h6⟩ := goOn_eq G hG W m hW hP hm S hS 64 (diff (2 ^ G.length - 1) S) (by have := pc_le (diff (2 ^ G.length - 1) S) 9; omega) (Nat.lt_of_le_of_lt (diff_le _ _) (by omega)) (fun j hj => ((hc j).1 hj).2) (by
        cases hL with
        | done => exact (e rfl).elim
        | step h7 h8 h9 h10 => exact ⟨_, (hc _).2 ⟨h7, h8⟩, h10, h9⟩)
      rw [h3, Option.bind_some]
      obtain ⟨h7, h8⟩ := (hc v).1 h4
      have hX := or_new hS h7
      obtain ⟨L, h9, h10⟩ := ih (S ||| 2 ^ v) (pre ++ [(v : Int)]) (by
        refine Nat.lt_of_lt_of_le (pc_lt v 9 (fun j _ hj => ?_) (by omega) ?_ ((hc v).2 ⟨h7, h8⟩)) (show pc (diff (2 ^ G.length - 1) S) 9 ≤ k by omega)
        · have a := (diff_bset (2 ^ G.length - 1) (S ||| 2 ^ v) j).1 hj
          exact (diff_bset _ _ _).2 ⟨a.1, fun h => a.2 ((or_bset _ _ _).2 (.inl h))⟩
        · have a := diff_bset (2 ^ G.length - 1) (S ||| 2 ^ v) v
          cases hh : (diff (2 ^ G.length - 1) (S ||| 2 ^ v)).testBit v
          · rfl
          · exact ((a.1 hh).2 ((or_bset _ _ _).2 (.inr ((two_pow_bit v v).2 rfl)))).elim) hX h5.1
      refine ⟨v :: L, ?_, .cons h7 h8 h5 (fun u hu hSu => h6 u hu ((hc u).2 ⟨by omega, hSu⟩)) h10⟩
      show layTo (gi G) (gi W) k (S ||| 2 ^ v) (pre ++ [(v : Int)]) = _
      rw [h9]
      simp [gi]
theorem layout_eq (G : List Nat) (hG : Gr 7 G) : ∃ (L : List Nat) (m : Nat), sweep_town_layout.f (gi G) = some (gi L, (m : Int)) ∧ IsVs G m ∧ Greedy G m 0 L := by
  have hn := hG.most
  have h2 := Nat.two_pow_pos G.length
  have e : List.replicate (2 ^ G.length) (0 : Int) = gi (List.replicate (2 ^ G.length) 0) := by simp [gi]
  obtain ⟨W, h3, h4, h5⟩ := bestTo_eq G hG (2 ^ G.length - 1) (List.replicate (2 ^ G.length) 0) (by omega) (by simp) (fun T hT hT2 q => by
    have e : T = 2 ^ G.length - 1 := by omega
    subst e
    have : (List.replicate (2 ^ G.length) 0).getD (2 ^ G.length - 1) 0 = 0 := by simp [List.getD_eq_getElem?_getD, List.getElem?_replicate]; rw [if_pos (by omega)]; rfl
    rw [this]
    exact ⟨fun _ => .done, fun _ => by omega⟩)
  obtain ⟨L, h6, h7⟩ := layTo_eq G hG W (W.getD 0 0) h4 h5 rfl 11 0 [] (by have := pc_le (diff (2 ^ G.length - 1) 0) 9; omega) h2 ((h5 0 h2 _).1 (Nat.le_refl _))
  refine ⟨L, W.getD 0 0, ?_, h5 0 h2, h7⟩
  unfold sweep_town_layout.f
  simp only [gi_length]
  rw [if_pos ⟨hG.pos, by omega⟩, e, h3, Option.bind_some, h6]
  simp only [List.nil_append, Option.bind_some]
  rw [show rd (gi W) 0 = ((W.getD 0 0 : Nat) : Int) from rd_gi W 0]

theorem Layout_ev (G : List Nat) (hG : Gr 7 G) : ∃ (L : List Nat) (m : Nat), Ev (fun k => sweep_Layout.f k (gi G)) (gi L, (m : Int), 0) ∧ IsVs G m ∧ Greedy G m 0 L := by
  obtain ⟨L, m, h1, h2, h3⟩ := layout_eq G hG
  refine ⟨L, m, ?_, h2, h3⟩
  have hr := read_ev (gi G) (by rw [gi_length]; have := hG.most; omega)
  rw [(chk_iff 7 (by omega) _).2 ⟨G, rfl, hG⟩] at hr
  unfold sweep_Layout.f
  exact Ev.bind hr (Ev.if_pos rfl (Ev.bind1 h1 (Ev.some rfl)))
theorem Layout_bad (g : List Int) (hl : g.length < 2 ^ 60) (h : chk 7 g = false) : Ev (fun k => sweep_Layout.f k g) (([] : List Int), 0, 2) := by
  have hr := read_ev g hl
  rw [h] at hr
  unfold sweep_Layout.f
  exact Ev.bind hr (Ev.if_neg (by simp) (Ev.some rfl))
theorem awake_ev : Ev (fun k => lampblacklaw03_awake.f k) true := by
  exact Ev.of (lampblacklaw03_awake.mono) (k := 40) (by decide +kernel)
theorem vs_exists {G : List Nat} (hG : Gr 7 G) : ∃ m, IsVs G m ∧ m ≤ 7 := by
  obtain ⟨L, m, _, h, _⟩ := layout_eq G hG
  exact ⟨m, h, Nat.le_trans ((h G.length).2 (lay_big (.inr (Nat.le_refl _)) (by have := hG.most; omega) _ _ rfl (Nat.two_pow_pos _))) hG.most⟩
theorem valid_ev (g : List Int) (hg : g.length < 2 ^ 60) : Ev (fun k => lampblackref03_Valid.f k g) (chk 7 g) := by
  unfold lampblackref03_Valid.f
  exact Ev.bind (isGraph_ev 7 (by omega) g hg) (Ev.some rfl)
/-- Few hands on a beginning; what is valid it hands on whole, and what isn't stays so. -/
theorem few_eq (g : List Int) (hg : g.length < 2 ^ 44) : ∃ h, lampblacklaw03_Few.f g = some h ∧ (chk 7 g = true → h = g) ∧ (chk 7 g = false → chk 7 h = false) ∧ h.length ≤ 11 := by
  have hm : mn (g.length : Int) 11 = ((min g.length 11 : Nat) : Int) := mn_nat g.length 11
  refine ⟨g.take (min g.length 11), ?_, ?_, ?_, ?_⟩
  · unfold lampblacklaw03_Few.f slices_Clone_Graph.f
    simp only [hm, Int.toNat_natCast]
    rw [if_pos (by omega), if_pos (by omega)]
    simp only [Option.bind_some, List.length_nil, List.nil_append]
    rw [if_pos (by rw [List.length_take]; omega)]
    rfl
  · intro h
    simp only [chk, Bool.and_eq_true, decide_eq_true_eq] at h
    exact List.take_of_length_le (by omega)
  · intro h
    by_cases hl : g.length ≤ 11
    · rw [List.take_of_length_le (by omega)]; exact h
    · unfold chk
      have : ¬ (List.take (min g.length 11) g).length ≤ 7 := by rw [List.length_take]; omega
      rw [decide_eq_false this, Bool.and_false, Bool.false_and]
  · rw [List.length_take]; omega
end Go.Proofs.YtijfddobandcdaaDoor.X
end
section
/- Lists that have the numbers below n, each once. -/
set_option linter.unusedVariables false
namespace Go.Proofs.YtijfddobandcdaaDoor.T
open Go.RowKit Go.Proofs.YtijfddobandcdaaDoorW.PrintWords Go.Proofs.YtijfddobandcdaaDoorW.PrintLast Go.Proofs.YtijfddobandcdaaDoorW.PrintMore

/-- l has the numbers below n, each once. -/
def IsOrd (n : Nat) (l : List Int) : Prop := ∃ P : List Nat, l = gi P ∧ P.Nodup ∧ (∀ v ∈ P, v < n) ∧ P.length = n
theorem gi_inj {a b : List Nat} (h : gi a = gi b) : a = b := by
  induction a generalizing b with
  | nil => cases b with
    | nil => rfl
    | cons => simp [gi] at h
  | cons x a ih => cases b with
    | nil => simp [gi] at h
    | cons y b =>
      simp only [gi, List.map_cons, List.cons.injEq] at h
      rw [ih (show gi a = gi b from h.2)]
      congr 1
      omega
theorem gi_take (P : List Nat) (i : Nat) : (gi P).take i = gi (P.take i) := by simp [gi, List.map_take]
theorem gi_snoc (P : List Nat) (v : Nat) : gi P ++ [(v : Int)] = gi (P ++ [v]) := by simp [gi]
theorem gi_mem {P : List Nat} {v : Nat} : (v : Int) ∈ gi P ↔ v ∈ P := by
  unfold gi
  rw [List.mem_map]
  exact ⟨fun ⟨a, h1, h2⟩ => by have : a = v := by omega
                               exact this ▸ h1, fun h => ⟨v, h, rfl⟩⟩
theorem split_dup {P : List Nat} (h : ¬ P.Nodup) : ∃ L x R, P = L ++ x :: R ∧ x ∈ R := by
  induction P with
  | nil => exact (h List.nodup_nil).elim
  | cons a P ih =>
    by_cases ha : a ∈ P
    · exact ⟨[], a, P, rfl, ha⟩
    · obtain ⟨L, x, R, h1, h2⟩ := ih fun hn => h (List.nodup_cons.2 ⟨ha, hn⟩)
      exact ⟨a :: L, x, R, by rw [h1]; rfl, h2⟩
theorem nodup_of_covers {P : List Nat} {n : Nat} (hl : P.length ≤ n) (h : ∀ j, j < n → j ∈ P) : P.Nodup := by
  apply Classical.byContradiction
  intro hn
  obtain ⟨L, x, R, e, hx⟩ := split_dup hn
  have := nodup_le (List.nodup_range (n := n)) (m := L ++ R) fun j hj => by
    have h1 := h j (List.mem_range.1 hj)
    rw [e] at h1
    rcases List.mem_append.1 h1 with h2 | h2
    · exact List.mem_append_left _ h2
    · rcases List.mem_cons.1 h2 with h3 | h3
      · subst h3; exact List.mem_append_right _ hx
      · exact List.mem_append_right _ h3
  rw [e] at hl
  simp at this hl
  omega
theorem covers_of_nodup {P : List Nat} {n : Nat} (hl : P.length = n) (hn : P.Nodup) (h : ∀ v ∈ P, v < n) (j : Nat) (hj : j < n) : j ∈ P := by
  apply Classical.byContradiction
  intro hno
  have := nodup_le (List.nodup_cons.2 ⟨hno, hn⟩) (m := List.range n) fun x hx => by
    rcases List.mem_cons.1 hx with e | e
    · subst e; exact List.mem_range.2 hj
    · exact List.mem_range.2 (h x e)
  simp at this
  omega
/-- The set of a list's numbers. -/
def lset : List Nat → Nat
  | [] => 0
  | v :: P => lset P ||| 2 ^ v
theorem lset_bit (P : List Nat) (j : Nat) : bset (lset P) j ↔ j ∈ P := by
  induction P with
  | nil => simp [lset, bset]
  | cons v P ih => rw [lset, or_bset, ih, two_pow_bit, List.mem_cons]; exact Or.comm
theorem lset_lt {P : List Nat} {n : Nat} (h : ∀ v ∈ P, v < n) : lset P < 2 ^ n := lt_of_bits fun j hj => h j ((lset_bit P j).1 hj)
theorem lset_snoc (P : List Nat) (v : Nat) : lset (P ++ [v]) = lset P ||| 2 ^ v := eq_of_bits fun j => by
  show bset _ _ ↔ bset _ _
  rw [lset_bit, or_bset, lset_bit, two_pow_bit, List.mem_append, List.mem_singleton]
theorem take_snoc {l : List Int} {i : Nat} {P : List Nat} (h : l.take i = gi P) (hi : i < l.length) (v : Nat) (hv : rd l (i : Int) = (v : Int)) : l.take (i + 1) = gi (P ++ [v]) := by
  rw [List.take_add_one, h, ← gi_snoc]
  congr 1
  unfold rd at hv
  rw [Int.toNat_natCast, List.getD_eq_getElem?_getD, List.getElem?_eq_getElem hi] at hv
  rw [List.getElem?_eq_getElem hi]
  simp at hv ⊢
  exact hv
theorem IsOrd.get {n : Nat} {l : List Int} (h : IsOrd n l) (i : Nat) (hi : i < l.length) : ∃ v : Nat, rd l (i : Int) = (v : Int) ∧ v < n := by
  obtain ⟨P, rfl, _, h3, _⟩ := h
  rw [gi_length] at hi
  refine ⟨P.getD i 0, rd_gi P i, h3 _ ?_⟩
  rw [List.getD_eq_getElem?_getD, List.getElem?_eq_getElem hi]
  exact List.getElem_mem hi
theorem IsOrd.fresh {n : Nat} {l : List Int} (h : IsOrd n l) {i : Nat} (hi : i < l.length) {P : List Nat} (hP : l.take i = gi P) {v : Nat} (hv : rd l (i : Int) = (v : Int)) : v ∉ P := by
  obtain ⟨Q, rfl, h2, _, _⟩ := h
  have e : P = Q.take i := gi_inj (by rw [← hP, gi_take])
  rw [gi_length] at hi
  have hv' : Q.getD i 0 = v := by have := rd_gi Q i; rw [hv] at this; omega
  rw [List.getD_eq_getElem?_getD, List.getElem?_eq_getElem hi] at hv'
  have hv2 : Q[i] = v := hv'
  subst e
  intro hm
  rw [← List.take_append_drop i Q, List.nodup_append] at h2
  have hd : v ∈ Q.drop i := by rw [List.drop_eq_getElem_cons hi, hv2]; exact List.mem_cons_self
  exact h2.2.2 v hm v hd rfl
theorem IsOrd.of {n : Nat} {P : List Nat} (h1 : P.Nodup) (h2 : ∀ v ∈ P, v < n) : IsOrd n (gi P) ↔ P.length = n := by
  constructor
  · rintro ⟨Q, e, _, _, h⟩
    rw [gi_inj e]; exact h
  · intro h; exact ⟨P, rfl, h1, h2, h⟩
theorem IsOrd.length {n : Nat} {l : List Int} (h : IsOrd n l) : l.length = n := by
  obtain ⟨P, rfl, _, _, h⟩ := h
  rw [gi_length, h]
end Go.Proofs.YtijfddobandcdaaDoor.T
end
section
/- Path decompositions: bags in a row; the runs of a node; backward. -/
set_option linter.unusedVariables false
namespace Go.Proofs.YtijfddobandcdaaDoor.T
open Go.RowKit Go.Proofs.YtijfddobandcdaaDoorW.PrintWords Go.Proofs.YtijfddobandcdaaDoorW.PrintLast Go.Proofs.YtijfddobandcdaaDoorW.PrintMore

/-- How often a row of marks begins anew; p: the mark ahead of it. -/
def starts (p : Bool) : List Bool → Nat
  | [] => 0
  | b :: L => (if b = true ∧ p = false then 1 else 0) + starts b L
theorem starts_true0 : ∀ L : List Bool, starts true L = 0 ↔ ∃ b c, L = List.replicate b true ++ List.replicate c false
  | [] => ⟨fun _ => ⟨0, 0, rfl⟩, fun _ => rfl⟩
  | true :: L => by
    simp only [starts]
    rw [if_neg (by simp), Nat.zero_add, starts_true0 L]
    constructor
    · rintro ⟨b, c, rfl⟩; exact ⟨b + 1, c, by simp [List.replicate_succ]⟩
    · rintro ⟨b, c, h⟩
      cases b with
      | zero => cases c <;> simp [List.replicate_succ] at h
      | succ b => simp [List.replicate_succ] at h; exact ⟨b, c, h⟩
  | false :: L => by
    simp only [starts]
    rw [if_neg (by simp), Nat.zero_add]
    have h0 : ∀ M : List Bool, starts false M = 0 ↔ ∃ c, M = List.replicate c false := by
      intro M
      induction M with
      | nil => exact ⟨fun _ => ⟨0, rfl⟩, fun _ => rfl⟩
      | cons x M ih =>
        cases x with
        | true => simp only [starts]; constructor
                  · intro h; simp at h
                  · rintro ⟨c, h⟩; cases c <;> simp [List.replicate_succ] at h
        | false => simp only [starts]; rw [if_neg (by simp), Nat.zero_add, ih]; constructor
                   · rintro ⟨c, rfl⟩; exact ⟨c + 1, by simp [List.replicate_succ]⟩
                   · rintro ⟨c, h⟩
                     cases c with
                     | zero => simp at h
                     | succ c => simp [List.replicate_succ] at h; exact ⟨c, h⟩
    rw [h0 L]
    constructor
    · rintro ⟨c, rfl⟩; exact ⟨0, c + 1, by simp [List.replicate_succ]⟩
    · rintro ⟨b, c, h⟩
      cases b with
      | zero => cases c with
        | zero => simp at h
        | succ c => simp [List.replicate_succ] at h; exact ⟨c, h⟩
      | succ b => simp [List.replicate_succ] at h
/-- One run: nothing, marks, nothing. -/
def OneRun (L : List Bool) : Prop := ∃ a b c, L = List.replicate a false ++ (List.replicate (b + 1) true ++ List.replicate c false)
theorem starts_one : ∀ L : List Bool, starts false L = 1 ↔ OneRun L
  | [] => ⟨fun h => by simp [starts] at h, fun ⟨a, b, c, h⟩ => by simp [List.replicate_succ] at h⟩
  | true :: L => by
    simp only [starts]
    rw [if_pos (by simp)]
    have e : 1 + starts true L = 1 ↔ starts true L = 0 := by omega
    rw [e, starts_true0 L]
    constructor
    · rintro ⟨b, c, rfl⟩; exact ⟨0, b, c, by simp [List.replicate_succ]⟩
    · rintro ⟨a, b, c, h⟩
      cases a with
      | zero => simp [List.replicate_succ] at h; exact ⟨b, c, h⟩
      | succ a => simp [List.replicate_succ] at h
  | false :: L => by
    simp only [starts]
    rw [if_neg (by simp), Nat.zero_add, starts_one L]
    constructor
    · rintro ⟨a, b, c, rfl⟩; exact ⟨a + 1, b, c, by simp [List.replicate_succ]⟩
    · rintro ⟨a, b, c, h⟩
      cases a with
      | zero => simp [List.replicate_succ] at h
      | succ a => simp only [List.replicate_succ, List.cons_append, List.cons.injEq, true_and] at h; exact ⟨a, b, c, by rw [h, List.replicate_succ]; rfl⟩
theorem OneRun.reverse {L : List Bool} (h : OneRun L) : OneRun L.reverse := by
  obtain ⟨a, b, c, rfl⟩ := h
  exact ⟨c, b, a, by simp [List.append_assoc]⟩
/-- Node v's marks in a row of bags. -/
def marks (v : Nat) (B : List Nat) : List Bool := B.map fun b => b.testBit v
/-- A path decomposition of at most 30 bags. -/
structure PathDec (G : List Nat) (B : List Nat) : Prop where
  pos : 1 ≤ B.length
  most : B.length ≤ 30
  lt : ∀ b ∈ B, b < 2 ^ G.length
  run : ∀ v, v < G.length → OneRun (marks v B)
  edge : ∀ v u, v < G.length → Adj G v u → ∃ b ∈ B, bset b v ∧ bset b u
theorem PathDec.reverse {G B : List Nat} (h : PathDec G B) : PathDec G B.reverse where
  pos := by rw [List.length_reverse]; exact h.pos
  most := by rw [List.length_reverse]; exact h.most
  lt := fun b hb => h.lt b (List.mem_reverse.1 hb)
  run := fun v hv => by
    have := (h.run v hv).reverse
    unfold marks at *
    rwa [List.map_reverse]
  edge := fun v u hv ha => by
    obtain ⟨b, hb, h1⟩ := h.edge v u hv ha
    exact ⟨b, List.mem_reverse.2 hb, h1⟩
/-- The most nodes that a bag has. -/
def mostOf (B : List Nat) : Nat := B.foldr (fun b m => max (pc b 9) m) 0
theorem mostOf_le {B : List Nat} {q : Nat} : mostOf B ≤ q ↔ ∀ b ∈ B, pc b 9 ≤ q := by
  unfold mostOf
  induction B with
  | nil => simp
  | cons b B ih => simp only [List.foldr_cons, Nat.max_le, ih, List.forall_mem_cons]
theorem mostOf_reverse (B : List Nat) : mostOf B.reverse = mostOf B :=
  Nat.le_antisymm (mostOf_le.2 fun b hb => mostOf_le.1 (Nat.le_refl _) b (List.mem_reverse.1 hb)) (mostOf_le.2 fun b hb => mostOf_le.1 (Nat.le_refl _) b (List.mem_reverse.2 hb))
/-- What is left of a set when the bags with v have been taken away. -/
def left (v : Nat) : Nat → List Nat → Nat
  | s, [] => s
  | s, b :: B => left v (if b.testBit v then diff s b else s) B
theorem left_zero (v : Nat) : ∀ (B : List Nat) (s : Nat), left v s B = 0 ↔ ∀ u, bset s u → ∃ b ∈ B, bset b v ∧ bset b u
  | [], s => by
    simp only [left]
    constructor
    · intro h u hu; rw [h] at hu; unfold bset at hu; simp at hu
    · intro h
      apply Classical.byContradiction
      intro h0
      obtain ⟨i, hi⟩ := Nat.exists_testBit_of_ne_zero h0
      obtain ⟨b, hb, _⟩ := h i hi
      simp at hb
  | b :: B, s => by
    simp only [left]
    rw [left_zero v B]
    by_cases hb : b.testBit v = true
    · rw [if_pos hb]
      constructor
      · intro h u hu
        by_cases hbu : bset b u
        · exact ⟨b, List.mem_cons_self, hb, hbu⟩
        · obtain ⟨x, hx, h2⟩ := h u ((diff_bset _ _ _).2 ⟨hu, hbu⟩)
          exact ⟨x, List.mem_cons_of_mem _ hx, h2⟩
      · intro h u hu
        obtain ⟨hu1, hu2⟩ := (diff_bset _ _ _).1 hu
        obtain ⟨x, hx, h2, h3⟩ := h u hu1
        rcases List.mem_cons.1 hx with e | e
        · subst e; exact (hu2 h3).elim
        · exact ⟨x, e, h2, h3⟩
    · rw [if_neg hb]
      constructor
      · intro h u hu
        obtain ⟨x, hx, h2⟩ := h u hu
        exact ⟨x, List.mem_cons_of_mem _ hx, h2⟩
      · intro h u hu
        obtain ⟨x, hx, h2, h3⟩ := h u hu
        rcases List.mem_cons.1 hx with e | e
        · subst e; exact (hb h2).elim
        · exact ⟨x, e, h2, h3⟩
theorem left_lt (v n : Nat) : ∀ (B : List Nat) (s : Nat), s < 2 ^ n → left v s B < 2 ^ n
  | [], s, h => h
  | b :: B, s, h => by
    simp only [left]
    refine left_lt v n B _ ?_
    split
    · exact Nat.lt_of_le_of_lt (diff_le _ _) h
    · exact h
end Go.Proofs.YtijfddobandcdaaDoor.T
end
section
/- isPath, Check: path decompositions and their width. -/
set_option linter.unusedVariables false
namespace Go.Proofs.YtijfddobandcdaaDoor.X
open Go.RowKit Go.Proofs.YtijfddobandcdaaDoorW.PrintWords Go.Proofs.YtijfddobandcdaaDoorW.PrintLast Go.Proofs.YtijfddobandcdaaDoorW.PrintMore Go.Proofs.YtijfddobandcdaaDoor.T

theorem rd_mem {l : List Int} {i : Nat} (h : i < l.length) : rd l (i : Int) = l[i] := by unfold rd; rw [Int.toNat_natCast, List.getD_eq_getElem?_getD, List.getElem?_eq_getElem h]; rfl
theorem min_l0 (l : List Int) (hl : l.length < 2 ^ 60) : ∀ (d i : Nat) (m : Int), i + d = l.length → ∃ r, Ev (fun k => slices_Min_int_int.l0 k l m (i : Int)) r ∧ (r = m ∨ r ∈ l) ∧ r ≤ m ∧ ∀ x ∈ l.drop i, r ≤ x := by
  intro d
  induction d with
  | zero =>
    intro i m hi
    refine ⟨m, Ev.step (f := fun _ => some m) (fun k => by rw [slices_Min_int_int.l0, if_neg (by omega)]) (Ev.some rfl), .inl rfl, Int.le_refl _, ?_⟩
    rw [List.drop_eq_nil_of_le (by omega)]
    simp
  | succ d ih =>
    intro i m hi
    have hi' : i < l.length := by omega
    obtain ⟨r, h1, h2, h3, h4⟩ := ih (i + 1) (mn m l[i]) (by omega)
    have hmn : mn m l[i] ≤ m ∧ mn m l[i] ≤ l[i] ∧ (mn m l[i] = m ∨ mn m l[i] = l[i]) := by unfold mn; split <;> omega
    refine ⟨r, Ev.step (fun k => by rw [slices_Min_int_int.l0, if_pos (by omega), if_pos (by omega), rd_mem hi', wrap_succ i (by omega)]) h1, ?_, by omega, ?_⟩
    · rcases h2 with h | h
      · rcases hmn.2.2 with e | e
        · exact .inl (by omega)
        · exact .inr (by rw [h, e]; exact List.getElem_mem hi')
      · exact .inr h
    · rw [List.drop_eq_getElem_cons hi']
      intro x hx
      rcases List.mem_cons.1 hx with e | e
      · rw [e]; omega
      · exact h4 x e
theorem max_l0 (l : List Int) (hl : l.length < 2 ^ 60) : ∀ (d i : Nat) (m : Int), i + d = l.length → ∃ r, Ev (fun k => slices_Max_int_int.l0 k l m (i : Int)) r ∧ (r = m ∨ r ∈ l) ∧ m ≤ r ∧ ∀ x ∈ l.drop i, x ≤ r := by
  intro d
  induction d with
  | zero =>
    intro i m hi
    refine ⟨m, Ev.step (f := fun _ => some m) (fun k => by rw [slices_Max_int_int.l0, if_neg (by omega)]) (Ev.some rfl), .inl rfl, Int.le_refl _, ?_⟩
    rw [List.drop_eq_nil_of_le (by omega)]
    simp
  | succ d ih =>
    intro i m hi
    have hi' : i < l.length := by omega
    obtain ⟨r, h1, h2, h3, h4⟩ := ih (i + 1) (mx m l[i]) (by omega)
    have hmn : m ≤ mx m l[i] ∧ l[i] ≤ mx m l[i] ∧ (mx m l[i] = m ∨ mx m l[i] = l[i]) := by unfold mx; split <;> omega
    refine ⟨r, Ev.step (fun k => by rw [slices_Max_int_int.l0, if_pos (by omega), if_pos (by omega), rd_mem hi', wrap_succ i (by omega)]) h1, ?_, by omega, ?_⟩
    · rcases h2 with h | h
      · rcases hmn.2.2 with e | e
        · exact .inl (by omega)
        · exact .inr (by rw [h, e]; exact List.getElem_mem hi')
      · exact .inr h
    · rw [List.drop_eq_getElem_cons hi']
      intro x hx
      rcases List.mem_cons.1 hx with e | e
      · rw [e]; omega
      · exact h4 x e
theorem min_ev (l : List Int) (h1 : 1 ≤ l.length) (hl : l.length < 2 ^ 60) : ∃ r, Ev (fun k => slices_Min_int_int.f k l) r ∧ r ∈ l ∧ ∀ x ∈ l, r ≤ x := by
  obtain ⟨r, h2, h3, h4, h5⟩ := min_l0 l hl (l.length - 1) 1 (rd l 0) (by omega)
  have e : rd l 0 = l[0] := rd_mem (i := 0) (by omega)
  refine ⟨r, ?_, ?_, ?_⟩
  · unfold slices_Min_int_int.f
    exact Ev.if_neg (by omega) (Ev.if_pos (by omega) h2)
  · rcases h3 with h | h
    · rw [h, e]; exact List.getElem_mem _
    · exact h
  · intro x hx
    rw [← List.drop_zero (l := l), List.drop_eq_getElem_cons (show 0 < l.length by omega)] at hx
    rcases List.mem_cons.1 hx with h | h
    · rw [h, ← e]; exact h4
    · exact h5 x h
theorem max_ev (l : List Int) (h1 : 1 ≤ l.length) (hl : l.length < 2 ^ 60) : ∃ r, Ev (fun k => slices_Max_int_int.f k l) r ∧ r ∈ l ∧ ∀ x ∈ l, x ≤ r := by
  obtain ⟨r, h2, h3, h4, h5⟩ := max_l0 l hl (l.length - 1) 1 (rd l 0) (by omega)
  have e : rd l 0 = l[0] := rd_mem (i := 0) (by omega)
  refine ⟨r, ?_, ?_, ?_⟩
  · unfold slices_Max_int_int.f
    exact Ev.if_neg (by omega) (Ev.if_pos (by omega) h2)
  · rcases h3 with h | h
    · rw [h, e]; exact List.getElem_mem _
    · exact h
  · intro x hx
    rw [← List.drop_zero (l := l), List.drop_eq_getElem_cons (show 0 < l.length by omega)] at hx
    rcases List.mem_cons.1 hx with h | h
    · rw [h, ← e]; exact h4
    · exact h5 x h

/-- The mark ahead of place i. -/
def ahead (v : Nat) (B : List Nat) (i : Nat) : Bool := if i = 0 then false else (B.getD (i - 1) 0).testBit v
theorem toNat_one {b : Bool} : ((b.toNat : Nat) : Int) = 1 ↔ b = true := by cases b <;> simp
theorem isPath_l1 (G : List Nat) (hG : Gr 7 G) (B : List Nat) (hB : ∀ b ∈ B, b < 2 ^ G.length) (h30 : B.length ≤ 30) (v : Nat) (hv : v < G.length) (r : Bool)
    (cont : Ev (fun k => sweep_town_isPath.l0 k (gi B) (gi G) (G.length : Int) ((v + 1 : Nat) : Int)) r) : ∀ (d i s c : Nat), i + d = B.length → s < 2 ^ G.length → c ≤ i →
    Ev (fun k => sweep_town_isPath.l1 k (gi B) (v : Int) (s : Int) (c : Int) (gi G) (G.length : Int) (v : Int) (gi B) (B.length : Int) (i : Int)) (decide (c + starts (ahead v B i) (marks v (B.drop i)) = 1 ∧ T.left v s (B.drop i) = 0) && r) := by
  have hn := hG.most
  intro d
  induction d with
  | zero =>
    intro i s c hi hs hc
    rw [List.drop_eq_nil_of_le (by omega)]
    simp only [marks, List.map_nil, starts, T.left, Nat.add_zero]
    by_cases h1 : c = 1
    · by_cases h2 : s = 0
      · refine Ev.step (fun k => by rw [sweep_town_isPath.l1, if_neg (by omega), if_pos (by omega), if_pos (by omega), wrap_succ v (by omega)]) ?_
        rw [decide_eq_true ⟨h1, h2⟩, Bool.true_and]
        exact cont
      · refine Ev.step (f := fun _ => some false) (fun k => by rw [sweep_town_isPath.l1, if_neg (by omega), if_pos (by omega), if_neg (by omega)]) (Ev.some ?_)
        rw [decide_eq_false (fun h => h2 h.2), Bool.false_and]
    · refine Ev.step (f := fun _ => some false) (fun k => by rw [sweep_town_isPath.l1, if_neg (by omega), if_neg (by omega)]) (Ev.some ?_)
      rw [decide_eq_false (fun h => h1 h.1), Bool.false_and]
  | succ d ih =>
    intro i s c hi hs hc
    have HS := Aside0.mk hs
    clear hs
    have hi' : i < B.length := by omega
    have hwi := wrap_succ i (by omega)
    have hwc := wrap_succ c (by omega)
    have hb2 := hB _ (List.getElem_mem hi')
    have hr : rd (gi B) (i : Int) = ((B[i] : Nat) : Int) := by rw [rd_gi, List.getD_eq_getElem?_getD, List.getElem?_eq_getElem hi']; rfl
    have hb62 := big (small G (by omega) hb2)
    have hs62 := big (small G (by omega) HS.out)
    have hget : B.getD i 0 = B[i] := by rw [List.getD_eq_getElem?_getD, List.getElem?_eq_getElem hi']; rfl
    have hah : ahead v B (i + 1) = B[i].testBit v := by unfold ahead; rw [if_neg (by omega), Nat.add_sub_cancel, hget]
    rw [List.drop_eq_getElem_cons hi']
    simp only [marks, List.map_cons, starts, T.left]
    have hd := Aside0.mk (show diff s B[i] < 2 ^ G.length from Nat.lt_of_le_of_lt (diff_le _ _) HS.out)
    clear hb2
    by_cases hb : B[i].testBit v = true
    · have hbit : Go.bits .and .i64 (shr .i64 ((B[i] : Nat) : Int) (v : Int)) 1 = 1 := (bit_one _ v hb62 (by omega)).2 hb
      rw [if_pos hb]
      have next : ∀ c' : Nat, c' ≤ i + 1 → Ev (fun k => sweep_town_isPath.l1 k (gi B) (v : Int) ((diff s B[i] : Nat) : Int) (c' : Int) (gi G) (G.length : Int) (v : Int) (gi B) (B.length : Int) ((i + 1 : Nat) : Int)) (decide (c' + starts (B[i].testBit v) ((B.drop (i + 1)).map fun b => b.testBit v) = 1 ∧ T.left v (diff s B[i]) (B.drop (i + 1)) = 0) && r) := fun c' h' => by
        have := ih (i + 1) (diff s B[i]) c' (by omega) hd.out h'
        rw [hah] at this
        exact this
      by_cases hp : ahead v B i = true
      · have hi0 : i ≠ 0 := fun e => by rw [e] at hp; simp [ahead] at hp
        have hpr : (B.getD (i - 1) 0).testBit v = true := by unfold ahead at hp; rw [if_neg hi0] at hp; exact hp
        have hp2 : B.getD (i - 1) 0 < 2 ^ 62 := by
          rw [List.getD_eq_getElem?_getD, List.getElem?_eq_getElem (by omega)]
          exact big (small G (by omega) (hB _ (List.getElem_mem _)))
        refine Ev.step (f := fun k => sweep_town_isPath.j3 k (gi B) (v : Int) (s : Int) (c : Int) ((B[i] : Nat) : Int) (gi G) (G.length : Int) (v : Int) (gi B) (B.length : Int) (i : Int) false) (fun k => ?_) ?_
        · rw [sweep_town_isPath.l1, if_pos (by omega), if_pos (by omega), if_pos (by rw [gi_length]; omega), if_pos (by omega), hr, if_pos hbit, if_neg (by omega), wrap_pred i (by omega) (by omega), if_pos (by omega), if_pos (by rw [gi_length]; omega), rd_gi, bit_at _ v hp2 (by omega), hpr]
          rfl
        · refine Ev.step (fun k => by rw [sweep_town_isPath.j3, if_neg (by simp), if_pos (by omega), if_pos hbit, b_andNot _ _ hs62 hb62, hwi]) ?_
          have := next c (by omega)
          simpa [hp] using this
      · have hp' : ahead v B i = false := by simpa using hp
        refine Ev.step (f := fun k => sweep_town_isPath.j3 k (gi B) (v : Int) (s : Int) (c : Int) ((B[i] : Nat) : Int) (gi G) (G.length : Int) (v : Int) (gi B) (B.length : Int) (i : Int) true) (fun k => ?_) ?_
        · rw [sweep_town_isPath.l1, if_pos (by omega), if_pos (by omega), if_pos (by rw [gi_length]; omega), if_pos (by omega), hr, if_pos hbit]
          by_cases hi0 : i = 0
          · rw [if_pos (by omega)]
          · have hpr : (B.getD (i - 1) 0).testBit v = false := by unfold ahead at hp'; rw [if_neg hi0] at hp'; exact hp'
            have hp2 : B.getD (i - 1) 0 < 2 ^ 62 := by
              rw [List.getD_eq_getElem?_getD, List.getElem?_eq_getElem (by omega)]
              exact big (small G (by omega) (hB _ (List.getElem_mem _)))
            rw [if_neg (by omega), wrap_pred i (by omega) (by omega), if_pos (by omega), if_pos (by rw [gi_length]; omega), rd_gi, bit_at _ v hp2 (by omega), hpr]
            rfl
        · refine Ev.step (fun k => by rw [sweep_town_isPath.j3, if_pos rfl, if_pos (by omega), if_pos hbit, b_andNot _ _ hs62 hb62, hwi, hwc]) ?_
          have := next (c + 1) (by omega)
          rw [hb] at this
          rw [hp', hb, if_pos ⟨rfl, rfl⟩, ← Nat.add_assoc]
          exact this
    · have hb' : B[i].testBit v = false := by simpa using hb
      have hbit : ¬ Go.bits .and .i64 (shr .i64 ((B[i] : Nat) : Int) (v : Int)) 1 = 1 := fun h => hb ((bit_one _ v hb62 (by omega)).1 h)
      rw [if_neg hb]
      refine Ev.step (f := fun k => sweep_town_isPath.j3 k (gi B) (v : Int) (s : Int) (c : Int) ((B[i] : Nat) : Int) (gi G) (G.length : Int) (v : Int) (gi B) (B.length : Int) (i : Int) false) (fun k => ?_) ?_
      · rw [sweep_town_isPath.l1, if_pos (by omega), if_pos (by omega), if_pos (by rw [gi_length]; omega), if_pos (by omega), hr, if_neg hbit]
      · refine Ev.step (fun k => by rw [sweep_town_isPath.j3, if_neg (by simp), if_pos (by omega), if_neg hbit, hwi]) ?_
        have := ih (i + 1) s c (by omega) HS.out (by omega)
        rw [hah, hb'] at this
        rw [hb', if_neg (by simp), Nat.zero_add]
        exact this
/-- What node v asks of the bags. -/
def fits (G B : List Nat) (v : Nat) : Bool := decide (starts false (marks v B) = 1 ∧ T.left v (G.getD v 0) B = 0)
theorem isPath_l0 (G : List Nat) (hG : Gr 7 G) (B : List Nat) (hB : ∀ b ∈ B, b < 2 ^ G.length) (h30 : B.length ≤ 30) : ∀ (d v : Nat), v + d = G.length →
    Ev (fun k => sweep_town_isPath.l0 k (gi B) (gi G) (G.length : Int) (v : Int)) (allFrom (fits G B) G.length d v) := by
  have hn := hG.most
  intro d
  induction d with
  | zero => intro v hv; exact Ev.step (f := fun _ => some true) (fun k => by rw [sweep_town_isPath.l0, if_neg (by omega)]) (Ev.some rfl)
  | succ d ih =>
    intro v hv
    have := isPath_l1 G hG B hB h30 v (by omega) _ (ih (v + 1) (by omega)) B.length 0 (G.getD v 0) 0 (by omega) (hG.row v) (Nat.le_refl _)
    refine Ev.step (fun k => by rw [sweep_town_isPath.l0, if_pos (by omega), if_pos (by omega), if_pos (by rw [gi_length]; omega), rd_gi, gi_length]) ?_
    simp only [allFrom, fits]
    rw [Nat.zero_add, List.drop_zero] at this
    exact this
theorem fits_iff (G B : List Nat) (h1 : 1 ≤ B.length) (h30 : B.length ≤ 30) (hB : ∀ b ∈ B, b < 2 ^ G.length) : allFrom (fits G B) G.length G.length 0 = true ↔ PathDec G B := by
  rw [allFrom_iff]
  simp only [fits, decide_eq_true_eq, starts_one, left_zero]
  constructor
  · intro h
    exact ⟨h1, h30, hB, fun v hv => (h v (by omega) (by omega)).1, fun v u hv ha => (h v (by omega) (by omega)).2 u ha⟩
  · intro h v _ hv
    exact ⟨h.run v (by omega), fun u ha => h.edge v u (by omega) ha⟩
/-- l is a path decomposition. -/
def IsPathL (G : List Nat) (l : List Int) : Prop := ∃ B, l = gi B ∧ PathDec G B
theorem isPath_ev (G : List Nat) (hG : Gr 7 G) (l : List Int) (hl : l.length < 2 ^ 60) : ∃ r, Ev (fun k => sweep_town_isPath.f k (gi G) l) r ∧ (r = true ↔ IsPathL G l) := by
  have hn := hG.most
  have bad : ¬ IsPathL G l → Ev (fun k => sweep_town_isPath.f k (gi G) l) false → ∃ r, Ev (fun k => sweep_town_isPath.f k (gi G) l) r ∧ (r = true ↔ IsPathL G l) := fun h1 h2 => ⟨false, h2, by simp [h1]⟩
  have stop : Ev (fun k => sweep_town_isPath.j0 k (gi G) l true) false := Ev.step (f := fun _ => some false) (fun k => by rw [sweep_town_isPath.j0, if_pos rfl]) (Ev.some rfl)
  have h29 : 2 ^ G.length ≤ 2 ^ 9 := Nat.pow_le_pow_right (by omega) (by omega)
  have h2p := Nat.two_pow_pos G.length
  have hall : sweep_town_all.f (gi G) = some ((2 ^ G.length - 1 : Nat) : Int) := by
    unfold sweep_town_all.f
    rw [gi_length, s_one _ (by omega), w64_small _ (by omega) (by omega)]
    congr 1
    omega
  by_cases h1 : 1 ≤ l.length
  · by_cases h30 : l.length ≤ 30
    · obtain ⟨mi, hmi, hmi2, hmi3⟩ := min_ev l h1 (by omega)
      obtain ⟨ma, hma, hma2, hma3⟩ := max_ev l h1 (by omega)
      by_cases h0 : mi < 0
      · refine bad ?_ ?_
        · rintro ⟨B, rfl, _⟩
          unfold gi at hmi2
          obtain ⟨x, _, hx⟩ := List.mem_map.1 hmi2
          omega
        · unfold sweep_town_isPath.f
          exact Ev.if_neg (by omega) (Ev.if_neg (by omega) (Ev.bind hmi (Ev.if_pos h0 stop)))
      · obtain ⟨B, rfl⟩ := gi_nonneg l (fun x hx => by have := hmi3 x hx; omega)
        rw [gi_length] at h1 h30
        by_cases h2 : ma > ((2 ^ G.length - 1 : Nat) : Int)
        · refine bad ?_ ?_
          · rintro ⟨B', e, h⟩
            rw [← gi_inj e] at h
            obtain ⟨x, hx, rfl⟩ := List.mem_map.1 hma2
            have := h.lt x hx
            omega
          · unfold sweep_town_isPath.f
            refine Ev.if_neg (by rw [gi_length]; omega) (Ev.if_neg (by rw [gi_length]; omega) (Ev.bind hmi (Ev.if_neg h0 (Ev.bind hma (Ev.bind1 hall ?_)))))
            rw [decide_eq_true h2]
            exact stop
        · have hB : ∀ b ∈ B, b < 2 ^ G.length := fun b hb => by have := hma3 b (gi_mem.2 hb); omega
          refine ⟨allFrom (fits G B) G.length G.length 0, ?_, ?_⟩
          · unfold sweep_town_isPath.f
            refine Ev.if_neg (by rw [gi_length]; omega) (Ev.if_neg (by rw [gi_length]; omega) (Ev.bind hmi (Ev.if_neg h0 (Ev.bind hma (Ev.bind1 hall ?_)))))
            rw [decide_eq_false h2]
            refine Ev.step (fun k => by rw [sweep_town_isPath.j0, if_neg (by simp)]) ?_
            rw [gi_length]
            exact isPath_l0 G hG B hB h30 G.length 0 (by omega)
          · rw [fits_iff G B h1 h30 hB]
            exact ⟨fun h => ⟨B, rfl, h⟩, fun ⟨B', e, h⟩ => by rw [gi_inj e]; exact h⟩
    · refine bad ?_ ?_
      · rintro ⟨B, rfl, h⟩
        have := h.most
        rw [gi_length] at h30
        omega
      · unfold sweep_town_isPath.f
        exact Ev.if_neg (by omega) (Ev.if_pos (by omega) stop)
  · refine bad ?_ ?_
    · rintro ⟨B, rfl, h⟩
      have := h.pos
      rw [gi_length] at h1
      omega
    · unfold sweep_town_isPath.f
      exact Ev.if_pos (by omega) stop

theorem check_l0 (G : List Nat) (hG : Gr 7 G) (B : List Nat) (hB : ∀ b ∈ B, b < 2 ^ G.length) (h30 : B.length ≤ 30) : ∀ (d i m : Nat), i + d = B.length → m ≤ 9 →
    Ev (fun k => sweep_Check.l0 k (m : Int) (gi B) (B.length : Int) (i : Int)) (((max m (mostOf (B.drop i)) : Nat) : Int) - 1, true, 0) := by
  have hn := hG.most
  intro d
  induction d with
  | zero =>
    intro i m hi hm
    refine Ev.step (f := fun _ => some ((m : Int) - 1, true, 0)) (fun k => by rw [sweep_Check.l0, if_neg (by omega), w64_small _ (by omega) (by omega)]) (Ev.some ?_)
    rw [List.drop_eq_nil_of_le (by omega)]
    simp [mostOf]
  | succ d ih =>
    intro i m hi hm
    have hi' : i < B.length := by omega
    have hb2 := hB _ (List.getElem_mem hi')
    have hr : rd (gi B) (i : Int) = ((B[i] : Nat) : Int) := by rw [rd_gi, List.getD_eq_getElem?_getD, List.getElem?_eq_getElem hi']; rfl
    have hp := pc_le B[i] 9
    refine Ev.step (f := fun k => (sweep_count.f ((B[i] : Nat) : Int)).bind fun t => sweep_Check.l0 k (mx (m : Int) t) (gi B) (B.length : Int) ((i + 1 : Nat) : Int)) (fun k => ?_) ?_
    · rw [sweep_Check.l0, if_pos (by omega), if_pos (by omega), if_pos (by rw [gi_length]; omega), hr, wrap_succ i (by omega)]
    · refine Ev.bind1 (count_eq _ (small G (by omega) hb2)) ?_
      rw [mx_nat]
      have := ih (i + 1) (max m (pc B[i] 9)) (by omega) (by omega)
      rw [List.drop_eq_getElem_cons hi']
      have e : max m (mostOf (B[i] :: B.drop (i + 1))) = max (max m (pc B[i] 9)) (mostOf (B.drop (i + 1))) := by
        simp only [mostOf, List.foldr_cons]
        omega
      rw [e]
      exact this
theorem Check_yes (G : List Nat) (hG : Gr 7 G) (B : List Nat) (h : PathDec G B) : Ev (fun k => sweep_Check.f k (gi G) (gi B)) (((mostOf B : Nat) : Int) - 1, true, 0) := by
  have hr := read_ev (gi G) (by rw [gi_length]; have := hG.most; omega)
  rw [(chk_iff 7 (by omega) _).2 ⟨G, rfl, hG⟩] at hr
  have h30 := h.most
  obtain ⟨r, h1, h2⟩ := isPath_ev G hG (gi B) (by rw [gi_length]; omega)
  rw [h2.2 ⟨B, rfl, h⟩] at h1
  have := check_l0 G hG B h.lt h.most B.length 0 0 (by omega) (by omega)
  rw [List.drop_zero, Nat.zero_max] at this
  unfold sweep_Check.f
  refine Ev.bind hr (Ev.if_pos rfl (Ev.bind h1 (Ev.if_pos rfl ?_)))
  rw [gi_length]
  exact this
theorem Check_no (G : List Nat) (hG : Gr 7 G) (l : List Int) (hl : l.length < 2 ^ 60) (h : ¬ IsPathL G l) : Ev (fun k => sweep_Check.f k (gi G) l) (0, false, 0) := by
  have hr := read_ev (gi G) (by rw [gi_length]; have := hG.most; omega)
  rw [(chk_iff 7 (by omega) _).2 ⟨G, rfl, hG⟩] at hr
  obtain ⟨r, h1, h2⟩ := isPath_ev G hG l hl
  have hr2 : r = false := by cases r <;> simp_all
  rw [hr2] at h1
  unfold sweep_Check.f
  exact Ev.bind hr (Ev.if_pos rfl (Ev.bind h1 (Ev.if_neg (by simp) (Ev.some rfl))))
theorem Check_bad (g l : List Int) (hl : g.length < 2 ^ 60) (h : chk 7 g = false) : Ev (fun k => sweep_Check.f k g l) (0, false, 2) := by
  have hr := read_ev g hl
  rw [h] at hr
  unfold sweep_Check.f
  exact Ev.bind hr (Ev.if_neg (by simp) (Ev.some rfl))
end Go.Proofs.YtijfddobandcdaaDoor.X
end
section
-- by ownprint.py (wip/tool), over the kit's print
namespace Go.Proofs.YtijfddobandcdaaDoor.X
open Go.RowKit Go.Proofs.YtijfddobandcdaaDoorW.PrintWords Go.Proofs.YtijfddobandcdaaDoorW.PrintLast Go.Proofs.YtijfddobandcdaaDoorW.PrintMore
attribute [local go_sem] max2_int min2_int max_two min_two max_three min_three max_four min_four
set_option linter.unusedVariables false
set_option linter.unusedSimpArgs false

/-! ### sweep_town_isLayout: function 55 -/
def sweep_town_isLayout.l0 : Nat → List Int → List Int → Int → List Int → Int → Int → Option (Bool)
  | 0, _, _, _, _, _, _ => none
  | k + 1, x0, x1, x5, x8, x9, x10 => if x10 < x9 then (if 0 ≤ x10 then (if x10 < (x8.length : Int) then (if (rd x8 x10) < 0 then (some false) else (if (rd x8 x10) ≥ (x0.length : Int) then (some false) else (if 0 ≤ (rd x8 x10) then (sweep_town_isLayout.l0 k x0 x1 (Go.bits .or .i64 x5 (shl .i64 1 (rd x8 x10))) x8 x9 (wrap64 (x10 + 1))) else (none)))) else (none)) else (none)) else (if (x1.length : Int) = (x0.length : Int) then ((sweep_town_all.f x0).bind fun t230 => (some (x5 == t230))) else (some false))
def sweep_town_isLayout.f (k : Nat) (l0 : List Int) (l1 : List Int) : Option (Bool) := sweep_town_isLayout.l0 k l0 l1 0 l1 (l1.length : Int) 0
theorem sweep_town_isLayout.mono_l : ∀ k, (∀ y0 y1 y2 y3 y4 y5, LeO (sweep_town_isLayout.l0 k y0 y1 y2 y3 y4 y5) (sweep_town_isLayout.l0 (k + 1) y0 y1 y2 y3 y4 y5))
  | 0 => fun _ _ _ _ _ _ r h => by simp [sweep_town_isLayout.l0] at h
  | k + 1 => by
    have ih0 := sweep_town_isLayout.mono_l k
    · intro y0 y1 y2 y3 y4 y5
      unfold sweep_town_isLayout.l0
      repeat' first
      | (with_reducible exact ih0 _ _ _ _ _ _)
      | (with_reducible exact LeO.refl _)
      | (with_reducible exact LeO.none _)
      | (with_reducible refine LeO.ite ?_ ?_)
      | (with_reducible refine LeO.bind ?_ (fun _ => ?_))
      | exact ih0 _ _ _ _ _ _
      | exact LeO.none _
      | refine LeO.ite ?_ ?_
      | refine LeO.bind ?_ (fun _ => ?_)
theorem sweep_town_isLayout.mono : ∀ a0 a1 k, LeO (sweep_town_isLayout.f k a0 a1) (sweep_town_isLayout.f (k + 1) a0 a1) := by
  intro a0 a1 k
  have ih0 := sweep_town_isLayout.mono_l k
  unfold sweep_town_isLayout.f
  repeat' first
      | (with_reducible exact ih0 _ _ _ _ _ _)
      | (with_reducible exact LeO.refl _)
      | (with_reducible exact LeO.none _)
      | (with_reducible refine LeO.ite ?_ ?_)
      | (with_reducible refine LeO.bind ?_ (fun _ => ?_))
      | exact ih0 _ _ _ _ _ _
      | exact LeO.none _
      | refine LeO.ite ?_ ?_
      | refine LeO.bind ?_ (fun _ => ?_)
set_option maxHeartbeats 8000000 in
set_option maxRecDepth 100000 in
theorem sweep_town_isLayout.calls (k : Nat) (A0 : Option Addr) (c0 : Nat) (l0 : List Int) (A1 : Option Addr) (c1 : Nat) (l1 : List Int) (r : Bool) (w : World) (hr0 : Kd.C (Kd.int .i64) w A0 l0.length l0) (hc0 : l0.length ≤ c0) (hr1 : Kd.C (Kd.int .i64) w A1 l1.length l1) (hc1 : l1.length ≤ c1) (h : sweep_town_isLayout.f k l0 l1 = some r) :
    Calls Tryd.prog 55 #[.slice A0 l0.length c0, .slice A1 l1.length c1] w fun e w' => e = .returned (.bool r) ∧ Drawn0 w w' := by
  have HR0 := Aside0.mk hr0
  have HC0 := Aside0.mk hc0
  clear hr0 hc0
  have HR1 := Aside0.mk hr1
  have HC1 := Aside0.mk hc1
  clear hr1 hc1
  have H : (sweep_town_isLayout.l0 k l0 l1 0 l1 (l1.length : Int) 0) = some r := h
  clear h
  have H' := Aside0.mk H
  clear H
  go_enter Tryd.func55, Tryd.ntmps55
  go_wp2
  go_loopg [5, 10] k (fun kq v5 v10 w' => ∃ (x5_1 : Int) (x10_1 : Int), v5 = .int .i64 x5_1 ∧ v10 = .int .i64 x10_1 ∧ Aside0 (sweep_town_isLayout.l0 kq l0 l1 x5_1 l1 (l1.length : Int) x10_1 = some r) ∧ Aside0 (kq ≤ k) ∧ Drawn0 w w')
  case atStart => exact ⟨(0), (0), (by first | rfl | (simp; done) | (simp [*]; done)), (by first | rfl | (simp; done) | (simp [*]; done)), H', ⟨Nat.le_refl _⟩, by repeat (first | exact Drawn0.refl _ | apply Drawn0.step)⟩
  case round =>
    clear H'
    try clear c1
    try clear p2
    obtain ⟨x5_1, x10_1, rfl, rfl, HA, HK1, ⟨m1, rfl⟩⟩ := hrel
    cases gk with
    | zero => exact absurd HA.out (by simp [sweep_town_isLayout.l0])
    | succ k1 =>
      have H := HA.out
      clear HA
      simp only [sweep_town_isLayout.l0] at H
      by_cases c3 : x10_1 < (l1.length : Int)
      · rw [if_pos c3] at H
        have c3b0 : decide (x10_1 < (l1.length : Int)) = true := decide_eq_true c3
        clear c3
        by_cases c4 : 0 ≤ x10_1
        · rw [if_pos c4] at H
          have c4b0 : decide (0 ≤ x10_1) = true := decide_eq_true c4
          clear c4
          by_cases c5 : x10_1 < (l1.length : Int)
          · rw [if_pos c5] at H
            have c5b0 : decide (x10_1 < (l1.length : Int)) = true := decide_eq_true c5
            clear c5
            by_cases c6 : (rd l1 x10_1) < 0
            · rw [if_pos c6] at H
              have c6b0 : decide ((rd l1 x10_1) < 0) = true := decide_eq_true c6
              clear c6
              obtain rfl := Option.some.inj H
              have p229 : 0 ≤ (x10_1 : Int) := of_decide_eq_true (by first | (with_reducible assumption) | assumption)
              have q229 : x10_1 < (l1.length : Int) := of_decide_eq_true (by first | (with_reducible assumption) | assumption)
              obtain ⟨ad229, e229, hx229_0⟩ := Kd.at_int HR1.out x10_1 p229 q229
              cases e229
              replace p229 := eq_true p229
              replace q229 := eq_true q229
              go_wp2
              go_ret
              exact ⟨by first | rfl | (simp; done) | (simp [*]; done), by repeat (first | exact Drawn0.refl _ | apply Drawn0.step)⟩
            · rw [if_neg c6] at H
              have c6b0 : decide ((rd l1 x10_1) < 0) = false := decide_eq_false c6
              clear c6
              by_cases c7 : (rd l1 x10_1) ≥ (l0.length : Int)
              · rw [if_pos c7] at H
                have c7b0 : decide ((l0.length : Int) ≤ (rd l1 x10_1)) = true := decide_eq_true c7
                clear c7
                obtain rfl := Option.some.inj H
                have p229 : 0 ≤ (x10_1 : Int) := of_decide_eq_true (by first | (with_reducible assumption) | assumption)
                have q229 : x10_1 < (l1.length : Int) := of_decide_eq_true (by first | (with_reducible assumption) | assumption)
                obtain ⟨ad229, e229, hx229_0⟩ := Kd.at_int HR1.out x10_1 p229 q229
                cases e229
                replace p229 := eq_true p229
                replace q229 := eq_true q229
                go_wp2
                go_ret
                exact ⟨by first | rfl | (simp; done) | (simp [*]; done), by repeat (first | exact Drawn0.refl _ | apply Drawn0.step)⟩
              · rw [if_neg c7] at H
                have c7b0 : decide ((l0.length : Int) ≤ (rd l1 x10_1)) = false := decide_eq_false c7
                clear c7
                by_cases c8 : 0 ≤ (rd l1 x10_1)
                · rw [if_pos c8] at H
                  have c8b0 := eq_true c8
                  have c8b1 : decide (0 ≤ (rd l1 x10_1)) = true := decide_eq_true c8
                  clear c8
                  obtain ⟨ji9, hji9⟩ : ∃ j_ : Int, (shl .i64 1 (rd l1 x10_1)) = j_ := ⟨_, rfl⟩
                  replace H : (sweep_town_isLayout.l0 k1 l0 l1 (Go.bits .or .i64 x5_1 (ji9)) l1 (l1.length : Int) (wrap64 (x10_1 + 1))) = some r := by first | (rw [hji9] at H; exact H) | (simp only [hji9] at H ⊢; exact H)
                  have hji9_ : (IntKind.i64.wrap (1 * 2 ^ min (rd l1 x10_1).toNat 64)) = ji9 := hji9
                  have hji9z : (rd l1 x10_1) ≤ 64 → (IntKind.i64.wrap (1 * 2 ^ (rd l1 x10_1).toNat)) = ji9 := shl_small hji9
                  have hji9u : (IntKind.i64.wrap (2 ^ min (rd l1 x10_1).toNat 64)) = ji9 := by have h_ := hji9_; rw [Int.one_mul] at h_; exact h_
                  have hji9v : (rd l1 x10_1) ≤ 64 → (IntKind.i64.wrap (2 ^ (rd l1 x10_1).toNat)) = ji9 := fun hle_ => by have h_ := hji9z hle_; rw [Int.one_mul] at h_; exact h_
                  have hji9y : (wrap64 (1 * 2 ^ min (rd l1 x10_1).toNat 64)) = ji9 := (i64_w _).symm.trans hji9_
                  have hji9x : (rd l1 x10_1) ≤ 64 → (wrap64 (1 * 2 ^ (rd l1 x10_1).toNat)) = ji9 := fun h_ => (i64_w _).symm.trans (hji9z h_)
                  have H' := Aside0.mk H
                  clear H
                  have p229 : 0 ≤ (x10_1 : Int) := of_decide_eq_true (by first | (with_reducible assumption) | assumption)
                  have q229 : x10_1 < (l1.length : Int) := of_decide_eq_true (by first | (with_reducible assumption) | assumption)
                  obtain ⟨ad229, e229, hx229_0⟩ := Kd.at_int HR1.out x10_1 p229 q229
                  cases e229
                  replace p229 := eq_true p229
                  replace q229 := eq_true q229
                  go_wp2
                  go_roundg k1
                  case measure => have := HK1.out; omega
                  case rel => exact ⟨(Go.bits .or .i64 x5_1 (ji9)), (wrap64 (x10_1 + 1)), (by first | rfl | (simp; done) | (simp only [← hji9] <;> (first | rfl | simp)) | (simp [*]; done)), (by first | rfl | (simp; done) | (simp [*]; done)), H', ⟨by have := HK1.out; omega⟩, by repeat (first | exact Drawn0.refl _ | apply Drawn0.step)⟩
                · rw [if_neg c8] at H
                  exact absurd H (by simp)
          · rw [if_neg c5] at H
            exact absurd H (by simp)
        · rw [if_neg c4] at H
          exact absurd H (by simp)
      · rw [if_neg c3] at H
        have c3b0 : decide (x10_1 < (l1.length : Int)) = false := decide_eq_false c3
        clear c3
        by_cases c10 : (l1.length : Int) = (l0.length : Int)
        · rw [if_pos c10] at H
          have c10b0 : ((l1.length : Int) == (l0.length : Int)) = true := beq_iff_eq.mpr c10
          have c10b1 : ((l1.length : Int) != (l0.length : Int)) = false := bne_eq_false_iff_eq.mpr c10
          have c10b2 : (l1.length == l0.length) = true := by first | simpa using c10 | (simp at c10 ⊢; omega)
          clear c10
          replace H := Option.bind_eq_some_iff.mp H
          obtain ⟨t230, A110, H⟩ := H
          replace H : (some (x5_1 == t230)) = some r := H
          have A11 := Aside0.mk A110
          clear A110
          obtain rfl := Option.some.inj H
          go_wp2_with (first | (go_at_call 61; (with_reducible refine (sweep_town_all.calls _ _ l0 t230 _ ?side1 ?side2 A11.out).mono ?_); (case side1 => repeat (first | exact HR0.out | (with_reducible refine Kd.C_alloc ?_ _) | (with_reducible refine Kd.C_drewN ?_ _) | (with_reducible refine Kd.C_drew ?_))); (case side2 => exact HC0.out); rintro e w' ⟨rfl, ⟨nd, rfl⟩⟩))
          go_ret
          exact ⟨by first | rfl | (simp; done) | (simp [*]; done), by repeat (first | exact Drawn0.refl _ | apply Drawn0.step)⟩
        · rw [if_neg c10] at H
          have c10b0 : ((l1.length : Int) == (l0.length : Int)) = false := beq_eq_false_iff_ne.mpr c10
          have c10b1 : ((l1.length : Int) != (l0.length : Int)) = true := bne_iff_ne.mpr c10
          have c10b2 : (l1.length == l0.length) = false := by first | simpa using c10 | (simp at c10 ⊢; omega)
          obtain rfl := Option.some.inj H
          go_wp2
          go_ret
          exact ⟨by first | rfl | (simp; done) | (simp [*]; done), by repeat (first | exact Drawn0.refl _ | apply Drawn0.step)⟩

end Go.Proofs.YtijfddobandcdaaDoor.X
end
section
-- by ownprint.py (wip/tool), over the kit's print
namespace Go.Proofs.YtijfddobandcdaaDoor.X
open Go.RowKit Go.Proofs.YtijfddobandcdaaDoorW.PrintWords Go.Proofs.YtijfddobandcdaaDoorW.PrintLast Go.Proofs.YtijfddobandcdaaDoorW.PrintMore
attribute [local go_sem] max2_int min2_int max_two min_two max_three min_three max_four min_four
set_option linter.unusedVariables false
set_option linter.unusedSimpArgs false

/-! ### sweep_town_bags: function 52 -/
def sweep_town_bags.l0 : Nat → List Int → List Int → Int → List Int → Int → Int → Option (List Int)
  | 0, _, _, _, _, _, _ => none
  | k + 1, x0, x5, x6, x9, x10, x11 => if x11 < x10 then (if 0 ≤ x11 then (if x11 < (x9.length : Int) then ((sweep_town_border.f x0 x6).bind fun t194 => (if 0 ≤ (rd x9 x11) then (if x5.length < 17592186044416 then (sweep_town_bags.l0 k x0 (x5 ++ [Go.bits .or .i64 t194 (shl .i64 1 (rd x9 x11))]) (Go.bits .or .i64 x6 (shl .i64 1 (rd x9 x11))) x9 x10 (wrap64 (x11 + 1))) else (none)) else (none))) else (none)) else (none)) else (some x5)
def sweep_town_bags.f (k : Nat) (l0 : List Int) (l1 : List Int) : Option (List Int) := sweep_town_bags.l0 k l0 ([] : List Int) 0 l1 (l1.length : Int) 0
theorem sweep_town_bags.mono_l : ∀ k, (∀ y0 y1 y2 y3 y4 y5, LeO (sweep_town_bags.l0 k y0 y1 y2 y3 y4 y5) (sweep_town_bags.l0 (k + 1) y0 y1 y2 y3 y4 y5))
  | 0 => fun _ _ _ _ _ _ r h => by simp [sweep_town_bags.l0] at h
  | k + 1 => by
    have ih0 := sweep_town_bags.mono_l k
    · intro y0 y1 y2 y3 y4 y5
      unfold sweep_town_bags.l0
      repeat' first
      | (with_reducible exact ih0 _ _ _ _ _ _)
      | (with_reducible exact LeO.refl _)
      | (with_reducible exact LeO.none _)
      | (with_reducible refine LeO.ite ?_ ?_)
      | (with_reducible refine LeO.bind ?_ (fun _ => ?_))
      | exact ih0 _ _ _ _ _ _
      | exact LeO.none _
      | refine LeO.ite ?_ ?_
      | refine LeO.bind ?_ (fun _ => ?_)
theorem sweep_town_bags.mono : ∀ a0 a1 k, LeO (sweep_town_bags.f k a0 a1) (sweep_town_bags.f (k + 1) a0 a1) := by
  intro a0 a1 k
  have ih0 := sweep_town_bags.mono_l k
  unfold sweep_town_bags.f
  repeat' first
      | (with_reducible exact ih0 _ _ _ _ _ _)
      | (with_reducible exact LeO.refl _)
      | (with_reducible exact LeO.none _)
      | (with_reducible refine LeO.ite ?_ ?_)
      | (with_reducible refine LeO.bind ?_ (fun _ => ?_))
      | exact ih0 _ _ _ _ _ _
      | exact LeO.none _
      | refine LeO.ite ?_ ?_
      | refine LeO.bind ?_ (fun _ => ?_)
def sweep_town_bags.T6 : Bool × List (List Nat × List Nat) := (true, [([], []), ([], []), ([], []), ([1, 2], [1, 2]), ([], []), ([4], [4]), ([3, 5], [3, 5]), ([6], [6]), ([0, 7, 3], [0, 7]), ([8, 8, 0, 1, 2, 3, 4, 5, 6, 7, 8], [0, 8])])
def sweep_town_bags.B6 : List Nat := [0, 0, 0, 6, 0, 16, 62, 126, 255, 511]
theorem sweep_town_bags.tab6 : rtab .any (opsOf Tryd.f52 6) = sweep_town_bags.T6 := by kernel_rfl
theorem sweep_town_bags.bits6 : waitsOk sweep_town_bags.T6.2 sweep_town_bags.B6 = true := by kernel_rfl
set_option maxHeartbeats 8000000 in
set_option maxRecDepth 100000 in
theorem sweep_town_bags.calls (k : Nat) (A0 : Option Addr) (c0 : Nat) (l0 : List Int) (A1 : Option Addr) (c1 : Nat) (l1 : List Int) (r : List Int) (w : World) (hGL : GL w) (hr0 : Kd.C (Kd.int .i64) w A0 l0.length l0) (hc0 : l0.length ≤ c0) (hr1 : Kd.C (Kd.int .i64) w A1 l1.length l1) (hc1 : l1.length ≤ c1) (h : sweep_town_bags.f k l0 l1 = some r) :
    Calls Tryd.prog 52 #[.slice A0 l0.length c0, .slice A1 l1.length c1] w fun e w' => ∃ v0_ : Value, e = .returned (v0_) ∧ Kd.R (Kd.int .i64) 3 w' w.heap.size (fun _ => True) v0_ r ∧ Below w.heap.size w w' := by
  have HGL := Aside0.mk hGL
  clear hGL
  have HR0 := Aside0.mk hr0
  have HC0 := Aside0.mk hc0
  clear hr0 hc0
  have HR1 := Aside0.mk hr1
  have HC1 := Aside0.mk hc1
  clear hr1 hc1
  have HB := Aside0.mk (Below.refl w.heap.size w)
  have H : (sweep_town_bags.l0 k l0 ([] : List Int) 0 l1 (l1.length : Int) 0) = some r := h
  clear h
  have H' := Aside0.mk H
  clear H
  go_enter Tryd.func52, Tryd.ntmps52
  go_wp2
  go_loopg [5, 6, 11] k (fun kq v5 v6 v11 w' => ∃ (x5_1 : List Int) (x6_1 : Int) (x11_1 : Int), v6 = .int .i64 x6_1 ∧ v11 = .int .i64 x11_1 ∧ Aside0 (sweep_town_bags.l0 kq l0 x5_1 x6_1 l1 (l1.length : Int) x11_1 = some r) ∧ Aside0 (kq ≤ k) ∧ Aside0 (Kd.R (Kd.int .i64) 3 w' w.heap.size (fun _ => True) v5 x5_1) ∧ Aside0 (Below w.heap.size w w'))
  case atStart => exact ⟨(([] : List Int)), (0), (0), (by first | rfl | (simp; done) | (simp [*]; done)), (by first | rfl | (simp; done) | (simp [*]; done)), H', ⟨Nat.le_refl _⟩, ⟨by first | exact Kd.R_nil _ _ _ _ _ | exact Kd.N_nil _ _ _ _ _ | exact Kd.V_nil _ _ _ _ _ | exact Kd.Q_nil _ _ _ _ _ | exact Kd.S_nil _ _ _ _ _⟩, ⟨by repeat (first | (with_reducible first | exact HB.out | apply below_alloc | apply pw_below_drewN | apply below_drew1) | exact HB.out)⟩⟩
  case round =>
    clear H'
    try clear c1
    try clear p2
    obtain ⟨x5_1, x6_1, x11_1, rfl, rfl, HA, HK1, HO_5, HB⟩ := hrel
    cases gk with
    | zero => exact absurd HA.out (by simp [sweep_town_bags.l0])
    | succ k1 =>
      have H := HA.out
      clear HA
      simp only [sweep_town_bags.l0] at H
      by_cases c3 : x11_1 < (l1.length : Int)
      · rw [if_pos c3] at H
        have c3b0 : decide (x11_1 < (l1.length : Int)) = true := decide_eq_true c3
        clear c3
        by_cases c4 : 0 ≤ x11_1
        · rw [if_pos c4] at H
          have c4b0 : decide (0 ≤ x11_1) = true := decide_eq_true c4
          clear c4
          by_cases c5 : x11_1 < (l1.length : Int)
          · rw [if_pos c5] at H
            have c5b0 : decide (x11_1 < (l1.length : Int)) = true := decide_eq_true c5
            clear c5
            replace H := Option.bind_eq_some_iff.mp H
            obtain ⟨t194, A60, H⟩ := H
            replace H : (if 0 ≤ (rd l1 x11_1) then (if x5_1.length < 17592186044416 then (sweep_town_bags.l0 k1 l0 (x5_1 ++ [Go.bits .or .i64 t194 (shl .i64 1 (rd l1 x11_1))]) (Go.bits .or .i64 x6_1 (shl .i64 1 (rd l1 x11_1))) l1 (l1.length : Int) (wrap64 (x11_1 + 1))) else (none)) else (none)) = some r := H
            have A6 := Aside0.mk A60
            clear A60
            by_cases c7 : 0 ≤ (rd l1 x11_1)
            · rw [if_pos c7] at H
              have c7b0 := eq_true c7
              have c7b1 : decide (0 ≤ (rd l1 x11_1)) = true := decide_eq_true c7
              clear c7
              obtain ⟨ji8, hji8⟩ : ∃ j_ : Int, (shl .i64 1 (rd l1 x11_1)) = j_ := ⟨_, rfl⟩
              replace H : (if x5_1.length < 17592186044416 then (sweep_town_bags.l0 k1 l0 (x5_1 ++ [Go.bits .or .i64 t194 (ji8)]) (Go.bits .or .i64 x6_1 (ji8)) l1 (l1.length : Int) (wrap64 (x11_1 + 1))) else (none)) = some r := by first | (rw [hji8] at H; exact H) | (simp only [hji8] at H ⊢; exact H)
              (try rw [hji8] at A6)
              have hji8_ : (IntKind.i64.wrap (1 * 2 ^ min (rd l1 x11_1).toNat 64)) = ji8 := hji8
              have hji8z : (rd l1 x11_1) ≤ 64 → (IntKind.i64.wrap (1 * 2 ^ (rd l1 x11_1).toNat)) = ji8 := shl_small hji8
              have hji8u : (IntKind.i64.wrap (2 ^ min (rd l1 x11_1).toNat 64)) = ji8 := by have h_ := hji8_; rw [Int.one_mul] at h_; exact h_
              have hji8v : (rd l1 x11_1) ≤ 64 → (IntKind.i64.wrap (2 ^ (rd l1 x11_1).toNat)) = ji8 := fun hle_ => by have h_ := hji8z hle_; rw [Int.one_mul] at h_; exact h_
              have hji8y : (wrap64 (1 * 2 ^ min (rd l1 x11_1).toNat 64)) = ji8 := (i64_w _).symm.trans hji8_
              have hji8x : (rd l1 x11_1) ≤ 64 → (wrap64 (1 * 2 ^ (rd l1 x11_1).toNat)) = ji8 := fun h_ => (i64_w _).symm.trans (hji8z h_)
              by_cases c9 : x5_1.length < 17592186044416
              · rw [if_pos c9] at H
                have LMc9 := Aside0.mk c9
                clear c9
                obtain ⟨y195, hy195⟩ : ∃ y_ : List Int, y_ = (x5_1 ++ [Go.bits .or .i64 t194 (ji8)]) := ⟨_, rfl⟩
                replace H : (sweep_town_bags.l0 k1 l0 y195 (Go.bits .or .i64 x6_1 (ji8)) l1 (l1.length : Int) (wrap64 (x11_1 + 1))) = some r := by first | (rw [hy195]; with_reducible exact H) | (have H2_ := (Option.bind_some _ _).symm.trans H; rw [hy195]; with_reducible exact H2_) | (have H2_ := (Option.bind_some _ _).symm.trans H; with_reducible exact H2_) | with_reducible exact H | (rw [hy195]; exact H) | exact H
                have Ny195 := Aside0.mk hy195
                clear hy195
                have c10b0 := eq_true (of_decide_eq_true (by first | (with_reducible assumption) | assumption) : 0 ≤ (rd l1 x11_1))
                have H' := Aside0.mk H
                clear H
                have p193 : 0 ≤ (x11_1 : Int) := of_decide_eq_true (by first | (with_reducible assumption) | assumption)
                have q193 : x11_1 < (l1.length : Int) := of_decide_eq_true (by first | (with_reducible assumption) | assumption)
                obtain ⟨ad193, e193, hx193_0⟩ := Kd.at_int HR1.out x11_1 p193 q193
                cases e193
                replace hx193_0 := (HB.out.cell (World.block_lt_of_cell? w _ hx193_0)).trans hx193_0
                replace p193 := eq_true p193
                replace q193 := eq_true q193
                try go_wp2
                have n0_ := Aside0.mk (Kd.R_drew HO_5.out)
                have n1_ := Aside0.mk (below_drew1 HB.out)
                clear HO_5
                clear HB
                have HO_5 := n0_
                have HB := n1_
                clear n0_ n1_
                refine start_ (n := 10) (S := fun w' => True) (ds := []) #[false, false, false, false, false, false, false, false, false, false] (by kernel_rfl) rfl rfl trivial (fun hHeld => ?_); refine with_tabW sweep_town_bags.tab6 sweep_town_bags.bits6 (fun HT_ HW_ => ?_)
                generalize wr.drew = w11 at HO_5 HB hHeld ⊢
                refine pure_ (i := 0) (N := some 15) (v := ?_) (a' := ?_) #[true, false, false, false, false, false, false, false, false, false] rfl rfl (any_of HT_.out (by kernel_rfl)) (fun _ _ _ h => h) (Or.inl ⟨by rfl, ?_⟩) ?_ ?_
                rotate_left
                · intro w'
                  go_simp
                  with_reducible rfl
                rotate_left
                · simp only [Act.put, List.setIfInBounds_toArray, List.set_cons_zero, List.set_cons_succ, i64_w, i32_w]
                  rfl
                refine pure_ (i := 1) (N := some 16) (v := ?_) (a' := ?_) #[true, true, false, false, false, false, false, false, false, false] rfl rfl (any_of HT_.out (by kernel_rfl)) (fun _ _ _ h => h) (Or.inl ⟨by rfl, ?_⟩) ?_ ?_
                rotate_left
                · intro w'
                  go_simp
                  with_reducible rfl
                rotate_left
                · simp only [Act.put, List.setIfInBounds_toArray, List.set_cons_zero, List.set_cons_succ, i64_w, i32_w]
                  rfl
                refine pure_ (i := 2) (N := some 17) (v := ?_) (a' := ?_) #[true, true, true, false, false, false, false, false, false, false] rfl rfl (any_of HT_.out (by kernel_rfl)) (fun _ _ _ h => h) (Or.inl ⟨by rfl, ?_⟩) ?_ ?_
                rotate_left
                · intro w'
                  go_simp
                  with_reducible rfl
                rotate_left
                · simp only [Act.put, List.setIfInBounds_toArray, List.set_cons_zero, List.set_cons_succ, i64_w, i32_w]
                  rfl
                refine pure_ (i := 4) (N := some 19) (v := ?_) (a' := ?_) #[true, true, true, false, true, false, false, false, false, false] rfl rfl (any_of HT_.out (by kernel_rfl)) (fun _ _ _ h => h) (Or.inl ⟨by rfl, ?_⟩) ?_ ?_
                rotate_left
                · intro w'
                  go_simp
                  with_reducible rfl
                rotate_left
                · simp only [Act.put, List.setIfInBounds_toArray, List.set_cons_zero, List.set_cons_succ, i64_w, i32_w]
                  rfl
                refine pure_ (i := 5) (N := some 20) (v := ?_) (a' := ?_) #[true, true, true, false, true, true, false, false, false, false] rfl rfl (any_of HT_.out (by kernel_rfl)) (fun _ _ _ h => h) (Or.inl ⟨by rfl, ?_⟩) ?_ ?_
                rotate_left
                · intro w'
                  go_simp
                  with_reducible rfl
                rotate_left
                · simp only [Act.put, List.setIfInBounds_toArray, List.set_cons_zero, List.set_cons_succ, i64_w, i32_w]
                  rfl
                refine one_ (i := 3) (N := some 18) #[true, true, true, true, true, true, false, false, false, false] rfl rfl (one_of HT_.out (by kernel_rfl)) (by decide) (fun K hK => ?_)
                refine goes_ Tryd.func73 (by kernel_rfl) rfl #[.slice A0 l0.length c0, .int .i64 x6_1] (by rfl) rfl rfl (by (try simp only [List.map_toArray, List.map_cons, List.map_nil]); first | done | rfl | (simp only [List.length_drop, List.length_take]; rfl)) ?_
                with_reducible refine (sweep_town_border.calls (hGL := (by repeat (first | (with_reducible exact HGL.out) | (with_reducible exact GL_below HGL.out HB.out) | (with_reducible refine GL_alloc ?_ _) | (with_reducible refine GL_drewN ?_ _) | (with_reducible refine GL_drew ?_)))) _ _ l0 x6_1 t194 _ ?side1 ?side2 A6.out).mono ?_
                (case side1 => repeat (first | exact (Kd.C_below HR0.out HB.out) | (with_reducible refine Kd.C_alloc ?_ _) | (with_reducible refine Kd.C_drewN ?_ _) | (with_reducible refine Kd.C_drew ?_)))
                (case side2 => exact HC0.out)
                rintro e w12 ⟨rfl, hb⟩
                refine ⟨_, rfl, ?_⟩
                have n0_ := Aside0.mk (Kd.R_below (by (with_reducible repeat (first | apply Kd.R_alloc | apply Kd.R_drewN | apply Kd.R_drew)); exact HO_5.out) hb)
                have n1_ := Aside0.mk (below_step (by repeat (first | (with_reducible first | exact HB.out | apply below_alloc | apply pw_below_drewN | apply below_drew1) | exact HB.out)) hb)
                clear HO_5
                clear HB
                have HO_5 := n0_
                have HB := n1_
                clear n0_ n1_
                (try clear hb)
                (try clear hb2)
                (try clear hk)
                (try clear hi)
                refine hK.out _ _ trivial (fun hHeld => ?_)
                clear hK K
                refine norm_ (a' := ?_) ?_ ?_
                rotate_left
                · show Act.put _ (some 18) _ = _
                  simp only [Act.put, List.setIfInBounds_toArray, List.set_cons_zero, List.set_cons_succ, i64_w, i32_w]
                  rfl
                refine pure_ (i := 6) (N := some 21) (v := ?_) (a' := ?_) #[true, true, true, true, true, true, true, false, false, false] rfl rfl (any_of HT_.out (by kernel_rfl)) (fun _ _ _ h => h) (Or.inl ⟨by rfl, ?_⟩) ?_ ?_
                rotate_left
                · intro w'
                  go_simp
                  with_reducible rfl
                rotate_left
                · simp only [Act.put, List.setIfInBounds_toArray, List.set_cons_zero, List.set_cons_succ, i64_w, i32_w]
                  rfl
                refine one_ (i := 7) (N := some 22) #[true, true, true, true, true, true, true, true, false, false] rfl rfl (one_of HT_.out (by kernel_rfl)) (by decide) (fun K hK => ?_)
                refine value_ (w1 := ?_) (v := ?_) (by rfl) rfl ?_ ?_
                rotate_left 2
                · go_simp
                  constructor
                  · rfl
                  · rfl
                refine hK.out _ _ trivial (fun hHeld => ?_)
                clear hK K
                refine norm_ (a' := ?_) ?_ ?_
                rotate_left
                · show Act.put _ (some 22) _ = _
                  simp only [Act.put, List.setIfInBounds_toArray, List.set_cons_zero, List.set_cons_succ, i64_w, i32_w]
                  rfl
                refine one_ (i := 8) (N := some 23) #[true, true, true, true, true, true, true, true, true, false] rfl rfl (one_of HT_.out (by kernel_rfl)) (by decide) (fun K hK => ?_)
                refine Kd.R_append_step (Kd.int .i64) (w0 := w) w.heap.size (by rfl) (.tmp 15) (.tmp 22) 22 3 (.int .i64 0) 8 rfl Tryd.underlying22 info3 rfl (by decide) (by omega) u5 x5_1 (Go.bits .or .i64 t194 (ji8)) [.int .i64 (Go.bits .or .i64 t194 (ji8))] (fun _ => True) (fun _ => False) rfl rfl ?aP (fun _ hk => hk.elim) ?aF ?aO ?aB ?aS ?aL ?_
                (case aP => exact rfl)
                (case aB => exact (by repeat (first | (with_reducible first | exact HB.out | apply below_alloc | apply pw_below_drewN | apply below_drew1) | exact HB.out)))
                (case aF => exact (fun _ _ => trivial))
                (case aO => exact (by (with_reducible repeat (first | apply Kd.R_alloc | apply Kd.R_drewN | apply Kd.R_drew)); exact HO_5.out))
                (case aS => exact (below_size (by repeat (first | (with_reducible first | exact HB.out | apply below_alloc | apply pw_below_drewN | apply below_drew1) | exact HB.out))))
                (case aL => have := LMc9.out; omega)
                intro v196 w13 ho hb hg hat
                rw [← Ny195.out] at ho
                have n0_ := Aside0.mk (hb)
                have n1_ := Aside0.mk (ho)
                clear HB
                clear HO_5
                have HB := n0_
                have HO197 := n1_
                clear n0_ n1_
                clear ho hb hg hat
                refine hK.out _ _ trivial (fun hHeld => ?_)
                clear hK K
                refine norm_ (a' := ?_) ?_ ?_
                rotate_left
                · show Act.put _ (some 23) _ = _
                  simp only [Act.put, List.setIfInBounds_toArray, List.set_cons_zero, List.set_cons_succ, i64_w, i32_w]
                  rfl
                refine pure_ (i := 9) (N := some 5) (v := ?_) (a' := ?_) #[true, true, true, true, true, true, true, true, true, true] rfl rfl (any_of HT_.out (by kernel_rfl)) (fun _ _ _ h => h) (Or.inl ⟨by rfl, ?_⟩) ?_ ?_
                rotate_left
                · intro w'
                  go_simp
                  with_reducible rfl
                rotate_left
                · simp only [Act.put, List.setIfInBounds_toArray, List.set_cons_zero, List.set_cons_succ, i64_w, i32_w]
                  rfl
                refine done_ (done_of HT_.out (by kernel_rfl)) ?_
                try go_wp2
                go_roundg k1
                case measure => have := HK1.out; omega
                case rel => exact ⟨(y195), (Go.bits .or .i64 x6_1 (ji8)), (wrap64 (x11_1 + 1)), (by first | rfl | (simp; done) | (simp only [← hji8] <;> (first | rfl | simp)) | (simp [*]; done)), (by first | rfl | (simp; done) | (simp [*]; done)), H', ⟨by have := HK1.out; omega⟩, ⟨by (with_reducible repeat (first | apply Kd.R_alloc | apply Kd.R_drewN | apply Kd.R_drew)); exact HO197.out⟩, ⟨by repeat (first | (with_reducible first | exact HB.out | apply below_alloc | apply pw_below_drewN | apply below_drew1) | exact HB.out)⟩⟩
              · rw [if_neg c9] at H
                exact absurd H (by simp)
            · rw [if_neg c7] at H
              exact absurd H (by simp)
          · rw [if_neg c5] at H
            exact absurd H (by simp)
        · rw [if_neg c4] at H
          exact absurd H (by simp)
      · rw [if_neg c3] at H
        have c3b0 : decide (x11_1 < (l1.length : Int)) = false := decide_eq_false c3
        clear c3
        obtain rfl := Option.some.inj H
        go_wp2
        go_ret
        exact ⟨_, by first | rfl | (simp [errW_none, errW_some] <;> rfl) | (simp [*, errW_none, errW_some] <;> rfl), by (with_reducible repeat (first | apply Kd.R_alloc | apply Kd.R_drewN | apply Kd.R_drew)); exact HO_5.out, by repeat (first | (with_reducible first | exact HB.out | apply below_alloc | apply pw_below_drewN | apply below_drew1) | exact HB.out)⟩

end Go.Proofs.YtijfddobandcdaaDoor.X
end
