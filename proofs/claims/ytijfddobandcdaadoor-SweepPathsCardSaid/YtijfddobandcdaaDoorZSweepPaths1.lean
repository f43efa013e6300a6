/- Part 1 of what SweepPaths rests on: contracts of the functions that it reaches, and what they compute, in plain words. -/
import Derived.Test.YtijfddobandcdaaDoorZSweepPaths0
import Derived.ArgAppend
import Derived.OwnWalk
import Derived.Maps.AppendAt
import Derived.Maps.OwnIn
section
-- by ownprint.py (wip/tool), over the kit's print
namespace Go.Proofs.YtijfddobandcdaaDoor.X
open Go.RowKit Go.Proofs.YtijfddobandcdaaDoorW.PrintWords Go.Proofs.YtijfddobandcdaaDoorW.PrintLast Go.Proofs.YtijfddobandcdaaDoorW.PrintMore
attribute [local go_sem] max2_int min2_int max_two min_two max_three min_three max_four min_four
set_option linter.unusedVariables false
set_option linter.unusedSimpArgs false

/-! ### lampblackref03_Follow: function 44 -/
mutual
def lampblackref03_Follow.l0 : Nat → List Int → List (S70) → Int → List Int → Int → Int → Option ((List (S70)))
  | 0, _, _, _, _, _, _ => none
  | k + 1, x0, x5, x6, x15, x16, x17 => if x17 < x16 then (if 0 ≤ x17 then (if x17 < (x15.length : Int) then (lampblackref03_Follow.l1 k x0 x5 x6 (rd x15 x17) x15 x16 x17 (x0.length : Int) 0) else (none)) else (none)) else (some x5)
def lampblackref03_Follow.l1 : Nat → List Int → List (S70) → Int → Int → List Int → Int → Int → Int → Int → Option ((List (S70)))
  | 0, _, _, _, _, _, _, _, _, _ => none
  | k + 1, x0, x5, x6, x8, x15, x16, x17, x22, x23 => if x23 < x22 then (if 0 ≤ x23 then (if (Go.bits .and .i64 (shr .i64 (Go.bits .andNot .i64 x6 x8) x23) 1) = 1 then (if x5.length < 8796093022208 then (lampblackref03_Follow.l1 k x0 (x5 ++ [(⟨false, x23⟩ : S70)]) x6 x8 x15 x16 x17 x22 (wrap64 (x23 + 1))) else (none)) else (lampblackref03_Follow.l1 k x0 x5 x6 x8 x15 x16 x17 x22 (wrap64 (x23 + 1)))) else (none)) else (lampblackref03_Follow.l2 k x0 x5 x6 x8 x15 x16 x17 (x0.length : Int) 0)
def lampblackref03_Follow.l2 : Nat → List Int → List (S70) → Int → Int → List Int → Int → Int → Int → Int → Option ((List (S70)))
  | 0, _, _, _, _, _, _, _, _, _ => none
  | k + 1, x0, x5, x6, x8, x15, x16, x17, x40, x41 => if x41 < x40 then (if 0 ≤ x41 then (if (Go.bits .and .i64 (shr .i64 (Go.bits .andNot .i64 x8 x6) x41) 1) = 1 then (if x5.length < 8796093022208 then (lampblackref03_Follow.l2 k x0 (x5 ++ [(⟨true, x41⟩ : S70)]) x6 x8 x15 x16 x17 x40 (wrap64 (x41 + 1))) else (none)) else (lampblackref03_Follow.l2 k x0 x5 x6 x8 x15 x16 x17 x40 (wrap64 (x41 + 1)))) else (none)) else (lampblackref03_Follow.l0 k x0 x5 x8 x15 x16 (wrap64 (x17 + 1)))
end
def lampblackref03_Follow.f (k : Nat) (l0 : List Int) (l1 : List Int) : Option ((List (S70))) := (some (([] : List Int) : List Int)).bind fun y467 => (if y467.length + l1.length < 17592186044416 then ((some (y467 ++ l1 : List Int)).bind fun y470 => (if y470.length < 17592186044416 then ((some (y470 ++ [0] : List Int)).bind fun y473 => (lampblackref03_Follow.l0 k l0 ([] : List (S70)) 0 y473 (y473.length : Int) 0)) else (none))) else (none))
theorem lampblackref03_Follow.mono_l : ∀ k, (∀ y0 y1 y2 y3 y4 y5, LeO (lampblackref03_Follow.l0 k y0 y1 y2 y3 y4 y5) (lampblackref03_Follow.l0 (k + 1) y0 y1 y2 y3 y4 y5)) ∧ (∀ y0 y1 y2 y3 y4 y5 y6 y7 y8, LeO (lampblackref03_Follow.l1 k y0 y1 y2 y3 y4 y5 y6 y7 y8) (lampblackref03_Follow.l1 (k + 1) y0 y1 y2 y3 y4 y5 y6 y7 y8)) ∧ (∀ y0 y1 y2 y3 y4 y5 y6 y7 y8, LeO (lampblackref03_Follow.l2 k y0 y1 y2 y3 y4 y5 y6 y7 y8) (lampblackref03_Follow.l2 (k + 1) y0 y1 y2 y3 y4 y5 y6 y7 y8))
  | 0 => ⟨fun _ _ _ _ _ _ r h => by simp [lampblackref03_Follow.l0] at h, fun _ _ _ _ _ _ _ _ _ r h => by simp [lampblackref03_Follow.l1] at h, fun _ _ _ _ _ _ _ _ _ r h => by simp [lampblackref03_Follow.l2] at h⟩
  | k + 1 => by
    obtain ⟨ih0, ih1, ih2⟩ := lampblackref03_Follow.mono_l k
    refine ⟨?_, ?_, ?_⟩
    · intro y0 y1 y2 y3 y4 y5
      unfold lampblackref03_Follow.l0
      repeat' first
      | (with_reducible exact ih0 _ _ _ _ _ _)
      | (with_reducible exact ih1 _ _ _ _ _ _ _ _ _)
      | (with_reducible exact ih2 _ _ _ _ _ _ _ _ _)
      | (with_reducible exact LeO.refl _)
      | (with_reducible exact LeO.none _)
      | (with_reducible refine LeO.ite ?_ ?_)
      | (with_reducible refine LeO.bind ?_ (fun _ => ?_))
      | exact ih0 _ _ _ _ _ _
      | exact ih1 _ _ _ _ _ _ _ _ _
      | exact ih2 _ _ _ _ _ _ _ _ _
      | exact LeO.none _
      | refine LeO.ite ?_ ?_
      | refine LeO.bind ?_ (fun _ => ?_)
    · intro y0 y1 y2 y3 y4 y5 y6 y7 y8
      unfold lampblackref03_Follow.l1
      repeat' first
      | (with_reducible exact ih0 _ _ _ _ _ _)
      | (with_reducible exact ih1 _ _ _ _ _ _ _ _ _)
      | (with_reducible exact ih2 _ _ _ _ _ _ _ _ _)
      | (with_reducible exact LeO.refl _)
      | (with_reducible exact LeO.none _)
      | (with_reducible refine LeO.ite ?_ ?_)
      | (with_reducible refine LeO.bind ?_ (fun _ => ?_))
      | exact ih0 _ _ _ _ _ _
      | exact ih1 _ _ _ _ _ _ _ _ _
      | exact ih2 _ _ _ _ _ _ _ _ _
      | exact LeO.none _
      | refine LeO.ite ?_ ?_
      | refine LeO.bind ?_ (fun _ => ?_)
    · intro y0 y1 y2 y3 y4 y5 y6 y7 y8
      unfold lampblackref03_Follow.l2
      repeat' first
      | (with_reducible exact ih0 _ _ _ _ _ _)
      | (with_reducible exact ih1 _ _ _ _ _ _ _ _ _)
      | (with_reducible exact ih2 _ _ _ _ _ _ _ _ _)
      | (with_reducible exact LeO.refl _)
      | (with_reducible exact LeO.none _)
      | (with_reducible refine LeO.ite ?_ ?_)
      | (with_reducible refine LeO.bind ?_ (fun _ => ?_))
      | exact ih0 _ _ _ _ _ _
      | exact ih1 _ _ _ _ _ _ _ _ _
      | exact ih2 _ _ _ _ _ _ _ _ _
      | exact LeO.none _
      | refine LeO.ite ?_ ?_
      | refine LeO.bind ?_ (fun _ => ?_)
theorem lampblackref03_Follow.mono : ∀ a0 a1 k, LeO (lampblackref03_Follow.f k a0 a1) (lampblackref03_Follow.f (k + 1) a0 a1) := by
  intro a0 a1 k
  obtain ⟨ih0, ih1, ih2⟩ := lampblackref03_Follow.mono_l k
  unfold lampblackref03_Follow.f
  repeat' first
      | (with_reducible exact ih0 _ _ _ _ _ _)
      | (with_reducible exact ih1 _ _ _ _ _ _ _ _ _)
      | (with_reducible exact ih2 _ _ _ _ _ _ _ _ _)
      | (with_reducible exact LeO.refl _)
      | (with_reducible exact LeO.none _)
      | (with_reducible refine LeO.ite ?_ ?_)
      | (with_reducible refine LeO.bind ?_ (fun _ => ?_))
      | exact ih0 _ _ _ _ _ _
      | exact ih1 _ _ _ _ _ _ _ _ _
      | exact ih2 _ _ _ _ _ _ _ _ _
      | exact LeO.none _
      | refine LeO.ite ?_ ?_
      | refine LeO.bind ?_ (fun _ => ?_)
set_option maxHeartbeats 8000000 in
set_option maxRecDepth 100000 in
theorem lampblackref03_Follow.calls (k : Nat) (A0 : Option Addr) (c0 : Nat) (l0 : List Int) (A1 : Option Addr) (c1 : Nat) (l1 : List Int) (r : List (S70)) (w : World) (hr0 : Kd.C (Kd.int .i64) w A0 l0.length l0) (hc0 : l0.length ≤ c0) (hr1 : Kd.C (Kd.int .i64) w A1 l1.length l1) (hc1 : l1.length ≤ c1) (h : lampblackref03_Follow.f k l0 l1 = some r) :
    Calls Tryd.prog 44 #[.slice A0 l0.length c0, .slice A1 l1.length c1] w fun e w' => ∃ v0_ : Value, e = .returned (v0_) ∧ Kd.R k70 70 w' w.heap.size (fun _ => True) v0_ r ∧ Below w.heap.size w w' := by
  have hu70 := Tryd.underlying70
  have HR0 := Aside0.mk hr0
  have HC0 := Aside0.mk hc0
  clear hr0 hc0
  have HR1 := Aside0.mk hr1
  have HC1 := Aside0.mk hc1
  clear hr1 hc1
  have HB := Aside0.mk (Below.refl w.heap.size w)
  have H : ((some (([] : List Int) : List Int)).bind fun y467 => (if y467.length + l1.length < 17592186044416 then ((some (y467 ++ l1 : List Int)).bind fun y470 => (if y470.length < 17592186044416 then ((some (y470 ++ [0] : List Int)).bind fun y473 => (lampblackref03_Follow.l0 k l0 ([] : List (S70)) 0 y473 (y473.length : Int) 0)) else (none))) else (none))) = some r := h
  clear h
  obtain ⟨y467, hy467⟩ : ∃ y_ : List Int, y_ = (([] : List Int)) := ⟨_, rfl⟩
  replace H : (if y467.length + l1.length < 17592186044416 then ((some (y467 ++ l1 : List Int)).bind fun y470 => (if y470.length < 17592186044416 then ((some (y470 ++ [0] : List Int)).bind fun y473 => (lampblackref03_Follow.l0 k l0 ([] : List (S70)) 0 y473 (y473.length : Int) 0)) else (none))) else (none)) = some r := by first | (rw [hy467]; with_reducible exact H) | (have H2_ := (Option.bind_some _ _).symm.trans H; rw [hy467]; with_reducible exact H2_) | (have H2_ := (Option.bind_some _ _).symm.trans H; with_reducible exact H2_) | with_reducible exact H | (rw [hy467]; exact H) | exact H
  have Ny467 := Aside0.mk hy467
  clear hy467
  by_cases c3 : y467.length + l1.length < 17592186044416
  · rw [if_pos c3] at H
    have LMc3 := Aside0.mk c3
    clear c3
    obtain ⟨y470, hy470⟩ : ∃ y_ : List Int, y_ = (y467 ++ l1) := ⟨_, rfl⟩
    replace H : (if y470.length < 17592186044416 then ((some (y470 ++ [0] : List Int)).bind fun y473 => (lampblackref03_Follow.l0 k l0 ([] : List (S70)) 0 y473 (y473.length : Int) 0)) else (none)) = some r := by first | (rw [hy470]; with_reducible exact H) | (have H2_ := (Option.bind_some _ _).symm.trans H; rw [hy470]; with_reducible exact H2_) | (have H2_ := (Option.bind_some _ _).symm.trans H; with_reducible exact H2_) | with_reducible exact H | (rw [hy470]; exact H) | exact H
    have Ny470 := Aside0.mk hy470
    clear hy470
    by_cases c4 : y470.length < 17592186044416
    · rw [if_pos c4] at H
      have LMc4 := Aside0.mk c4
      clear c4
      obtain ⟨y473, hy473⟩ : ∃ y_ : List Int, y_ = (y470 ++ [0]) := ⟨_, rfl⟩
      replace H : (lampblackref03_Follow.l0 k l0 ([] : List (S70)) 0 y473 (y473.length : Int) 0) = some r := by first | (rw [hy473]; with_reducible exact H) | (have H2_ := (Option.bind_some _ _).symm.trans H; rw [hy473]; with_reducible exact H2_) | (have H2_ := (Option.bind_some _ _).symm.trans H; with_reducible exact H2_) | with_reducible exact H | (rw [hy473]; exact H) | exact H
      have Ny473 := Aside0.mk hy473
      clear hy473
      have H' := Aside0.mk H
      clear H
      go_enter Tryd.func44, Tryd.ntmps44
      go_wp2_with (first | ((with_reducible refine gate_dst (N := 11) rfl ?_); refine Kd.R_lit (Kd.int .i64) _ 3 ?hg (N := 11) ?hd (xs := ([] : List Int)) (inner := []) (ok := fun _ => True) (okp := fun _ => True) ?hr ?hp (fun _ hk => hk) trivial (Below.refl _ _) (Nat.le_refl _) (by simp) ?_; (case hd => rfl); (case hg => rfl); (case hr => first | (go_simp; done) | (go_simp; rfl)); (case hp => exact (Reps.none _ _)); intro v468 w5 ho6 hb hg_ hnew_; clear hg_ hnew_; (first | rw [← Ny467.out] at ho6 | (simp only [Int.reduceToNat] at ho6; rw [← Ny467.out] at ho6)); have n0_ := Aside0.mk (Kd.R_lower ho6 (below_size (by repeat (first | (with_reducible first | exact HB.out | apply below_alloc | apply pw_below_drewN | apply below_drew1) | exact HB.out)))); have n1_ := Aside0.mk (below_step (by repeat (first | (with_reducible first | exact HB.out | apply below_alloc | apply pw_below_drewN | apply below_drew1) | exact HB.out)) hb); clear HB; have HO469 := n0_; have HB := n1_; clear n0_ n1_; clear hb ho6) | ((with_reducible refine gate_builtin (b := .append) (xs := #[.tmp 11, .tmp 12]) rfl ?_); at_builtin; refine Kd.R_append_rows (Kd.int .i64) (w0 := w) w.heap.size rfl (.tmp 11) (.tmp 12) 22 3 (.int .i64 0) 8 rfl Tryd.underlying22 info3 rfl (by decide) (by omega) v468 y467 l1 _ _ _ (fun _ => True) (fun _ => False) rfl rfl ?aO ?aR (fun _ _ h => h) (fun _ h => h.elim) ?aF ?aB ?aS ?aL ?_; (case aR => repeat (first | exact (Kd.C_below HR1.out HB.out) | (with_reducible refine Kd.C_alloc ?_ _) | (with_reducible refine Kd.C_drewN ?_ _) | (with_reducible refine Kd.C_drew ?_))); (case aB => exact (by repeat (first | (with_reducible first | exact HB.out | apply below_alloc | apply pw_below_drewN | apply below_drew1) | exact HB.out))); (case aF => exact (fun _ _ => trivial)); (case aO => exact (by (with_reducible repeat (first | apply Kd.R_alloc | apply Kd.R_drewN | apply Kd.R_drew)); exact HO469.out)); (case aS => exact (below_size (by repeat (first | (with_reducible first | exact HB.out | apply below_alloc | apply pw_below_drewN | apply below_drew1) | exact HB.out)))); (case aL => have := LMc3.out; omega); intro v471 w7 ho hb hg hat; rw [← Ny470.out] at ho; have n0_ := Aside0.mk (hb); have n1_ := Aside0.mk (ho); clear HB; clear HO469; have HB := n0_; have HO472 := n1_; clear n0_ n1_; clear ho hb hg hat) | ((with_reducible refine gate_builtin (b := .append) (xs := #[.tmp 13, .tmp 14]) rfl ?_); at_builtin; refine Kd.R_append (Kd.int .i64) (w0 := w) w.heap.size rfl (.tmp 13) (.tmp 14) 22 3 (.int .i64 0) 8 rfl Tryd.underlying22 info3 rfl (by decide) (by omega) v471 y470 0 [.int .i64 0] (fun _ => True) (fun _ => False) rfl rfl ?aP (fun _ hk => hk.elim) ?aF ?aO ?aB ?aS ?aL ?_; (case aP => exact rfl); (case aB => exact (by repeat (first | (with_reducible first | exact HB.out | apply below_alloc | apply pw_below_drewN | apply below_drew1) | exact HB.out))); (case aF => exact (fun _ _ => trivial)); (case aO => exact (by (with_reducible repeat (first | apply Kd.R_alloc | apply Kd.R_drewN | apply Kd.R_drew)); exact HO472.out)); (case aS => exact (below_size (by repeat (first | (with_reducible first | exact HB.out | apply below_alloc | apply pw_below_drewN | apply below_drew1) | exact HB.out)))); (case aL => have := LMc4.out; omega); intro v474 w8 ho hb hg hat; rw [← Ny473.out] at ho; have n0_ := Aside0.mk (hb); have n1_ := Aside0.mk (ho); clear HB; clear HO472; have HB := n0_; have HO475 := n1_; clear n0_ n1_; clear ho hb hg hat; obtain ⟨Ao9, co9, eo9⟩ := Kd.R_slice HO475.out; subst eo9))
      go_loopg [5, 6, 17] k (fun kq v5 v6 v17 w' => ∃ (x5_1 : List (S70)) (x6_1 : Int) (x17_1 : Int), v6 = .int .i64 x6_1 ∧ v17 = .int .i64 x17_1 ∧ Aside0 (lampblackref03_Follow.l0 kq l0 x5_1 x6_1 y473 (y473.length : Int) x17_1 = some r) ∧ Aside0 (kq ≤ k) ∧ Aside0 (Kd.R k70 70 w' w.heap.size (fun _ => True) v5 x5_1) ∧ Aside0 (Kd.R (Kd.int .i64) 3 w' w.heap.size (fun _ => True) (.slice Ao9 y473.length co9) y473) ∧ Aside0 (Below w.heap.size w w'))
      case atStart => exact ⟨(([] : List (S70))), (0), (0), (by first | rfl | (simp; done) | (simp [*]; done)), (by first | rfl | (simp; done) | (simp [*]; done)), H', ⟨Nat.le_refl _⟩, ⟨by first | exact Kd.R_nil _ _ _ _ _ | exact Kd.N_nil _ _ _ _ _ | exact Kd.V_nil _ _ _ _ _ | exact Kd.Q_nil _ _ _ _ _ | exact Kd.S_nil _ _ _ _ _⟩, ⟨by (with_reducible repeat (first | apply Kd.R_alloc | apply Kd.R_drewN | apply Kd.R_drew)); exact HO475.out⟩, ⟨by repeat (first | (with_reducible first | exact HB.out | apply below_alloc | apply pw_below_drewN | apply below_drew1) | exact HB.out)⟩⟩
      case round =>
        clear H'
        try clear c1
        try clear p2
        try clear c3
        try clear c4
        obtain ⟨x5_1, x6_1, x17_1, rfl, rfl, HA, HK1, HO_5, HO_15, HB⟩ := hrel
        cases gk with
        | zero => exact absurd HA.out (by simp [lampblackref03_Follow.l0])
        | succ k1 =>
          have H := HA.out
          clear HA
          simp only [lampblackref03_Follow.l0] at H
          by_cases c10 : x17_1 < (y473.length : Int)
          · rw [if_pos c10] at H
            have c10b0 : decide (x17_1 < (y473.length : Int)) = true := decide_eq_true c10
            clear c10
            by_cases c11 : 0 ≤ x17_1
            · rw [if_pos c11] at H
              have c11b0 : decide (0 ≤ x17_1) = true := decide_eq_true c11
              clear c11
              by_cases c12 : x17_1 < (y473.length : Int)
              · rw [if_pos c12] at H
                have c12b0 : decide (x17_1 < (y473.length : Int)) = true := decide_eq_true c12
                clear c12
                have H' := Aside0.mk H
                clear H
                have p476 : 0 ≤ (x17_1 : Int) := of_decide_eq_true (by first | (with_reducible assumption) | assumption)
                have q476 : x17_1 < (y473.length : Int) := of_decide_eq_true (by first | (with_reducible assumption) | assumption)
                obtain ⟨ad476, e476, hx476_0⟩ := Kd.at_int (Kd.R_reads' HO_15.out).2.2 x17_1 p476 q476
                cases e476
                replace p476 := eq_true p476
                replace q476 := eq_true q476
                go_wp2
                go_loopg [5, 23] k1 (fun kq v5 v23 w' => ∃ (x5_2 : List (S70)) (x23_2 : Int), v23 = .int .i64 x23_2 ∧ Aside0 (lampblackref03_Follow.l1 kq l0 x5_2 x6_1 (rd y473 x17_1) y473 (y473.length : Int) x17_1 (l0.length : Int) x23_2 = some r) ∧ Aside0 (kq ≤ k1) ∧ Aside0 (Kd.R k70 70 w' w.heap.size (fun _ => True) v5 x5_2) ∧ Aside0 (Kd.R (Kd.int .i64) 3 w' w.heap.size (fun _ => True) (.slice (some ad476) y473.length co9) y473) ∧ Aside0 (Below w.heap.size w w'))
                case atStart => exact ⟨(x5_1), (0), (by first | rfl | (simp; done) | (simp [*]; done)), H', ⟨Nat.le_refl _⟩, ⟨by (with_reducible repeat (first | apply Kd.R_alloc | apply Kd.R_drewN | apply Kd.R_drew)); exact HO_5.out⟩, ⟨by (with_reducible repeat (first | apply Kd.R_alloc | apply Kd.R_drewN | apply Kd.R_drew)); exact HO_15.out⟩, ⟨by repeat (first | (with_reducible first | exact HB.out | apply below_alloc | apply pw_below_drewN | apply below_drew1) | exact HB.out)⟩⟩
                case round =>
                  clear H'
                  try clear c1
                  try clear p2
                  try clear c3
                  try clear c4
                  try clear p4
                  try clear q4
                  try clear hx4
                  try clear c10
                  try clear c10b0
                  try clear c11
                  try clear c11b0
                  try clear c12
                  try clear c12b0
                  try clear hx476_0
                  try clear p2
                  try clear p476
                  try clear q476
                  obtain ⟨x5_2, x23_2, rfl, HA, HK2, HO_5, HO_15, HB⟩ := hrel
                  cases gk with
                  | zero => exact absurd HA.out (by simp [lampblackref03_Follow.l1])
                  | succ k2 =>
                    have H := HA.out
                    clear HA
                    simp only [lampblackref03_Follow.l1] at H
                    by_cases c13 : x23_2 < (l0.length : Int)
                    · rw [if_pos c13] at H
                      have c13b0 : decide (x23_2 < (l0.length : Int)) = true := decide_eq_true c13
                      clear c13
                      by_cases c14 : 0 ≤ x23_2
                      · rw [if_pos c14] at H
                        have c14b0 := eq_true c14
                        have c14b1 : decide (0 ≤ x23_2) = true := decide_eq_true c14
                        clear c14
                        obtain ⟨ji15, hji15⟩ : ∃ j_ : Int, (shr .i64 (Go.bits .andNot .i64 x6_1 (rd y473 x17_1)) x23_2) = j_ := ⟨_, rfl⟩
                        replace H : (if (Go.bits .and .i64 (ji15) 1) = 1 then (if x5_2.length < 8796093022208 then (lampblackref03_Follow.l1 k2 l0 (x5_2 ++ [(⟨false, x23_2⟩ : S70)]) x6_1 (rd y473 x17_1) y473 (y473.length : Int) x17_1 (l0.length : Int) (wrap64 (x23_2 + 1))) else (none)) else (lampblackref03_Follow.l1 k2 l0 x5_2 x6_1 (rd y473 x17_1) y473 (y473.length : Int) x17_1 (l0.length : Int) (wrap64 (x23_2 + 1)))) = some r := by first | (rw [hji15] at H; exact H) | (simp only [hji15] at H ⊢; exact H)
                        have hji15_ : ((Go.bits .andNot .i64 x6_1 (rd y473 x17_1)) / 2 ^ min x23_2.toNat 64) = ji15 := hji15
                        have hji15z : x23_2 ≤ 64 → ((Go.bits .andNot .i64 x6_1 (rd y473 x17_1)) / 2 ^ x23_2.toNat) = ji15 := shr_small hji15
                        by_cases c16 : (Go.bits .and .i64 (ji15) 1) = 1
                        · rw [if_pos c16] at H
                          have c16b0 : ((Go.bits .and .i64 (ji15) 1) == 1) = true := beq_iff_eq.mpr c16
                          have c16b1 : ((Go.bits .and .i64 (ji15) 1) != 1) = false := bne_eq_false_iff_eq.mpr c16
                          clear c16
                          by_cases c17 : x5_2.length < 8796093022208
                          · rw [if_pos c17] at H
                            have LMc17 := Aside0.mk c17
                            clear c17
                            obtain ⟨y477, hy477⟩ : ∃ y_ : List (S70), y_ = (x5_2 ++ [(⟨false, x23_2⟩ : S70)]) := ⟨_, rfl⟩
                            replace H : (lampblackref03_Follow.l1 k2 l0 y477 x6_1 (rd y473 x17_1) y473 (y473.length : Int) x17_1 (l0.length : Int) (wrap64 (x23_2 + 1))) = some r := by first | (rw [hy477]; with_reducible exact H) | (have H2_ := (Option.bind_some _ _).symm.trans H; rw [hy477]; with_reducible exact H2_) | (have H2_ := (Option.bind_some _ _).symm.trans H; with_reducible exact H2_) | with_reducible exact H | (rw [hy477]; exact H) | exact H
                            have Ny477 := Aside0.mk hy477
                            clear hy477
                            have H' := Aside0.mk H
                            clear H
                            go_wp2_with (first | ((with_reducible refine gate_builtin (b := .append) (xs := #[.tmp 33, .tmp 36]) rfl ?_); at_builtin; refine Kd.R_append k70 (w0 := w) w.heap.size rfl (.tmp 33) (.tmp 36) 40 70 (.agg #[(.bool false), (.int .i64 0)]) 16 rfl Tryd.underlying40 info70 rfl (by decide) (by omega) u5 x5_2 (⟨false, x23_2⟩ : S70) [.bool false, .int .i64 x23_2] (fun _ => True) (fun _ => False) rfl rfl ?aP (fun _ hk => hk.elim) ?aF ?aO ?aB ?aS ?aL ?_; (case aP => exact k70_mkM _ _ _ (⟨false, x23_2⟩ : S70)); (case aB => exact (by repeat (first | (with_reducible first | exact HB.out | apply below_alloc | apply pw_below_drewN | apply below_drew1) | exact HB.out))); (case aF => exact (fun _ _ => trivial)); (case aO => exact (by (with_reducible repeat (first | apply Kd.R_alloc | apply Kd.R_drewN | apply Kd.R_drew)); exact HO_5.out)); (case aS => exact (below_size (by repeat (first | (with_reducible first | exact HB.out | apply below_alloc | apply pw_below_drewN | apply below_drew1) | exact HB.out)))); (case aL => have := LMc17.out; omega); intro v478 w18 ho hb hg hat; rw [← Ny477.out] at ho; have n0_ := Aside0.mk (Kd.R_over' (by (with_reducible repeat (first | apply Kd.R_alloc | apply Kd.R_drewN | apply Kd.R_drew)); exact HO_15.out) (Kd.R_typed (by (with_reducible repeat (first | apply Kd.R_alloc | apply Kd.R_drewN | apply Kd.R_drew)); exact HO_5.out)) (by decide) hg); have n1_ := Aside0.mk (hb); have n2_ := Aside0.mk (ho); clear HO_15; clear HB; clear HO_5; have HO_15 := n0_; have HB := n1_; have HO479 := n2_; clear n0_ n1_ n2_; clear ho hb hg hat))
                            go_roundg k2
                            case measure => have := HK1.out; have := HK2.out; omega
                            case rel => exact ⟨(y477), (wrap64 (x23_2 + 1)), (by first | rfl | (simp; done) | (simp [*]; done)), H', ⟨by have := HK1.out; have := HK2.out; omega⟩, ⟨by (with_reducible repeat (first | apply Kd.R_alloc | apply Kd.R_drewN | apply Kd.R_drew)); exact HO479.out⟩, ⟨by (with_reducible repeat (first | apply Kd.R_alloc | apply Kd.R_drewN | apply Kd.R_drew)); exact HO_15.out⟩, ⟨by repeat (first | (with_reducible first | exact HB.out | apply below_alloc | apply pw_below_drewN | apply below_drew1) | exact HB.out)⟩⟩
                          · rw [if_neg c17] at H
                            exact absurd H (by simp)
                        · rw [if_neg c16] at H
                          have c16b0 : ((Go.bits .and .i64 (ji15) 1) == 1) = false := beq_eq_false_iff_ne.mpr c16
                          have c16b1 : ((Go.bits .and .i64 (ji15) 1) != 1) = true := bne_iff_ne.mpr c16
                          have H' := Aside0.mk H
                          clear H
                          go_wp2
                          go_roundg k2
                          case measure => have := HK1.out; have := HK2.out; omega
                          case rel => exact ⟨(x5_2), (wrap64 (x23_2 + 1)), (by first | rfl | (simp; done) | (simp [*]; done)), H', ⟨by have := HK1.out; have := HK2.out; omega⟩, ⟨by (with_reducible repeat (first | apply Kd.R_alloc | apply Kd.R_drewN | apply Kd.R_drew)); exact HO_5.out⟩, ⟨by (with_reducible repeat (first | apply Kd.R_alloc | apply Kd.R_drewN | apply Kd.R_drew)); exact HO_15.out⟩, ⟨by repeat (first | (with_reducible first | exact HB.out | apply below_alloc | apply pw_below_drewN | apply below_drew1) | exact HB.out)⟩⟩
                      · rw [if_neg c14] at H
                        exact absurd H (by simp)
                    · rw [if_neg c13] at H
                      have c13b0 : decide (x23_2 < (l0.length : Int)) = false := decide_eq_false c13
                      clear c13
                      have H' := Aside0.mk H
                      clear H
                      go_wp2
                      go_loopg [5, 41] k2 (fun kq v5 v41 w' => ∃ (x5_3 : List (S70)) (x41_3 : Int), v41 = .int .i64 x41_3 ∧ Aside0 (lampblackref03_Follow.l2 kq l0 x5_3 x6_1 (rd y473 x17_1) y473 (y473.length : Int) x17_1 (l0.length : Int) x41_3 = some r) ∧ Aside0 (kq ≤ k2) ∧ Aside0 (Kd.R k70 70 w' w.heap.size (fun _ => True) v5 x5_3) ∧ Aside0 (Kd.R (Kd.int .i64) 3 w' w.heap.size (fun _ => True) (.slice (some ad476) y473.length co9) y473) ∧ Aside0 (Below w.heap.size w w'))
                      case atStart => exact ⟨(x5_2), (0), (by first | rfl | (simp; done) | (simp [*]; done)), H', ⟨Nat.le_refl _⟩, ⟨by (with_reducible repeat (first | apply Kd.R_alloc | apply Kd.R_drewN | apply Kd.R_drew)); exact HO_5.out⟩, ⟨by (with_reducible repeat (first | apply Kd.R_alloc | apply Kd.R_drewN | apply Kd.R_drew)); exact HO_15.out⟩, ⟨by repeat (first | (with_reducible first | exact HB.out | apply below_alloc | apply pw_below_drewN | apply below_drew1) | exact HB.out)⟩⟩
                      case round =>
                        clear H'
                        try clear c1
                        try clear p2
                        try clear c3
                        try clear c4
                        try clear p4
                        try clear q4
                        try clear hx4
                        try clear p6
                        try clear c10
                        try clear c10b0
                        try clear c11
                        try clear c11b0
                        try clear c12
                        try clear c12b0
                        try clear c13
                        try clear c13b0
                        try clear c14
                        try clear c14b0
                        try clear c14b1
                        try clear c16
                        try clear c16b0
                        try clear c16b1
                        try clear c17
                        try clear hx476_0
                        try clear p2
                        try clear p4
                        try clear p476
                        try clear q4
                        try clear q476
                        obtain ⟨x5_3, x41_3, rfl, HA, HK3, HO_5, HO_15, HB⟩ := hrel
                        cases gk with
                        | zero => exact absurd HA.out (by simp [lampblackref03_Follow.l2])
                        | succ k3 =>
                          have H := HA.out
                          clear HA
                          simp only [lampblackref03_Follow.l2] at H
                          by_cases c19 : x41_3 < (l0.length : Int)
                          · rw [if_pos c19] at H
                            have c19b0 : decide (x41_3 < (l0.length : Int)) = true := decide_eq_true c19
                            clear c19
                            by_cases c20 : 0 ≤ x41_3
                            · rw [if_pos c20] at H
                              have c20b0 := eq_true c20
                              have c20b1 : decide (0 ≤ x41_3) = true := decide_eq_true c20
                              clear c20
                              obtain ⟨ji21, hji21⟩ : ∃ j_ : Int, (shr .i64 (Go.bits .andNot .i64 (rd y473 x17_1) x6_1) x41_3) = j_ := ⟨_, rfl⟩
                              replace H : (if (Go.bits .and .i64 (ji21) 1) = 1 then (if x5_3.length < 8796093022208 then (lampblackref03_Follow.l2 k3 l0 (x5_3 ++ [(⟨true, x41_3⟩ : S70)]) x6_1 (rd y473 x17_1) y473 (y473.length : Int) x17_1 (l0.length : Int) (wrap64 (x41_3 + 1))) else (none)) else (lampblackref03_Follow.l2 k3 l0 x5_3 x6_1 (rd y473 x17_1) y473 (y473.length : Int) x17_1 (l0.length : Int) (wrap64 (x41_3 + 1)))) = some r := by first | (rw [hji21] at H; exact H) | (simp only [hji21] at H ⊢; exact H)
                              have hji21_ : ((Go.bits .andNot .i64 (rd y473 x17_1) x6_1) / 2 ^ min x41_3.toNat 64) = ji21 := hji21
                              have hji21z : x41_3 ≤ 64 → ((Go.bits .andNot .i64 (rd y473 x17_1) x6_1) / 2 ^ x41_3.toNat) = ji21 := shr_small hji21
                              by_cases c22 : (Go.bits .and .i64 (ji21) 1) = 1
                              · rw [if_pos c22] at H
                                have c22b0 : ((Go.bits .and .i64 (ji21) 1) == 1) = true := beq_iff_eq.mpr c22
                                have c22b1 : ((Go.bits .and .i64 (ji21) 1) != 1) = false := bne_eq_false_iff_eq.mpr c22
                                clear c22
                                by_cases c23 : x5_3.length < 8796093022208
                                · rw [if_pos c23] at H
                                  have LMc23 := Aside0.mk c23
                                  clear c23
                                  obtain ⟨y480, hy480⟩ : ∃ y_ : List (S70), y_ = (x5_3 ++ [(⟨true, x41_3⟩ : S70)]) := ⟨_, rfl⟩
                                  replace H : (lampblackref03_Follow.l2 k3 l0 y480 x6_1 (rd y473 x17_1) y473 (y473.length : Int) x17_1 (l0.length : Int) (wrap64 (x41_3 + 1))) = some r := by first | (rw [hy480]; with_reducible exact H) | (have H2_ := (Option.bind_some _ _).symm.trans H; rw [hy480]; with_reducible exact H2_) | (have H2_ := (Option.bind_some _ _).symm.trans H; with_reducible exact H2_) | with_reducible exact H | (rw [hy480]; exact H) | exact H
                                  have Ny480 := Aside0.mk hy480
                                  clear hy480
                                  have H' := Aside0.mk H
                                  clear H
                                  go_wp2_with (first | ((with_reducible refine gate_builtin (b := .append) (xs := #[.tmp 51, .tmp 54]) rfl ?_); at_builtin; refine Kd.R_append k70 (w0 := w) w.heap.size rfl (.tmp 51) (.tmp 54) 40 70 (.agg #[(.bool false), (.int .i64 0)]) 16 rfl Tryd.underlying40 info70 rfl (by decide) (by omega) u5 x5_3 (⟨true, x41_3⟩ : S70) [.bool true, .int .i64 x41_3] (fun _ => True) (fun _ => False) rfl rfl ?aP (fun _ hk => hk.elim) ?aF ?aO ?aB ?aS ?aL ?_; (case aP => exact k70_mkM _ _ _ (⟨true, x41_3⟩ : S70)); (case aB => exact (by repeat (first | (with_reducible first | exact HB.out | apply below_alloc | apply pw_below_drewN | apply below_drew1) | exact HB.out))); (case aF => exact (fun _ _ => trivial)); (case aO => exact (by (with_reducible repeat (first | apply Kd.R_alloc | apply Kd.R_drewN | apply Kd.R_drew)); exact HO_5.out)); (case aS => exact (below_size (by repeat (first | (with_reducible first | exact HB.out | apply below_alloc | apply pw_below_drewN | apply below_drew1) | exact HB.out)))); (case aL => have := LMc23.out; omega); intro v481 w24 ho hb hg hat; rw [← Ny480.out] at ho; have n0_ := Aside0.mk (Kd.R_over' (by (with_reducible repeat (first | apply Kd.R_alloc | apply Kd.R_drewN | apply Kd.R_drew)); exact HO_15.out) (Kd.R_typed (by (with_reducible repeat (first | apply Kd.R_alloc | apply Kd.R_drewN | apply Kd.R_drew)); exact HO_5.out)) (by decide) hg); have n1_ := Aside0.mk (hb); have n2_ := Aside0.mk (ho); clear HO_15; clear HB; clear HO_5; have HO_15 := n0_; have HB := n1_; have HO482 := n2_; clear n0_ n1_ n2_; clear ho hb hg hat))
                                  go_roundg k3
                                  case measure => have := HK1.out; have := HK2.out; have := HK3.out; omega
                                  case rel => exact ⟨(y480), (wrap64 (x41_3 + 1)), (by first | rfl | (simp; done) | (simp [*]; done)), H', ⟨by have := HK1.out; have := HK2.out; have := HK3.out; omega⟩, ⟨by (with_reducible repeat (first | apply Kd.R_alloc | apply Kd.R_drewN | apply Kd.R_drew)); exact HO482.out⟩, ⟨by (with_reducible repeat (first | apply Kd.R_alloc | apply Kd.R_drewN | apply Kd.R_drew)); exact HO_15.out⟩, ⟨by repeat (first | (with_reducible first | exact HB.out | apply below_alloc | apply pw_below_drewN | apply below_drew1) | exact HB.out)⟩⟩
                                · rw [if_neg c23] at H
                                  exact absurd H (by simp)
                              · rw [if_neg c22] at H
                                have c22b0 : ((Go.bits .and .i64 (ji21) 1) == 1) = false := beq_eq_false_iff_ne.mpr c22
                                have c22b1 : ((Go.bits .and .i64 (ji21) 1) != 1) = true := bne_iff_ne.mpr c22
                                have H' := Aside0.mk H
                                clear H
                                go_wp2
                                go_roundg k3
                                case measure => have := HK1.out; have := HK2.out; have := HK3.out; omega
                                case rel => exact ⟨(x5_3), (wrap64 (x41_3 + 1)), (by first | rfl | (simp; done) | (simp [*]; done)), H', ⟨by have := HK1.out; have := HK2.out; have := HK3.out; omega⟩, ⟨by (with_reducible repeat (first | apply Kd.R_alloc | apply Kd.R_drewN | apply Kd.R_drew)); exact HO_5.out⟩, ⟨by (with_reducible repeat (first | apply Kd.R_alloc | apply Kd.R_drewN | apply Kd.R_drew)); exact HO_15.out⟩, ⟨by repeat (first | (with_reducible first | exact HB.out | apply below_alloc | apply pw_below_drewN | apply below_drew1) | exact HB.out)⟩⟩
                            · rw [if_neg c20] at H
                              exact absurd H (by simp)
                          · rw [if_neg c19] at H
                            have c19b0 : decide (x41_3 < (l0.length : Int)) = false := decide_eq_false c19
                            clear c19
                            have H' := Aside0.mk H
                            clear H
                            go_wp2
                            go_roundg k3
                            case measure => have := HK1.out; have := HK2.out; have := HK3.out; omega
                            case rel => exact ⟨(x5_3), ((rd y473 x17_1)), (wrap64 (x17_1 + 1)), (by first | rfl | (simp; done) | (simp [*]; done)), (by first | rfl | (simp; done) | (simp [*]; done)), H', ⟨by have := HK1.out; have := HK2.out; have := HK3.out; omega⟩, ⟨by (with_reducible repeat (first | apply Kd.R_alloc | apply Kd.R_drewN | apply Kd.R_drew)); exact HO_5.out⟩, ⟨by (with_reducible repeat (first | apply Kd.R_alloc | apply Kd.R_drewN | apply Kd.R_drew)); exact HO_15.out⟩, ⟨by repeat (first | (with_reducible first | exact HB.out | apply below_alloc | apply pw_below_drewN | apply below_drew1) | exact HB.out)⟩⟩
              · rw [if_neg c12] at H
                exact absurd H (by simp)
            · rw [if_neg c11] at H
              exact absurd H (by simp)
          · rw [if_neg c10] at H
            have c10b0 : decide (x17_1 < (y473.length : Int)) = false := decide_eq_false c10
            clear c10
            obtain rfl := Option.some.inj H
            go_wp2
            go_ret
            exact ⟨_, by first | rfl | (simp [errW_none, errW_some] <;> rfl) | (simp [*, errW_none, errW_some] <;> rfl), by (with_reducible repeat (first | apply Kd.R_alloc | apply Kd.R_drewN | apply Kd.R_drew)); exact HO_5.out, by repeat (first | (with_reducible first | exact HB.out | apply below_alloc | apply pw_below_drewN | apply below_drew1) | exact HB.out)⟩
    · rw [if_neg c4] at H
      exact absurd H (by simp)
  · rw [if_neg c3] at H
    exact absurd H (by simp)

end Go.Proofs.YtijfddobandcdaaDoor.X
end
section
-- by ownprint.py (wip/tool), over the kit's print
namespace Go.Proofs.YtijfddobandcdaaDoor.X
open Go.RowKit Go.Proofs.YtijfddobandcdaaDoorW.PrintWords Go.Proofs.YtijfddobandcdaaDoorW.PrintLast Go.Proofs.YtijfddobandcdaaDoorW.PrintMore
attribute [local go_sem] max2_int min2_int max_two min_two max_three min_three max_four min_four
set_option linter.unusedVariables false
set_option linter.unusedSimpArgs false

/-! ### lampblackref02_Size: function 53 -/
def lampblackref02_Size.l0 : Nat → Int → Int → Option (Int)
  | 0, _, _ => none
  | k + 1, x0, x3 => if x0 > 0 then (lampblackref02_Size.l0 k (Go.bits .and .i64 x0 (wrap64 (x0 - 1))) (wrap64 (x3 + 1))) else (some x3)
def lampblackref02_Size.f (k : Nat) (a0 : Int) : Option (Int) := lampblackref02_Size.l0 k a0 0
theorem lampblackref02_Size.mono_l : ∀ k, (∀ y0 y1, LeO (lampblackref02_Size.l0 k y0 y1) (lampblackref02_Size.l0 (k + 1) y0 y1))
  | 0 => fun _ _ r h => by simp [lampblackref02_Size.l0] at h
  | k + 1 => by
    have ih0 := lampblackref02_Size.mono_l k
    · intro y0 y1
      unfold lampblackref02_Size.l0
      repeat' first
      | (with_reducible exact ih0 _ _)
      | (with_reducible exact LeO.refl _)
      | (with_reducible exact LeO.none _)
      | (with_reducible refine LeO.ite ?_ ?_)
      | (with_reducible refine LeO.bind ?_ (fun _ => ?_))
      | exact ih0 _ _
      | exact LeO.none _
      | refine LeO.ite ?_ ?_
      | refine LeO.bind ?_ (fun _ => ?_)
theorem lampblackref02_Size.mono : ∀ a0 k, LeO (lampblackref02_Size.f k a0) (lampblackref02_Size.f (k + 1) a0) := by
  intro a0 k
  have ih0 := lampblackref02_Size.mono_l k
  unfold lampblackref02_Size.f
  repeat' first
      | (with_reducible exact ih0 _ _)
      | (with_reducible exact LeO.refl _)
      | (with_reducible exact LeO.none _)
      | (with_reducible refine LeO.ite ?_ ?_)
      | (with_reducible refine LeO.bind ?_ (fun _ => ?_))
      | exact ih0 _ _
      | exact LeO.none _
      | refine LeO.ite ?_ ?_
      | refine LeO.bind ?_ (fun _ => ?_)
set_option maxHeartbeats 8000000 in
set_option maxRecDepth 100000 in
theorem lampblackref02_Size.calls (k : Nat) (a0 : Int) (r : Int) (w : World) (h : lampblackref02_Size.f k a0 = some r) :
    Calls Tryd.prog 53 #[.int .i64 a0] w fun e w' => e = .returned (.int .i64 r) ∧ Drawn0 w w' := by
  have H : (lampblackref02_Size.l0 k a0 0) = some r := h
  clear h
  have H' := Aside0.mk H
  clear H
  go_enter Tryd.func53, Tryd.ntmps53
  go_wp2
  go_loopg [0, 3] k (fun kq v0 v3 w' => ∃ (x0_1 : Int) (x3_1 : Int), v0 = .int .i64 x0_1 ∧ v3 = .int .i64 x3_1 ∧ Aside0 (lampblackref02_Size.l0 kq x0_1 x3_1 = some r) ∧ Aside0 (kq ≤ k) ∧ Drawn0 w w')
  case atStart => exact ⟨(a0), (0), (by first | rfl | (simp; done) | (simp [*]; done)), (by first | rfl | (simp; done) | (simp [*]; done)), H', ⟨Nat.le_refl _⟩, by repeat (first | exact Drawn0.refl _ | apply Drawn0.step)⟩
  case round =>
    clear H'
    obtain ⟨x0_1, x3_1, rfl, rfl, HA, HK1, ⟨m1, rfl⟩⟩ := hrel
    cases gk with
    | zero => exact absurd HA.out (by simp [lampblackref02_Size.l0])
    | succ k1 =>
      have H := HA.out
      clear HA
      simp only [lampblackref02_Size.l0] at H
      by_cases c2 : x0_1 > 0
      · rw [if_pos c2] at H
        have c2b0 : decide (0 < x0_1) = true := decide_eq_true c2
        clear c2
        have H' := Aside0.mk H
        clear H
        go_wp2
        go_roundg k1
        case measure => have := HK1.out; omega
        case rel => exact ⟨(Go.bits .and .i64 x0_1 (wrap64 (x0_1 - 1))), (wrap64 (x3_1 + 1)), (by first | rfl | (simp; done) | (simp [*]; done)), (by first | rfl | (simp; done) | (simp [*]; done)), H', ⟨by have := HK1.out; omega⟩, by repeat (first | exact Drawn0.refl _ | apply Drawn0.step)⟩
      · rw [if_neg c2] at H
        have c2b0 : decide (0 < x0_1) = false := decide_eq_false c2
        clear c2
        obtain rfl := Option.some.inj H
        go_wp2
        go_ret
        exact ⟨by first | rfl | (simp; done) | (simp [*]; done), by repeat (first | exact Drawn0.refl _ | apply Drawn0.step)⟩

end Go.Proofs.YtijfddobandcdaaDoor.X
end
section
-- by ownprint.py (wip/tool), over the kit's print
namespace Go.Proofs.YtijfddobandcdaaDoor.X
open Go.RowKit Go.Proofs.YtijfddobandcdaaDoorW.PrintWords Go.Proofs.YtijfddobandcdaaDoorW.PrintLast Go.Proofs.YtijfddobandcdaaDoorW.PrintMore
attribute [local go_sem] max2_int min2_int max_two min_two max_three min_three max_four min_four
set_option linter.unusedVariables false
set_option linter.unusedSimpArgs false

/-! ### lampblackref03_IsPath: function 42 -/
mutual
def lampblackref03_IsPath.j0 : Nat → List Int → List Int → Bool → Option (Int × Bool)
  | 0, _, _, _ => none
  | k + 1, x0, x1, x21 => if x21 = true then (some (0, false)) else (lampblackref03_IsPath.l0 k x0 x1 0 x1 (x1.length : Int) 0)
def lampblackref03_IsPath.l0 : Nat → List Int → List Int → Int → List Int → Int → Int → Option (Int × Bool)
  | 0, _, _, _, _, _, _ => none
  | k + 1, x0, x1, x6, x22, x23, x24 => if x24 < x23 then (if 0 ≤ x24 then (if x24 < (x22.length : Int) then (if (rd x22 x24) < 0 then (some (0, false)) else (if (rd x22 x24) ≥ (shl .i64 1 (x0.length : Int)) then (some (0, false)) else ((lampblackref02_Size.f k (rd x22 x24)).bind fun t461 => (lampblackref03_IsPath.l0 k x0 x1 (mx x6 t461) x22 x23 (wrap64 (x24 + 1)))))) else (none)) else (none)) else (lampblackref03_IsPath.l1 k x0 x1 x6 (x0.length : Int) 0)
def lampblackref03_IsPath.l1 : Nat → List Int → List Int → Int → Int → Int → Option (Int × Bool)
  | 0, _, _, _, _, _ => none
  | k + 1, x0, x1, x6, x43, x44 => if x44 < x43 then (lampblackref03_IsPath.l2 k x0 x1 x6 x44 0 0 x43 x44 x1 (x1.length : Int) 0) else (some (wrap64 (x6 - 1), true))
def lampblackref03_IsPath.l2 : Nat → List Int → List Int → Int → Int → Int → Int → Int → Int → List Int → Int → Int → Option (Int × Bool)
  | 0, _, _, _, _, _, _, _, _, _, _, _ => none
  | k + 1, x0, x1, x6, x9, x10, x11, x43, x44, x47, x48, x49 => if x49 < x48 then (if 0 ≤ x49 then (if x49 < (x47.length : Int) then (if 0 ≤ x9 then (if (Go.bits .and .i64 (shr .i64 (rd x47 x49) x9) 1) = 0 then (lampblackref03_IsPath.l2 k x0 x1 x6 x9 x10 x11 x43 x44 x47 x48 (wrap64 (x49 + 1))) else (if x49 = 0 then (lampblackref03_IsPath.l2 k x0 x1 x6 x9 (wrap64 (x10 + 1)) (Go.bits .or .i64 x11 (rd x47 x49)) x43 x44 x47 x48 (wrap64 (x49 + 1))) else (if 0 ≤ (wrap64 (x49 - 1)) then (if (wrap64 (x49 - 1)) < (x1.length : Int) then (if (Go.bits .and .i64 (shr .i64 (rd x1 (wrap64 (x49 - 1))) x9) 1) = 0 then (lampblackref03_IsPath.l2 k x0 x1 x6 x9 (wrap64 (x10 + 1)) (Go.bits .or .i64 x11 (rd x47 x49)) x43 x44 x47 x48 (wrap64 (x49 + 1))) else (lampblackref03_IsPath.l2 k x0 x1 x6 x9 x10 (Go.bits .or .i64 x11 (rd x47 x49)) x43 x44 x47 x48 (wrap64 (x49 + 1)))) else (none)) else (none)))) else (none)) else (none)) else (none)) else (if x10 = 1 then (if 0 ≤ x9 then (if x9 < (x0.length : Int) then (if (Go.bits .andNot .i64 (rd x0 x9) x11) = 0 then (lampblackref03_IsPath.l1 k x0 x1 x6 x43 (wrap64 (x44 + 1))) else (some (0, false))) else (none)) else (none)) else (some (0, false)))
end
def lampblackref03_IsPath.f (k : Nat) (l0 : List Int) (l1 : List Int) : Option (Int × Bool) := if (l1.length : Int) < 1 then (lampblackref03_IsPath.j0 k l0 l1 true) else (lampblackref03_IsPath.j0 k l0 l1 (decide ((l1.length : Int) > 30)))
theorem lampblackref03_IsPath.mono_l : ∀ k, (∀ y0 y1 y2, LeO (lampblackref03_IsPath.j0 k y0 y1 y2) (lampblackref03_IsPath.j0 (k + 1) y0 y1 y2)) ∧ (∀ y0 y1 y2 y3 y4 y5, LeO (lampblackref03_IsPath.l0 k y0 y1 y2 y3 y4 y5) (lampblackref03_IsPath.l0 (k + 1) y0 y1 y2 y3 y4 y5)) ∧ (∀ y0 y1 y2 y3 y4, LeO (lampblackref03_IsPath.l1 k y0 y1 y2 y3 y4) (lampblackref03_IsPath.l1 (k + 1) y0 y1 y2 y3 y4)) ∧ (∀ y0 y1 y2 y3 y4 y5 y6 y7 y8 y9 y10, LeO (lampblackref03_IsPath.l2 k y0 y1 y2 y3 y4 y5 y6 y7 y8 y9 y10) (lampblackref03_IsPath.l2 (k + 1) y0 y1 y2 y3 y4 y5 y6 y7 y8 y9 y10))
  | 0 => ⟨fun _ _ _ r h => by simp [lampblackref03_IsPath.j0] at h, fun _ _ _ _ _ _ r h => by simp [lampblackref03_IsPath.l0] at h, fun _ _ _ _ _ r h => by simp [lampblackref03_IsPath.l1] at h, fun _ _ _ _ _ _ _ _ _ _ _ r h => by simp [lampblackref03_IsPath.l2] at h⟩
  | k + 1 => by
    obtain ⟨ih0, ih1, ih2, ih3⟩ := lampblackref03_IsPath.mono_l k
    refine ⟨?_, ?_, ?_, ?_⟩
    · intro y0 y1 y2
      unfold lampblackref03_IsPath.j0
      repeat' first
      | (with_reducible exact ih0 _ _ _)
      | (with_reducible exact ih1 _ _ _ _ _ _)
      | (with_reducible exact ih2 _ _ _ _ _)
      | (with_reducible exact ih3 _ _ _ _ _ _ _ _ _ _ _)
      | (with_reducible exact lampblackref02_Size.mono _ _)
      | (with_reducible exact LeO.refl _)
      | (with_reducible exact LeO.none _)
      | (with_reducible refine LeO.ite ?_ ?_)
      | (with_reducible refine LeO.bind ?_ (fun _ => ?_))
      | exact ih0 _ _ _
      | exact ih1 _ _ _ _ _ _
      | exact ih2 _ _ _ _ _
      | exact ih3 _ _ _ _ _ _ _ _ _ _ _
      | exact lampblackref02_Size.mono _ _
      | exact LeO.none _
      | refine LeO.ite ?_ ?_
      | refine LeO.bind ?_ (fun _ => ?_)
    · intro y0 y1 y2 y3 y4 y5
      unfold lampblackref03_IsPath.l0
      repeat' first
      | (with_reducible exact ih0 _ _ _)
      | (with_reducible exact ih1 _ _ _ _ _ _)
      | (with_reducible exact ih2 _ _ _ _ _)
      | (with_reducible exact ih3 _ _ _ _ _ _ _ _ _ _ _)
      | (with_reducible exact lampblackref02_Size.mono _ _)
      | (with_reducible exact LeO.refl _)
      | (with_reducible exact LeO.none _)
      | (with_reducible refine LeO.ite ?_ ?_)
      | (with_reducible refine LeO.bind ?_ (fun _ => ?_))
      | exact ih0 _ _ _
      | exact ih1 _ _ _ _ _ _
      | exact ih2 _ _ _ _ _
      | exact ih3 _ _ _ _ _ _ _ _ _ _ _
      | exact lampblackref02_Size.mono _ _
      | exact LeO.none _
      | refine LeO.ite ?_ ?_
      | refine LeO.bind ?_ (fun _ => ?_)
    · intro y0 y1 y2 y3 y4
      unfold lampblackref03_IsPath.l1
      repeat' first
      | (with_reducible exact ih0 _ _ _)
      | (with_reducible exact ih1 _ _ _ _ _ _)
      | (with_reducible exact ih2 _ _ _ _ _)
      | (with_reducible exact ih3 _ _ _ _ _ _ _ _ _ _ _)
      | (with_reducible exact lampblackref02_Size.mono _ _)
      | (with_reducible exact LeO.refl _)
      | (with_reducible exact LeO.none _)
      | (with_reducible refine LeO.ite ?_ ?_)
      | (with_reducible refine LeO.bind ?_ (fun _ => ?_))
      | exact ih0 _ _ _
      | exact ih1 _ _ _ _ _ _
      | exact ih2 _ _ _ _ _
      | exact ih3 _ _ _ _ _ _ _ _ _ _ _
      | exact lampblackref02_Size.mono _ _
      | exact LeO.none _
      | refine LeO.ite ?_ ?_
      | refine LeO.bind ?_ (fun _ => ?_)
    · intro y0 y1 y2 y3 y4 y5 y6 y7 y8 y9 y10
      unfold lampblackref03_IsPath.l2
      repeat' first
      | (with_reducible exact ih0 _ _ _)
      | (with_reducible exact ih1 _ _ _ _ _ _)
      | (with_reducible exact ih2 _ _ _ _ _)
      | (with_reducible exact ih3 _ _ _ _ _ _ _ _ _ _ _)
      | (with_reducible exact lampblackref02_Size.mono _ _)
      | (with_reducible exact LeO.refl _)
      | (with_reducible exact LeO.none _)
      | (with_reducible refine LeO.ite ?_ ?_)
      | (with_reducible refine LeO.bind ?_ (fun _ => ?_))
      | exact ih0 _ _ _
      | exact ih1 _ _ _ _ _ _
      | exact ih2 _ _ _ _ _
      | exact ih3 _ _ _ _ _ _ _ _ _ _ _
      | exact lampblackref02_Size.mono _ _
      | exact LeO.none _
      | refine LeO.ite ?_ ?_
      | refine LeO.bind ?_ (fun _ => ?_)
theorem lampblackref03_IsPath.mono : ∀ a0 a1 k, LeO (lampblackref03_IsPath.f k a0 a1) (lampblackref03_IsPath.f (k + 1) a0 a1) := by
  intro a0 a1 k
  obtain ⟨ih0, ih1, ih2, ih3⟩ := lampblackref03_IsPath.mono_l k
  unfold lampblackref03_IsPath.f
  repeat' first
      | (with_reducible exact ih0 _ _ _)
      | (with_reducible exact ih1 _ _ _ _ _ _)
      | (with_reducible exact ih2 _ _ _ _ _)
      | (with_reducible exact ih3 _ _ _ _ _ _ _ _ _ _ _)
      | (with_reducible exact lampblackref02_Size.mono _ _)
      | (with_reducible exact LeO.refl _)
      | (with_reducible exact LeO.none _)
      | (with_reducible refine LeO.ite ?_ ?_)
      | (with_reducible refine LeO.bind ?_ (fun _ => ?_))
      | exact ih0 _ _ _
      | exact ih1 _ _ _ _ _ _
      | exact ih2 _ _ _ _ _
      | exact ih3 _ _ _ _ _ _ _ _ _ _ _
      | exact lampblackref02_Size.mono _ _
      | exact LeO.none _
      | refine LeO.ite ?_ ?_
      | refine LeO.bind ?_ (fun _ => ?_)
set_option maxHeartbeats 8000000 in
set_option maxRecDepth 100000 in
theorem lampblackref03_IsPath.calls (k : Nat) (A0 : Option Addr) (c0 : Nat) (l0 : List Int) (A1 : Option Addr) (c1 : Nat) (l1 : List Int) (r1 : Int) (r2 : Bool) (w : World) (hr0 : Kd.C (Kd.int .i64) w A0 l0.length l0) (hc0 : l0.length ≤ c0) (hr1 : Kd.C (Kd.int .i64) w A1 l1.length l1) (hc1 : l1.length ≤ c1) (h : lampblackref03_IsPath.f k l0 l1 = some (r1, r2)) :
    Calls Tryd.prog 42 #[.slice A0 l0.length c0, .slice A1 l1.length c1] w fun e w' => e = .returned (.tuple #[.int .i64 r1, .bool r2]) ∧ Below w.heap.size w w' := by
  have HR0 := Aside0.mk hr0
  have HC0 := Aside0.mk hc0
  clear hr0 hc0
  have HR1 := Aside0.mk hr1
  have HC1 := Aside0.mk hc1
  clear hr1 hc1
  have HB := Aside0.mk (Below.refl w.heap.size w)
  have H : (if (l1.length : Int) < 1 then (lampblackref03_IsPath.j0 k l0 l1 true) else (lampblackref03_IsPath.j0 k l0 l1 (decide ((l1.length : Int) > 30)))) = some (r1, r2) := h
  clear h
  have HC3 := Aside0.mk H
  clear H
  go_enter Tryd.func42, Tryd.ntmps42
  go_upto_region 1 with (fail)
  go_cut [21] (fun v21 wc => ∃ (kq : Nat) (x21_2 : Bool), v21 = .bool x21_2 ∧ Aside0 (lampblackref03_IsPath.j0 kq l0 l1 x21_2 = some (r1, r2)) ∧ Aside0 (kq ≤ k) ∧ Aside0 (Below w.heap.size w wc))
  case first =>
    have H := HC3.out
    clear HC3
    by_cases c4 : (l1.length : Int) < 1
    · rw [if_pos c4] at H
      have c4b0 : decide ((l1.length : Int) < 1) = true := decide_eq_true c4
      have c4b1 : decide (l1.length < 1) = true := decide_eq_true (by omega)
      clear c4
      (first | rw [c4b0] | (simp only [i64_w, i32_w]; rw [c4b0]) | skip)
      have H' := Aside0.mk H
      clear H
      go_wp2
      go_meet
      case rel => exact ⟨_, (true), (by first | rfl | (simp; done) | (simp [*]; done)), H', ⟨by first | omega | exact Nat.le_refl _⟩, ⟨by repeat (first | (with_reducible first | exact HB.out | apply below_alloc | apply pw_below_drewN | apply below_drew1) | exact HB.out)⟩⟩
    · rw [if_neg c4] at H
      have c4b0 : decide ((l1.length : Int) < 1) = false := decide_eq_false c4
      have c4b1 : decide (l1.length < 1) = false := decide_eq_false (by omega)
      clear c4
      (first | rw [c4b0] | (simp only [i64_w, i32_w]; rw [c4b0]) | skip)
      have H' := Aside0.mk H
      clear H
      go_wp2
      go_meet
      case rel => exact ⟨_, (decide ((l1.length : Int) > 30)), (by first | rfl | (simp; done) | (simp [*]; done)), H', ⟨by first | omega | exact Nat.le_refl _⟩, ⟨by repeat (first | (with_reducible first | exact HB.out | apply below_alloc | apply pw_below_drewN | apply below_drew1) | exact HB.out)⟩⟩
  case rest =>
    clear HC3
    try clear c1
    try clear p2
    try clear c4
    try clear c4b0
    try clear c4b1
    obtain ⟨kq, x21_2, rfl, HA, HJ2, HB⟩ := hcut
    cases kq with
    | zero => exact absurd HA.out (by simp [lampblackref03_IsPath.j0])
    | succ kj2 =>
      have H := HA.out
      clear HA
      simp only [lampblackref03_IsPath.j0] at H
      by_cases c5 : x21_2 = true
      · subst c5
        have H1 : (some (0, false)) = some (r1, r2) := by rw [if_pos rfl] at H; exact H
        clear H
        have H := H1
        clear H1
        simp only [Option.some.injEq, Prod.mk.injEq] at H
        obtain ⟨rfl, rfl⟩ := H
        go_wp2
        go_ret2
        exact ⟨by first | rfl | (simp [errW_none, errW_some] <;> rfl) | (simp [*, errW_none, errW_some] <;> rfl), by repeat (first | (with_reducible first | exact HB.out | apply below_alloc | apply pw_below_drewN | apply below_drew1) | exact HB.out)⟩
      · replace c5 := Bool.eq_false_iff.mpr c5
        subst c5
        have H1 : (lampblackref03_IsPath.l0 kj2 l0 l1 0 l1 (l1.length : Int) 0) = some (r1, r2) := by rw [if_neg (show ¬ (false = true) by decide)] at H; exact H
        clear H
        have H := H1
        clear H1
        have H' := Aside0.mk H
        clear H
        go_wp2
        go_loopg [6, 24] kj2 (fun kq v6 v24 w' => ∃ (x6_2 : Int) (x24_2 : Int), v6 = .int .i64 x6_2 ∧ v24 = .int .i64 x24_2 ∧ Aside0 (lampblackref03_IsPath.l0 kq l0 l1 x6_2 l1 (l1.length : Int) x24_2 = some (r1, r2)) ∧ Aside0 (kq ≤ kj2) ∧ Aside0 (Below w.heap.size w w'))
        case atStart => exact ⟨(0), (0), (by first | rfl | (simp; done) | (simp [*]; done)), (by first | rfl | (simp; done) | (simp [*]; done)), H', ⟨Nat.le_refl _⟩, ⟨by repeat (first | (with_reducible first | exact HB.out | apply below_alloc | apply pw_below_drewN | apply below_drew1) | exact HB.out)⟩⟩
        case round =>
          clear H'
          try clear c1
          try clear p2
          try clear c4
          try clear c4b0
          try clear c4b1
          try clear c5
          try clear p2
          obtain ⟨x6_2, x24_2, rfl, rfl, HA, HK2, HB⟩ := hrel
          cases gk with
          | zero => exact absurd HA.out (by simp [lampblackref03_IsPath.l0])
          | succ k2 =>
            have H := HA.out
            clear HA
            simp only [lampblackref03_IsPath.l0] at H
            by_cases c6 : x24_2 < (l1.length : Int)
            · rw [if_pos c6] at H
              have c6b0 : decide (x24_2 < (l1.length : Int)) = true := decide_eq_true c6
              clear c6
              by_cases c7 : 0 ≤ x24_2
              · rw [if_pos c7] at H
                have c7b0 : decide (0 ≤ x24_2) = true := decide_eq_true c7
                clear c7
                by_cases c8 : x24_2 < (l1.length : Int)
                · rw [if_pos c8] at H
                  have c8b0 : decide (x24_2 < (l1.length : Int)) = true := decide_eq_true c8
                  clear c8
                  by_cases c9 : (rd l1 x24_2) < 0
                  · rw [if_pos c9] at H
                    have c9b0 : decide ((rd l1 x24_2) < 0) = true := decide_eq_true c9
                    clear c9
                    simp only [Option.some.injEq, Prod.mk.injEq] at H
                    obtain ⟨rfl, rfl⟩ := H
                    have p460 : 0 ≤ (x24_2 : Int) := of_decide_eq_true (by first | (with_reducible assumption) | assumption)
                    have q460 : x24_2 < (l1.length : Int) := of_decide_eq_true (by first | (with_reducible assumption) | assumption)
                    obtain ⟨ad460, e460, hx460_0⟩ := Kd.at_int HR1.out x24_2 p460 q460
                    cases e460
                    replace hx460_0 := (HB.out.cell (World.block_lt_of_cell? w _ hx460_0)).trans hx460_0
                    replace p460 := eq_true p460
                    replace q460 := eq_true q460
                    go_wp2
                    go_ret2
                    exact ⟨by first | rfl | (simp [errW_none, errW_some] <;> rfl) | (simp [*, errW_none, errW_some] <;> rfl), by repeat (first | (with_reducible first | exact HB.out | apply below_alloc | apply pw_below_drewN | apply below_drew1) | exact HB.out)⟩
                  · rw [if_neg c9] at H
                    have c9b0 : decide ((rd l1 x24_2) < 0) = false := decide_eq_false c9
                    clear c9
                    obtain ⟨ji10, hji10⟩ : ∃ j_ : Int, (shl .i64 1 (l0.length : Int)) = j_ := ⟨_, rfl⟩
                    replace H : (if (rd l1 x24_2) ≥ (ji10) then (some (0, false)) else ((lampblackref02_Size.f k2 (rd l1 x24_2)).bind fun t461 => (lampblackref03_IsPath.l0 k2 l0 l1 (mx x6_2 t461) l1 (l1.length : Int) (wrap64 (x24_2 + 1))))) = some (r1, r2) := by first | (rw [hji10] at H; exact H) | (simp only [hji10] at H ⊢; exact H)
                    have hji10_ : (IntKind.i64.wrap (1 * 2 ^ min (l0.length : Int).toNat 64)) = ji10 := hji10
                    have hji10z : (l0.length : Int) ≤ 64 → (IntKind.i64.wrap (1 * 2 ^ (l0.length : Int).toNat)) = ji10 := shl_small hji10
                    have hji10p : (IntKind.i64.wrap (1 * 2 ^ min l0.length 64)) = ji10 := hji10_
                    have hji10q : (l0.length : Int) ≤ 64 → (IntKind.i64.wrap (1 * 2 ^ l0.length)) = ji10 := hji10z
                    have hji10r : (IntKind.i64.wrap (2 ^ min l0.length 64)) = ji10 := by have h_ := hji10p; rw [Int.one_mul] at h_; exact h_
                    have hji10s : (l0.length : Int) ≤ 64 → (IntKind.i64.wrap (2 ^ l0.length)) = ji10 := fun hle_ => by have h_ := hji10q hle_; rw [Int.one_mul] at h_; exact h_
                    have hji10u : (IntKind.i64.wrap (2 ^ min (l0.length : Int).toNat 64)) = ji10 := by have h_ := hji10_; rw [Int.one_mul] at h_; exact h_
                    have hji10v : (l0.length : Int) ≤ 64 → (IntKind.i64.wrap (2 ^ (l0.length : Int).toNat)) = ji10 := fun hle_ => by have h_ := hji10z hle_; rw [Int.one_mul] at h_; exact h_
                    have hji10y : (wrap64 (1 * 2 ^ min (l0.length : Int).toNat 64)) = ji10 := (i64_w _).symm.trans hji10_
                    have hji10x : (l0.length : Int) ≤ 64 → (wrap64 (1 * 2 ^ (l0.length : Int).toNat)) = ji10 := fun h_ => (i64_w _).symm.trans (hji10z h_)
                    by_cases c11 : (rd l1 x24_2) ≥ (ji10)
                    · rw [if_pos c11] at H
                      have c11b0 : decide ((ji10) ≤ (rd l1 x24_2)) = true := decide_eq_true c11
                      clear c11
                      simp only [Option.some.injEq, Prod.mk.injEq] at H
                      obtain ⟨rfl, rfl⟩ := H
                      have p460 : 0 ≤ (x24_2 : Int) := of_decide_eq_true (by first | (with_reducible assumption) | assumption)
                      have q460 : x24_2 < (l1.length : Int) := of_decide_eq_true (by first | (with_reducible assumption) | assumption)
                      obtain ⟨ad460, e460, hx460_0⟩ := Kd.at_int HR1.out x24_2 p460 q460
                      cases e460
                      replace hx460_0 := (HB.out.cell (World.block_lt_of_cell? w _ hx460_0)).trans hx460_0
                      replace p460 := eq_true p460
                      replace q460 := eq_true q460
                      go_wp2
                      go_ret2
                      exact ⟨by first | rfl | (simp [errW_none, errW_some] <;> rfl) | (simp only [← hji10]; first | rfl | (simp [errW_none, errW_some] <;> rfl)) | (simp [*, errW_none, errW_some] <;> rfl), by repeat (first | (with_reducible first | exact HB.out | apply below_alloc | apply pw_below_drewN | apply below_drew1) | exact HB.out)⟩
                    · rw [if_neg c11] at H
                      have c11b0 : decide ((ji10) ≤ (rd l1 x24_2)) = false := decide_eq_false c11
                      clear c11
                      replace H := Option.bind_eq_some_iff.mp H
                      obtain ⟨t461, A120, H⟩ := H
                      replace H : (lampblackref03_IsPath.l0 k2 l0 l1 (mx x6_2 t461) l1 (l1.length : Int) (wrap64 (x24_2 + 1))) = some (r1, r2) := H
                      have A12 := Aside0.mk A120
                      clear A120
                      obtain ⟨ji13, hji13⟩ : ∃ j_ : Int, (mx x6_2 t461) = j_ := ⟨_, rfl⟩
                      replace H : (lampblackref03_IsPath.l0 k2 l0 l1 ji13 l1 (l1.length : Int) (wrap64 (x24_2 + 1))) = some (r1, r2) := by first | (rw [hji13] at H; exact H) | (simp only [hji13] at H ⊢; exact H)
                      (try rw [hji13] at A12)
                      have hji13_ : (if x6_2 < t461 then t461 else x6_2) = ji13 := hji13
                      have H' := Aside0.mk H
                      clear H
                      have p460 : 0 ≤ (x24_2 : Int) := of_decide_eq_true (by first | (with_reducible assumption) | assumption)
                      have q460 : x24_2 < (l1.length : Int) := of_decide_eq_true (by first | (with_reducible assumption) | assumption)
                      obtain ⟨ad460, e460, hx460_0⟩ := Kd.at_int HR1.out x24_2 p460 q460
                      cases e460
                      replace hx460_0 := (HB.out.cell (World.block_lt_of_cell? w _ hx460_0)).trans hx460_0
                      replace p460 := eq_true p460
                      replace q460 := eq_true q460
                      go_wp2_with (first | ((with_reducible refine gate_callee (f := 53) rfl ?_); refine goesL_ (some 39) rfl rfl Tryd.func53 (by kernel_rfl) rfl #[.int .i64 (rd l1 x24_2)] rfl (by (try simp only [List.map_toArray, List.map_cons, List.map_nil]); first | done | rfl | (simp only [List.length_drop, List.length_take]; rfl)) ?_; (with_reducible refine (lampblackref02_Size.calls k2 (rd l1 x24_2) t461 _ A12.out).mono ?_); rintro e w' ⟨rfl, ⟨nd, rfl⟩⟩; refine ⟨_, rfl, ?_⟩))
                      go_roundg k2
                      case measure => have := HJ2.out; have := HK2.out; omega
                      case rel => exact ⟨(ji13), (wrap64 (x24_2 + 1)), (by first | rfl | (simp; done) | (simp only [← hji13] <;> (first | rfl | simp)) | (simp [*]; done)), (by first | rfl | (simp; done) | (simp [*]; done)), H', ⟨by have := HJ2.out; have := HK2.out; omega⟩, ⟨by repeat (first | (with_reducible first | exact HB.out | apply below_alloc | apply pw_below_drewN | apply below_drew1) | exact HB.out)⟩⟩
                · rw [if_neg c8] at H
                  exact absurd H (by simp)
              · rw [if_neg c7] at H
                exact absurd H (by simp)
            · rw [if_neg c6] at H
              have c6b0 : decide (x24_2 < (l1.length : Int)) = false := decide_eq_false c6
              clear c6
              have H' := Aside0.mk H
              clear H
              go_wp2
              go_loopg [44] k2 (fun kq v44 w' => ∃ (x44_3 : Int), v44 = .int .i64 x44_3 ∧ Aside0 (lampblackref03_IsPath.l1 kq l0 l1 x6_2 (l0.length : Int) x44_3 = some (r1, r2)) ∧ Aside0 (kq ≤ k2) ∧ Aside0 (Below w.heap.size w w'))
              case atStart => exact ⟨(0), (by first | rfl | (simp; done) | (simp [*]; done)), H', ⟨Nat.le_refl _⟩, ⟨by repeat (first | (with_reducible first | exact HB.out | apply below_alloc | apply pw_below_drewN | apply below_drew1) | exact HB.out)⟩⟩
              case round =>
                clear H'
                try clear c1
                try clear p2
                try clear c4
                try clear c4b0
                try clear c4b1
                try clear p4
                try clear q4
                try clear hx4
                try clear c5
                try clear c6
                try clear c6b0
                try clear p6
                try clear c7
                try clear c7b0
                try clear c8
                try clear c8b0
                try clear c9
                try clear c9b0
                try clear c11
                try clear c11b0
                try clear hx460_0
                try clear p2
                try clear p460
                try clear q460
                obtain ⟨x44_3, rfl, HA, HK3, HB⟩ := hrel
                cases gk with
                | zero => exact absurd HA.out (by simp [lampblackref03_IsPath.l1])
                | succ k3 =>
                  have H := HA.out
                  clear HA
                  simp only [lampblackref03_IsPath.l1] at H
                  by_cases c14 : x44_3 < (l0.length : Int)
                  · rw [if_pos c14] at H
                    have c14b0 : decide (x44_3 < (l0.length : Int)) = true := decide_eq_true c14
                    clear c14
                    have H' := Aside0.mk H
                    clear H
                    go_wp2
                    go_loopg [10, 11, 49] k3 (fun kq v10 v11 v49 w' => ∃ (x10_4 : Int) (x11_4 : Int) (x49_4 : Int), v10 = .int .i64 x10_4 ∧ v11 = .int .i64 x11_4 ∧ v49 = .int .i64 x49_4 ∧ Aside0 (lampblackref03_IsPath.l2 kq l0 l1 x6_2 x44_3 x10_4 x11_4 (l0.length : Int) x44_3 l1 (l1.length : Int) x49_4 = some (r1, r2)) ∧ Aside0 (kq ≤ k3) ∧ Aside0 (Below w.heap.size w w'))
                    case atStart => exact ⟨(0), (0), (0), (by first | rfl | (simp; done) | (simp [*]; done)), (by first | rfl | (simp; done) | (simp [*]; done)), (by first | rfl | (simp; done) | (simp [*]; done)), H', ⟨Nat.le_refl _⟩, ⟨by repeat (first | (with_reducible first | exact HB.out | apply below_alloc | apply pw_below_drewN | apply below_drew1) | exact HB.out)⟩⟩
                    case round =>
                      clear H'
                      try clear c1
                      try clear p2
                      try clear c4
                      try clear c4b0
                      try clear c4b1
                      try clear p4
                      try clear q4
                      try clear hx4
                      try clear c5
                      try clear c6
                      try clear c6b0
                      try clear p6
                      try clear c7
                      try clear c7b0
                      try clear c8
                      try clear c8b0
                      try clear c9
                      try clear c9b0
                      try clear c11
                      try clear c11b0
                      try clear c14
                      try clear c14b0
                      try clear hx460_0
                      try clear p2
                      try clear p4
                      try clear p460
                      try clear p6
                      try clear q4
                      try clear q460
                      obtain ⟨x10_4, x11_4, x49_4, rfl, rfl, rfl, HA, HK4, HB⟩ := hrel
                      cases gk with
                      | zero => exact absurd HA.out (by simp [lampblackref03_IsPath.l2])
                      | succ k4 =>
                        have H := HA.out
                        clear HA
                        simp only [lampblackref03_IsPath.l2] at H
                        by_cases c15 : x49_4 < (l1.length : Int)
                        · rw [if_pos c15] at H
                          have c15b0 : decide (x49_4 < (l1.length : Int)) = true := decide_eq_true c15
                          clear c15
                          by_cases c16 : 0 ≤ x49_4
                          · rw [if_pos c16] at H
                            have c16b0 : decide (0 ≤ x49_4) = true := decide_eq_true c16
                            clear c16
                            by_cases c17 : x49_4 < (l1.length : Int)
                            · rw [if_pos c17] at H
                              have c17b0 : decide (x49_4 < (l1.length : Int)) = true := decide_eq_true c17
                              clear c17
                              by_cases c18 : 0 ≤ x44_3
                              · rw [if_pos c18] at H
                                have c18b0 := eq_true c18
                                have c18b1 : decide (0 ≤ x44_3) = true := decide_eq_true c18
                                clear c18
                                obtain ⟨ji19, hji19⟩ : ∃ j_ : Int, (shr .i64 (rd l1 x49_4) x44_3) = j_ := ⟨_, rfl⟩
                                replace H : (if (Go.bits .and .i64 (ji19) 1) = 0 then (lampblackref03_IsPath.l2 k4 l0 l1 x6_2 x44_3 x10_4 x11_4 (l0.length : Int) x44_3 l1 (l1.length : Int) (wrap64 (x49_4 + 1))) else (if x49_4 = 0 then (lampblackref03_IsPath.l2 k4 l0 l1 x6_2 x44_3 (wrap64 (x10_4 + 1)) (Go.bits .or .i64 x11_4 (rd l1 x49_4)) (l0.length : Int) x44_3 l1 (l1.length : Int) (wrap64 (x49_4 + 1))) else (if 0 ≤ (wrap64 (x49_4 - 1)) then (if (wrap64 (x49_4 - 1)) < (l1.length : Int) then (if (Go.bits .and .i64 (shr .i64 (rd l1 (wrap64 (x49_4 - 1))) x44_3) 1) = 0 then (lampblackref03_IsPath.l2 k4 l0 l1 x6_2 x44_3 (wrap64 (x10_4 + 1)) (Go.bits .or .i64 x11_4 (rd l1 x49_4)) (l0.length : Int) x44_3 l1 (l1.length : Int) (wrap64 (x49_4 + 1))) else (lampblackref03_IsPath.l2 k4 l0 l1 x6_2 x44_3 x10_4 (Go.bits .or .i64 x11_4 (rd l1 x49_4)) (l0.length : Int) x44_3 l1 (l1.length : Int) (wrap64 (x49_4 + 1)))) else (none)) else (none)))) = some (r1, r2) := by first | (rw [hji19] at H; exact H) | (simp only [hji19] at H ⊢; exact H)
                                have hji19_ : ((rd l1 x49_4) / 2 ^ min x44_3.toNat 64) = ji19 := hji19
                                have hji19z : x44_3 ≤ 64 → ((rd l1 x49_4) / 2 ^ x44_3.toNat) = ji19 := shr_small hji19
                                by_cases c20 : (Go.bits .and .i64 (ji19) 1) = 0
                                · rw [if_pos c20] at H
                                  have c20b0 : ((Go.bits .and .i64 (ji19) 1) == 0) = true := beq_iff_eq.mpr c20
                                  have c20b1 : ((Go.bits .and .i64 (ji19) 1) != 0) = false := bne_eq_false_iff_eq.mpr c20
                                  clear c20
                                  have H' := Aside0.mk H
                                  clear H
                                  have p463 : 0 ≤ (x49_4 : Int) := of_decide_eq_true (by first | (with_reducible assumption) | assumption)
                                  have q463 : x49_4 < (l1.length : Int) := of_decide_eq_true (by first | (with_reducible assumption) | assumption)
                                  obtain ⟨ad463, e463, hx463_0⟩ := Kd.at_int HR1.out x49_4 p463 q463
                                  cases e463
                                  replace hx463_0 := (HB.out.cell (World.block_lt_of_cell? w _ hx463_0)).trans hx463_0
                                  replace p463 := eq_true p463
                                  replace q463 := eq_true q463
                                  go_wp2
                                  go_roundg k4
                                  case measure => have := HJ2.out; have := HK2.out; have := HK3.out; have := HK4.out; omega
                                  case rel => exact ⟨(x10_4), (x11_4), (wrap64 (x49_4 + 1)), (by first | rfl | (simp; done) | (simp [*]; done)), (by first | rfl | (simp; done) | (simp [*]; done)), (by first | rfl | (simp; done) | (simp [*]; done)), H', ⟨by have := HJ2.out; have := HK2.out; have := HK3.out; have := HK4.out; omega⟩, ⟨by repeat (first | (with_reducible first | exact HB.out | apply below_alloc | apply pw_below_drewN | apply below_drew1) | exact HB.out)⟩⟩
                                · rw [if_neg c20] at H
                                  have c20b0 : ((Go.bits .and .i64 (ji19) 1) == 0) = false := beq_eq_false_iff_ne.mpr c20
                                  have c20b1 : ((Go.bits .and .i64 (ji19) 1) != 0) = true := bne_iff_ne.mpr c20
                                  by_cases c21 : x49_4 = 0
                                  · rw [if_pos c21] at H
                                    have c21b0 : (x49_4 == 0) = true := beq_iff_eq.mpr c21
                                    have c21b1 : (x49_4 != 0) = false := bne_eq_false_iff_eq.mpr c21
                                    clear c21
                                    have H' := Aside0.mk H
                                    clear H
                                    have p463 : 0 ≤ (x49_4 : Int) := of_decide_eq_true (by first | (with_reducible assumption) | assumption)
                                    have q463 : x49_4 < (l1.length : Int) := of_decide_eq_true (by first | (with_reducible assumption) | assumption)
                                    obtain ⟨ad463, e463, hx463_0⟩ := Kd.at_int HR1.out x49_4 p463 q463
                                    cases e463
                                    replace hx463_0 := (HB.out.cell (World.block_lt_of_cell? w _ hx463_0)).trans hx463_0
                                    replace p463 := eq_true p463
                                    replace q463 := eq_true q463
                                    go_wp2
                                    go_roundg k4
                                    case measure => have := HJ2.out; have := HK2.out; have := HK3.out; have := HK4.out; omega
                                    case rel => exact ⟨(wrap64 (x10_4 + 1)), (Go.bits .or .i64 x11_4 (rd l1 x49_4)), (wrap64 (x49_4 + 1)), (by first | rfl | (simp; done) | (simp [*]; done)), (by first | rfl | (simp; done) | (simp [*]; done)), (by first | rfl | (simp; done) | (simp [*]; done)), H', ⟨by have := HJ2.out; have := HK2.out; have := HK3.out; have := HK4.out; omega⟩, ⟨by repeat (first | (with_reducible first | exact HB.out | apply below_alloc | apply pw_below_drewN | apply below_drew1) | exact HB.out)⟩⟩
                                  · rw [if_neg c21] at H
                                    have c21b0 : (x49_4 == 0) = false := beq_eq_false_iff_ne.mpr c21
                                    have c21b1 : (x49_4 != 0) = true := bne_iff_ne.mpr c21
                                    obtain ⟨ji22, hji22⟩ : ∃ j_ : Int, (wrap64 (x49_4 - 1)) = j_ := ⟨_, rfl⟩
                                    replace H : (if 0 ≤ (ji22) then (if (ji22) < (l1.length : Int) then (if (Go.bits .and .i64 (shr .i64 (rd l1 (ji22)) x44_3) 1) = 0 then (lampblackref03_IsPath.l2 k4 l0 l1 x6_2 x44_3 (wrap64 (x10_4 + 1)) (Go.bits .or .i64 x11_4 (rd l1 x49_4)) (l0.length : Int) x44_3 l1 (l1.length : Int) (wrap64 (x49_4 + 1))) else (lampblackref03_IsPath.l2 k4 l0 l1 x6_2 x44_3 x10_4 (Go.bits .or .i64 x11_4 (rd l1 x49_4)) (l0.length : Int) x44_3 l1 (l1.length : Int) (wrap64 (x49_4 + 1)))) else (none)) else (none)) = some (r1, r2) := by first | (rw [hji22] at H; exact H) | (simp only [hji22] at H ⊢; exact H)
                                    have hji22w : (IntKind.i64.wrap (x49_4 - 1)) = ji22 := (i64_w _).trans hji22
                                    by_cases c23 : 0 ≤ (ji22)
                                    · rw [if_pos c23] at H
                                      have c23b0 : decide (0 ≤ (ji22)) = true := decide_eq_true c23
                                      clear c23
                                      by_cases c24 : (ji22) < (l1.length : Int)
                                      · rw [if_pos c24] at H
                                        have c24b0 : decide ((ji22) < (l1.length : Int)) = true := decide_eq_true c24
                                        clear c24
                                        have c25b0 := eq_true (of_decide_eq_true (by first | (with_reducible assumption) | assumption) : 0 ≤ x44_3)
                                        obtain ⟨ji26, hji26⟩ : ∃ j_ : Int, (shr .i64 (rd l1 (ji22)) x44_3) = j_ := ⟨_, rfl⟩
                                        replace H : (if (Go.bits .and .i64 (ji26) 1) = 0 then (lampblackref03_IsPath.l2 k4 l0 l1 x6_2 x44_3 (wrap64 (x10_4 + 1)) (Go.bits .or .i64 x11_4 (rd l1 x49_4)) (l0.length : Int) x44_3 l1 (l1.length : Int) (wrap64 (x49_4 + 1))) else (lampblackref03_IsPath.l2 k4 l0 l1 x6_2 x44_3 x10_4 (Go.bits .or .i64 x11_4 (rd l1 x49_4)) (l0.length : Int) x44_3 l1 (l1.length : Int) (wrap64 (x49_4 + 1)))) = some (r1, r2) := by first | (rw [hji26] at H; exact H) | (simp only [hji26] at H ⊢; exact H)
                                        have hji26_ : ((rd l1 (ji22)) / 2 ^ min x44_3.toNat 64) = ji26 := hji26
                                        have hji26z : x44_3 ≤ 64 → ((rd l1 (ji22)) / 2 ^ x44_3.toNat) = ji26 := shr_small hji26
                                        by_cases c27 : (Go.bits .and .i64 (ji26) 1) = 0
                                        · rw [if_pos c27] at H
                                          have c27b0 : ((Go.bits .and .i64 (ji26) 1) == 0) = true := beq_iff_eq.mpr c27
                                          have c27b1 : ((Go.bits .and .i64 (ji26) 1) != 0) = false := bne_eq_false_iff_eq.mpr c27
                                          clear c27
                                          have H' := Aside0.mk H
                                          clear H
                                          have p463 : 0 ≤ (x49_4 : Int) := of_decide_eq_true (by first | (with_reducible assumption) | assumption)
                                          have q463 : x49_4 < (l1.length : Int) := of_decide_eq_true (by first | (with_reducible assumption) | assumption)
                                          obtain ⟨ad463, e463, hx463_0⟩ := Kd.at_int HR1.out x49_4 p463 q463
                                          cases e463
                                          replace hx463_0 := (HB.out.cell (World.block_lt_of_cell? w _ hx463_0)).trans hx463_0
                                          replace p463 := eq_true p463
                                          replace q463 := eq_true q463
                                          have p464 : 0 ≤ ((ji22) : Int) := of_decide_eq_true (by first | (with_reducible assumption) | assumption)
                                          have q464 : (ji22) < (l1.length : Int) := of_decide_eq_true (by first | (with_reducible assumption) | assumption)
                                          obtain ⟨ad464, e464, hx464_0⟩ := Kd.at_int HR1.out (ji22) p464 q464
                                          obtain rfl : ad463 = ad464 := (by injection e464)
                                          replace hx464_0 := (HB.out.cell (World.block_lt_of_cell? w _ hx464_0)).trans hx464_0
                                          replace p464 := eq_true p464
                                          replace q464 := eq_true q464
                                          go_wp2
                                          go_roundg k4
                                          case measure => have := HJ2.out; have := HK2.out; have := HK3.out; have := HK4.out; omega
                                          case rel => exact ⟨(wrap64 (x10_4 + 1)), (Go.bits .or .i64 x11_4 (rd l1 x49_4)), (wrap64 (x49_4 + 1)), (by first | rfl | (simp; done) | (simp [*]; done)), (by first | rfl | (simp; done) | (simp [*]; done)), (by first | rfl | (simp; done) | (simp [*]; done)), H', ⟨by have := HJ2.out; have := HK2.out; have := HK3.out; have := HK4.out; omega⟩, ⟨by repeat (first | (with_reducible first | exact HB.out | apply below_alloc | apply pw_below_drewN | apply below_drew1) | exact HB.out)⟩⟩
                                        · rw [if_neg c27] at H
                                          have c27b0 : ((Go.bits .and .i64 (ji26) 1) == 0) = false := beq_eq_false_iff_ne.mpr c27
                                          have c27b1 : ((Go.bits .and .i64 (ji26) 1) != 0) = true := bne_iff_ne.mpr c27
                                          have H' := Aside0.mk H
                                          clear H
                                          have p463 : 0 ≤ (x49_4 : Int) := of_decide_eq_true (by first | (with_reducible assumption) | assumption)
                                          have q463 : x49_4 < (l1.length : Int) := of_decide_eq_true (by first | (with_reducible assumption) | assumption)
                                          obtain ⟨ad463, e463, hx463_0⟩ := Kd.at_int HR1.out x49_4 p463 q463
                                          cases e463
                                          replace hx463_0 := (HB.out.cell (World.block_lt_of_cell? w _ hx463_0)).trans hx463_0
                                          replace p463 := eq_true p463
                                          replace q463 := eq_true q463
                                          have p464 : 0 ≤ ((ji22) : Int) := of_decide_eq_true (by first | (with_reducible assumption) | assumption)
                                          have q464 : (ji22) < (l1.length : Int) := of_decide_eq_true (by first | (with_reducible assumption) | assumption)
                                          obtain ⟨ad464, e464, hx464_0⟩ := Kd.at_int HR1.out (ji22) p464 q464
                                          obtain rfl : ad463 = ad464 := (by injection e464)
                                          replace hx464_0 := (HB.out.cell (World.block_lt_of_cell? w _ hx464_0)).trans hx464_0
                                          replace p464 := eq_true p464
                                          replace q464 := eq_true q464
                                          go_wp2
                                          go_roundg k4
                                          case measure => have := HJ2.out; have := HK2.out; have := HK3.out; have := HK4.out; omega
                                          case rel => exact ⟨(x10_4), (Go.bits .or .i64 x11_4 (rd l1 x49_4)), (wrap64 (x49_4 + 1)), (by first | rfl | (simp; done) | (simp [*]; done)), (by first | rfl | (simp; done) | (simp [*]; done)), (by first | rfl | (simp; done) | (simp [*]; done)), H', ⟨by have := HJ2.out; have := HK2.out; have := HK3.out; have := HK4.out; omega⟩, ⟨by repeat (first | (with_reducible first | exact HB.out | apply below_alloc | apply pw_below_drewN | apply below_drew1) | exact HB.out)⟩⟩
                                      · rw [if_neg c24] at H
                                        exact absurd H (by simp)
                                    · rw [if_neg c23] at H
                                      exact absurd H (by simp)
                              · rw [if_neg c18] at H
                                exact absurd H (by simp)
                            · rw [if_neg c17] at H
                              exact absurd H (by simp)
                          · rw [if_neg c16] at H
                            exact absurd H (by simp)
                        · rw [if_neg c15] at H
                          have c15b0 : decide (x49_4 < (l1.length : Int)) = false := decide_eq_false c15
                          clear c15
                          by_cases c28 : x10_4 = 1
                          · rw [if_pos c28] at H
                            have c28b0 : (x10_4 == 1) = true := beq_iff_eq.mpr c28
                            have c28b1 : (x10_4 != 1) = false := bne_eq_false_iff_eq.mpr c28
                            clear c28
                            by_cases c29 : 0 ≤ x44_3
                            · rw [if_pos c29] at H
                              have c29b0 : decide (0 ≤ x44_3) = true := decide_eq_true c29
                              clear c29
                              by_cases c30 : x44_3 < (l0.length : Int)
                              · rw [if_pos c30] at H
                                have c30b0 : decide (x44_3 < (l0.length : Int)) = true := decide_eq_true c30
                                clear c30
                                by_cases c31 : (Go.bits .andNot .i64 (rd l0 x44_3) x11_4) = 0
                                · rw [if_pos c31] at H
                                  have c31b0 : ((Go.bits .andNot .i64 (rd l0 x44_3) x11_4) == 0) = true := beq_iff_eq.mpr c31
                                  have c31b1 : ((Go.bits .andNot .i64 (rd l0 x44_3) x11_4) != 0) = false := bne_eq_false_iff_eq.mpr c31
                                  clear c31
                                  have H' := Aside0.mk H
                                  clear H
                                  have p462 : 0 ≤ (x44_3 : Int) := of_decide_eq_true (by first | (with_reducible assumption) | assumption)
                                  have q462 : x44_3 < (l0.length : Int) := of_decide_eq_true (by first | (with_reducible assumption) | assumption)
                                  obtain ⟨ad462, e462, hx462_0⟩ := Kd.at_int HR0.out x44_3 p462 q462
                                  cases e462
                                  replace hx462_0 := (HB.out.cell (World.block_lt_of_cell? w _ hx462_0)).trans hx462_0
                                  replace p462 := eq_true p462
                                  replace q462 := eq_true q462
                                  go_wp2
                                  go_roundg k4
                                  case measure => have := HJ2.out; have := HK2.out; have := HK3.out; have := HK4.out; omega
                                  case rel => exact ⟨(wrap64 (x44_3 + 1)), (by first | rfl | (simp; done) | (simp [*]; done)), H', ⟨by have := HJ2.out; have := HK2.out; have := HK3.out; have := HK4.out; omega⟩, ⟨by repeat (first | (with_reducible first | exact HB.out | apply below_alloc | apply pw_below_drewN | apply below_drew1) | exact HB.out)⟩⟩
                                · rw [if_neg c31] at H
                                  have c31b0 : ((Go.bits .andNot .i64 (rd l0 x44_3) x11_4) == 0) = false := beq_eq_false_iff_ne.mpr c31
                                  have c31b1 : ((Go.bits .andNot .i64 (rd l0 x44_3) x11_4) != 0) = true := bne_iff_ne.mpr c31
                                  simp only [Option.some.injEq, Prod.mk.injEq] at H
                                  obtain ⟨rfl, rfl⟩ := H
                                  have p462 : 0 ≤ (x44_3 : Int) := of_decide_eq_true (by first | (with_reducible assumption) | assumption)
                                  have q462 : x44_3 < (l0.length : Int) := of_decide_eq_true (by first | (with_reducible assumption) | assumption)
                                  obtain ⟨ad462, e462, hx462_0⟩ := Kd.at_int HR0.out x44_3 p462 q462
                                  cases e462
                                  replace hx462_0 := (HB.out.cell (World.block_lt_of_cell? w _ hx462_0)).trans hx462_0
                                  replace p462 := eq_true p462
                                  replace q462 := eq_true q462
                                  go_wp2
                                  go_ret2
                                  exact ⟨by first | rfl | (simp [errW_none, errW_some] <;> rfl) | (simp [*, errW_none, errW_some] <;> rfl), by repeat (first | (with_reducible first | exact HB.out | apply below_alloc | apply pw_below_drewN | apply below_drew1) | exact HB.out)⟩
                              · rw [if_neg c30] at H
                                exact absurd H (by simp)
                            · rw [if_neg c29] at H
                              exact absurd H (by simp)
                          · rw [if_neg c28] at H
                            have c28b0 : (x10_4 == 1) = false := beq_eq_false_iff_ne.mpr c28
                            have c28b1 : (x10_4 != 1) = true := bne_iff_ne.mpr c28
                            simp only [Option.some.injEq, Prod.mk.injEq] at H
                            obtain ⟨rfl, rfl⟩ := H
                            go_wp2
                            go_ret2
                            exact ⟨by first | rfl | (simp [errW_none, errW_some] <;> rfl) | (simp [*, errW_none, errW_some] <;> rfl), by repeat (first | (with_reducible first | exact HB.out | apply below_alloc | apply pw_below_drewN | apply below_drew1) | exact HB.out)⟩
                  · rw [if_neg c14] at H
                    have c14b0 : decide (x44_3 < (l0.length : Int)) = false := decide_eq_false c14
                    clear c14
                    simp only [Option.some.injEq, Prod.mk.injEq] at H
                    obtain ⟨rfl, rfl⟩ := H
                    go_wp2
                    go_ret2
                    exact ⟨by first | rfl | (simp [errW_none, errW_some] <;> rfl) | (simp [*, errW_none, errW_some] <;> rfl), by repeat (first | (with_reducible first | exact HB.out | apply below_alloc | apply pw_below_drewN | apply below_drew1) | exact HB.out)⟩

end Go.Proofs.YtijfddobandcdaaDoor.X
end
section
-- by ownprint.py (wip/tool), over the kit's print
namespace Go.Proofs.YtijfddobandcdaaDoor.X
open Go.RowKit Go.Proofs.YtijfddobandcdaaDoorW.PrintWords Go.Proofs.YtijfddobandcdaaDoorW.PrintLast Go.Proofs.YtijfddobandcdaaDoorW.PrintMore
attribute [local go_sem] max2_int min2_int max_two min_two max_three min_three max_four min_four
set_option linter.unusedVariables false
set_option linter.unusedSimpArgs false

/-! ### lampblackref01_IsGraph: function 48 -/
mutual
def lampblackref01_IsGraph.l0 : Nat → List Int → Int → List Int → Int → Int → Option (Bool)
  | 0, _, _, _, _, _ => none
  | k + 1, x0, x1, x8, x9, x10 => if x10 < x9 then (if 0 ≤ x10 then (if x10 < (x8.length : Int) then (if (x0.length : Int) > x1 then (lampblackref01_IsGraph.j1 k x0 x1 x10 (rd x8 x10) x8 x9 x10 true) else (if (rd x8 x10) < 0 then (lampblackref01_IsGraph.j1 k x0 x1 x10 (rd x8 x10) x8 x9 x10 true) else (if (rd x8 x10) ≥ (shl .i64 1 (x0.length : Int)) then (lampblackref01_IsGraph.j1 k x0 x1 x10 (rd x8 x10) x8 x9 x10 true) else (lampblackref01_IsGraph.j1 k x0 x1 x10 (rd x8 x10) x8 x9 x10 ((Go.bits .and .i64 (shr .i64 (rd x8 x10) x10) 1) == 1))))) else (none)) else (none)) else (if (x0.length : Int) ≥ 1 then (some (decide ((x0.length : Int) ≤ x1))) else (some false))
def lampblackref01_IsGraph.j1 : Nat → List Int → Int → Int → Int → List Int → Int → Int → Bool → Option (Bool)
  | 0, _, _, _, _, _, _, _, _ => none
  | k + 1, x0, x1, x5, x6, x8, x9, x10, x36 => if x36 = true then (some false) else (lampblackref01_IsGraph.l1 k x0 x1 x5 x6 x8 x9 x10 (x0.length : Int) 0)
def lampblackref01_IsGraph.l1 : Nat → List Int → Int → Int → Int → List Int → Int → Int → Int → Int → Option (Bool)
  | 0, _, _, _, _, _, _, _, _, _ => none
  | k + 1, x0, x1, x5, x6, x8, x9, x10, x38, x39 => if x39 < x38 then (if 0 ≤ x39 then (if x39 < (x0.length : Int) then (if 0 ≤ x5 then (if (Go.bits .and .i64 (shr .i64 x6 x39) 1) = (Go.bits .and .i64 (shr .i64 (rd x0 x39) x5) 1) then (lampblackref01_IsGraph.l1 k x0 x1 x5 x6 x8 x9 x10 x38 (wrap64 (x39 + 1))) else (some false)) else (none)) else (none)) else (none)) else (lampblackref01_IsGraph.l0 k x0 x1 x8 x9 (wrap64 (x10 + 1)))
end
def lampblackref01_IsGraph.f (k : Nat) (l0 : List Int) (a1 : Int) : Option (Bool) := lampblackref01_IsGraph.l0 k l0 a1 l0 (l0.length : Int) 0
theorem lampblackref01_IsGraph.mono_l : ∀ k, (∀ y0 y1 y2 y3 y4, LeO (lampblackref01_IsGraph.l0 k y0 y1 y2 y3 y4) (lampblackref01_IsGraph.l0 (k + 1) y0 y1 y2 y3 y4)) ∧ (∀ y0 y1 y2 y3 y4 y5 y6 y7, LeO (lampblackref01_IsGraph.j1 k y0 y1 y2 y3 y4 y5 y6 y7) (lampblackref01_IsGraph.j1 (k + 1) y0 y1 y2 y3 y4 y5 y6 y7)) ∧ (∀ y0 y1 y2 y3 y4 y5 y6 y7 y8, LeO (lampblackref01_IsGraph.l1 k y0 y1 y2 y3 y4 y5 y6 y7 y8) (lampblackref01_IsGraph.l1 (k + 1) y0 y1 y2 y3 y4 y5 y6 y7 y8))
  | 0 => ⟨fun _ _ _ _ _ r h => by simp [lampblackref01_IsGraph.l0] at h, fun _ _ _ _ _ _ _ _ r h => by simp [lampblackref01_IsGraph.j1] at h, fun _ _ _ _ _ _ _ _ _ r h => by simp [lampblackref01_IsGraph.l1] at h⟩
  | k + 1 => by
    obtain ⟨ih0, ih1, ih2⟩ := lampblackref01_IsGraph.mono_l k
    refine ⟨?_, ?_, ?_⟩
    · intro y0 y1 y2 y3 y4
      unfold lampblackref01_IsGraph.l0
      repeat' first
      | (with_reducible exact ih0 _ _ _ _ _)
      | (with_reducible exact ih1 _ _ _ _ _ _ _ _)
      | (with_reducible exact ih2 _ _ _ _ _ _ _ _ _)
      | (with_reducible exact LeO.refl _)
      | (with_reducible exact LeO.none _)
      | (with_reducible refine LeO.ite ?_ ?_)
      | (with_reducible refine LeO.bind ?_ (fun _ => ?_))
      | exact ih0 _ _ _ _ _
      | exact ih1 _ _ _ _ _ _ _ _
      | exact ih2 _ _ _ _ _ _ _ _ _
      | exact LeO.none _
      | refine LeO.ite ?_ ?_
      | refine LeO.bind ?_ (fun _ => ?_)
    · intro y0 y1 y2 y3 y4 y5 y6 y7
      unfold lampblackref01_IsGraph.j1
      repeat' first
      | (with_reducible exact ih0 _ _ _ _ _)
      | (with_reducible exact ih1 _ _ _ _ _ _ _ _)
      | (with_reducible exact ih2 _ _ _ _ _ _ _ _ _)
      | (with_reducible exact LeO.refl _)
      | (with_reducible exact LeO.none _)
      | (with_reducible refine LeO.ite ?_ ?_)
      | (with_reducible refine LeO.bind ?_ (fun _ => ?_))
      | exact ih0 _ _ _ _ _
      | exact ih1 _ _ _ _ _ _ _ _
      | exact ih2 _ _ _ _ _ _ _ _ _
      | exact LeO.none _
      | refine LeO.ite ?_ ?_
      | refine LeO.bind ?_ (fun _ => ?_)
    · intro y0 y1 y2 y3 y4 y5 y6 y7 y8
      unfold lampblackref01_IsGraph.l1
      repeat' first
      | (with_reducible exact ih0 _ _ _ _ _)
      | (with_reducible exact ih1 _ _ _ _ _ _ _ _)
      | (with_reducible exact ih2 _ _ _ _ _ _ _ _ _)
      | (with_reducible exact LeO.refl _)
      | (with_reducible exact LeO.none _)
      | (with_reducible refine LeO.ite ?_ ?_)
      | (with_reducible refine LeO.bind ?_ (fun _ => ?_))
      | exact ih0 _ _ _ _ _
      | exact ih1 _ _ _ _ _ _ _ _
      | exact ih2 _ _ _ _ _ _ _ _ _
      | exact LeO.none _
      | refine LeO.ite ?_ ?_
      | refine LeO.bind ?_ (fun _ => ?_)
theorem lampblackref01_IsGraph.mono : ∀ a0 a1 k, LeO (lampblackref01_IsGraph.f k a0 a1) (lampblackref01_IsGraph.f (k + 1) a0 a1) := by
  intro a0 a1 k
  obtain ⟨ih0, ih1, ih2⟩ := lampblackref01_IsGraph.mono_l k
  unfold lampblackref01_IsGraph.f
  repeat' first
      | (with_reducible exact ih0 _ _ _ _ _)
      | (with_reducible exact ih1 _ _ _ _ _ _ _ _)
      | (with_reducible exact ih2 _ _ _ _ _ _ _ _ _)
      | (with_reducible exact LeO.refl _)
      | (with_reducible exact LeO.none _)
      | (with_reducible refine LeO.ite ?_ ?_)
      | (with_reducible refine LeO.bind ?_ (fun _ => ?_))
      | exact ih0 _ _ _ _ _
      | exact ih1 _ _ _ _ _ _ _ _
      | exact ih2 _ _ _ _ _ _ _ _ _
      | exact LeO.none _
      | refine LeO.ite ?_ ?_
      | refine LeO.bind ?_ (fun _ => ?_)
set_option maxHeartbeats 8000000 in
set_option maxRecDepth 100000 in
theorem lampblackref01_IsGraph.calls (k : Nat) (A0 : Option Addr) (c0 : Nat) (l0 : List Int) (a1 : Int) (r : Bool) (w : World) (hr0 : Kd.C (Kd.int .i64) w A0 l0.length l0) (hc0 : l0.length ≤ c0) (h : lampblackref01_IsGraph.f k l0 a1 = some r) :
    Calls Tryd.prog 48 #[.slice A0 l0.length c0, .int .i64 a1] w fun e w' => e = .returned (.bool r) ∧ Drawn0 w w' := by
  have HR0 := Aside0.mk hr0
  have HC0 := Aside0.mk hc0
  clear hr0 hc0
  have H : (lampblackref01_IsGraph.l0 k l0 a1 l0 (l0.length : Int) 0) = some r := h
  clear h
  have H' := Aside0.mk H
  clear H
  go_enter Tryd.func48, Tryd.ntmps48
  go_wp2
  repeat (go_quiet (fail); try go_wp2)
  go_loopg [10] k (fun kq v10 w' => ∃ (x10_1 : Int), v10 = .int .i64 x10_1 ∧ Aside0 (lampblackref01_IsGraph.l0 kq l0 a1 l0 (l0.length : Int) x10_1 = some r) ∧ Aside0 (kq ≤ k) ∧ Drawn0 w w')
  case atStart => exact ⟨(0), (by first | rfl | (simp; done) | (simp [*]; done)), H', ⟨Nat.le_refl _⟩, by repeat (first | exact Drawn0.refl _ | apply Drawn0.step)⟩
  case round =>
    clear H'
    try clear p2
    obtain ⟨x10_1, rfl, HA, HK1, ⟨m1, rfl⟩⟩ := hrel
    cases gk with
    | zero => exact absurd HA.out (by simp [lampblackref01_IsGraph.l0])
    | succ k1 =>
      have H := HA.out
      clear HA
      simp only [lampblackref01_IsGraph.l0] at H
      by_cases c3 : x10_1 < (l0.length : Int)
      · rw [if_pos c3] at H
        have c3b0 : decide (x10_1 < (l0.length : Int)) = true := decide_eq_true c3
        clear c3
        by_cases c4 : 0 ≤ x10_1
        · rw [if_pos c4] at H
          have c4b0 : decide (0 ≤ x10_1) = true := decide_eq_true c4
          clear c4
          by_cases c5 : x10_1 < (l0.length : Int)
          · rw [if_pos c5] at H
            have c5b0 : decide (x10_1 < (l0.length : Int)) = true := decide_eq_true c5
            clear c5
            have HC6 := Aside0.mk H
            clear H
            have p128 : 0 ≤ (x10_1 : Int) := of_decide_eq_true (by first | (with_reducible assumption) | assumption)
            have q128 : x10_1 < (l0.length : Int) := of_decide_eq_true (by first | (with_reducible assumption) | assumption)
            obtain ⟨ad128, e128, hx128_0⟩ := Kd.at_int HR0.out x10_1 p128 q128
            cases e128
            replace p128 := eq_true p128
            replace q128 := eq_true q128
            go_upto_region 4 with (fail)
            repeat (go_quiet (fail); go_upto_region 4 with (fail))
            go_cut [36] (fun v36 wc => ∃ (kq : Nat) (x36_5 : Bool), v36 = .bool x36_5 ∧ Aside0 (lampblackref01_IsGraph.j1 kq l0 a1 x10_1 (rd l0 x10_1) l0 (l0.length : Int) x10_1 x36_5 = some r) ∧ Aside0 (kq ≤ k1) ∧ Drawn0 w wc)
            case first =>
              have H := HC6.out
              clear HC6
              by_cases c7 : (l0.length : Int) > a1
              · rw [if_pos c7] at H
                have c7b0 : decide (a1 < (l0.length : Int)) = true := decide_eq_true c7
                clear c7
                (first | rw [c7b0] | (simp only [i64_w, i32_w]; rw [c7b0]) | skip)
                have H' := Aside0.mk H
                clear H
                go_wp2
                repeat (go_quiet (fail); try go_wp2)
                go_meet
                case rel => exact ⟨_, (true), (by first | rfl | (simp; done) | (simp [*]; done)), H', ⟨by have := HK1.out; first | omega | exact Nat.le_refl _⟩, by repeat (first | exact Drawn0.refl _ | apply Drawn0.step)⟩
              · rw [if_neg c7] at H
                have c7b0 : decide (a1 < (l0.length : Int)) = false := decide_eq_false c7
                clear c7
                (first | rw [c7b0] | (simp only [i64_w, i32_w]; rw [c7b0]) | skip)
                by_cases c8 : (rd l0 x10_1) < 0
                · rw [if_pos c8] at H
                  have c8b0 : decide ((rd l0 x10_1) < 0) = true := decide_eq_true c8
                  clear c8
                  have H' := Aside0.mk H
                  clear H
                  go_wp2
                  repeat (go_quiet (fail); try go_wp2)
                  go_meet
                  case rel => exact ⟨_, (true), (by first | rfl | (simp; done) | (simp [*]; done)), H', ⟨by have := HK1.out; first | omega | exact Nat.le_refl _⟩, by repeat (first | exact Drawn0.refl _ | apply Drawn0.step)⟩
                · rw [if_neg c8] at H
                  have c8b0 : decide ((rd l0 x10_1) < 0) = false := decide_eq_false c8
                  clear c8
                  obtain ⟨ji9, hji9⟩ : ∃ j_ : Int, (shl .i64 1 (l0.length : Int)) = j_ := ⟨_, rfl⟩
                  replace H : (if (rd l0 x10_1) ≥ (ji9) then (lampblackref01_IsGraph.j1 k1 l0 a1 x10_1 (rd l0 x10_1) l0 (l0.length : Int) x10_1 true) else (lampblackref01_IsGraph.j1 k1 l0 a1 x10_1 (rd l0 x10_1) l0 (l0.length : Int) x10_1 ((Go.bits .and .i64 (shr .i64 (rd l0 x10_1) x10_1) 1) == 1))) = some r := by first | (rw [hji9] at H; exact H) | (simp only [hji9] at H ⊢; exact H)
                  have hji9_ : (IntKind.i64.wrap (1 * 2 ^ min (l0.length : Int).toNat 64)) = ji9 := hji9
                  have hji9z : (l0.length : Int) ≤ 64 → (IntKind.i64.wrap (1 * 2 ^ (l0.length : Int).toNat)) = ji9 := shl_small hji9
                  have hji9p : (IntKind.i64.wrap (1 * 2 ^ min l0.length 64)) = ji9 := hji9_
                  have hji9q : (l0.length : Int) ≤ 64 → (IntKind.i64.wrap (1 * 2 ^ l0.length)) = ji9 := hji9z
                  have hji9r : (IntKind.i64.wrap (2 ^ min l0.length 64)) = ji9 := by have h_ := hji9p; rw [Int.one_mul] at h_; exact h_
                  have hji9s : (l0.length : Int) ≤ 64 → (IntKind.i64.wrap (2 ^ l0.length)) = ji9 := fun hle_ => by have h_ := hji9q hle_; rw [Int.one_mul] at h_; exact h_
                  have hji9u : (IntKind.i64.wrap (2 ^ min (l0.length : Int).toNat 64)) = ji9 := by have h_ := hji9_; rw [Int.one_mul] at h_; exact h_
                  have hji9v : (l0.length : Int) ≤ 64 → (IntKind.i64.wrap (2 ^ (l0.length : Int).toNat)) = ji9 := fun hle_ => by have h_ := hji9z hle_; rw [Int.one_mul] at h_; exact h_
                  have hji9y : (wrap64 (1 * 2 ^ min (l0.length : Int).toNat 64)) = ji9 := (i64_w _).symm.trans hji9_
                  have hji9x : (l0.length : Int) ≤ 64 → (wrap64 (1 * 2 ^ (l0.length : Int).toNat)) = ji9 := fun h_ => (i64_w _).symm.trans (hji9z h_)
                  by_cases c10 : (rd l0 x10_1) ≥ (ji9)
                  · rw [if_pos c10] at H
                    have c10b0 : decide ((ji9) ≤ (rd l0 x10_1)) = true := decide_eq_true c10
                    clear c10
                    have H' := Aside0.mk H
                    clear H
                    go_wp2
                    repeat (go_quiet (fail); try go_wp2)
                    go_meet
                    case rel => exact ⟨_, (true), (by first | rfl | (simp; done) | (simp [*]; done)), H', ⟨by have := HK1.out; first | omega | exact Nat.le_refl _⟩, by repeat (first | exact Drawn0.refl _ | apply Drawn0.step)⟩
                  · rw [if_neg c10] at H
                    have c10b0 : decide ((ji9) ≤ (rd l0 x10_1)) = false := decide_eq_false c10
                    clear c10
                    have c11b0 := eq_true (of_decide_eq_true (by first | (with_reducible assumption) | assumption) : 0 ≤ x10_1)
                    obtain ⟨ji12, hji12⟩ : ∃ j_ : Int, (shr .i64 (rd l0 x10_1) x10_1) = j_ := ⟨_, rfl⟩
                    replace H : (lampblackref01_IsGraph.j1 k1 l0 a1 x10_1 (rd l0 x10_1) l0 (l0.length : Int) x10_1 ((Go.bits .and .i64 (ji12) 1) == 1)) = some r := by first | (rw [hji12] at H; exact H) | (simp only [hji12] at H ⊢; exact H)
                    have hji12_ : ((rd l0 x10_1) / 2 ^ min x10_1.toNat 64) = ji12 := hji12
                    have hji12z : x10_1 ≤ 64 → ((rd l0 x10_1) / 2 ^ x10_1.toNat) = ji12 := shr_small hji12
                    have H' := Aside0.mk H
                    clear H
                    go_wp2
                    repeat (go_quiet (fail); try go_wp2)
                    go_meet
                    case rel => exact ⟨_, (((Go.bits .and .i64 (ji12) 1) == 1)), (by first | rfl | (simp; done) | (simp only [← hji12] <;> (first | rfl | simp)) | (simp [*]; done)), H', ⟨by have := HK1.out; first | omega | exact Nat.le_refl _⟩, by repeat (first | exact Drawn0.refl _ | apply Drawn0.step)⟩
            case rest =>
              clear HC6
              try clear c1
              try clear p1
              try clear q1
              try clear hx1
              try clear p2
              try clear c3
              try clear c3b0
              try clear c4
              try clear c4b0
              try clear c5
              try clear c5b0
              try clear p6
              try clear c7
              try clear c7b0
              try clear c8
              try clear c8b0
              try clear c10
              try clear c10b0
              try clear c11
              try clear c11b0
              try clear p12
              try clear q12
              try clear hx12
              try clear hx128_0
              try clear p128
              try clear p2
              try clear q128
              obtain ⟨kq, x36_5, rfl, HA, HJ5, ⟨mc5, rfl⟩⟩ := hcut
              cases kq with
              | zero => exact absurd HA.out (by simp [lampblackref01_IsGraph.j1])
              | succ kj5 =>
                have H := HA.out
                clear HA
                simp only [lampblackref01_IsGraph.j1] at H
                by_cases c13 : x36_5 = true
                · subst c13
                  have H1 : (some false) = some r := by rw [if_pos rfl] at H; exact H
                  clear H
                  have H := H1
                  clear H1
                  obtain rfl := Option.some.inj H
                  go_wp2
                  repeat (go_quiet (fail); try go_wp2)
                  go_ret
                  exact ⟨by first | rfl | (simp; done) | (simp [*]; done), by repeat (first | exact Drawn0.refl _ | apply Drawn0.step)⟩
                · replace c13 := Bool.eq_false_iff.mpr c13
                  subst c13
                  have H1 : (lampblackref01_IsGraph.l1 kj5 l0 a1 x10_1 (rd l0 x10_1) l0 (l0.length : Int) x10_1 (l0.length : Int) 0) = some r := by rw [if_neg (show ¬ (false = true) by decide)] at H; exact H
                  clear H
                  have H := H1
                  clear H1
                  have H' := Aside0.mk H
                  clear H
                  go_wp2
                  repeat (go_quiet (fail); try go_wp2)
                  go_loopg [39] kj5 (fun kq v39 w' => ∃ (x39_3 : Int), v39 = .int .i64 x39_3 ∧ Aside0 (lampblackref01_IsGraph.l1 kq l0 a1 x10_1 (rd l0 x10_1) l0 (l0.length : Int) x10_1 (l0.length : Int) x39_3 = some r) ∧ Aside0 (kq ≤ kj5) ∧ Drawn0 w w')
                  case atStart => exact ⟨(0), (by first | rfl | (simp; done) | (simp [*]; done)), H', ⟨Nat.le_refl _⟩, by repeat (first | exact Drawn0.refl _ | apply Drawn0.step)⟩
                  case round =>
                    clear H'
                    try clear c1
                    try clear p1
                    try clear q1
                    try clear hx1
                    try clear p2
                    try clear c3
                    try clear c3b0
                    try clear c4
                    try clear c4b0
                    try clear c5
                    try clear c5b0
                    try clear p6
                    try clear c7
                    try clear c7b0
                    try clear c8
                    try clear c8b0
                    try clear c10
                    try clear c10b0
                    try clear c11
                    try clear c11b0
                    try clear p12
                    try clear q12
                    try clear hx12
                    try clear c13
                    try clear hx128_0
                    try clear p1
                    try clear p12
                    try clear p128
                    try clear p2
                    try clear p6
                    try clear q1
                    try clear q12
                    try clear q128
                    obtain ⟨x39_3, rfl, HA, HK3, ⟨m3, rfl⟩⟩ := hrel
                    cases gk with
                    | zero => exact absurd HA.out (by simp [lampblackref01_IsGraph.l1])
                    | succ k3 =>
                      have H := HA.out
                      clear HA
                      simp only [lampblackref01_IsGraph.l1] at H
                      by_cases c14 : x39_3 < (l0.length : Int)
                      · rw [if_pos c14] at H
                        have c14b0 : decide (x39_3 < (l0.length : Int)) = true := decide_eq_true c14
                        clear c14
                        by_cases c15 : 0 ≤ x39_3
                        · rw [if_pos c15] at H
                          have c15b0 := eq_true c15
                          have c15b1 : decide (0 ≤ x39_3) = true := decide_eq_true c15
                          clear c15
                          obtain ⟨ji16, hji16⟩ : ∃ j_ : Int, (shr .i64 (rd l0 x10_1) x39_3) = j_ := ⟨_, rfl⟩
                          replace H : (if x39_3 < (l0.length : Int) then (if 0 ≤ x10_1 then (if (Go.bits .and .i64 (ji16) 1) = (Go.bits .and .i64 (shr .i64 (rd l0 x39_3) x10_1) 1) then (lampblackref01_IsGraph.l1 k3 l0 a1 x10_1 (rd l0 x10_1) l0 (l0.length : Int) x10_1 (l0.length : Int) (wrap64 (x39_3 + 1))) else (some false)) else (none)) else (none)) = some r := by first | (rw [hji16] at H; exact H) | (simp only [hji16] at H ⊢; exact H)
                          have hji16_ : ((rd l0 x10_1) / 2 ^ min x39_3.toNat 64) = ji16 := hji16
                          have hji16z : x39_3 ≤ 64 → ((rd l0 x10_1) / 2 ^ x39_3.toNat) = ji16 := shr_small hji16
                          by_cases c17 : x39_3 < (l0.length : Int)
                          · rw [if_pos c17] at H
                            have c17b0 : decide (x39_3 < (l0.length : Int)) = true := decide_eq_true c17
                            clear c17
                            by_cases c18 : 0 ≤ x10_1
                            · rw [if_pos c18] at H
                              have c18b0 := eq_true c18
                              have c18b1 : decide (0 ≤ x10_1) = true := decide_eq_true c18
                              clear c18
                              obtain ⟨ji19, hji19⟩ : ∃ j_ : Int, (shr .i64 (rd l0 x39_3) x10_1) = j_ := ⟨_, rfl⟩
                              replace H : (if (Go.bits .and .i64 (ji16) 1) = (Go.bits .and .i64 (ji19) 1) then (lampblackref01_IsGraph.l1 k3 l0 a1 x10_1 (rd l0 x10_1) l0 (l0.length : Int) x10_1 (l0.length : Int) (wrap64 (x39_3 + 1))) else (some false)) = some r := by first | (rw [hji19] at H; exact H) | (simp only [hji19] at H ⊢; exact H)
                              have hji19_ : ((rd l0 x39_3) / 2 ^ min x10_1.toNat 64) = ji19 := hji19
                              have hji19z : x10_1 ≤ 64 → ((rd l0 x39_3) / 2 ^ x10_1.toNat) = ji19 := shr_small hji19
                              by_cases c20 : (Go.bits .and .i64 (ji16) 1) = (Go.bits .and .i64 (ji19) 1)
                              · rw [if_pos c20] at H
                                have c20b0 : ((Go.bits .and .i64 (ji16) 1) == (Go.bits .and .i64 (ji19) 1)) = true := beq_iff_eq.mpr c20
                                have c20b1 : ((Go.bits .and .i64 (ji16) 1) != (Go.bits .and .i64 (ji19) 1)) = false := bne_eq_false_iff_eq.mpr c20
                                clear c20
                                have H' := Aside0.mk H
                                clear H
                                have p129 : 0 ≤ (x39_3 : Int) := of_decide_eq_true (by first | (with_reducible assumption) | assumption)
                                have q129 : x39_3 < (l0.length : Int) := of_decide_eq_true (by first | (with_reducible assumption) | assumption)
                                obtain ⟨ad129, e129, hx129_0⟩ := Kd.at_int HR0.out x39_3 p129 q129
                                obtain rfl : ad128 = ad129 := (by injection e129)
                                replace p129 := eq_true p129
                                replace q129 := eq_true q129
                                go_wp2
                                repeat (go_quiet (fail); try go_wp2)
                                go_roundg k3
                                case measure => have := HK1.out; have := HJ5.out; have := HK3.out; omega
                                case rel => exact ⟨(wrap64 (x39_3 + 1)), (by first | rfl | (simp; done) | (simp [*]; done)), H', ⟨by have := HK1.out; have := HJ5.out; have := HK3.out; omega⟩, by repeat (first | exact Drawn0.refl _ | apply Drawn0.step)⟩
                              · rw [if_neg c20] at H
                                have c20b0 : ((Go.bits .and .i64 (ji16) 1) == (Go.bits .and .i64 (ji19) 1)) = false := beq_eq_false_iff_ne.mpr c20
                                have c20b1 : ((Go.bits .and .i64 (ji16) 1) != (Go.bits .and .i64 (ji19) 1)) = true := bne_iff_ne.mpr c20
                                obtain rfl := Option.some.inj H
                                have p129 : 0 ≤ (x39_3 : Int) := of_decide_eq_true (by first | (with_reducible assumption) | assumption)
                                have q129 : x39_3 < (l0.length : Int) := of_decide_eq_true (by first | (with_reducible assumption) | assumption)
                                obtain ⟨ad129, e129, hx129_0⟩ := Kd.at_int HR0.out x39_3 p129 q129
                                obtain rfl : ad128 = ad129 := (by injection e129)
                                replace p129 := eq_true p129
                                replace q129 := eq_true q129
                                go_wp2
                                repeat (go_quiet (fail); try go_wp2)
                                go_ret
                                exact ⟨by first | rfl | (simp; done) | (simp only [← hji16, ← hji19] <;> (first | rfl | simp)) | (simp [*]; done), by repeat (first | exact Drawn0.refl _ | apply Drawn0.step)⟩
                            · rw [if_neg c18] at H
                              exact absurd H (by simp)
                          · rw [if_neg c17] at H
                            exact absurd H (by simp)
                        · rw [if_neg c15] at H
                          exact absurd H (by simp)
                      · rw [if_neg c14] at H
                        have c14b0 : decide (x39_3 < (l0.length : Int)) = false := decide_eq_false c14
                        clear c14
                        have H' := Aside0.mk H
                        clear H
                        go_wp2
                        repeat (go_quiet (fail); try go_wp2)
                        go_roundg k3
                        case measure => have := HK1.out; have := HJ5.out; have := HK3.out; omega
                        case rel => exact ⟨(wrap64 (x10_1 + 1)), (by first | rfl | (simp; done) | (simp [*]; done)), H', ⟨by have := HK1.out; have := HJ5.out; have := HK3.out; omega⟩, by repeat (first | exact Drawn0.refl _ | apply Drawn0.step)⟩
          · rw [if_neg c5] at H
            exact absurd H (by simp)
        · rw [if_neg c4] at H
          exact absurd H (by simp)
      · rw [if_neg c3] at H
        have c3b0 : decide (x10_1 < (l0.length : Int)) = false := decide_eq_false c3
        clear c3
        by_cases c21 : (l0.length : Int) ≥ 1
        · rw [if_pos c21] at H
          have c21b0 : decide (1 ≤ (l0.length : Int)) = true := decide_eq_true c21
          have c21b1 : decide (1 ≤ l0.length) = true := decide_eq_true (by omega)
          clear c21
          obtain rfl := Option.some.inj H
          go_wp2
          repeat (go_quiet (fail); try go_wp2)
          go_ret
          exact ⟨by first | rfl | (simp; done) | (simp [*]; done), by repeat (first | exact Drawn0.refl _ | apply Drawn0.step)⟩
        · rw [if_neg c21] at H
          have c21b0 : decide (1 ≤ (l0.length : Int)) = false := decide_eq_false c21
          have c21b1 : decide (1 ≤ l0.length) = false := decide_eq_false (by omega)
          clear c21
          obtain rfl := Option.some.inj H
          go_wp2
          repeat (go_quiet (fail); try go_wp2)
          go_ret
          exact ⟨by first | rfl | (simp; done) | (simp [*]; done), by repeat (first | exact Drawn0.refl _ | apply Drawn0.step)⟩

end Go.Proofs.YtijfddobandcdaaDoor.X
end
section
-- by ownprint.py (wip/tool), over the kit's print
namespace Go.Proofs.YtijfddobandcdaaDoor.X
open Go.RowKit Go.Proofs.YtijfddobandcdaaDoorW.PrintWords Go.Proofs.YtijfddobandcdaaDoorW.PrintLast Go.Proofs.YtijfddobandcdaaDoorW.PrintMore
attribute [local go_sem] max2_int min2_int max_two min_two max_three min_three max_four min_four
set_option linter.unusedVariables false
set_option linter.unusedSimpArgs false

/-! ### lampblackref03_Valid: function 19 -/
def lampblackref03_Valid.f (k : Nat) (l0 : List Int) : Option (Bool) := (lampblackref01_IsGraph.f k l0 7).bind fun t130 => (some t130)
theorem lampblackref03_Valid.mono : ∀ a0 k, LeO (lampblackref03_Valid.f k a0) (lampblackref03_Valid.f (k + 1) a0) := by
  intro a0 k
  unfold lampblackref03_Valid.f
  repeat' first
      | (with_reducible exact lampblackref01_IsGraph.mono _ _ _)
      | (with_reducible exact LeO.refl _)
      | (with_reducible exact LeO.none _)
      | (with_reducible refine LeO.ite ?_ ?_)
      | (with_reducible refine LeO.bind ?_ (fun _ => ?_))
      | exact lampblackref01_IsGraph.mono _ _ _
      | exact LeO.none _
      | refine LeO.ite ?_ ?_
      | refine LeO.bind ?_ (fun _ => ?_)
set_option maxHeartbeats 8000000 in
set_option maxRecDepth 100000 in
theorem lampblackref03_Valid.calls (k : Nat) (A0 : Option Addr) (c0 : Nat) (l0 : List Int) (r : Bool) (w : World) (hr0 : Kd.C (Kd.int .i64) w A0 l0.length l0) (hc0 : l0.length ≤ c0) (h : lampblackref03_Valid.f k l0 = some r) :
    Calls Tryd.prog 19 #[.slice A0 l0.length c0] w fun e w' => e = .returned (.bool r) ∧ Drawn0 w w' := by
  have HR0 := Aside0.mk hr0
  have HC0 := Aside0.mk hc0
  clear hr0 hc0
  have H : ((lampblackref01_IsGraph.f k l0 7).bind fun t130 => (some t130)) = some r := h
  clear h
  replace H := Option.bind_eq_some_iff.mp H
  obtain ⟨t130, A20, H⟩ := H
  replace H : (some t130) = some r := H
  have A2 := Aside0.mk A20
  clear A20
  obtain rfl := Option.some.inj H
  go_enter Tryd.func19, Tryd.ntmps19
  go_wp2_with (first | ((with_reducible refine gate_callee (f := 48) rfl ?_); refine goesL_ (some 4) rfl rfl Tryd.func48 (by kernel_rfl) rfl #[.slice A0 l0.length c0, .int .i64 7] rfl (by (try simp only [List.map_toArray, List.map_cons, List.map_nil]); first | done | rfl | (simp only [List.length_drop, List.length_take]; rfl)) ?_; (with_reducible refine (lampblackref01_IsGraph.calls k _ _ l0 7 t130 _ ?side1 ?side2 A2.out).mono ?_); (case side1 => repeat (first | exact HR0.out | (with_reducible refine Kd.C_alloc ?_ _) | (with_reducible refine Kd.C_drewN ?_ _) | (with_reducible refine Kd.C_drew ?_))); (case side2 => exact HC0.out); rintro e w' ⟨rfl, ⟨nd, rfl⟩⟩; refine ⟨_, rfl, ?_⟩))
  go_ret
  exact ⟨by first | rfl | (simp; done) | (simp [*]; done), by repeat (first | exact Drawn0.refl _ | apply Drawn0.step)⟩

end Go.Proofs.YtijfddobandcdaaDoor.X
end
section
-- by ownprint.py (wip/tool), over the kit's print
namespace Go.Proofs.YtijfddobandcdaaDoor.X
open Go.RowKit Go.Proofs.YtijfddobandcdaaDoorW.PrintWords Go.Proofs.YtijfddobandcdaaDoorW.PrintLast Go.Proofs.YtijfddobandcdaaDoorW.PrintMore
attribute [local go_sem] max2_int min2_int max_two min_two max_three min_three max_four min_four
set_option linter.unusedVariables false
set_option linter.unusedSimpArgs false

/-! ### slices_Max_int_int: function 76 -/
def slices_Max_int_int.l0 : Nat → List Int → Int → Int → Option (Int)
  | 0, _, _, _ => none
  | k + 1, x0, x3, x4 => if x4 < (x0.length : Int) then (if 0 ≤ x4 then (slices_Max_int_int.l0 k x0 (mx x3 (rd x0 x4)) (wrap64 (x4 + 1))) else (none)) else (some x3)
def slices_Max_int_int.f (k : Nat) (l0 : List Int) : Option (Int) := if (l0.length : Int) < 1 then (none) else (if 0 < (l0.length : Int) then (slices_Max_int_int.l0 k l0 (rd l0 0) 1) else (none))
theorem slices_Max_int_int.mono_l : ∀ k, (∀ y0 y1 y2, LeO (slices_Max_int_int.l0 k y0 y1 y2) (slices_Max_int_int.l0 (k + 1) y0 y1 y2))
  | 0 => fun _ _ _ r h => by simp [slices_Max_int_int.l0] at h
  | k + 1 => by
    have ih0 := slices_Max_int_int.mono_l k
    · intro y0 y1 y2
      unfold slices_Max_int_int.l0
      repeat' first
      | (with_reducible exact ih0 _ _ _)
      | (with_reducible exact LeO.refl _)
      | (with_reducible exact LeO.none _)
      | (with_reducible refine LeO.ite ?_ ?_)
      | (with_reducible refine LeO.bind ?_ (fun _ => ?_))
      | exact ih0 _ _ _
      | exact LeO.none _
      | refine LeO.ite ?_ ?_
      | refine LeO.bind ?_ (fun _ => ?_)
theorem slices_Max_int_int.mono : ∀ a0 k, LeO (slices_Max_int_int.f k a0) (slices_Max_int_int.f (k + 1) a0) := by
  intro a0 k
  have ih0 := slices_Max_int_int.mono_l k
  unfold slices_Max_int_int.f
  repeat' first
      | (with_reducible exact ih0 _ _ _)
      | (with_reducible exact LeO.refl _)
      | (with_reducible exact LeO.none _)
      | (with_reducible refine LeO.ite ?_ ?_)
      | (with_reducible refine LeO.bind ?_ (fun _ => ?_))
      | exact ih0 _ _ _
      | exact LeO.none _
      | refine LeO.ite ?_ ?_
      | refine LeO.bind ?_ (fun _ => ?_)
set_option maxHeartbeats 8000000 in
set_option maxRecDepth 100000 in
theorem slices_Max_int_int.calls (k : Nat) (A0 : Option Addr) (c0 : Nat) (l0 : List Int) (r : Int) (w : World) (hr0 : Kd.C (Kd.int .i64) w A0 l0.length l0) (hc0 : l0.length ≤ c0) (h : slices_Max_int_int.f k l0 = some r) :
    Calls Tryd.prog 76 #[.slice A0 l0.length c0] w fun e w' => e = .returned (.int .i64 r) ∧ Below w.heap.size w w' := by
  have HR0 := Aside0.mk hr0
  have HC0 := Aside0.mk hc0
  clear hr0 hc0
  have HB := Aside0.mk (Below.refl w.heap.size w)
  have H : (if (l0.length : Int) < 1 then (none) else (if 0 < (l0.length : Int) then (slices_Max_int_int.l0 k l0 (rd l0 0) 1) else (none))) = some r := h
  clear h
  by_cases c2 : (l0.length : Int) < 1
  · rw [if_pos c2] at H
    exact absurd H (by simp)
  · rw [if_neg c2] at H
    have c2b0 : decide ((l0.length : Int) < 1) = false := decide_eq_false c2
    have c2b1 : decide (l0.length < 1) = false := decide_eq_false (by omega)
    clear c2
    by_cases c3 : 0 < (l0.length : Int)
    · rw [if_pos c3] at H
      have c3b0 : decide (0 < (l0.length : Int)) = true := decide_eq_true c3
      have c3b1 : decide (0 < l0.length) = true := decide_eq_true (by omega)
      clear c3
      have H' := Aside0.mk H
      clear H
      have p344 : 0 ≤ (0 : Int) := (by omega)
      have q344 : 0 < (l0.length : Int) := of_decide_eq_true (by first | (with_reducible assumption) | assumption)
      obtain ⟨ad344, e344, hx344_0⟩ := Kd.at_int HR0.out 0 p344 q344
      cases e344
      have qi344 : (0 < l0.length) = True := eq_true (by omega)
      (try rw [show ((0 : Int)).toNat = 0 from rfl] at hx344_0)
      (try rw [Addr.add_zero'] at hx344_0)
      replace p344 := eq_true p344
      replace q344 := eq_true q344
      go_enter Tryd.func76, Tryd.ntmps76
      go_wp2
      go_loopg [3, 4] k (fun kq v3 v4 w' => ∃ (x3_1 : Int) (x4_1 : Int), v3 = .int .i64 x3_1 ∧ v4 = .int .i64 x4_1 ∧ Aside0 (slices_Max_int_int.l0 kq l0 x3_1 x4_1 = some r) ∧ Aside0 (kq ≤ k) ∧ Aside0 (Below w.heap.size w w'))
      case atStart => exact ⟨(rd l0 0), (1), (by first | rfl | (simp; done) | (simp [*]; done)), (by first | rfl | (simp; done) | (simp [*]; done)), H', ⟨Nat.le_refl _⟩, ⟨by repeat (first | (with_reducible first | exact HB.out | apply below_alloc | apply pw_below_drewN | apply below_drew1) | exact HB.out)⟩⟩
      case round =>
        clear H'
        try clear c2
        try clear c2b0
        try clear c2b1
        try clear p2
        try clear c3
        try clear c3b0
        try clear c3b1
        try clear p3
        try clear q3
        try clear hx3
        try clear qi3
        try clear hx344_0
        try clear p344
        try clear q344
        obtain ⟨x3_1, x4_1, rfl, rfl, HA, HK1, HB⟩ := hrel
        cases gk with
        | zero => exact absurd HA.out (by simp [slices_Max_int_int.l0])
        | succ k1 =>
          have H := HA.out
          clear HA
          simp only [slices_Max_int_int.l0] at H
          by_cases c4 : x4_1 < (l0.length : Int)
          · rw [if_pos c4] at H
            have c4b0 : decide (x4_1 < (l0.length : Int)) = true := decide_eq_true c4
            clear c4
            by_cases c5 : 0 ≤ x4_1
            · rw [if_pos c5] at H
              have c5b0 : decide (0 ≤ x4_1) = true := decide_eq_true c5
              clear c5
              obtain ⟨ji6, hji6⟩ : ∃ j_ : Int, (mx x3_1 (rd l0 x4_1)) = j_ := ⟨_, rfl⟩
              replace H : (slices_Max_int_int.l0 k1 l0 ji6 (wrap64 (x4_1 + 1))) = some r := by first | (rw [hji6] at H; exact H) | (simp only [hji6] at H ⊢; exact H)
              have hji6_ : (if x3_1 < (rd l0 x4_1) then (rd l0 x4_1) else x3_1) = ji6 := hji6
              have H' := Aside0.mk H
              clear H
              have p345 : 0 ≤ (x4_1 : Int) := of_decide_eq_true (by first | (with_reducible assumption) | assumption)
              have q345 : x4_1 < (l0.length : Int) := of_decide_eq_true (by first | (with_reducible assumption) | assumption)
              obtain ⟨ad345, e345, hx345_0⟩ := Kd.at_int HR0.out x4_1 p345 q345
              obtain rfl : ad344 = ad345 := (by injection e345)
              replace hx345_0 := (HB.out.cell (World.block_lt_of_cell? w _ hx345_0)).trans hx345_0
              replace p345 := eq_true p345
              replace q345 := eq_true q345
              go_wp2
              go_roundg k1
              case measure => have := HK1.out; omega
              case rel => exact ⟨(ji6), (wrap64 (x4_1 + 1)), (by first | rfl | (simp; done) | (simp only [← hji6] <;> (first | rfl | simp)) | (simp [*]; done)), (by first | rfl | (simp; done) | (simp [*]; done)), H', ⟨by have := HK1.out; omega⟩, ⟨by repeat (first | (with_reducible first | exact HB.out | apply below_alloc | apply pw_below_drewN | apply below_drew1) | exact HB.out)⟩⟩
            · rw [if_neg c5] at H
              exact absurd H (by simp)
          · rw [if_neg c4] at H
            have c4b0 : decide (x4_1 < (l0.length : Int)) = false := decide_eq_false c4
            clear c4
            obtain rfl := Option.some.inj H
            go_wp2
            go_ret
            exact ⟨by first | rfl | (simp [errW_none, errW_some] <;> rfl) | (simp [*, errW_none, errW_some] <;> rfl), by repeat (first | (with_reducible first | exact HB.out | apply below_alloc | apply pw_below_drewN | apply below_drew1) | exact HB.out)⟩
    · rw [if_neg c3] at H
      exact absurd H (by simp)

end Go.Proofs.YtijfddobandcdaaDoor.X
end
section
-- by ownprint.py (wip/tool), over the kit's print
namespace Go.Proofs.YtijfddobandcdaaDoor.X
open Go.RowKit Go.Proofs.YtijfddobandcdaaDoorW.PrintWords Go.Proofs.YtijfddobandcdaaDoorW.PrintLast Go.Proofs.YtijfddobandcdaaDoorW.PrintMore
attribute [local go_sem] max2_int min2_int max_two min_two max_three min_three max_four min_four
set_option linter.unusedVariables false
set_option linter.unusedSimpArgs false

/-! ### slices_Min_int_int: function 75 -/
def slices_Min_int_int.l0 : Nat → List Int → Int → Int → Option (Int)
  | 0, _, _, _ => none
  | k + 1, x0, x3, x4 => if x4 < (x0.length : Int) then (if 0 ≤ x4 then (slices_Min_int_int.l0 k x0 (mn x3 (rd x0 x4)) (wrap64 (x4 + 1))) else (none)) else (some x3)
def slices_Min_int_int.f (k : Nat) (l0 : List Int) : Option (Int) := if (l0.length : Int) < 1 then (none) else (if 0 < (l0.length : Int) then (slices_Min_int_int.l0 k l0 (rd l0 0) 1) else (none))
theorem slices_Min_int_int.mono_l : ∀ k, (∀ y0 y1 y2, LeO (slices_Min_int_int.l0 k y0 y1 y2) (slices_Min_int_int.l0 (k + 1) y0 y1 y2))
  | 0 => fun _ _ _ r h => by simp [slices_Min_int_int.l0] at h
  | k + 1 => by
    have ih0 := slices_Min_int_int.mono_l k
    · intro y0 y1 y2
      unfold slices_Min_int_int.l0
      repeat' first
      | (with_reducible exact ih0 _ _ _)
      | (with_reducible exact LeO.refl _)
      | (with_reducible exact LeO.none _)
      | (with_reducible refine LeO.ite ?_ ?_)
      | (with_reducible refine LeO.bind ?_ (fun _ => ?_))
      | exact ih0 _ _ _
      | exact LeO.none _
      | refine LeO.ite ?_ ?_
      | refine LeO.bind ?_ (fun _ => ?_)
theorem slices_Min_int_int.mono : ∀ a0 k, LeO (slices_Min_int_int.f k a0) (slices_Min_int_int.f (k + 1) a0) := by
  intro a0 k
  have ih0 := slices_Min_int_int.mono_l k
  unfold slices_Min_int_int.f
  repeat' first
      | (with_reducible exact ih0 _ _ _)
      | (with_reducible exact LeO.refl _)
      | (with_reducible exact LeO.none _)
      | (with_reducible refine LeO.ite ?_ ?_)
      | (with_reducible refine LeO.bind ?_ (fun _ => ?_))
      | exact ih0 _ _ _
      | exact LeO.none _
      | refine LeO.ite ?_ ?_
      | refine LeO.bind ?_ (fun _ => ?_)
set_option maxHeartbeats 8000000 in
set_option maxRecDepth 100000 in
theorem slices_Min_int_int.calls (k : Nat) (A0 : Option Addr) (c0 : Nat) (l0 : List Int) (r : Int) (w : World) (hr0 : Kd.C (Kd.int .i64) w A0 l0.length l0) (hc0 : l0.length ≤ c0) (h : slices_Min_int_int.f k l0 = some r) :
    Calls Tryd.prog 75 #[.slice A0 l0.length c0] w fun e w' => e = .returned (.int .i64 r) ∧ Below w.heap.size w w' := by
  have HR0 := Aside0.mk hr0
  have HC0 := Aside0.mk hc0
  clear hr0 hc0
  have HB := Aside0.mk (Below.refl w.heap.size w)
  have H : (if (l0.length : Int) < 1 then (none) else (if 0 < (l0.length : Int) then (slices_Min_int_int.l0 k l0 (rd l0 0) 1) else (none))) = some r := h
  clear h
  by_cases c2 : (l0.length : Int) < 1
  · rw [if_pos c2] at H
    exact absurd H (by simp)
  · rw [if_neg c2] at H
    have c2b0 : decide ((l0.length : Int) < 1) = false := decide_eq_false c2
    have c2b1 : decide (l0.length < 1) = false := decide_eq_false (by omega)
    clear c2
    by_cases c3 : 0 < (l0.length : Int)
    · rw [if_pos c3] at H
      have c3b0 : decide (0 < (l0.length : Int)) = true := decide_eq_true c3
      have c3b1 : decide (0 < l0.length) = true := decide_eq_true (by omega)
      clear c3
      have H' := Aside0.mk H
      clear H
      have p342 : 0 ≤ (0 : Int) := (by omega)
      have q342 : 0 < (l0.length : Int) := of_decide_eq_true (by first | (with_reducible assumption) | assumption)
      obtain ⟨ad342, e342, hx342_0⟩ := Kd.at_int HR0.out 0 p342 q342
      cases e342
      have qi342 : (0 < l0.length) = True := eq_true (by omega)
      (try rw [show ((0 : Int)).toNat = 0 from rfl] at hx342_0)
      (try rw [Addr.add_zero'] at hx342_0)
      replace p342 := eq_true p342
      replace q342 := eq_true q342
      go_enter Tryd.func75, Tryd.ntmps75
      go_wp2
      go_loopg [3, 4] k (fun kq v3 v4 w' => ∃ (x3_1 : Int) (x4_1 : Int), v3 = .int .i64 x3_1 ∧ v4 = .int .i64 x4_1 ∧ Aside0 (slices_Min_int_int.l0 kq l0 x3_1 x4_1 = some r) ∧ Aside0 (kq ≤ k) ∧ Aside0 (Below w.heap.size w w'))
      case atStart => exact ⟨(rd l0 0), (1), (by first | rfl | (simp; done) | (simp [*]; done)), (by first | rfl | (simp; done) | (simp [*]; done)), H', ⟨Nat.le_refl _⟩, ⟨by repeat (first | (with_reducible first | exact HB.out | apply below_alloc | apply pw_below_drewN | apply below_drew1) | exact HB.out)⟩⟩
      case round =>
        clear H'
        try clear c2
        try clear c2b0
        try clear c2b1
        try clear p2
        try clear c3
        try clear c3b0
        try clear c3b1
        try clear p3
        try clear q3
        try clear hx3
        try clear qi3
        try clear hx342_0
        try clear p342
        try clear q342
        obtain ⟨x3_1, x4_1, rfl, rfl, HA, HK1, HB⟩ := hrel
        cases gk with
        | zero => exact absurd HA.out (by simp [slices_Min_int_int.l0])
        | succ k1 =>
          have H := HA.out
          clear HA
          simp only [slices_Min_int_int.l0] at H
          by_cases c4 : x4_1 < (l0.length : Int)
          · rw [if_pos c4] at H
            have c4b0 : decide (x4_1 < (l0.length : Int)) = true := decide_eq_true c4
            clear c4
            by_cases c5 : 0 ≤ x4_1
            · rw [if_pos c5] at H
              have c5b0 : decide (0 ≤ x4_1) = true := decide_eq_true c5
              clear c5
              obtain ⟨ji6, hji6⟩ : ∃ j_ : Int, (mn x3_1 (rd l0 x4_1)) = j_ := ⟨_, rfl⟩
              replace H : (slices_Min_int_int.l0 k1 l0 ji6 (wrap64 (x4_1 + 1))) = some r := by first | (rw [hji6] at H; exact H) | (simp only [hji6] at H ⊢; exact H)
              have hji6_ : (if (rd l0 x4_1) < x3_1 then (rd l0 x4_1) else x3_1) = ji6 := hji6
              have H' := Aside0.mk H
              clear H
              have p343 : 0 ≤ (x4_1 : Int) := of_decide_eq_true (by first | (with_reducible assumption) | assumption)
              have q343 : x4_1 < (l0.length : Int) := of_decide_eq_true (by first | (with_reducible assumption) | assumption)
              obtain ⟨ad343, e343, hx343_0⟩ := Kd.at_int HR0.out x4_1 p343 q343
              obtain rfl : ad342 = ad343 := (by injection e343)
              replace hx343_0 := (HB.out.cell (World.block_lt_of_cell? w _ hx343_0)).trans hx343_0
              replace p343 := eq_true p343
              replace q343 := eq_true q343
              go_wp2
              go_roundg k1
              case measure => have := HK1.out; omega
              case rel => exact ⟨(ji6), (wrap64 (x4_1 + 1)), (by first | rfl | (simp; done) | (simp only [← hji6] <;> (first | rfl | simp)) | (simp [*]; done)), (by first | rfl | (simp; done) | (simp [*]; done)), H', ⟨by have := HK1.out; omega⟩, ⟨by repeat (first | (with_reducible first | exact HB.out | apply below_alloc | apply pw_below_drewN | apply below_drew1) | exact HB.out)⟩⟩
            · rw [if_neg c5] at H
              exact absurd H (by simp)
          · rw [if_neg c4] at H
            have c4b0 : decide (x4_1 < (l0.length : Int)) = false := decide_eq_false c4
            clear c4
            obtain rfl := Option.some.inj H
            go_wp2
            go_ret
            exact ⟨by first | rfl | (simp [errW_none, errW_some] <;> rfl) | (simp [*, errW_none, errW_some] <;> rfl), by repeat (first | (with_reducible first | exact HB.out | apply below_alloc | apply pw_below_drewN | apply below_drew1) | exact HB.out)⟩
    · rw [if_neg c3] at H
      exact absurd H (by simp)

end Go.Proofs.YtijfddobandcdaaDoor.X
end
section
-- by ownprint.py (wip/tool), over the kit's print
namespace Go.Proofs.YtijfddobandcdaaDoor.X
open Go.RowKit Go.Proofs.YtijfddobandcdaaDoorW.PrintWords Go.Proofs.YtijfddobandcdaaDoorW.PrintLast Go.Proofs.YtijfddobandcdaaDoorW.PrintMore
attribute [local go_sem] max2_int min2_int max_two min_two max_three min_three max_four min_four
set_option linter.unusedVariables false
set_option linter.unusedSimpArgs false

/-! ### sweep_town_isPath: function 62 -/
mutual
def sweep_town_isPath.j0 : Nat → List Int → List Int → Bool → Option (Bool)
  | 0, _, _, _ => none
  | k + 1, x0, x1, x29 => if x29 = true then (some false) else (sweep_town_isPath.l0 k x1 x0 (x0.length : Int) 0)
def sweep_town_isPath.l0 : Nat → List Int → List Int → Int → Int → Option (Bool)
  | 0, _, _, _, _ => none
  | k + 1, x1, x30, x31, x32 => if x32 < x31 then (if 0 ≤ x32 then (if x32 < (x30.length : Int) then (sweep_town_isPath.l1 k x1 x32 (rd x30 x32) 0 x30 x31 x32 x1 (x1.length : Int) 0) else (none)) else (none)) else (some true)
def sweep_town_isPath.l1 : Nat → List Int → Int → Int → Int → List Int → Int → Int → List Int → Int → Int → Option (Bool)
  | 0, _, _, _, _, _, _, _, _, _, _ => none
  | k + 1, x1, x5, x6, x7, x30, x31, x32, x37, x38, x39 => if x39 < x38 then (if 0 ≤ x39 then (if x39 < (x37.length : Int) then (if 0 ≤ x5 then (if (Go.bits .and .i64 (shr .i64 (rd x37 x39) x5) 1) = 1 then (if x39 = 0 then (sweep_town_isPath.j3 k x1 x5 x6 x7 (rd x37 x39) x30 x31 x32 x37 x38 x39 true) else (if 0 ≤ (wrap64 (x39 - 1)) then (if (wrap64 (x39 - 1)) < (x1.length : Int) then (sweep_town_isPath.j3 k x1 x5 x6 x7 (rd x37 x39) x30 x31 x32 x37 x38 x39 ((Go.bits .and .i64 (shr .i64 (rd x1 (wrap64 (x39 - 1))) x5) 1) == 0)) else (none)) else (none))) else (sweep_town_isPath.j3 k x1 x5 x6 x7 (rd x37 x39) x30 x31 x32 x37 x38 x39 false)) else (none)) else (none)) else (none)) else (if x7 = 1 then (if x6 = 0 then (sweep_town_isPath.l0 k x1 x30 x31 (wrap64 (x32 + 1))) else (some false)) else (some false))
def sweep_town_isPath.j3 : Nat → List Int → Int → Int → Int → Int → List Int → Int → Int → List Int → Int → Int → Bool → Option (Bool)
  | 0, _, _, _, _, _, _, _, _, _, _, _, _ => none
  | k + 1, x1, x5, x6, x7, x9, x30, x31, x32, x37, x38, x39, x63 => if x63 = true then (if 0 ≤ x5 then (if (Go.bits .and .i64 (shr .i64 x9 x5) 1) = 1 then (sweep_town_isPath.l1 k x1 x5 (Go.bits .andNot .i64 x6 x9) (wrap64 (x7 + 1)) x30 x31 x32 x37 x38 (wrap64 (x39 + 1))) else (sweep_town_isPath.l1 k x1 x5 x6 (wrap64 (x7 + 1)) x30 x31 x32 x37 x38 (wrap64 (x39 + 1)))) else (none)) else (if 0 ≤ x5 then (if (Go.bits .and .i64 (shr .i64 x9 x5) 1) = 1 then (sweep_town_isPath.l1 k x1 x5 (Go.bits .andNot .i64 x6 x9) x7 x30 x31 x32 x37 x38 (wrap64 (x39 + 1))) else (sweep_town_isPath.l1 k x1 x5 x6 x7 x30 x31 x32 x37 x38 (wrap64 (x39 + 1)))) else (none))
end
def sweep_town_isPath.f (k : Nat) (l0 : List Int) (l1 : List Int) : Option (Bool) := if (l1.length : Int) < 1 then (sweep_town_isPath.j0 k l0 l1 true) else (if (l1.length : Int) > 30 then (sweep_town_isPath.j0 k l0 l1 true) else ((slices_Min_int_int.f k l1).bind fun t346 => (if t346 < 0 then (sweep_town_isPath.j0 k l0 l1 true) else ((slices_Max_int_int.f k l1).bind fun t347 => ((sweep_town_all.f l0).bind fun t348 => (sweep_town_isPath.j0 k l0 l1 (decide (t347 > t348))))))))
theorem sweep_town_isPath.mono_l : ∀ k, (∀ y0 y1 y2, LeO (sweep_town_isPath.j0 k y0 y1 y2) (sweep_town_isPath.j0 (k + 1) y0 y1 y2)) ∧ (∀ y0 y1 y2 y3, LeO (sweep_town_isPath.l0 k y0 y1 y2 y3) (sweep_town_isPath.l0 (k + 1) y0 y1 y2 y3)) ∧ (∀ y0 y1 y2 y3 y4 y5 y6 y7 y8 y9, LeO (sweep_town_isPath.l1 k y0 y1 y2 y3 y4 y5 y6 y7 y8 y9) (sweep_town_isPath.l1 (k + 1) y0 y1 y2 y3 y4 y5 y6 y7 y8 y9)) ∧ (∀ y0 y1 y2 y3 y4 y5 y6 y7 y8 y9 y10 y11, LeO (sweep_town_isPath.j3 k y0 y1 y2 y3 y4 y5 y6 y7 y8 y9 y10 y11) (sweep_town_isPath.j3 (k + 1) y0 y1 y2 y3 y4 y5 y6 y7 y8 y9 y10 y11))
  | 0 => ⟨fun _ _ _ r h => by simp [sweep_town_isPath.j0] at h, fun _ _ _ _ r h => by simp [sweep_town_isPath.l0] at h, fun _ _ _ _ _ _ _ _ _ _ r h => by simp [sweep_town_isPath.l1] at h, fun _ _ _ _ _ _ _ _ _ _ _ _ r h => by simp [sweep_town_isPath.j3] at h⟩
  | k + 1 => by
    obtain ⟨ih0, ih1, ih2, ih3⟩ := sweep_town_isPath.mono_l k
    refine ⟨?_, ?_, ?_, ?_⟩
    · intro y0 y1 y2
      unfold sweep_town_isPath.j0
      repeat' first
      | (with_reducible exact ih0 _ _ _)
      | (with_reducible exact ih1 _ _ _ _)
      | (with_reducible exact ih2 _ _ _ _ _ _ _ _ _ _)
      | (with_reducible exact ih3 _ _ _ _ _ _ _ _ _ _ _ _)
      | (with_reducible exact slices_Max_int_int.mono _ _)
      | (with_reducible exact slices_Min_int_int.mono _ _)
      | (with_reducible exact LeO.refl _)
      | (with_reducible exact LeO.none _)
      | (with_reducible refine LeO.ite ?_ ?_)
      | (with_reducible refine LeO.bind ?_ (fun _ => ?_))
      | exact ih0 _ _ _
      | exact ih1 _ _ _ _
      | exact ih2 _ _ _ _ _ _ _ _ _ _
      | exact ih3 _ _ _ _ _ _ _ _ _ _ _ _
      | exact slices_Max_int_int.mono _ _
      | exact slices_Min_int_int.mono _ _
      | exact LeO.none _
      | refine LeO.ite ?_ ?_
      | refine LeO.bind ?_ (fun _ => ?_)
    · intro y0 y1 y2 y3
      unfold sweep_town_isPath.l0
      repeat' first
      | (with_reducible exact ih0 _ _ _)
      | (with_reducible exact ih1 _ _ _ _)
      | (with_reducible exact ih2 _ _ _ _ _ _ _ _ _ _)
      | (with_reducible exact ih3 _ _ _ _ _ _ _ _ _ _ _ _)
      | (with_reducible exact slices_Max_int_int.mono _ _)
      | (with_reducible exact slices_Min_int_int.mono _ _)
      | (with_reducible exact LeO.refl _)
      | (with_reducible exact LeO.none _)
      | (with_reducible refine LeO.ite ?_ ?_)
      | (with_reducible refine LeO.bind ?_ (fun _ => ?_))
      | exact ih0 _ _ _
      | exact ih1 _ _ _ _
      | exact ih2 _ _ _ _ _ _ _ _ _ _
      | exact ih3 _ _ _ _ _ _ _ _ _ _ _ _
      | exact slices_Max_int_int.mono _ _
      | exact slices_Min_int_int.mono _ _
      | exact LeO.none _
      | refine LeO.ite ?_ ?_
      | refine LeO.bind ?_ (fun _ => ?_)
    · intro y0 y1 y2 y3 y4 y5 y6 y7 y8 y9
      unfold sweep_town_isPath.l1
      repeat' first
      | (with_reducible exact ih0 _ _ _)
      | (with_reducible exact ih1 _ _ _ _)
      | (with_reducible exact ih2 _ _ _ _ _ _ _ _ _ _)
      | (with_reducible exact ih3 _ _ _ _ _ _ _ _ _ _ _ _)
      | (with_reducible exact slices_Max_int_int.mono _ _)
      | (with_reducible exact slices_Min_int_int.mono _ _)
      | (with_reducible exact LeO.refl _)
      | (with_reducible exact LeO.none _)
      | (with_reducible refine LeO.ite ?_ ?_)
      | (with_reducible refine LeO.bind ?_ (fun _ => ?_))
      | exact ih0 _ _ _
      | exact ih1 _ _ _ _
      | exact ih2 _ _ _ _ _ _ _ _ _ _
      | exact ih3 _ _ _ _ _ _ _ _ _ _ _ _
      | exact slices_Max_int_int.mono _ _
      | exact slices_Min_int_int.mono _ _
      | exact LeO.none _
      | refine LeO.ite ?_ ?_
      | refine LeO.bind ?_ (fun _ => ?_)
    · intro y0 y1 y2 y3 y4 y5 y6 y7 y8 y9 y10 y11
      unfold sweep_town_isPath.j3
      repeat' first
      | (with_reducible exact ih0 _ _ _)
      | (with_reducible exact ih1 _ _ _ _)
      | (with_reducible exact ih2 _ _ _ _ _ _ _ _ _ _)
      | (with_reducible exact ih3 _ _ _ _ _ _ _ _ _ _ _ _)
      | (with_reducible exact slices_Max_int_int.mono _ _)
      | (with_reducible exact slices_Min_int_int.mono _ _)
      | (with_reducible exact LeO.refl _)
      | (with_reducible exact LeO.none _)
      | (with_reducible refine LeO.ite ?_ ?_)
      | (with_reducible refine LeO.bind ?_ (fun _ => ?_))
      | exact ih0 _ _ _
      | exact ih1 _ _ _ _
      | exact ih2 _ _ _ _ _ _ _ _ _ _
      | exact ih3 _ _ _ _ _ _ _ _ _ _ _ _
      | exact slices_Max_int_int.mono _ _
      | exact slices_Min_int_int.mono _ _
      | exact LeO.none _
      | refine LeO.ite ?_ ?_
      | refine LeO.bind ?_ (fun _ => ?_)
theorem sweep_town_isPath.mono : ∀ a0 a1 k, LeO (sweep_town_isPath.f k a0 a1) (sweep_town_isPath.f (k + 1) a0 a1) := by
  intro a0 a1 k
  obtain ⟨ih0, ih1, ih2, ih3⟩ := sweep_town_isPath.mono_l k
  unfold sweep_town_isPath.f
  repeat' first
      | (with_reducible exact ih0 _ _ _)
      | (with_reducible exact ih1 _ _ _ _)
      | (with_reducible exact ih2 _ _ _ _ _ _ _ _ _ _)
      | (with_reducible exact ih3 _ _ _ _ _ _ _ _ _ _ _ _)
      | (with_reducible exact slices_Max_int_int.mono _ _)
      | (with_reducible exact slices_Min_int_int.mono _ _)
      | (with_reducible exact LeO.refl _)
      | (with_reducible exact LeO.none _)
      | (with_reducible refine LeO.ite ?_ ?_)
      | (with_reducible refine LeO.bind ?_ (fun _ => ?_))
      | exact ih0 _ _ _
      | exact ih1 _ _ _ _
      | exact ih2 _ _ _ _ _ _ _ _ _ _
      | exact ih3 _ _ _ _ _ _ _ _ _ _ _ _
      | exact slices_Max_int_int.mono _ _
      | exact slices_Min_int_int.mono _ _
      | exact LeO.none _
      | refine LeO.ite ?_ ?_
      | refine LeO.bind ?_ (fun _ => ?_)
set_option maxHeartbeats 8000000 in
set_option maxRecDepth 100000 in
theorem sweep_town_isPath.calls (k : Nat) (A0 : Option Addr) (c0 : Nat) (l0 : List Int) (A1 : Option Addr) (c1 : Nat) (l1 : List Int) (r : Bool) (w : World) (hr0 : Kd.C (Kd.int .i64) w A0 l0.length l0) (hc0 : l0.length ≤ c0) (hr1 : Kd.C (Kd.int .i64) w A1 l1.length l1) (hc1 : l1.length ≤ c1) (h : sweep_town_isPath.f k l0 l1 = some r) :
    Calls Tryd.prog 62 #[.slice A0 l0.length c0, .slice A1 l1.length c1] w fun e w' => e = .returned (.bool r) ∧ Below w.heap.size w w' := by
  have HR0 := Aside0.mk hr0
  have HC0 := Aside0.mk hc0
  clear hr0 hc0
  have HR1 := Aside0.mk hr1
  have HC1 := Aside0.mk hc1
  clear hr1 hc1
  have HB := Aside0.mk (Below.refl w.heap.size w)
  have H : (if (l1.length : Int) < 1 then (sweep_town_isPath.j0 k l0 l1 true) else (if (l1.length : Int) > 30 then (sweep_town_isPath.j0 k l0 l1 true) else ((slices_Min_int_int.f k l1).bind fun t346 => (if t346 < 0 then (sweep_town_isPath.j0 k l0 l1 true) else ((slices_Max_int_int.f k l1).bind fun t347 => ((sweep_town_all.f l0).bind fun t348 => (sweep_town_isPath.j0 k l0 l1 (decide (t347 > t348))))))))) = some r := h
  clear h
  have HC3 := Aside0.mk H
  clear H
  go_enter Tryd.func62, Tryd.ntmps62
  go_upto_region 1 with (fail)
  go_cut [29] (fun v29 wc => ∃ (kq : Nat) (x29_2 : Bool), v29 = .bool x29_2 ∧ Aside0 (sweep_town_isPath.j0 kq l0 l1 x29_2 = some r) ∧ Aside0 (kq ≤ k) ∧ Aside0 (Below w.heap.size w wc))
  case first =>
    have H := HC3.out
    clear HC3
    by_cases c4 : (l1.length : Int) < 1
    · rw [if_pos c4] at H
      have c4b0 : decide ((l1.length : Int) < 1) = true := decide_eq_true c4
      have c4b1 : decide (l1.length < 1) = true := decide_eq_true (by omega)
      clear c4
      (first | rw [c4b0] | (simp only [i64_w, i32_w]; rw [c4b0]) | skip)
      have H' := Aside0.mk H
      clear H
      go_wp2
      go_meet
      case rel => exact ⟨_, (true), (by first | rfl | (simp; done) | (simp [*]; done)), H', ⟨by first | omega | exact Nat.le_refl _⟩, ⟨by repeat (first | (with_reducible first | exact HB.out | apply below_alloc | apply pw_below_drewN | apply below_drew1) | exact HB.out)⟩⟩
    · rw [if_neg c4] at H
      have c4b0 : decide ((l1.length : Int) < 1) = false := decide_eq_false c4
      have c4b1 : decide (l1.length < 1) = false := decide_eq_false (by omega)
      clear c4
      (first | rw [c4b0] | (simp only [i64_w, i32_w]; rw [c4b0]) | skip)
      by_cases c5 : (l1.length : Int) > 30
      · rw [if_pos c5] at H
        have c5b0 : decide (30 < (l1.length : Int)) = true := decide_eq_true c5
        have c5b1 : decide (30 < l1.length) = true := decide_eq_true (by omega)
        clear c5
        have H' := Aside0.mk H
        clear H
        go_wp2
        go_meet
        case rel => exact ⟨_, (true), (by first | rfl | (simp; done) | (simp [*]; done)), H', ⟨by first | omega | exact Nat.le_refl _⟩, ⟨by repeat (first | (with_reducible first | exact HB.out | apply below_alloc | apply pw_below_drewN | apply below_drew1) | exact HB.out)⟩⟩
      · rw [if_neg c5] at H
        have c5b0 : decide (30 < (l1.length : Int)) = false := decide_eq_false c5
        have c5b1 : decide (30 < l1.length) = false := decide_eq_false (by omega)
        clear c5
        replace H := Option.bind_eq_some_iff.mp H
        obtain ⟨t346, A60, H⟩ := H
        replace H : (if t346 < 0 then (sweep_town_isPath.j0 k l0 l1 true) else ((slices_Max_int_int.f k l1).bind fun t347 => ((sweep_town_all.f l0).bind fun t348 => (sweep_town_isPath.j0 k l0 l1 (decide (t347 > t348)))))) = some r := H
        have A6 := Aside0.mk A60
        clear A60
        by_cases c7 : t346 < 0
        · rw [if_pos c7] at H
          have c7b0 : decide (t346 < 0) = true := decide_eq_true c7
          clear c7
          have H' := Aside0.mk H
          clear H
          go_wp2_with (first | (go_at_call 75; (with_reducible refine (slices_Min_int_int.calls k _ _ l1 t346 _ ?side1 ?side2 A6.out).mono ?_); (case side1 => repeat (first | exact (Kd.C_below HR1.out HB.out) | (with_reducible refine Kd.C_alloc ?_ _) | (with_reducible refine Kd.C_drewN ?_ _) | (with_reducible refine Kd.C_drew ?_))); (case side2 => exact HC1.out); rintro e w8 ⟨rfl, hb⟩; have n0_ := Aside0.mk (below_step (by repeat (first | (with_reducible first | exact HB.out | apply below_alloc | apply pw_below_drewN | apply below_drew1) | exact HB.out)) hb); clear HB; have HB := n0_; clear n0_; (try clear hb); (try clear hb2); (try clear hk); (try clear hi)))
          go_meet
          case rel => exact ⟨_, (true), (by first | rfl | (simp; done) | (simp [*]; done)), H', ⟨by first | omega | exact Nat.le_refl _⟩, ⟨by repeat (first | (with_reducible first | exact HB.out | apply below_alloc | apply pw_below_drewN | apply below_drew1) | exact HB.out)⟩⟩
        · rw [if_neg c7] at H
          have c7b0 : decide (t346 < 0) = false := decide_eq_false c7
          clear c7
          replace H := Option.bind_eq_some_iff.mp H
          obtain ⟨t347, A90, H⟩ := H
          replace H : ((sweep_town_all.f l0).bind fun t348 => (sweep_town_isPath.j0 k l0 l1 (decide (t347 > t348)))) = some r := H
          have A9 := Aside0.mk A90
          clear A90
          replace H := Option.bind_eq_some_iff.mp H
          obtain ⟨t348, A100, H⟩ := H
          replace H : (sweep_town_isPath.j0 k l0 l1 (decide (t347 > t348))) = some r := H
          have A10 := Aside0.mk A100
          clear A100
          have H' := Aside0.mk H
          clear H
          go_wp2_with (first | (go_at_call 75; (with_reducible refine (slices_Min_int_int.calls k _ _ l1 t346 _ ?side1 ?side2 A6.out).mono ?_); (case side1 => repeat (first | exact (Kd.C_below HR1.out HB.out) | (with_reducible refine Kd.C_alloc ?_ _) | (with_reducible refine Kd.C_drewN ?_ _) | (with_reducible refine Kd.C_drew ?_))); (case side2 => exact HC1.out); rintro e w11 ⟨rfl, hb⟩; have n0_ := Aside0.mk (below_step (by repeat (first | (with_reducible first | exact HB.out | apply below_alloc | apply pw_below_drewN | apply below_drew1) | exact HB.out)) hb); clear HB; have HB := n0_; clear n0_; (try clear hb); (try clear hb2); (try clear hk); (try clear hi)) | (go_at_call 76; (with_reducible refine (slices_Max_int_int.calls k _ _ l1 t347 _ ?side1 ?side2 A9.out).mono ?_); (case side1 => repeat (first | exact (Kd.C_below HR1.out HB.out) | (with_reducible refine Kd.C_alloc ?_ _) | (with_reducible refine Kd.C_drewN ?_ _) | (with_reducible refine Kd.C_drew ?_))); (case side2 => exact HC1.out); rintro e w12 ⟨rfl, hb⟩; have n0_ := Aside0.mk (below_step (by repeat (first | (with_reducible first | exact HB.out | apply below_alloc | apply pw_below_drewN | apply below_drew1) | exact HB.out)) hb); clear HB; have HB := n0_; clear n0_; (try clear hb); (try clear hb2); (try clear hk); (try clear hi)) | (go_at_call 61; (with_reducible refine (sweep_town_all.calls _ _ l0 t348 _ ?side1 ?side2 A10.out).mono ?_); (case side1 => repeat (first | exact (Kd.C_below HR0.out HB.out) | (with_reducible refine Kd.C_alloc ?_ _) | (with_reducible refine Kd.C_drewN ?_ _) | (with_reducible refine Kd.C_drew ?_))); (case side2 => exact HC0.out); rintro e w' ⟨rfl, ⟨nd, rfl⟩⟩))
          go_meet
          case rel => exact ⟨_, (decide (t347 > t348)), (by first | rfl | (simp; done) | (simp [*]; done)), H', ⟨by first | omega | exact Nat.le_refl _⟩, ⟨by repeat (first | (with_reducible first | exact HB.out | apply below_alloc | apply pw_below_drewN | apply below_drew1) | exact HB.out)⟩⟩
  case rest =>
    clear HC3
    try clear c1
    try clear p2
    try clear c4
    try clear c4b0
    try clear c4b1
    try clear c5
    try clear c5b0
    try clear c5b1
    try clear c6
    try clear c7
    try clear c7b0
    obtain ⟨kq, x29_2, rfl, HA, HJ2, HB⟩ := hcut
    cases kq with
    | zero => exact absurd HA.out (by simp [sweep_town_isPath.j0])
    | succ kj2 =>
      have H := HA.out
      clear HA
      simp only [sweep_town_isPath.j0] at H
      by_cases c13 : x29_2 = true
      · subst c13
        have H1 : (some false) = some r := by rw [if_pos rfl] at H; exact H
        clear H
        have H := H1
        clear H1
        obtain rfl := Option.some.inj H
        go_wp2
        go_ret
        exact ⟨by first | rfl | (simp [errW_none, errW_some] <;> rfl) | (simp [*, errW_none, errW_some] <;> rfl), by repeat (first | (with_reducible first | exact HB.out | apply below_alloc | apply pw_below_drewN | apply below_drew1) | exact HB.out)⟩
      · replace c13 := Bool.eq_false_iff.mpr c13
        subst c13
        have H1 : (sweep_town_isPath.l0 kj2 l1 l0 (l0.length : Int) 0) = some r := by rw [if_neg (show ¬ (false = true) by decide)] at H; exact H
        clear H
        have H := H1
        clear H1
        have H' := Aside0.mk H
        clear H
        go_wp2
        go_loopg [32] kj2 (fun kq v32 w' => ∃ (x32_2 : Int), v32 = .int .i64 x32_2 ∧ Aside0 (sweep_town_isPath.l0 kq l1 l0 (l0.length : Int) x32_2 = some r) ∧ Aside0 (kq ≤ kj2) ∧ Aside0 (Below w.heap.size w w'))
        case atStart => exact ⟨(0), (by first | rfl | (simp; done) | (simp [*]; done)), H', ⟨Nat.le_refl _⟩, ⟨by repeat (first | (with_reducible first | exact HB.out | apply below_alloc | apply pw_below_drewN | apply below_drew1) | exact HB.out)⟩⟩
        case round =>
          clear H'
          try clear c1
          try clear p2
          try clear c4
          try clear c4b0
          try clear c4b1
          try clear c5
          try clear c5b0
          try clear c5b1
          try clear c6
          try clear c7
          try clear c7b0
          try clear c13
          try clear p2
          obtain ⟨x32_2, rfl, HA, HK2, HB⟩ := hrel
          cases gk with
          | zero => exact absurd HA.out (by simp [sweep_town_isPath.l0])
          | succ k2 =>
            have H := HA.out
            clear HA
            simp only [sweep_town_isPath.l0] at H
            by_cases c14 : x32_2 < (l0.length : Int)
            · rw [if_pos c14] at H
              have c14b0 : decide (x32_2 < (l0.length : Int)) = true := decide_eq_true c14
              clear c14
              by_cases c15 : 0 ≤ x32_2
              · rw [if_pos c15] at H
                have c15b0 : decide (0 ≤ x32_2) = true := decide_eq_true c15
                clear c15
                by_cases c16 : x32_2 < (l0.length : Int)
                · rw [if_pos c16] at H
                  have c16b0 : decide (x32_2 < (l0.length : Int)) = true := decide_eq_true c16
                  clear c16
                  have H' := Aside0.mk H
                  clear H
                  have p349 : 0 ≤ (x32_2 : Int) := of_decide_eq_true (by first | (with_reducible assumption) | assumption)
                  have q349 : x32_2 < (l0.length : Int) := of_decide_eq_true (by first | (with_reducible assumption) | assumption)
                  obtain ⟨ad349, e349, hx349_0⟩ := Kd.at_int HR0.out x32_2 p349 q349
                  cases e349
                  replace hx349_0 := (HB.out.cell (World.block_lt_of_cell? w _ hx349_0)).trans hx349_0
                  replace p349 := eq_true p349
                  replace q349 := eq_true q349
                  go_wp2
                  go_loopg [6, 7, 39] k2 (fun kq v6 v7 v39 w' => ∃ (x6_3 : Int) (x7_3 : Int) (x39_3 : Int), v6 = .int .i64 x6_3 ∧ v7 = .int .i64 x7_3 ∧ v39 = .int .i64 x39_3 ∧ Aside0 (sweep_town_isPath.l1 kq l1 x32_2 x6_3 x7_3 l0 (l0.length : Int) x32_2 l1 (l1.length : Int) x39_3 = some r) ∧ Aside0 (kq ≤ k2) ∧ Aside0 (Below w.heap.size w w'))
                  case atStart => exact ⟨(rd l0 x32_2), (0), (0), (by first | rfl | (simp; done) | (simp [*]; done)), (by first | rfl | (simp; done) | (simp [*]; done)), (by first | rfl | (simp; done) | (simp [*]; done)), H', ⟨Nat.le_refl _⟩, ⟨by repeat (first | (with_reducible first | exact HB.out | apply below_alloc | apply pw_below_drewN | apply below_drew1) | exact HB.out)⟩⟩
                  case round =>
                    clear H'
                    try clear c1
                    try clear p2
                    try clear p3
                    try clear q3
                    try clear hx3
                    try clear c4
                    try clear c4b0
                    try clear c4b1
                    try clear c5
                    try clear c5b0
                    try clear c5b1
                    try clear c6
                    try clear c7
                    try clear c7b0
                    try clear c13
                    try clear c14
                    try clear c14b0
                    try clear c15
                    try clear c15b0
                    try clear c16
                    try clear c16b0
                    try clear hx349_0
                    try clear p2
                    try clear p349
                    try clear q349
                    obtain ⟨x6_3, x7_3, x39_3, rfl, rfl, rfl, HA, HK3, HB⟩ := hrel
                    cases gk with
                    | zero => exact absurd HA.out (by simp [sweep_town_isPath.l1])
                    | succ k3 =>
                      have H := HA.out
                      clear HA
                      simp only [sweep_town_isPath.l1] at H
                      by_cases c17 : x39_3 < (l1.length : Int)
                      · rw [if_pos c17] at H
                        have c17b0 : decide (x39_3 < (l1.length : Int)) = true := decide_eq_true c17
                        clear c17
                        by_cases c18 : 0 ≤ x39_3
                        · rw [if_pos c18] at H
                          have c18b0 : decide (0 ≤ x39_3) = true := decide_eq_true c18
                          clear c18
                          by_cases c19 : x39_3 < (l1.length : Int)
                          · rw [if_pos c19] at H
                            have c19b0 : decide (x39_3 < (l1.length : Int)) = true := decide_eq_true c19
                            clear c19
                            have HC20 := Aside0.mk H
                            clear H
                            have p350 : 0 ≤ (x39_3 : Int) := of_decide_eq_true (by first | (with_reducible assumption) | assumption)
                            have q350 : x39_3 < (l1.length : Int) := of_decide_eq_true (by first | (with_reducible assumption) | assumption)
                            obtain ⟨ad350, e350, hx350_0⟩ := Kd.at_int HR1.out x39_3 p350 q350
                            cases e350
                            replace hx350_0 := (HB.out.cell (World.block_lt_of_cell? w _ hx350_0)).trans hx350_0
                            replace p350 := eq_true p350
                            replace q350 := eq_true q350
                            go_upto_region 10 with (fail)
                            go_cut [63] (fun v63 wc => ∃ (kq : Nat) (x63_19 : Bool), v63 = .bool x63_19 ∧ Aside0 (sweep_town_isPath.j3 kq l1 x32_2 x6_3 x7_3 (rd l1 x39_3) l0 (l0.length : Int) x32_2 l1 (l1.length : Int) x39_3 x63_19 = some r) ∧ Aside0 (kq ≤ k3) ∧ Aside0 (Below w.heap.size w wc))
                            case first =>
                              have H := HC20.out
                              clear HC20
                              by_cases c21 : 0 ≤ x32_2
                              · rw [if_pos c21] at H
                                have c21b0 := eq_true c21
                                have c21b1 : decide (0 ≤ x32_2) = true := decide_eq_true c21
                                clear c21
                                obtain ⟨ji22, hji22⟩ : ∃ j_ : Int, (shr .i64 (rd l1 x39_3) x32_2) = j_ := ⟨_, rfl⟩
                                replace H : (if (Go.bits .and .i64 (ji22) 1) = 1 then (if x39_3 = 0 then (sweep_town_isPath.j3 k3 l1 x32_2 x6_3 x7_3 (rd l1 x39_3) l0 (l0.length : Int) x32_2 l1 (l1.length : Int) x39_3 true) else (if 0 ≤ (wrap64 (x39_3 - 1)) then (if (wrap64 (x39_3 - 1)) < (l1.length : Int) then (sweep_town_isPath.j3 k3 l1 x32_2 x6_3 x7_3 (rd l1 x39_3) l0 (l0.length : Int) x32_2 l1 (l1.length : Int) x39_3 ((Go.bits .and .i64 (shr .i64 (rd l1 (wrap64 (x39_3 - 1))) x32_2) 1) == 0)) else (none)) else (none))) else (sweep_town_isPath.j3 k3 l1 x32_2 x6_3 x7_3 (rd l1 x39_3) l0 (l0.length : Int) x32_2 l1 (l1.length : Int) x39_3 false)) = some r := by first | (rw [hji22] at H; exact H) | (simp only [hji22] at H ⊢; exact H)
                                have hji22_ : ((rd l1 x39_3) / 2 ^ min x32_2.toNat 64) = ji22 := hji22
                                have hji22z : x32_2 ≤ 64 → ((rd l1 x39_3) / 2 ^ x32_2.toNat) = ji22 := shr_small hji22
                                by_cases c23 : (Go.bits .and .i64 (ji22) 1) = 1
                                · rw [if_pos c23] at H
                                  have c23b0 : ((Go.bits .and .i64 (ji22) 1) == 1) = true := beq_iff_eq.mpr c23
                                  have c23b1 : ((Go.bits .and .i64 (ji22) 1) != 1) = false := bne_eq_false_iff_eq.mpr c23
                                  clear c23
                                  (first | rw [c23b0] | (simp only [i64_w, i32_w]; rw [c23b0]) | skip)
                                  by_cases c24 : x39_3 = 0
                                  · rw [if_pos c24] at H
                                    have c24b0 : (x39_3 == 0) = true := beq_iff_eq.mpr c24
                                    have c24b1 : (x39_3 != 0) = false := bne_eq_false_iff_eq.mpr c24
                                    clear c24
                                    have H' := Aside0.mk H
                                    clear H
                                    go_wp2
                                    go_meet
                                    case rel => exact ⟨_, (true), (by first | rfl | (simp; done) | (simp [*]; done)), H', ⟨by have := HJ2.out; have := HK2.out; have := HK3.out; first | omega | exact Nat.le_refl _⟩, ⟨by repeat (first | (with_reducible first | exact HB.out | apply below_alloc | apply pw_below_drewN | apply below_drew1) | exact HB.out)⟩⟩
                                  · rw [if_neg c24] at H
                                    have c24b0 : (x39_3 == 0) = false := beq_eq_false_iff_ne.mpr c24
                                    have c24b1 : (x39_3 != 0) = true := bne_iff_ne.mpr c24
                                    obtain ⟨ji25, hji25⟩ : ∃ j_ : Int, (wrap64 (x39_3 - 1)) = j_ := ⟨_, rfl⟩
                                    replace H : (if 0 ≤ (ji25) then (if (ji25) < (l1.length : Int) then (sweep_town_isPath.j3 k3 l1 x32_2 x6_3 x7_3 (rd l1 x39_3) l0 (l0.length : Int) x32_2 l1 (l1.length : Int) x39_3 ((Go.bits .and .i64 (shr .i64 (rd l1 (ji25)) x32_2) 1) == 0)) else (none)) else (none)) = some r := by first | (rw [hji25] at H; exact H) | (simp only [hji25] at H ⊢; exact H)
                                    have hji25w : (IntKind.i64.wrap (x39_3 - 1)) = ji25 := (i64_w _).trans hji25
                                    by_cases c26 : 0 ≤ (ji25)
                                    · rw [if_pos c26] at H
                                      have c26b0 : decide (0 ≤ (ji25)) = true := decide_eq_true c26
                                      clear c26
                                      by_cases c27 : (ji25) < (l1.length : Int)
                                      · rw [if_pos c27] at H
                                        have c27b0 : decide ((ji25) < (l1.length : Int)) = true := decide_eq_true c27
                                        clear c27
                                        have c28b0 := eq_true (of_decide_eq_true (by first | (with_reducible assumption) | assumption) : 0 ≤ x32_2)
                                        obtain ⟨ji29, hji29⟩ : ∃ j_ : Int, (shr .i64 (rd l1 (ji25)) x32_2) = j_ := ⟨_, rfl⟩
                                        replace H : (sweep_town_isPath.j3 k3 l1 x32_2 x6_3 x7_3 (rd l1 x39_3) l0 (l0.length : Int) x32_2 l1 (l1.length : Int) x39_3 ((Go.bits .and .i64 (ji29) 1) == 0)) = some r := by first | (rw [hji29] at H; exact H) | (simp only [hji29] at H ⊢; exact H)
                                        have hji29_ : ((rd l1 (ji25)) / 2 ^ min x32_2.toNat 64) = ji29 := hji29
                                        have hji29z : x32_2 ≤ 64 → ((rd l1 (ji25)) / 2 ^ x32_2.toNat) = ji29 := shr_small hji29
                                        have H' := Aside0.mk H
                                        clear H
                                        have p351 : 0 ≤ ((ji25) : Int) := of_decide_eq_true (by first | (with_reducible assumption) | assumption)
                                        have q351 : (ji25) < (l1.length : Int) := of_decide_eq_true (by first | (with_reducible assumption) | assumption)
                                        obtain ⟨ad351, e351, hx351_0⟩ := Kd.at_int HR1.out (ji25) p351 q351
                                        obtain rfl : ad350 = ad351 := (by injection e351)
                                        replace hx351_0 := (HB.out.cell (World.block_lt_of_cell? w _ hx351_0)).trans hx351_0
                                        replace p351 := eq_true p351
                                        replace q351 := eq_true q351
                                        go_wp2
                                        go_meet
                                        case rel => exact ⟨_, (((Go.bits .and .i64 (ji29) 1) == 0)), (by first | rfl | (simp; done) | (simp only [← hji29] <;> (first | rfl | simp)) | (simp [*]; done)), H', ⟨by have := HJ2.out; have := HK2.out; have := HK3.out; first | omega | exact Nat.le_refl _⟩, ⟨by repeat (first | (with_reducible first | exact HB.out | apply below_alloc | apply pw_below_drewN | apply below_drew1) | exact HB.out)⟩⟩
                                      · rw [if_neg c27] at H
                                        exact absurd H (by simp)
                                    · rw [if_neg c26] at H
                                      exact absurd H (by simp)
                                · rw [if_neg c23] at H
                                  have c23b0 : ((Go.bits .and .i64 (ji22) 1) == 1) = false := beq_eq_false_iff_ne.mpr c23
                                  have c23b1 : ((Go.bits .and .i64 (ji22) 1) != 1) = true := bne_iff_ne.mpr c23
                                  (first | rw [c23b0] | (simp only [i64_w, i32_w]; rw [c23b0]) | skip)
                                  have H' := Aside0.mk H
                                  clear H
                                  go_wp2
                                  go_meet
                                  case rel => exact ⟨_, (false), (by first | rfl | (simp; done) | (simp [*]; done)), H', ⟨by have := HJ2.out; have := HK2.out; have := HK3.out; first | omega | exact Nat.le_refl _⟩, ⟨by repeat (first | (with_reducible first | exact HB.out | apply below_alloc | apply pw_below_drewN | apply below_drew1) | exact HB.out)⟩⟩
                              · rw [if_neg c21] at H
                                exact absurd H (by simp)
                            case rest =>
                              clear HC20
                              try clear c1
                              try clear c2
                              try clear p2
                              try clear p3
                              try clear q3
                              try clear hx3
                              try clear c4
                              try clear c4b0
                              try clear c4b1
                              try clear c5
                              try clear c5b0
                              try clear c5b1
                              try clear c6
                              try clear p6
                              try clear c7
                              try clear c7b0
                              try clear c13
                              try clear c14
                              try clear c14b0
                              try clear c15
                              try clear c15b0
                              try clear c16
                              try clear c16b0
                              try clear c17
                              try clear c17b0
                              try clear c18
                              try clear c18b0
                              try clear c19
                              try clear c19b0
                              try clear c21
                              try clear c21b0
                              try clear c21b1
                              try clear c23
                              try clear c23b0
                              try clear c23b1
                              try clear c24
                              try clear c24b0
                              try clear c24b1
                              try clear c26
                              try clear c26b0
                              try clear c27
                              try clear c27b0
                              try clear c28
                              try clear c28b0
                              try clear hx349_0
                              try clear hx350_0
                              try clear hx351_0
                              try clear p2
                              try clear p3
                              try clear p349
                              try clear p350
                              try clear p351
                              try clear q3
                              try clear q349
                              try clear q350
                              try clear q351
                              obtain ⟨kq, x63_19, rfl, HA, HJ19, HB⟩ := hcut
                              cases kq with
                              | zero => exact absurd HA.out (by simp [sweep_town_isPath.j3])
                              | succ kj19 =>
                                have H := HA.out
                                clear HA
                                simp only [sweep_town_isPath.j3] at H
                                by_cases c30 : x63_19 = true
                                · subst c30
                                  have H1 : (if 0 ≤ x32_2 then (if (Go.bits .and .i64 (shr .i64 (rd l1 x39_3) x32_2) 1) = 1 then (sweep_town_isPath.l1 kj19 l1 x32_2 (Go.bits .andNot .i64 x6_3 (rd l1 x39_3)) (wrap64 (x7_3 + 1)) l0 (l0.length : Int) x32_2 l1 (l1.length : Int) (wrap64 (x39_3 + 1))) else (sweep_town_isPath.l1 kj19 l1 x32_2 x6_3 (wrap64 (x7_3 + 1)) l0 (l0.length : Int) x32_2 l1 (l1.length : Int) (wrap64 (x39_3 + 1)))) else (none)) = some r := by rw [if_pos rfl] at H; exact H
                                  clear H
                                  have H := H1
                                  clear H1
                                  by_cases c31 : 0 ≤ x32_2
                                  · rw [if_pos c31] at H
                                    have c31b0 := eq_true c31
                                    have c31b1 : decide (0 ≤ x32_2) = true := decide_eq_true c31
                                    clear c31
                                    obtain ⟨ji32, hji32⟩ : ∃ j_ : Int, (shr .i64 (rd l1 x39_3) x32_2) = j_ := ⟨_, rfl⟩
                                    replace H : (if (Go.bits .and .i64 (ji32) 1) = 1 then (sweep_town_isPath.l1 kj19 l1 x32_2 (Go.bits .andNot .i64 x6_3 (rd l1 x39_3)) (wrap64 (x7_3 + 1)) l0 (l0.length : Int) x32_2 l1 (l1.length : Int) (wrap64 (x39_3 + 1))) else (sweep_town_isPath.l1 kj19 l1 x32_2 x6_3 (wrap64 (x7_3 + 1)) l0 (l0.length : Int) x32_2 l1 (l1.length : Int) (wrap64 (x39_3 + 1)))) = some r := by first | (rw [hji32] at H; exact H) | (simp only [hji32] at H ⊢; exact H)
                                    have hji32_ : ((rd l1 x39_3) / 2 ^ min x32_2.toNat 64) = ji32 := hji32
                                    have hji32z : x32_2 ≤ 64 → ((rd l1 x39_3) / 2 ^ x32_2.toNat) = ji32 := shr_small hji32
                                    by_cases c33 : (Go.bits .and .i64 (ji32) 1) = 1
                                    · rw [if_pos c33] at H
                                      have c33b0 : ((Go.bits .and .i64 (ji32) 1) == 1) = true := beq_iff_eq.mpr c33
                                      have c33b1 : ((Go.bits .and .i64 (ji32) 1) != 1) = false := bne_eq_false_iff_eq.mpr c33
                                      clear c33
                                      have H' := Aside0.mk H
                                      clear H
                                      go_wp2
                                      go_roundg kj19
                                      case measure => have := HJ2.out; have := HK2.out; have := HK3.out; have := HJ19.out; omega
                                      case rel => exact ⟨(Go.bits .andNot .i64 x6_3 (rd l1 x39_3)), (wrap64 (x7_3 + 1)), (wrap64 (x39_3 + 1)), (by first | rfl | (simp; done) | (simp [*]; done)), (by first | rfl | (simp; done) | (simp [*]; done)), (by first | rfl | (simp; done) | (simp [*]; done)), H', ⟨by have := HJ2.out; have := HK2.out; have := HK3.out; have := HJ19.out; omega⟩, ⟨by repeat (first | (with_reducible first | exact HB.out | apply below_alloc | apply pw_below_drewN | apply below_drew1) | exact HB.out)⟩⟩
                                    · rw [if_neg c33] at H
                                      have c33b0 : ((Go.bits .and .i64 (ji32) 1) == 1) = false := beq_eq_false_iff_ne.mpr c33
                                      have c33b1 : ((Go.bits .and .i64 (ji32) 1) != 1) = true := bne_iff_ne.mpr c33
                                      have H' := Aside0.mk H
                                      clear H
                                      go_wp2
                                      go_roundg kj19
                                      case measure => have := HJ2.out; have := HK2.out; have := HK3.out; have := HJ19.out; omega
                                      case rel => exact ⟨(x6_3), (wrap64 (x7_3 + 1)), (wrap64 (x39_3 + 1)), (by first | rfl | (simp; done) | (simp [*]; done)), (by first | rfl | (simp; done) | (simp [*]; done)), (by first | rfl | (simp; done) | (simp [*]; done)), H', ⟨by have := HJ2.out; have := HK2.out; have := HK3.out; have := HJ19.out; omega⟩, ⟨by repeat (first | (with_reducible first | exact HB.out | apply below_alloc | apply pw_below_drewN | apply below_drew1) | exact HB.out)⟩⟩
                                  · rw [if_neg c31] at H
                                    exact absurd H (by simp)
                                · replace c30 := Bool.eq_false_iff.mpr c30
                                  subst c30
                                  have H1 : (if 0 ≤ x32_2 then (if (Go.bits .and .i64 (shr .i64 (rd l1 x39_3) x32_2) 1) = 1 then (sweep_town_isPath.l1 kj19 l1 x32_2 (Go.bits .andNot .i64 x6_3 (rd l1 x39_3)) x7_3 l0 (l0.length : Int) x32_2 l1 (l1.length : Int) (wrap64 (x39_3 + 1))) else (sweep_town_isPath.l1 kj19 l1 x32_2 x6_3 x7_3 l0 (l0.length : Int) x32_2 l1 (l1.length : Int) (wrap64 (x39_3 + 1)))) else (none)) = some r := by rw [if_neg (show ¬ (false = true) by decide)] at H; exact H
                                  clear H
                                  have H := H1
                                  clear H1
                                  by_cases c34 : 0 ≤ x32_2
                                  · rw [if_pos c34] at H
                                    have c34b0 := eq_true c34
                                    have c34b1 : decide (0 ≤ x32_2) = true := decide_eq_true c34
                                    clear c34
                                    obtain ⟨ji35, hji35⟩ : ∃ j_ : Int, (shr .i64 (rd l1 x39_3) x32_2) = j_ := ⟨_, rfl⟩
                                    replace H : (if (Go.bits .and .i64 (ji35) 1) = 1 then (sweep_town_isPath.l1 kj19 l1 x32_2 (Go.bits .andNot .i64 x6_3 (rd l1 x39_3)) x7_3 l0 (l0.length : Int) x32_2 l1 (l1.length : Int) (wrap64 (x39_3 + 1))) else (sweep_town_isPath.l1 kj19 l1 x32_2 x6_3 x7_3 l0 (l0.length : Int) x32_2 l1 (l1.length : Int) (wrap64 (x39_3 + 1)))) = some r := by first | (rw [hji35] at H; exact H) | (simp only [hji35] at H ⊢; exact H)
                                    have hji35_ : ((rd l1 x39_3) / 2 ^ min x32_2.toNat 64) = ji35 := hji35
                                    have hji35z : x32_2 ≤ 64 → ((rd l1 x39_3) / 2 ^ x32_2.toNat) = ji35 := shr_small hji35
                                    by_cases c36 : (Go.bits .and .i64 (ji35) 1) = 1
                                    · rw [if_pos c36] at H
                                      have c36b0 : ((Go.bits .and .i64 (ji35) 1) == 1) = true := beq_iff_eq.mpr c36
                                      have c36b1 : ((Go.bits .and .i64 (ji35) 1) != 1) = false := bne_eq_false_iff_eq.mpr c36
                                      clear c36
                                      have H' := Aside0.mk H
                                      clear H
                                      go_wp2
                                      go_roundg kj19
                                      case measure => have := HJ2.out; have := HK2.out; have := HK3.out; have := HJ19.out; omega
                                      case rel => exact ⟨(Go.bits .andNot .i64 x6_3 (rd l1 x39_3)), (x7_3), (wrap64 (x39_3 + 1)), (by first | rfl | (simp; done) | (simp [*]; done)), (by first | rfl | (simp; done) | (simp [*]; done)), (by first | rfl | (simp; done) | (simp [*]; done)), H', ⟨by have := HJ2.out; have := HK2.out; have := HK3.out; have := HJ19.out; omega⟩, ⟨by repeat (first | (with_reducible first | exact HB.out | apply below_alloc | apply pw_below_drewN | apply below_drew1) | exact HB.out)⟩⟩
                                    · rw [if_neg c36] at H
                                      have c36b0 : ((Go.bits .and .i64 (ji35) 1) == 1) = false := beq_eq_false_iff_ne.mpr c36
                                      have c36b1 : ((Go.bits .and .i64 (ji35) 1) != 1) = true := bne_iff_ne.mpr c36
                                      have H' := Aside0.mk H
                                      clear H
                                      go_wp2
                                      go_roundg kj19
                                      case measure => have := HJ2.out; have := HK2.out; have := HK3.out; have := HJ19.out; omega
                                      case rel => exact ⟨(x6_3), (x7_3), (wrap64 (x39_3 + 1)), (by first | rfl | (simp; done) | (simp [*]; done)), (by first | rfl | (simp; done) | (simp [*]; done)), (by first | rfl | (simp; done) | (simp [*]; done)), H', ⟨by have := HJ2.out; have := HK2.out; have := HK3.out; have := HJ19.out; omega⟩, ⟨by repeat (first | (with_reducible first | exact HB.out | apply below_alloc | apply pw_below_drewN | apply below_drew1) | exact HB.out)⟩⟩
                                  · rw [if_neg c34] at H
                                    exact absurd H (by simp)
                          · rw [if_neg c19] at H
                            exact absurd H (by simp)
                        · rw [if_neg c18] at H
                          exact absurd H (by simp)
                      · rw [if_neg c17] at H
                        have c17b0 : decide (x39_3 < (l1.length : Int)) = false := decide_eq_false c17
                        clear c17
                        by_cases c37 : x7_3 = 1
                        · rw [if_pos c37] at H
                          have c37b0 : (x7_3 == 1) = true := beq_iff_eq.mpr c37
                          have c37b1 : (x7_3 != 1) = false := bne_eq_false_iff_eq.mpr c37
                          clear c37
                          by_cases c38 : x6_3 = 0
                          · rw [if_pos c38] at H
                            have c38b0 : (x6_3 == 0) = true := beq_iff_eq.mpr c38
                            have c38b1 : (x6_3 != 0) = false := bne_eq_false_iff_eq.mpr c38
                            clear c38
                            have H' := Aside0.mk H
                            clear H
                            go_wp2
                            go_roundg k3
                            case measure => have := HJ2.out; have := HK2.out; have := HK3.out; omega
                            case rel => exact ⟨(wrap64 (x32_2 + 1)), (by first | rfl | (simp; done) | (simp [*]; done)), H', ⟨by have := HJ2.out; have := HK2.out; have := HK3.out; omega⟩, ⟨by repeat (first | (with_reducible first | exact HB.out | apply below_alloc | apply pw_below_drewN | apply below_drew1) | exact HB.out)⟩⟩
                          · rw [if_neg c38] at H
                            have c38b0 : (x6_3 == 0) = false := beq_eq_false_iff_ne.mpr c38
                            have c38b1 : (x6_3 != 0) = true := bne_iff_ne.mpr c38
                            obtain rfl := Option.some.inj H
                            go_wp2
                            go_ret
                            exact ⟨by first | rfl | (simp [errW_none, errW_some] <;> rfl) | (simp [*, errW_none, errW_some] <;> rfl), by repeat (first | (with_reducible first | exact HB.out | apply below_alloc | apply pw_below_drewN | apply below_drew1) | exact HB.out)⟩
                        · rw [if_neg c37] at H
                          have c37b0 : (x7_3 == 1) = false := beq_eq_false_iff_ne.mpr c37
                          have c37b1 : (x7_3 != 1) = true := bne_iff_ne.mpr c37
                          obtain rfl := Option.some.inj H
                          go_wp2
                          go_ret
                          exact ⟨by first | rfl | (simp [errW_none, errW_some] <;> rfl) | (simp [*, errW_none, errW_some] <;> rfl), by repeat (first | (with_reducible first | exact HB.out | apply below_alloc | apply pw_below_drewN | apply below_drew1) | exact HB.out)⟩
                · rw [if_neg c16] at H
                  exact absurd H (by simp)
              · rw [if_neg c15] at H
                exact absurd H (by simp)
            · rw [if_neg c14] at H
              have c14b0 : decide (x32_2 < (l0.length : Int)) = false := decide_eq_false c14
              clear c14
              obtain rfl := Option.some.inj H
              go_wp2
              go_ret
              exact ⟨by first | rfl | (simp [errW_none, errW_some] <;> rfl) | (simp [*, errW_none, errW_some] <;> rfl), by repeat (first | (with_reducible first | exact HB.out | apply below_alloc | apply pw_below_drewN | apply below_drew1) | exact HB.out)⟩

end Go.Proofs.YtijfddobandcdaaDoor.X
end
section
-- by ownprint.py (wip/tool), over the kit's print
namespace Go.Proofs.YtijfddobandcdaaDoor.X
open Go.RowKit Go.Proofs.YtijfddobandcdaaDoorW.PrintWords Go.Proofs.YtijfddobandcdaaDoorW.PrintLast Go.Proofs.YtijfddobandcdaaDoorW.PrintMore
attribute [local go_sem] max2_int min2_int max_two min_two max_three min_three max_four min_four
set_option linter.unusedVariables false
set_option linter.unusedSimpArgs false

/-! ### sweep_Check: function 36 -/
def sweep_Check.l0 : Nat → Int → List Int → Int → Int → Option (Int × Bool × Int)
  | 0, _, _, _, _ => none
  | k + 1, x9, x23, x24, x25 => if x25 < x24 then (if 0 ≤ x25 then (if x25 < (x23.length : Int) then ((sweep_count.f (rd x23 x25)).bind fun t358 => (sweep_Check.l0 k (mx x9 t358) x23 x24 (wrap64 (x25 + 1)))) else (none)) else (none)) else (some (wrap64 (x9 - 1), true, 0))
def sweep_Check.f (k : Nat) (l0 : List Int) (l1 : List Int) : Option (Int × Bool × Int) := (sweep_read.f k l0).bind fun bt352 => (if bt352.2 = true then ((sweep_town_isPath.f k bt352.1 l1).bind fun t356 => (if t356 = true then (sweep_Check.l0 k 0 l1 (l1.length : Int) 0) else (some (0, false, 0)))) else (some (0, false, 2)))
theorem sweep_Check.mono_l : ∀ k, (∀ y0 y1 y2 y3, LeO (sweep_Check.l0 k y0 y1 y2 y3) (sweep_Check.l0 (k + 1) y0 y1 y2 y3))
  | 0 => fun _ _ _ _ r h => by simp [sweep_Check.l0] at h
  | k + 1 => by
    have ih0 := sweep_Check.mono_l k
    · intro y0 y1 y2 y3
      unfold sweep_Check.l0
      repeat' first
      | (with_reducible exact ih0 _ _ _ _)
      | (with_reducible exact sweep_read.mono _ _)
      | (with_reducible exact sweep_town_isPath.mono _ _ _)
      | (with_reducible exact LeO.refl _)
      | (with_reducible exact LeO.none _)
      | (with_reducible refine LeO.ite ?_ ?_)
      | (with_reducible refine LeO.bind ?_ (fun _ => ?_))
      | exact ih0 _ _ _ _
      | exact sweep_read.mono _ _
      | exact sweep_town_isPath.mono _ _ _
      | exact LeO.none _
      | refine LeO.ite ?_ ?_
      | refine LeO.bind ?_ (fun _ => ?_)
theorem sweep_Check.mono : ∀ a0 a1 k, LeO (sweep_Check.f k a0 a1) (sweep_Check.f (k + 1) a0 a1) := by
  intro a0 a1 k
  have ih0 := sweep_Check.mono_l k
  unfold sweep_Check.f
  repeat' first
      | (with_reducible exact ih0 _ _ _ _)
      | (with_reducible exact sweep_read.mono _ _)
      | (with_reducible exact sweep_town_isPath.mono _ _ _)
      | (with_reducible exact LeO.refl _)
      | (with_reducible exact LeO.none _)
      | (with_reducible refine LeO.ite ?_ ?_)
      | (with_reducible refine LeO.bind ?_ (fun _ => ?_))
      | exact ih0 _ _ _ _
      | exact sweep_read.mono _ _
      | exact sweep_town_isPath.mono _ _ _
      | exact LeO.none _
      | refine LeO.ite ?_ ?_
      | refine LeO.bind ?_ (fun _ => ?_)
set_option maxHeartbeats 8000000 in
set_option maxRecDepth 100000 in
theorem sweep_Check.calls (k : Nat) (A0 : Option Addr) (c0 : Nat) (l0 : List Int) (A1 : Option Addr) (c1 : Nat) (l1 : List Int) (r1 : Int) (r2 : Bool) (r3 : Int) (w : World) (hr0 : Kd.C (Kd.int .i64) w A0 l0.length l0) (hc0 : l0.length ≤ c0) (hr1 : Kd.C (Kd.int .i64) w A1 l1.length l1) (hc1 : l1.length ≤ c1) (h : sweep_Check.f k l0 l1 = some (r1, r2, r3)) :
    Calls Tryd.prog 36 #[.slice A0 l0.length c0, .slice A1 l1.length c1] w fun e w' => e = .returned (.tuple #[.int .i64 r1, .bool r2, .int .i64 r3]) ∧ Below w.heap.size w w' := by
  have HR0 := Aside0.mk hr0
  have HC0 := Aside0.mk hc0
  clear hr0 hc0
  have HR1 := Aside0.mk hr1
  have HC1 := Aside0.mk hc1
  clear hr1 hc1
  have HB := Aside0.mk (Below.refl w.heap.size w)
  have H : ((sweep_read.f k l0).bind fun bt352 => (if bt352.2 = true then ((sweep_town_isPath.f k bt352.1 l1).bind fun t356 => (if t356 = true then (sweep_Check.l0 k 0 l1 (l1.length : Int) 0) else (some (0, false, 0)))) else (some (0, false, 2)))) = some (r1, r2, r3) := h
  clear h
  replace H := Option.bind_eq_some_iff.mp H
  obtain ⟨⟨t352, t355⟩, A30, H⟩ := H
  replace H : (if t355 = true then ((sweep_town_isPath.f k t352 l1).bind fun t356 => (if t356 = true then (sweep_Check.l0 k 0 l1 (l1.length : Int) 0) else (some (0, false, 0)))) else (some (0, false, 2))) = some (r1, r2, r3) := H
  have A3 := Aside0.mk A30
  clear A30
  by_cases c4 : t355 = true
  · subst c4
    have H1 : ((sweep_town_isPath.f k t352 l1).bind fun t356 => (if t356 = true then (sweep_Check.l0 k 0 l1 (l1.length : Int) 0) else (some (0, false, 0)))) = some (r1, r2, r3) := by rw [if_pos rfl] at H; exact H
    clear H
    have H := H1
    clear H1
    replace H := Option.bind_eq_some_iff.mp H
    obtain ⟨t356, A50, H⟩ := H
    replace H : (if t356 = true then (sweep_Check.l0 k 0 l1 (l1.length : Int) 0) else (some (0, false, 0))) = some (r1, r2, r3) := H
    have A5 := Aside0.mk A50
    clear A50
    by_cases c6 : t356 = true
    · subst c6
      have H1 : (sweep_Check.l0 k 0 l1 (l1.length : Int) 0) = some (r1, r2, r3) := by rw [if_pos rfl] at H; exact H
      clear H
      have H := H1
      clear H1
      have H' := Aside0.mk H
      clear H
      go_enter Tryd.func36, Tryd.ntmps36
      go_wp2_with (first | ((with_reducible refine gate_callee (f := 49) rfl ?_); refine goesL_ (some 14) rfl rfl Tryd.func49 (by kernel_rfl) rfl #[.slice A0 l0.length c0] rfl (by (try simp only [List.map_toArray, List.map_cons, List.map_nil]); first | done | rfl | (simp only [List.length_drop, List.length_take]; rfl)) ?_; (with_reducible refine (sweep_read.calls k (fun k_ => k_ < w.heap.size) _ _ l0 t352 true _ ?side1 A3.out).mono ?_); (case side1 => exact Kd.V_mk HC0.out (Kd.F_below (Kd.C_F (Kd.heap_int .i64) HR0.out) (by repeat (first | (with_reducible first | exact HB.out | apply below_alloc | apply pw_below_drewN | apply below_drew1) | exact HB.out)))); rintro e w7 ⟨v353, rfl, ho0, hb⟩; refine ⟨_, rfl, ?_⟩; have n0_ := Aside0.mk (Kd.V_lower (Kd.V_mono (ok' := fun k_ => True) ho0 (fun k_ hk_ => trivial)) (below_size (by repeat (first | (with_reducible first | exact HB.out | apply below_alloc | apply pw_below_drewN | apply below_drew1) | exact HB.out)))); have n1_ := Aside0.mk (below_step (by repeat (first | (with_reducible first | exact HB.out | apply below_alloc | apply pw_below_drewN | apply below_drew1) | exact HB.out)) hb); clear HB; have HO354 := n0_; have HB := n1_; clear n0_ n1_; (try clear hb); (try clear hb2); (try clear hk); (try clear hi); (try clear ho0); obtain ⟨Ao8, co8, eo8⟩ := Kd.V_slice HO354.out; subst eo8) | ((with_reducible refine gate_callee (f := 62) rfl ?_); refine goesL_ (some 21) rfl rfl Tryd.func62 (by kernel_rfl) rfl #[.slice Ao8 t352.length co8, .slice A1 l1.length c1] rfl (by (try simp only [List.map_toArray, List.map_cons, List.map_nil]); first | done | rfl | (simp only [List.length_drop, List.length_take]; rfl)) ?_; (with_reducible refine (sweep_town_isPath.calls k _ _ t352 _ _ l1 true _ ?side1 ?side2 ?side3 ?side4 A5.out).mono ?_); (case side1 => repeat (first | exact (Kd.V_reads' HO354.out).2.2 | (with_reducible refine Kd.C_alloc ?_ _) | (with_reducible refine Kd.C_drewN ?_ _) | (with_reducible refine Kd.C_drew ?_))); (case side2 => exact (Kd.V_reads' HO354.out).2.1); (case side3 => repeat (first | exact (Kd.C_below HR1.out HB.out) | (with_reducible refine Kd.C_alloc ?_ _) | (with_reducible refine Kd.C_drewN ?_ _) | (with_reducible refine Kd.C_drew ?_))); (case side4 => exact HC1.out); rintro e w9 ⟨rfl, hb⟩; refine ⟨_, rfl, ?_⟩; have n0_ := Aside0.mk (Kd.V_below (by (with_reducible repeat (first | apply Kd.V_alloc | apply Kd.V_drewN | apply Kd.V_drew)); exact HO354.out) hb); have n1_ := Aside0.mk (below_step (by repeat (first | (with_reducible first | exact HB.out | apply below_alloc | apply pw_below_drewN | apply below_drew1) | exact HB.out)) hb); clear HO354; clear HB; have HO354 := n0_; have HB := n1_; clear n0_ n1_; (try clear hb); (try clear hb2); (try clear hk); (try clear hi)))
      go_loopg [9, 25] k (fun kq v9 v25 w' => ∃ (x9_1 : Int) (x25_1 : Int), v9 = .int .i64 x9_1 ∧ v25 = .int .i64 x25_1 ∧ Aside0 (sweep_Check.l0 kq x9_1 l1 (l1.length : Int) x25_1 = some (r1, r2, r3)) ∧ Aside0 (kq ≤ k) ∧ Aside0 (Below w.heap.size w w'))
      case atStart => exact ⟨(0), (0), (by first | rfl | (simp; done) | (simp [*]; done)), (by first | rfl | (simp; done) | (simp [*]; done)), H', ⟨Nat.le_refl _⟩, ⟨by repeat (first | (with_reducible first | exact HB.out | apply below_alloc | apply pw_below_drewN | apply below_drew1) | exact HB.out)⟩⟩
      case round =>
        clear H'
        try clear c1
        try clear p2
        try clear c3
        try clear c4
        try clear c6
        obtain ⟨x9_1, x25_1, rfl, rfl, HA, HK1, HB⟩ := hrel
        cases gk with
        | zero => exact absurd HA.out (by simp [sweep_Check.l0])
        | succ k1 =>
          have H := HA.out
          clear HA
          simp only [sweep_Check.l0] at H
          by_cases c10 : x25_1 < (l1.length : Int)
          · rw [if_pos c10] at H
            have c10b0 : decide (x25_1 < (l1.length : Int)) = true := decide_eq_true c10
            clear c10
            by_cases c11 : 0 ≤ x25_1
            · rw [if_pos c11] at H
              have c11b0 : decide (0 ≤ x25_1) = true := decide_eq_true c11
              clear c11
              by_cases c12 : x25_1 < (l1.length : Int)
              · rw [if_pos c12] at H
                have c12b0 : decide (x25_1 < (l1.length : Int)) = true := decide_eq_true c12
                clear c12
                replace H := Option.bind_eq_some_iff.mp H
                obtain ⟨t358, A130, H⟩ := H
                replace H : (sweep_Check.l0 k1 (mx x9_1 t358) l1 (l1.length : Int) (wrap64 (x25_1 + 1))) = some (r1, r2, r3) := H
                have A13 := Aside0.mk A130
                clear A130
                obtain ⟨ji14, hji14⟩ : ∃ j_ : Int, (mx x9_1 t358) = j_ := ⟨_, rfl⟩
                replace H : (sweep_Check.l0 k1 ji14 l1 (l1.length : Int) (wrap64 (x25_1 + 1))) = some (r1, r2, r3) := by first | (rw [hji14] at H; exact H) | (simp only [hji14] at H ⊢; exact H)
                (try rw [hji14] at A13)
                have hji14_ : (if x9_1 < t358 then t358 else x9_1) = ji14 := hji14
                have H' := Aside0.mk H
                clear H
                have p357 : 0 ≤ (x25_1 : Int) := of_decide_eq_true (by first | (with_reducible assumption) | assumption)
                have q357 : x25_1 < (l1.length : Int) := of_decide_eq_true (by first | (with_reducible assumption) | assumption)
                obtain ⟨ad357, e357, hx357_0⟩ := Kd.at_int HR1.out x25_1 p357 q357
                cases e357
                replace hx357_0 := (HB.out.cell (World.block_lt_of_cell? w _ hx357_0)).trans hx357_0
                replace p357 := eq_true p357
                replace q357 := eq_true q357
                go_wp2_with (first | ((with_reducible refine gate_callee (f := 63) rfl ?_); refine goesL_ (some 31) rfl rfl Tryd.func63 (by kernel_rfl) rfl #[.int .i64 (rd l1 x25_1)] rfl (by (try simp only [List.map_toArray, List.map_cons, List.map_nil]); first | done | rfl | (simp only [List.length_drop, List.length_take]; rfl)) ?_; (with_reducible refine (sweep_count.calls (rd l1 x25_1) t358 _ A13.out).mono ?_); rintro e w' ⟨rfl, ⟨nd, rfl⟩⟩; refine ⟨_, rfl, ?_⟩))
                go_roundg k1
                case measure => have := HK1.out; omega
                case rel => exact ⟨(ji14), (wrap64 (x25_1 + 1)), (by first | rfl | (simp; done) | (simp only [← hji14] <;> (first | rfl | simp)) | (simp [*]; done)), (by first | rfl | (simp; done) | (simp [*]; done)), H', ⟨by have := HK1.out; omega⟩, ⟨by repeat (first | (with_reducible first | exact HB.out | apply below_alloc | apply pw_below_drewN | apply below_drew1) | exact HB.out)⟩⟩
              · rw [if_neg c12] at H
                exact absurd H (by simp)
            · rw [if_neg c11] at H
              exact absurd H (by simp)
          · rw [if_neg c10] at H
            have c10b0 : decide (x25_1 < (l1.length : Int)) = false := decide_eq_false c10
            clear c10
            simp only [Option.some.injEq, Prod.mk.injEq] at H
            obtain ⟨rfl, rfl, rfl⟩ := H
            go_wp2
            go_ret3
            exact ⟨by first | rfl | (simp [errW_none, errW_some] <;> rfl) | (simp [*, errW_none, errW_some] <;> rfl), by repeat (first | (with_reducible first | exact HB.out | apply below_alloc | apply pw_below_drewN | apply below_drew1) | exact HB.out)⟩
    · replace c6 := Bool.eq_false_iff.mpr c6
      subst c6
      have H1 : (some (0, false, 0)) = some (r1, r2, r3) := by rw [if_neg (show ¬ (false = true) by decide)] at H; exact H
      clear H
      have H := H1
      clear H1
      simp only [Option.some.injEq, Prod.mk.injEq] at H
      obtain ⟨rfl, rfl, rfl⟩ := H
      go_enter Tryd.func36, Tryd.ntmps36
      go_wp2_with (first | ((with_reducible refine gate_callee (f := 49) rfl ?_); refine goesL_ (some 14) rfl rfl Tryd.func49 (by kernel_rfl) rfl #[.slice A0 l0.length c0] rfl (by (try simp only [List.map_toArray, List.map_cons, List.map_nil]); first | done | rfl | (simp only [List.length_drop, List.length_take]; rfl)) ?_; (with_reducible refine (sweep_read.calls k (fun k_ => k_ < w.heap.size) _ _ l0 t352 true _ ?side1 A3.out).mono ?_); (case side1 => exact Kd.V_mk HC0.out (Kd.F_below (Kd.C_F (Kd.heap_int .i64) HR0.out) (by repeat (first | (with_reducible first | exact HB.out | apply below_alloc | apply pw_below_drewN | apply below_drew1) | exact HB.out)))); rintro e w15 ⟨v353, rfl, ho0, hb⟩; refine ⟨_, rfl, ?_⟩; have n0_ := Aside0.mk (Kd.V_lower (Kd.V_mono (ok' := fun k_ => True) ho0 (fun k_ hk_ => trivial)) (below_size (by repeat (first | (with_reducible first | exact HB.out | apply below_alloc | apply pw_below_drewN | apply below_drew1) | exact HB.out)))); have n1_ := Aside0.mk (below_step (by repeat (first | (with_reducible first | exact HB.out | apply below_alloc | apply pw_below_drewN | apply below_drew1) | exact HB.out)) hb); clear HB; have HO354 := n0_; have HB := n1_; clear n0_ n1_; (try clear hb); (try clear hb2); (try clear hk); (try clear hi); (try clear ho0); obtain ⟨Ao16, co16, eo16⟩ := Kd.V_slice HO354.out; subst eo16) | ((with_reducible refine gate_callee (f := 62) rfl ?_); refine goesL_ (some 21) rfl rfl Tryd.func62 (by kernel_rfl) rfl #[.slice Ao16 t352.length co16, .slice A1 l1.length c1] rfl (by (try simp only [List.map_toArray, List.map_cons, List.map_nil]); first | done | rfl | (simp only [List.length_drop, List.length_take]; rfl)) ?_; (with_reducible refine (sweep_town_isPath.calls k _ _ t352 _ _ l1 false _ ?side1 ?side2 ?side3 ?side4 A5.out).mono ?_); (case side1 => repeat (first | exact (Kd.V_reads' HO354.out).2.2 | (with_reducible refine Kd.C_alloc ?_ _) | (with_reducible refine Kd.C_drewN ?_ _) | (with_reducible refine Kd.C_drew ?_))); (case side2 => exact (Kd.V_reads' HO354.out).2.1); (case side3 => repeat (first | exact (Kd.C_below HR1.out HB.out) | (with_reducible refine Kd.C_alloc ?_ _) | (with_reducible refine Kd.C_drewN ?_ _) | (with_reducible refine Kd.C_drew ?_))); (case side4 => exact HC1.out); rintro e w17 ⟨rfl, hb⟩; refine ⟨_, rfl, ?_⟩; have n0_ := Aside0.mk (Kd.V_below (by (with_reducible repeat (first | apply Kd.V_alloc | apply Kd.V_drewN | apply Kd.V_drew)); exact HO354.out) hb); have n1_ := Aside0.mk (below_step (by repeat (first | (with_reducible first | exact HB.out | apply below_alloc | apply pw_below_drewN | apply below_drew1) | exact HB.out)) hb); clear HO354; clear HB; have HO354 := n0_; have HB := n1_; clear n0_ n1_; (try clear hb); (try clear hb2); (try clear hk); (try clear hi)))
      go_ret3
      exact ⟨by first | rfl | (simp [errW_none, errW_some] <;> rfl) | (simp [*, errW_none, errW_some] <;> rfl), by repeat (first | (with_reducible first | exact HB.out | apply below_alloc | apply pw_below_drewN | apply below_drew1) | exact HB.out)⟩
  · replace c4 := Bool.eq_false_iff.mpr c4
    subst c4
    have H1 : (some (0, false, 2)) = some (r1, r2, r3) := by rw [if_neg (show ¬ (false = true) by decide)] at H; exact H
    clear H
    have H := H1
    clear H1
    simp only [Option.some.injEq, Prod.mk.injEq] at H
    obtain ⟨rfl, rfl, rfl⟩ := H
    go_enter Tryd.func36, Tryd.ntmps36
    go_wp2_with (first | ((with_reducible refine gate_callee (f := 49) rfl ?_); refine goesL_ (some 14) rfl rfl Tryd.func49 (by kernel_rfl) rfl #[.slice A0 l0.length c0] rfl (by (try simp only [List.map_toArray, List.map_cons, List.map_nil]); first | done | rfl | (simp only [List.length_drop, List.length_take]; rfl)) ?_; (with_reducible refine (sweep_read.calls k (fun k_ => k_ < w.heap.size) _ _ l0 t352 false _ ?side1 A3.out).mono ?_); (case side1 => exact Kd.V_mk HC0.out (Kd.F_below (Kd.C_F (Kd.heap_int .i64) HR0.out) (by repeat (first | (with_reducible first | exact HB.out | apply below_alloc | apply pw_below_drewN | apply below_drew1) | exact HB.out)))); rintro e w18 ⟨v353, rfl, ho0, hb⟩; refine ⟨_, rfl, ?_⟩; have n0_ := Aside0.mk (Kd.V_lower (Kd.V_mono (ok' := fun k_ => True) ho0 (fun k_ hk_ => trivial)) (below_size (by repeat (first | (with_reducible first | exact HB.out | apply below_alloc | apply pw_below_drewN | apply below_drew1) | exact HB.out)))); have n1_ := Aside0.mk (below_step (by repeat (first | (with_reducible first | exact HB.out | apply below_alloc | apply pw_below_drewN | apply below_drew1) | exact HB.out)) hb); clear HB; have HO354 := n0_; have HB := n1_; clear n0_ n1_; (try clear hb); (try clear hb2); (try clear hk); (try clear hi); (try clear ho0)))
    go_ret3
    exact ⟨by first | rfl | (simp [errW_none, errW_some] <;> rfl) | (simp [*, errW_none, errW_some] <;> rfl), by repeat (first | (with_reducible first | exact HB.out | apply below_alloc | apply pw_below_drewN | apply below_drew1) | exact HB.out)⟩

end Go.Proofs.YtijfddobandcdaaDoor.X
end
section
/- Small words for loops over indices, and for what holds from some number of rounds on. -/
set_option linter.unusedVariables false
namespace Go.Proofs.YtijfddobandcdaaDoor.T
open Go.RowKit Go.Proofs.YtijfddobandcdaaDoorW.PrintWords Go.Proofs.YtijfddobandcdaaDoorW.PrintLast Go.Proofs.YtijfddobandcdaaDoorW.PrintMore

/-- p holds of i, i + 1, .., n - 1. -/
def allFrom (p : Nat → Bool) (n : Nat) : Nat → Nat → Bool
  | 0, _ => true
  | d + 1, i => p i && allFrom p n d (i + 1)
theorem allFrom_iff (p : Nat → Bool) (n : Nat) : ∀ d i, allFrom p n d i = true ↔ ∀ j, i ≤ j → j < i + d → p j = true
  | 0, i => by simp only [allFrom]; exact ⟨fun _ j h1 h2 => by omega, fun _ => trivial⟩
  | d + 1, i => by
    simp only [allFrom, Bool.and_eq_true, allFrom_iff p n d (i + 1)]
    constructor
    · rintro ⟨h0, h⟩ j h1 h2
      by_cases e : j = i
      · subst e; exact h0
      · exact h j (by omega) (by omega)
    · intro h
      exact ⟨h i (by omega) (by omega), fun j h1 h2 => h j (by omega) (by omega)⟩
/-- the bit of any int, as Go tells it -/
def ibit (x : Int) (i : Nat) : Int := Go.bits .and .i64 (shr .i64 x (i : Int)) 1
theorem ibit_nat (a i : Nat) (ha : a < 2 ^ 62) (hi : i < 62) : ibit (a : Int) i = ((a.testBit i).toNat : Int) := bit_at a i ha hi
theorem wrap_succ (i : Nat) (h : i < 2 ^ 61) : wrap64 ((i : Int) + 1) = ((i + 1 : Nat) : Int) := by
  rw [w64_small _ (by omega) (by omega)]; omega
theorem wrap_pred (i : Nat) (h : i < 2 ^ 61) (h0 : 0 < i) : wrap64 ((i : Int) - 1) = ((i - 1 : Nat) : Int) := by
  rw [w64_small _ (by omega) (by omega)]; omega
theorem Ev.uniq {α : Type} {g : Nat → Option α} {a b : α} (h : Ev g a) (h' : Ev g b) : a = b := by
  obtain ⟨K, h⟩ := h
  obtain ⟨K', h'⟩ := h'
  have h1 := h (max K K') (by omega)
  have h2 := h' (max K K') (by omega)
  rw [h1] at h2
  exact Option.some.inj h2
theorem Ev.bind1 {α β : Type} {g : Option α} {f : Nat → α → Option β} {a : α} {r : β} (h : g = some a) (k : Ev (fun n => f n a) r) : Ev (fun n => g.bind (f n)) r := by subst h; exact k
theorem Ev.some {α : Type} {r r' : α} (h : r = r') : Ev (fun _ => some r) r' := by subst h; exact Ev.now r
theorem Ev.if_pos {α : Type} {c : Prop} [Decidable c] {g f : Nat → Option α} {r : α} (h : c) (k : Ev g r) : Ev (fun n => if c then g n else f n) r := by
  refine Ev.congr (fun n => ?_) k
  rw [_root_.if_pos h]
theorem Ev.if_neg {α : Type} {c : Prop} [Decidable c] {g f : Nat → Option α} {r : α} (h : ¬ c) (k : Ev f r) : Ev (fun n => if c then g n else f n) r := by
  refine Ev.congr (fun n => ?_) k
  rw [_root_.if_neg h]
/-- A test that both ways serve. -/
theorem Ev.ite {α : Type} {c : Prop} [Decidable c] {g f : Nat → Option α} {r : α} (h1 : c → Ev g r) (h2 : ¬ c → Ev f r) : Ev (fun n => if c then g n else f n) r := by
  by_cases h : c
  · exact Ev.if_pos h (h1 h)
  · exact Ev.if_neg h (h2 h)
end Go.Proofs.YtijfddobandcdaaDoor.T
end
section
/- Graphs as lists of numbers: what it is to be valid; sets of nodes as numbers. -/
set_option linter.unusedVariables false
namespace Go.Proofs.YtijfddobandcdaaDoor.T
open Go.RowKit Go.Proofs.YtijfddobandcdaaDoorW.PrintWords Go.Proofs.YtijfddobandcdaaDoorW.PrintLast Go.Proofs.YtijfddobandcdaaDoorW.PrintMore

/-- What the program asks of row i of a graph. -/
def rowOk (g : List Int) (i : Nat) : Bool :=
  !decide (rd g (i : Int) < 0) && !decide (rd g (i : Int) ≥ shl .i64 1 (g.length : Int)) && !(ibit (rd g (i : Int)) i == 1) &&
    allFrom (fun j => decide (ibit (rd g (i : Int)) j = ibit (rd g (j : Int)) i)) g.length g.length 0
/-- A valid graph of at most m nodes. -/
def chk (m : Nat) (g : List Int) : Bool := decide (1 ≤ g.length) && decide (g.length ≤ m) && allFrom (rowOk g) g.length g.length 0

/-- A graph: the rows are sets of nodes, none has itself, and neighbours are so both ways. -/
structure Gr (m : Nat) (G : List Nat) : Prop where
  pos : 1 ≤ G.length
  most : G.length ≤ m
  lt : ∀ i, i < G.length → G.getD i 0 < 2 ^ G.length
  irr : ∀ i, i < G.length → (G.getD i 0).testBit i = false
  symm : ∀ i j, i < G.length → j < G.length → (G.getD i 0).testBit j = (G.getD j 0).testBit i

theorem chk_iff (m : Nat) (hm : m ≤ 13) (g : List Int) : chk m g = true ↔ ∃ G, g = gi G ∧ Gr m G := by
  have p62 : ∀ n : Nat, n ≤ 13 → 2 ^ n < 2 ^ 62 := fun n hn => Nat.pow_lt_pow_right (by omega) (by omega)
  constructor
  · intro h
    simp only [chk, Bool.and_eq_true, decide_eq_true_eq, allFrom_iff] at h
    obtain ⟨⟨h1, h2⟩, h3⟩ := h
    have hn : g.length ≤ 13 := by omega
    have hrow : ∀ i, i < g.length → (0 ≤ rd g (i : Int) ∧ rd g (i : Int) < ((2 ^ g.length : Nat) : Int)) ∧ ibit (rd g (i : Int)) i ≠ 1 ∧ ∀ j, j < g.length → ibit (rd g (i : Int)) j = ibit (rd g (j : Int)) i := by
      intro i hi
      have := h3 i (by omega) (by omega)
      simp only [rowOk, Bool.and_eq_true, Bool.not_eq_true', decide_eq_false_iff_not, beq_eq_false_iff_ne, allFrom_iff, decide_eq_true_eq] at this
      obtain ⟨⟨⟨a, b⟩, c⟩, d⟩ := this
      rw [s_one _ (by omega)] at b
      exact ⟨⟨by omega, by omega⟩, c, fun j hj => d j (by omega) (by omega)⟩
    obtain ⟨G, rfl⟩ := gi_nonneg g (fun x hx => by
      obtain ⟨i, hi, rfl⟩ := List.getElem_of_mem hx
      have := (hrow i hi).1.1
      unfold rd at this
      rw [Int.toNat_natCast, List.getD_eq_getElem?_getD, List.getElem?_eq_getElem hi] at this
      exact this)
    simp only [gi_length, rd_gi] at hrow h1 h2 hn
    have hlt : ∀ i, i < G.length → G.getD i 0 < 2 ^ G.length := fun i hi => by have := (hrow i hi).1.2; omega
    refine ⟨G, rfl, h1, h2, hlt, fun i hi => ?_, fun i j hi hj => ?_⟩
    · have := (hrow i hi).2.1
      rw [ibit_nat _ _ (Nat.lt_trans (hlt i hi) (p62 _ hn)) (by omega)] at this
      cases hb : (G.getD i 0).testBit i
      · rfl
      · rw [hb] at this; exact (this rfl).elim
    · have := (hrow i hi).2.2 j hj
      rw [ibit_nat _ _ (Nat.lt_trans (hlt i hi) (p62 _ hn)) (by omega), ibit_nat _ _ (Nat.lt_trans (hlt j hj) (p62 _ hn)) (by omega)] at this
      cases ha : (G.getD i 0).testBit j <;> cases hb : (G.getD j 0).testBit i <;> rw [ha, hb] at this <;> simp_all
  · rintro ⟨G, rfl, hG⟩
    have hn : G.length ≤ 13 := Nat.le_trans hG.most hm
    simp only [chk, Bool.and_eq_true, decide_eq_true_eq, allFrom_iff, gi_length]
    refine ⟨⟨hG.pos, hG.most⟩, fun i _ hi => ?_⟩
    have hi : i < G.length := by omega
    simp only [rowOk, Bool.and_eq_true, Bool.not_eq_true', decide_eq_false_iff_not, beq_eq_false_iff_ne, allFrom_iff, decide_eq_true_eq, rd_gi, gi_length]
    rw [s_one _ (by omega)]
    have hl := hG.lt i hi
    refine ⟨⟨⟨by omega, by omega⟩, ?_⟩, fun j _ hj => ?_⟩
    · rw [ibit_nat _ _ (Nat.lt_trans hl (p62 _ hn)) (by omega), hG.irr i hi]; simp
    · have hj : j < G.length := by omega
      rw [ibit_nat _ _ (Nat.lt_trans hl (p62 _ hn)) (by omega), ibit_nat _ _ (Nat.lt_trans (hG.lt j hj) (p62 _ hn)) (by omega), hG.symm i j hi hj]

/-- Neighbours. -/
def Adj (G : List Nat) (u w : Nat) : Prop := (G.getD u 0).testBit w = true
theorem getD_out (G : List Nat) (i : Nat) (h : G.length ≤ i) : G.getD i 0 = 0 := by
  rw [List.getD_eq_getElem?_getD, List.getElem?_eq_none h]; rfl
theorem Gr.row {m : Nat} {G : List Nat} (h : Gr m G) (i : Nat) : G.getD i 0 < 2 ^ G.length := by
  by_cases hi : i < G.length
  · exact h.lt i hi
  · rw [getD_out G i (by omega)]; exact Nat.two_pow_pos _
theorem Gr.adj_lt {m : Nat} {G : List Nat} (h : Gr m G) {u w : Nat} (a : Adj G u w) : w < G.length := by
  apply Classical.byContradiction
  intro hw
  unfold Adj at a
  rw [testBit_ge (h.row u) (by omega)] at a
  cases a
theorem Gr.adj_lt' {m : Nat} {G : List Nat} (h : Gr m G) {u w : Nat} (a : Adj G u w) : u < G.length := by
  apply Classical.byContradiction
  intro hu
  unfold Adj at a
  rw [getD_out G u (by omega)] at a
  simp at a
theorem Gr.adj_symm {m : Nat} {G : List Nat} (h : Gr m G) {u w : Nat} (a : Adj G u w) : Adj G w u := by
  have h1 := h.adj_lt a
  have h2 := h.adj_lt' a
  unfold Adj at *
  rw [← h.symm u w h2 h1]; exact a
theorem Gr.adj_irr {m : Nat} {G : List Nat} (h : Gr m G) {u : Nat} : ¬ Adj G u u := by
  intro a
  have h2 := h.adj_lt' a
  unfold Adj at a
  rw [h.irr u h2] at a
  cases a

/-- The neighbours of the nodes of a set: some nodes' rows, joined. -/
def around (G : List Nat) (s : Nat) : Nat → Nat
  | 0 => 0
  | d + 1 => around G s d ||| (if s.testBit d then G.getD d 0 else 0)
theorem around_bit (G : List Nat) (s : Nat) : ∀ d j, (around G s d).testBit j = true ↔ ∃ i, i < d ∧ s.testBit i = true ∧ Adj G i j
  | 0, j => by simp [around]
  | d + 1, j => by
    simp only [around, Nat.testBit_or, Bool.or_eq_true, around_bit G s d]
    constructor
    · rintro (⟨i, h1, h2⟩ | h)
      · exact ⟨i, by omega, h2⟩
      · by_cases hs : s.testBit d = true
        · rw [if_pos hs] at h; exact ⟨d, by omega, hs, h⟩
        · rw [if_neg hs] at h; simp at h
    · rintro ⟨i, h1, h2, h3⟩
      by_cases e : i = d
      · subst e; rw [if_pos h2]; exact .inr h3
      · exact .inl ⟨i, by omega, h2, h3⟩
/-- .. of all its nodes. -/
def Around (G : List Nat) (s : Nat) : Nat := around G s G.length
theorem Around_bit {m : Nat} {G : List Nat} (h : Gr m G) (s j : Nat) : (Around G s).testBit j = true ↔ ∃ i, s.testBit i = true ∧ Adj G i j := by
  unfold Around
  rw [around_bit]
  exact ⟨fun ⟨i, _, h2⟩ => ⟨i, h2⟩, fun ⟨i, h1, h2⟩ => ⟨i, h.adj_lt' h2, h1, h2⟩⟩
theorem lt_of_bits {x n : Nat} (h : ∀ j, x.testBit j = true → j < n) : x < 2 ^ n := by
  apply Nat.lt_pow_two_of_testBit
  intro i hi
  cases hb : x.testBit i
  · rfl
  · have := h i hb; omega
theorem bit_lt {x n j : Nat} (h : x < 2 ^ n) (hb : x.testBit j = true) : j < n := by
  apply Classical.byContradiction
  intro hj
  rw [testBit_ge h (by omega)] at hb
  cases hb
theorem Around_lt {m : Nat} {G : List Nat} (h : Gr m G) (s : Nat) : Around G s < 2 ^ G.length :=
  lt_of_bits fun j hj => by obtain ⟨i, _, h2⟩ := (Around_bit h s j).1 hj; exact h.adj_lt h2
theorem eq_of_bits {a b : Nat} (h : ∀ j, a.testBit j = true ↔ b.testBit j = true) : a = b := by
  apply Nat.eq_of_testBit_eq
  intro i
  have := h i
  cases ha : a.testBit i <;> cases hb : b.testBit i <;> simp_all

/-- What is connected with the nodes of s within w. -/
inductive Con (adj : Nat → Nat → Prop) (w : Nat → Prop) (s : Nat → Prop) : Nat → Prop
  | base {u : Nat} : s u → Con adj w s u
  | step {x u : Nat} : Con adj w s x → adj x u → w u → Con adj w s u
def bset (x : Nat) (i : Nat) : Prop := x.testBit i = true
end Go.Proofs.YtijfddobandcdaaDoor.T
end
section
/- Elimination orders of graphs, in plain Lean: a node less, an edge less, two neighbours made one. No program is in sight. -/
set_option linter.unusedVariables false
namespace Go.Proofs.YtijfddobandcdaaDoor.T

/-- At most k numbers have the property. -/
def AtMost (k : Nat) (P : Nat → Prop) : Prop := ∃ l : List Nat, l.length ≤ k ∧ ∀ u, P u → u ∈ l

theorem AtMost.mono {k k' : Nat} {P Q : Nat → Prop} (h : AtMost k P) (hk : k ≤ k') (hq : ∀ u, Q u → P u) : AtMost k' Q := by
  obtain ⟨l, hl, hp⟩ := h
  exact ⟨l, Nat.le_trans hl hk, fun u hu => hp u (hq u hu)⟩
theorem AtMost.map {k : Nat} {P Q : Nat → Prop} (f : Nat → Nat) (h : AtMost k P) (hq : ∀ u, Q u → ∃ x, P x ∧ f x = u) : AtMost k Q := by
  obtain ⟨l, hl, hp⟩ := h
  refine ⟨l.map f, by simpa using hl, fun u hu => ?_⟩
  obtain ⟨x, hx, rfl⟩ := hq u hu
  exact List.mem_map_of_mem (hp x hx)
theorem AtMost.succ {k : Nat} {P Q : Nat → Prop} (h : AtMost k P) (a : Nat) (hq : ∀ u, Q u → P u ∨ u = a) : AtMost (k + 1) Q := by
  obtain ⟨l, hl, hp⟩ := h
  refine ⟨a :: l, by simp; omega, fun u hu => ?_⟩
  rcases hq u hu with h | h
  · exact List.mem_cons_of_mem _ (hp u h)
  · subst h
    exact List.mem_cons_self
theorem AtMost.below {n : Nat} {P : Nat → Prop} (h : ∀ u, P u → u < n) : AtMost n P := ⟨List.range n, by simp, fun u hu => List.mem_range.2 (h u hu)⟩

/-- Nodes to which a way leads from v whose other nodes are in S. -/
inductive Way (adj : Nat → Nat → Prop) (S : Nat → Prop) (v : Nat) : Nat → Prop
  | one {u : Nat} : adj v u → Way adj S v u
  | more {x u : Nat} : Way adj S v x → S x → adj x u → Way adj S v u

/-- The neighbours that v has at its turn, S gone before. -/
def Nb (adj : Nat → Nat → Prop) (S : Nat → Prop) (v u : Nat) : Prop := Way adj S v u ∧ ¬ S u ∧ u ≠ v

/-- S can be eliminated, no node with more than k neighbours at its turn. -/
inductive Elim (V : Nat → Prop) (adj : Nat → Nat → Prop) (k : Nat) : (Nat → Prop) → Prop
  | nil : Elim V adj k (fun _ => False)
  | snoc {S : Nat → Prop} (v : Nat) : Elim V adj k S → V v → ¬ S v → AtMost k (Nb adj S v) → Elim V adj k (fun u => S u ∨ u = v)

theorem Elim.ext {V : Nat → Prop} {adj : Nat → Nat → Prop} {k : Nat} {S S' : Nat → Prop} (h : Elim V adj k S) (e : ∀ u, S u ↔ S' u) : Elim V adj k S' := by
  have : S = S' := funext fun u => propext (e u)
  subst this
  exact h
theorem Elim.mono {V : Nat → Prop} {adj : Nat → Nat → Prop} {k k' : Nat} {S : Nat → Prop} (h : Elim V adj k S) (hk : k ≤ k') : Elim V adj k' S := by
  induction h with
  | nil => exact .nil
  | snoc v _ hv hs ha ih => exact .snoc v ih hv hs (ha.mono hk fun _ h => h)
theorem Elim.sub {V : Nat → Prop} {adj : Nat → Nat → Prop} {k : Nat} {S : Nat → Prop} (h : Elim V adj k S) : ∀ u, S u → V u := by
  induction h with
  | nil => intro u hu; exact hu.elim
  | snoc v _ hv _ _ ih =>
    intro u hu
    rcases hu with hu | hu
    · exact ih u hu
    · subst hu; exact hv

theorem Way.inside {adj : Nat → Nat → Prop} {S W : Nat → Prop} (hW : ∀ u w, adj u w → W w) {v u : Nat} (h : Way adj S v u) : W u := by
  cases h with
  | one h => exact hW _ _ h
  | more _ _ h => exact hW _ _ h

/-- A graph that lies in another one (by φ, which ψ undoes) has no greater width. -/
theorem Elim.part {V W : Nat → Prop} {adj adj' : Nat → Nat → Prop} {k : Nat} (φ ψ : Nat → Nat) (hψ : ∀ u, ψ (φ u) = u)
    (hW : ∀ u w, adj' u w → W w) (hadj : ∀ u w, adj' u w → adj (φ u) (φ w)) {S : Nat → Prop} (h : Elim V adj k S) :
    Elim W adj' k (fun u => W u ∧ S (φ u)) := by
  have hinj : ∀ a b, φ a = φ b → a = b := fun a b e => by rw [← hψ a, ← hψ b, e]
  induction h with
  | nil => exact Elim.nil.ext fun u => ⟨fun h => h.elim, fun h => h.2⟩
  | @snoc S v _ hv hs ha ih =>
    by_cases hp : ∃ u, W u ∧ φ u = v
    · obtain ⟨u, hu, rfl⟩ := hp
      refine (Elim.snoc u ih hu (fun h => hs h.2) ?_).ext ?_
      · refine ha.map ψ fun w hw => ⟨φ w, ⟨?_, ?_, ?_⟩, hψ w⟩
        · have key : ∀ x, Way adj' (fun u => W u ∧ S (φ u)) u x → Way adj S (φ u) (φ x) := by
            intro x hx
            induction hx with
            | one h => exact .one (hadj _ _ h)
            | more _ hS h ih => exact .more ih hS.2 (hadj _ _ h)
          exact key w hw.1
        · intro hSw
          exact hw.2.1 ⟨hw.1.inside hW, hSw⟩
        · intro e
          exact hw.2.2 (hinj _ _ e)
      · intro x
        constructor
        · rintro (h | h)
          · exact ⟨h.1, .inl h.2⟩
          · subst h; exact ⟨hu, .inr rfl⟩
        · rintro ⟨h1, h2 | h2⟩
          · exact .inl ⟨h1, h2⟩
          · exact .inr (hinj _ _ h2)
    · refine ih.ext fun u => ⟨fun h => ⟨h.1, .inl h.2⟩, fun h => ⟨h.1, ?_⟩⟩
      rcases h.2 with h2 | h2
      · exact h2
      · exact (hp ⟨u, h.1, h2⟩).elim

/-- A node more raises the width by at most one: H is G without a, by φ. -/
theorem Elim.more {V W : Nat → Prop} {adj adj' : Nat → Nat → Prop} {k : Nat} (a : Nat) (φ : Nat → Nat) (hinj : ∀ x y, φ x = φ y → x = y)
    (hV : ∀ u, V u ↔ u = a ∨ ∃ x, W x ∧ φ x = u) (ha : ∀ x, φ x ≠ a)
    (hin : ∀ u w, adj u w → V w) (hadj : ∀ u w, adj (φ u) (φ w) → adj' u w) {S : Nat → Prop} (h : Elim W adj' k S) :
    Elim V adj (k + 1) (fun u => ∃ x, S x ∧ φ x = u) := by
  induction h with
  | nil => exact Elim.nil.ext fun u => ⟨fun h => h.elim, fun ⟨_, h, _⟩ => h⟩
  | @snoc S v hS hv hs hm ih =>
    refine (Elim.snoc (φ v) ih ((hV _).2 (.inr ⟨v, hv, rfl⟩)) (fun ⟨x, hx, e⟩ => hs (hinj _ _ e ▸ hx)) ?_).ext ?_
    · refine AtMost.succ (P := fun u => ∃ w, Nb adj' S v w ∧ φ w = u) (hm.map φ fun u ⟨w, hw, e⟩ => ⟨w, hw, e⟩) a ?_
      rintro u ⟨hu, hnu, hne⟩
      have key : ∀ y, Way adj (fun u => ∃ x, S x ∧ φ x = u) (φ v) y → ∀ x, φ x = y → Way adj' S v x := by
        intro y hy
        induction hy with
        | one h => rintro x rfl; exact .one (hadj _ _ h)
        | more _ hS h ih =>
          rintro x rfl
          obtain ⟨z, hz, rfl⟩ := hS
          exact .more (ih z rfl) hz (hadj _ _ h)
      rcases (hV u).1 (hu.inside hin) with e | ⟨x, hx, rfl⟩
      · exact .inr e
      · refine .inl ⟨x, ⟨key _ hu x rfl, fun h => hnu ⟨x, h, rfl⟩, fun e => hne (by rw [e])⟩, rfl⟩
    · intro u
      constructor
      · rintro (⟨x, hx, e⟩ | h)
        · exact ⟨x, .inl hx, e⟩
        · exact ⟨v, .inr rfl, h.symm⟩
      · rintro ⟨x, hx | hx, e⟩
        · exact .inl ⟨x, hx, e⟩
        · subst hx; exact .inr e.symm

/-- .. and the whole graph, a last. -/
theorem Elim.more_all {V W : Nat → Prop} {adj adj' : Nat → Nat → Prop} {k : Nat} (a : Nat) (φ : Nat → Nat) (hinj : ∀ x y, φ x = φ y → x = y)
    (hV : ∀ u, V u ↔ u = a ∨ ∃ x, W x ∧ φ x = u) (ha : ∀ x, φ x ≠ a)
    (hin : ∀ u w, adj u w → V w) (hadj : ∀ u w, adj (φ u) (φ w) → adj' u w) (h : Elim W adj' k W) : Elim V adj (k + 1) V := by
  refine (Elim.snoc a (Elim.more a φ hinj hV ha hin hadj h) ((hV a).2 (.inl rfl)) (fun ⟨x, _, e⟩ => ha x e) ?_).ext ?_
  · refine ⟨[], by simp, ?_⟩
    rintro u ⟨hu, hn, hne⟩
    rcases (hV u).1 (hu.inside hin) with e | e
    · exact (hne e).elim
    · exact (hn e).elim
  · intro u
    rw [hV]
    exact ⟨fun h => h.symm, fun h => h.symm⟩

/-- Two neighbours made one: b goes into a. -/
def glue (a b x : Nat) : Nat := if x = b then a else x

theorem Elim.contract {V : Nat → Prop} {adj adj' : Nat → Nat → Prop} {k : Nat} (a b : Nat) (hab : adj a b) (hba : adj b a) (hne : a ≠ b) (hVa : V a)
    (hadj : ∀ u w, adj' u w → u ≠ w ∧ ∃ x y, glue a b x = u ∧ glue a b y = w ∧ adj x y) {S : Nat → Prop} (h : Elim V adj k S) :
    Elim (fun u => V u ∧ u ≠ b) adj' k (fun u => u ≠ b ∧ ∀ x, glue a b x = u → S x) := by
  have ga : glue a b a = a := by unfold glue; rw [if_neg hne]
  have gb : glue a b b = a := by unfold glue; rw [if_pos rfl]
  have gx : ∀ x, x ≠ b → glue a b x = x := fun x h => by unfold glue; rw [if_neg h]
  have gn : ∀ x, glue a b x ≠ b := fun x => by unfold glue; split <;> omega
  have pre : ∀ x u, glue a b x = u → u ≠ a → x = u := fun x u h hu => by
    by_cases e : x = b
    · subst e; rw [gb] at h; omega
    · rw [gx x e] at h; exact h
  have pre2 : ∀ x, glue a b x = a → x = a ∨ x = b := fun x h => by
    by_cases e : x = b
    · exact .inr e
    · rw [gx x e] at h; exact .inl h
  induction h with
  | nil => exact Elim.nil.ext fun u => ⟨fun h => h.elim, fun h => by
      by_cases e : u = a
      · subst e; exact h.2 u ga
      · exact h.2 u (gx u h.1)⟩
  | @snoc S v _ hv hs hm ih =>
    -- ways in the smaller graph come of ways in the greater one
    have stepS : ∀ s x, Way adj S s x → S x → ∀ y, glue a b y = glue a b x → Way adj S s y := by
      intro s x hx hSx y e
      by_cases exy : x = y
      · subst exy; exact hx
      · by_cases hya : glue a b x = a
        · rcases pre2 x hya with rfl | rfl <;> rcases pre2 y (e.trans hya) with rfl | rfl
          · exact hx
          · exact .more hx hSx hab
          · exact .more hx hSx hba
          · exact hx
        · have h1 := pre x _ rfl hya
          have h2 := pre y _ e (by rw [← e] at hya; rw [e] at hya; exact hya)
          exact (exy (h1.trans h2.symm)).elim
    by_cases hcase : (v = a ∧ S b) ∨ (v = b ∧ S a) ∨ (v ≠ a ∧ v ≠ b)
    · -- the node of v goes
      have hgv : glue a b v ≠ b := gn v
      have hVg : V (glue a b v) := by
        by_cases e : v = b
        · rw [e, gb]; exact hVa
        · rw [gx v e]; exact hv
      -- from each preimage of v's node there is a way from v, of what is gone
      have start : ∀ y, glue a b y = glue a b v → y = v ∨ (S y ∧ Way adj S v y) := by
        intro y e
        rcases hcase with ⟨rfl, hb⟩ | ⟨rfl, ha'⟩ | ⟨h1, h2⟩
        · rw [ga] at e
          rcases pre2 y e with h | h
          · exact .inl h
          · subst h; exact .inr ⟨hb, .one hab⟩
        · rw [gb] at e
          rcases pre2 y e with h | h
          · subst h; exact .inr ⟨ha', .one hba⟩
          · exact .inl h
        · rw [gx v h2] at e
          exact .inl (pre y v e h1)
      have key : ∀ w, Way adj' (fun u => u ≠ b ∧ ∀ x, glue a b x = u → S x) (glue a b v) w → ∃ x, glue a b x = w ∧ Way adj S v x := by
        intro w hw
        induction hw with
        | one h =>
          obtain ⟨_, x, y, hx, hy, hxy⟩ := hadj _ _ h
          rcases start x hx with rfl | ⟨h1, h2⟩
          · exact ⟨y, hy, .one hxy⟩
          · exact ⟨y, hy, .more h2 h1 hxy⟩
        | more _ hS h ih =>
          obtain ⟨z, hz, hwz⟩ := ih
          obtain ⟨_, x, y, hx, hy, hxy⟩ := hadj _ _ h
          have hSz := hS.2 z hz
          have hSx := hS.2 x hx
          exact ⟨y, hy, .more (stepS v z hwz hSz x (hx.trans hz.symm)) hSx hxy⟩
      refine (Elim.snoc (glue a b v) ih ⟨hVg, hgv⟩ (fun h => hs (h.2 v rfl)) ?_).ext ?_
      · refine hm.map (glue a b) fun w hw => ?_
        obtain ⟨hw1, hw2, hw3⟩ := hw
        obtain ⟨x, hx, hwx⟩ := key w hw1
        have hwb : w ≠ b := hx ▸ gn x
        by_cases hSx : S x
        · -- another preimage is not gone
          have : ∃ y, glue a b y = w ∧ ¬ S y := Classical.byContradiction fun hno => hw2 ⟨hwb, fun y hy => Classical.byContradiction fun h => hno ⟨y, hy, h⟩⟩
          obtain ⟨y, hy, hSy⟩ := this
          exact ⟨y, ⟨stepS v x hwx hSx y (hy.trans hx.symm), hSy, fun e => hw3 (by rw [← hy, e])⟩, hy⟩
        · exact ⟨x, ⟨hwx, hSx, fun e => hw3 (by rw [← hx, e])⟩, hx⟩
      · intro u
        constructor
        · rintro (⟨h1, h2⟩ | rfl)
          · exact ⟨h1, fun x hx => .inl (h2 x hx)⟩
          · refine ⟨hgv, fun x hx => ?_⟩
            rcases start x hx with h | h
            · exact .inr h
            · exact .inl h.1
        · rintro ⟨h1, h2⟩
          by_cases e : u = glue a b v
          · exact .inr e
          · refine .inl ⟨h1, fun x hx => ?_⟩
            rcases h2 x hx with h | h
            · exact h
            · subst h; exact (e hx.symm).elim
    · -- the other one is still there: nothing goes
      refine ih.ext fun u => ⟨fun h => ⟨h.1, fun x hx => .inl (h.2 x hx)⟩, fun h => ⟨h.1, fun x hx => ?_⟩⟩
      rcases h.2 x hx with h' | h'
      · exact h'
      · subst h'
        exfalso
        apply hcase
        by_cases e1 : x = a
        · refine .inl ⟨e1, ?_⟩
          subst e1
          rw [ga] at hx
          subst hx
          rcases h.2 b gb with h | h
          · exact h
          · exact (hne h.symm).elim
        · by_cases e2 : x = b
          · subst e2
            rw [gb] at hx
            subst hx
            rcases h.2 a ga with h | h
            · exact .inr (.inl ⟨rfl, h⟩)
            · exact (hne h).elim
          · exact .inr (.inr ⟨e1, e2⟩)
end Go.Proofs.YtijfddobandcdaaDoor.T
end
section
/- Sets of nodes as numbers: how many they have, what is connected with them, the neighbours of a node at its turn. -/
set_option linter.unusedVariables false
namespace Go.Proofs.YtijfddobandcdaaDoor.T
open Go.RowKit Go.Proofs.YtijfddobandcdaaDoorW.PrintWords Go.Proofs.YtijfddobandcdaaDoorW.PrintLast Go.Proofs.YtijfddobandcdaaDoorW.PrintMore

/-- The set of the numbers below n with a property. -/
noncomputable def ofSet (P : Nat → Prop) : Nat → Nat
  | 0 => 0
  | d + 1 => ofSet P d ||| (@ite _ (P d) (Classical.propDecidable _) (2 ^ d) 0)
theorem ofSet_bit (P : Nat → Prop) : ∀ n j, bset (ofSet P n) j ↔ j < n ∧ P j
  | 0, j => by simp [ofSet, bset]
  | d + 1, j => by
    have ih := ofSet_bit P d j
    unfold bset at *
    simp only [ofSet, Nat.testBit_or, Bool.or_eq_true, ih]
    by_cases h : P d
    · rw [if_pos h, Nat.testBit_two_pow, decide_eq_true_eq]
      constructor
      · rintro (h1 | h1)
        · exact ⟨by omega, h1.2⟩
        · subst h1; exact ⟨by omega, h⟩
      · rintro ⟨h1, h2⟩
        by_cases e : d = j
        · exact .inr e
        · exact .inl ⟨by omega, h2⟩
    · rw [if_neg h]
      simp
      intro h1
      constructor
      · intro _; omega
      · intro _
        by_cases e : j = d
        · subst e; exact (h h1).elim
        · omega
theorem ofSet_lt (P : Nat → Prop) (n : Nat) : ofSet P n < 2 ^ n := lt_of_bits fun j hj => ((ofSet_bit P n j).1 hj).1
theorem eq_ofSet {P : Nat → Prop} {n x : Nat} (hx : x < 2 ^ n) (h : ∀ j, bset x j ↔ P j) : x = ofSet P n :=
  eq_of_bits fun j => by
    have := ofSet_bit P n j
    unfold bset at *
    rw [this, ← h j]
    exact ⟨fun hb => ⟨bit_lt hx hb, hb⟩, fun hb => hb.2⟩

/-- How many elements below n a set has. -/
def pc (x : Nat) : Nat → Nat
  | 0 => 0
  | d + 1 => pc x d + (x.testBit d).toNat
theorem pc_le (x : Nat) : ∀ n, pc x n ≤ n
  | 0 => Nat.le_refl _
  | d + 1 => by have := pc_le x d; simp only [pc]; cases x.testBit d <;> simp <;> omega
theorem pc_mono {x y : Nat} : ∀ n, (∀ j, j < n → x.testBit j = true → y.testBit j = true) → pc x n ≤ pc y n
  | 0, _ => Nat.le_refl _
  | d + 1, h => by
    have ih := pc_mono d (fun j hj => h j (by omega))
    have := h d (by omega)
    simp only [pc]
    cases hx : x.testBit d <;> cases hy : y.testBit d <;> simp_all <;> omega
theorem pc_lt {x y : Nat} (i : Nat) : ∀ n, (∀ j, j < n → x.testBit j = true → y.testBit j = true) → i < n → x.testBit i = false → y.testBit i = true → pc x n < pc y n
  | 0, _, hi, _, _ => by omega
  | d + 1, h, hi, h1, h2 => by
    simp only [pc]
    by_cases e : i = d
    · subst e
      have ih := pc_mono i (fun j hj => h j (by omega))
      rw [h1, h2]; simp; omega
    · have ih := pc_lt i d (fun j hj => h j (by omega)) (by omega) h1 h2
      have := h d (by omega)
      cases hx : x.testBit d <;> cases hy : y.testBit d <;> simp_all <;> omega
/-- The elements below n. -/
def els (x : Nat) (n : Nat) : List Nat := (List.range n).filter fun i => x.testBit i
theorem els_length (x : Nat) : ∀ n, (els x n).length = pc x n
  | 0 => rfl
  | d + 1 => by
    have ih := els_length x d
    unfold els at *
    rw [List.range_succ, List.filter_append, List.length_append, ih]
    simp only [pc]
    cases h : x.testBit d <;> simp [h]
theorem mem_els {x n j : Nat} : j ∈ els x n ↔ j < n ∧ x.testBit j = true := by unfold els; simp
theorem els_nodup (x n : Nat) : (els x n).Nodup := List.Pairwise.filter _ List.nodup_range
theorem nodup_le {l m : List Nat} (h : l.Nodup) (hs : ∀ x ∈ l, x ∈ m) : l.length ≤ m.length := by
  induction l generalizing m with
  | nil => simp
  | cons a l ih =>
    obtain ⟨h1, h2⟩ := List.nodup_cons.1 h
    have ha := hs a List.mem_cons_self
    have := ih (m := m.erase a) h2 (fun x hx => by
      have hxa : x ≠ a := fun e => h1 (e ▸ hx)
      exact (List.mem_erase_of_ne hxa).2 (hs x (List.mem_cons_of_mem _ hx)))
    rw [List.length_erase_of_mem ha] at this
    have : 0 < m.length := List.length_pos_of_mem ha
    simp only [List.length_cons]
    omega
theorem atMost_pc {x n k : Nat} (hx : x < 2 ^ n) : AtMost k (bset x) ↔ pc x n ≤ k := by
  rw [← els_length]
  constructor
  · rintro ⟨l, hl, h⟩
    exact Nat.le_trans (nodup_le (els_nodup x n) fun j hj => h j (mem_els.1 hj).2) hl
  · intro h
    exact ⟨els x n, h, fun j hj => mem_els.2 ⟨bit_lt hx hj, hj⟩⟩

/-- What is connected with s within w, as a set. -/
noncomputable def conset (G : List Nat) (s w : Nat) : Nat := ofSet (Con (Adj G) (bset w) (bset s)) G.length
theorem Con.inside {adj : Nat → Nat → Prop} {w s : Nat → Prop} {u : Nat} (h : Con adj w s u) : s u ∨ w u := by
  cases h with
  | base h => exact .inl h
  | step _ _ h => exact .inr h
theorem Con.mono {adj : Nat → Nat → Prop} {w s w' s' : Nat → Prop} (hw : ∀ u, w u → w' u) (hs : ∀ u, s u → s' u) {u : Nat} (h : Con adj w s u) : Con adj w' s' u := by
  induction h with
  | base h => exact .base (hs _ h)
  | step _ a h ih => exact .step ih a (hw _ h)
theorem conset_bit {m : Nat} {G : List Nat} (hG : Gr m G) {s : Nat} (w : Nat) (hs : s < 2 ^ G.length) (j : Nat) : bset (conset G s w) j ↔ Con (Adj G) (bset w) (bset s) j := by
  unfold conset
  rw [ofSet_bit]
  refine ⟨fun h => h.2, fun h => ⟨?_, h⟩⟩
  cases h with
  | base h => exact bit_lt hs h
  | step _ a _ => exact hG.adj_lt a
theorem conset_lt (G : List Nat) (s w : Nat) : conset G s w < 2 ^ G.length := ofSet_lt _ _
/-- A set that has s and is closed, and has nothing else, is that. -/
theorem conset_eq {m : Nat} {G : List Nat} (hG : Gr m G) {s w x : Nat} (hs : s < 2 ^ G.length) (hx : x < 2 ^ G.length) (h1 : ∀ j, bset s j → bset x j)
    (h2 : ∀ j, bset x j → Con (Adj G) (bset w) (bset s) j) (h3 : ∀ i j, bset x i → Adj G i j → bset w j → bset x j) : x = conset G s w :=
  eq_ofSet hx fun j => ⟨h2 j, fun h => by
    induction h with
    | base h => exact h1 _ h
    | step _ a h ih => exact h3 _ _ ih a h⟩

/-- The neighbours that v has at its turn, as a set: the program's way to tell them. -/
noncomputable def nbset (G : List Nat) (gone v : Nat) : Nat := diff (diff (Around G (conset G (2 ^ v) (gone ||| 2 ^ v))) gone) (2 ^ v)
theorem two_pow_bit (v j : Nat) : bset (2 ^ v) j ↔ j = v := by
  unfold bset; rw [Nat.testBit_two_pow, decide_eq_true_eq]; exact ⟨fun h => h.symm, fun h => h.symm⟩
theorem diff_bset (a b j : Nat) : bset (diff a b) j ↔ bset a j ∧ ¬ bset b j := by
  unfold bset; rw [diff_testBit]; cases a.testBit j <;> cases b.testBit j <;> simp
theorem or_bset (a b j : Nat) : bset (a ||| b) j ↔ bset a j ∨ bset b j := by unfold bset; simp
theorem and_bset (a b j : Nat) : bset (a &&& b) j ↔ bset a j ∧ bset b j := by unfold bset; simp
theorem nbset_bit {m : Nat} {G : List Nat} (hG : Gr m G) {gone v : Nat} (hv : v < G.length) (j : Nat) : bset (nbset G gone v) j ↔ Nb (Adj G) (bset gone) v j := by
  have hp : 2 ^ v < 2 ^ G.length := Nat.pow_lt_pow_right (by omega) hv
  unfold nbset
  rw [diff_bset, diff_bset, two_pow_bit]
  have h1 : bset (Around G (conset G (2 ^ v) (gone ||| 2 ^ v))) j ↔ Way (Adj G) (bset gone) v j := by
    have : bset (Around G (conset G (2 ^ v) (gone ||| 2 ^ v))) j ↔ ∃ i, Con (Adj G) (bset (gone ||| 2 ^ v)) (bset (2 ^ v)) i ∧ Adj G i j := by
      unfold bset at *
      rw [Around_bit hG]
      exact ⟨fun ⟨i, h1, h2⟩ => ⟨i, (conset_bit hG _ hp i).1 h1, h2⟩, fun ⟨i, h1, h2⟩ => ⟨i, (conset_bit hG _ hp i).2 h1, h2⟩⟩
    rw [this]
    constructor
    · rintro ⟨i, hi, ha⟩
      have key : ∀ i, Con (Adj G) (bset (gone ||| 2 ^ v)) (bset (2 ^ v)) i → i = v ∨ (Way (Adj G) (bset gone) v i ∧ bset gone i) := by
        intro i hi
        induction hi with
        | base h => exact .inl ((two_pow_bit v _).1 h)
        | @step x u _ a h ih =>
          by_cases e : u = v
          · exact .inl e
          · have hg : bset gone u := by
              rcases (or_bset _ _ _).1 h with h | h
              · exact h
              · exact (e ((two_pow_bit v u).1 h)).elim
            refine .inr ⟨?_, hg⟩
            rcases ih with ih | ih
            · subst ih; exact .one a
            · exact .more ih.1 ih.2 a
      rcases key i hi with h | h
      · subst h; exact .one ha
      · exact .more h.1 h.2 ha
    · intro h
      have key : ∀ x, Way (Adj G) (bset gone) v x → bset gone x → Con (Adj G) (bset (gone ||| 2 ^ v)) (bset (2 ^ v)) x := by
        intro x hx
        induction hx with
        | one a => intro hg; exact .step (.base ((two_pow_bit v v).2 rfl)) a ((or_bset _ _ _).2 (.inl hg))
        | more _ hS a ih => intro hg; exact .step (ih hS) a ((or_bset _ _ _).2 (.inl hg))
      cases h with
      | one a => exact ⟨v, .base ((two_pow_bit v v).2 rfl), a⟩
      | more hx hS a => exact ⟨_, key _ hx hS, a⟩
  rw [h1]
  unfold Nb
  exact ⟨fun ⟨⟨a, b⟩, c⟩ => ⟨a, b, c⟩, fun ⟨a, b, c⟩ => ⟨⟨a, b⟩, c⟩⟩
theorem nbset_lt {m : Nat} {G : List Nat} (hG : Gr m G) (gone v : Nat) : nbset G gone v < 2 ^ G.length :=
  Nat.lt_of_le_of_lt (diff_le _ _) (Nat.lt_of_le_of_lt (diff_le _ _) (Around_lt hG _))
end Go.Proofs.YtijfddobandcdaaDoor.T
end
section
/- lampblackref03.layouts, by hand: all orders that begin in some way. -/
namespace Go.Proofs.YtijfddobandcdaaDoor.X
open Go.RowKit Go.Proofs.YtijfddobandcdaaDoorW.PrintWords Go.Proofs.YtijfddobandcdaaDoorW.PrintLast Go.Proofs.YtijfddobandcdaaDoorW.PrintMore Go.Proofs.YtijfddobandcdaaDoor.T
attribute [local go_sem] max2_int min2_int max_two min_two max_three min_three max_four min_four
set_option linter.unusedVariables false
set_option linter.unusedSimpArgs false

/-- All orders of the numbers below n that begin with l; d are still to come. -/
def layF (n : Nat) : Nat → List Int → List (List Int)
  | 0, l => [l]
  | d + 1, l => (List.range n).flatMap fun (v : Nat) => if (v : Int) ∈ l then [] else layF n d (l ++ [(v : Int)])
/-- .. those whose next one is below i. -/
def outTo (n d : Nat) (l : List Int) (i : Nat) : List (List Int) := (List.range i).flatMap fun (v : Nat) => if (v : Int) ∈ l then [] else layF n d (l ++ [(v : Int)])
theorem outTo_succ (n d : Nat) (l : List Int) (i : Nat) : outTo n d l (i + 1) = outTo n d l i ++ (if (i : Int) ∈ l then [] else layF n d (l ++ [(i : Int)])) := by
  unfold outTo
  rw [List.range_succ, List.flatMap_append]
  simp
theorem layF_length (n : Nat) : ∀ d l, (layF n d l).length ≤ n ^ d
  | 0, l => by simp [layF]
  | d + 1, l => by
    have h : ∀ i, (outTo n d l i).length ≤ i * n ^ d := by
      intro i
      induction i with
      | zero => simp [outTo]
      | succ i ih =>
        rw [outTo_succ, List.length_append, Nat.succ_mul]
        split
        · simp; omega
        · have := layF_length n d (l ++ [(i : Int)]); omega
    have := h n
    rw [Nat.pow_succ, Nat.mul_comm]
    exact this
theorem outTo_length (n d : Nat) (l : List Int) (i : Nat) (hi : i ≤ n) : (outTo n d l i).length ≤ n ^ (d + 1) := by
  have h : ∀ i, (outTo n d l i).length ≤ i * n ^ d := by
    intro i
    induction i with
    | zero => simp [outTo]
    | succ i ih =>
      rw [outTo_succ, List.length_append, Nat.succ_mul]
      split
      · simp; omega
      · have := layF_length n d (l ++ [(i : Int)]); omega
  refine Nat.le_trans (h i) ?_
  rw [Nat.pow_succ, Nat.mul_comm]
  exact Nat.mul_le_mul_left _ hi
/-- The rows of a slice of slices: each is a row of its own, in a block from B on. -/
def Rows (B : Nat) (W : World) (rows : List Value) (Ls : List (List Int)) : Prop := rows.length = Ls.length ∧ ∀ (i : Nat) (L : List Int), Ls[i]? = some L → ∃ v, rows[i]? = some v ∧ W.ownsRow B 3 1 v L.length (L.map (Value.int .i64))
theorem Rows.append {B : Nat} {W : World} {r1 r2 : List Value} {L1 L2 : List (List Int)} (h1 : Rows B W r1 L1) (h2 : Rows B W r2 L2) : Rows B W (r1 ++ r2) (L1 ++ L2) := by
  refine ⟨by simp [h1.1, h2.1], fun i L hL => ?_⟩
  by_cases hi : i < L1.length
  · rw [List.getElem?_append_left hi] at hL
    rw [List.getElem?_append_left (by rw [h1.1]; exact hi)]
    exact h1.2 i L hL
  · rw [List.getElem?_append_right (by omega)] at hL
    rw [List.getElem?_append_right (by rw [h1.1]; omega), h1.1]
    exact h2.2 _ L hL
theorem Rows.imp {B : Nat} {W V : World} {rows : List Value} {Ls : List (List Int)} (h : Rows B W rows Ls) (hk : ∀ (v : Value) (L : List Int), W.ownsRow B 3 1 v L.length (L.map (Value.int .i64)) → V.ownsRow B 3 1 v L.length (L.map (Value.int .i64))) : Rows B V rows Ls :=
  ⟨h.1, fun i L hL => by obtain ⟨v, h1, h2⟩ := h.2 i L hL; exact ⟨v, h1, hk v L h2⟩⟩
theorem ownsRow_below {W V : World} {base : Nat} {e : TypeId} {size : Nat} {v : Value} {k : Nat} {xs : List Value} (h : W.ownsRow base e size v k xs) (hb : Below W.heap.size W V) : V.ownsRow base e size v k xs := by
  obtain ⟨h1, h2⟩ := h
  refine ⟨h1, ?_⟩
  rcases h2 with h2 | ⟨g, cap, cur, e1, hb1, hg, r⟩
  · exact .inl h2
  · exact .inr ⟨g, cap, cur, e1, hb1, (hb.block g (Array.getElem?_eq_some_iff.1 hg).1).trans hg, r⟩
/-- A turn of a row of another type leaves a row as it is. -/
theorem ownsRow_other {W V : World} {base base2 : Nat} {e e2 : TypeId} {size size2 : Nat} {v v2 : Value} {k k2 : Nat} {xs ys : List Value} (h : W.ownsRow base e size v k xs) (h2 : W.ownsRow base2 e2 size2 v2 k2 ys) (hne : e ≠ e2) (hg : W.grownBy V v2.ownBlock) : V.ownsRow base e size v k xs := by
  refine h.kept hg ?_
  rcases h.2 with ⟨rfl, _⟩ | ⟨g, cap, cur, rfl, _, hgb, _⟩
  · exact .inl rfl
  · refine .inr fun e' => ?_
    rcases h2.2 with ⟨rfl, _⟩ | ⟨g2, cap2, cur2, rfl, _, hgb2, _⟩
    · simp [Value.ownBlock] at e'
    · obtain rfl : g = g2 := by simpa [Value.ownBlock] using e'
      rw [hgb] at hgb2
      cases hgb2
      exact hne rfl
theorem ownsRow_reads {W : World} {base : Nat} {A : Option Addr} {cap : Nat} {l : List Int} (h : W.ownsRow base 3 1 (.slice A l.length cap) l.length (l.map (Value.int .i64))) : l.length ≤ cap ∧ (A = none → l.length = 0 ∧ cap = 0) ∧ ∀ (i : Nat), i < l.length → ∃ ad, A = some ad ∧ W.cell? (ad.add i) = some (.int .i64 (rd l (i : Int))) := by
  rcases h.2 with ⟨e, h0⟩ | ⟨g, cap', cur, e, _, hg, h1, _, h3, h4⟩
  · injection e with e1 e2 e3
    subst e1 e3
    exact ⟨by omega, fun _ => ⟨h0, rfl⟩, fun i hi => by omega⟩
  · injection e with e1 e2 e3
    subst e1 e3
    refine ⟨h1, (fun e => by cases e), fun i hi => ⟨_, rfl, ?_⟩⟩
    have h5 : (l.map (Value.int .i64))[i]? = some (.int .i64 (rd l (i : Int))) := by
      unfold rd
      rw [Int.toNat_natCast, List.getD_eq_getElem?_getD, List.getElem?_map, List.getElem?_eq_getElem hi]
      rfl
    rw [← h4, List.getElem?_take, if_pos (by omega)] at h5
    rw [Addr.add_lit, Nat.zero_add]
    unfold World.cell?
    rw [show W.heap[(⟨g, i, none⟩ : Addr).block]? = _ from hg]
    simpa using h5
theorem ownsRow_cells {W : World} {base : Nat} {e : TypeId} {g k cap : Nat} {xs : List Value} (h : W.ownsRow base e 1 (.slice (some ⟨g, 0, none⟩) k cap) k xs) (j : Nat) (u : Value) (hu : xs[j]? = some u) : W.cell? ((⟨g, 0, none⟩ : Addr).add j) = some u := by
  have hl := h.1
  have hj := (List.getElem?_eq_some_iff.1 hu).1
  rcases h.2 with ⟨e, h0⟩ | ⟨g', cap', cur, e, _, hg, h1, _, h3, h4⟩
  · cases e
  · injection e with e1 e2 e3
    injection e1 with e1
    injection e1 with e1
    subst e1
    rw [← h4, List.getElem?_take, if_pos (by omega)] at hu
    rw [Addr.add_lit, Nat.zero_add]
    unfold World.cell?
    rw [show W.heap[(⟨g, j, none⟩ : Addr).block]? = _ from hg]
    simpa using hu
theorem ownsRow_mono {W : World} {base base' : Nat} {e : TypeId} {size : Nat} {v : Value} {k : Nat} {xs : List Value} (h : W.ownsRow base e size v k xs) (hb : base' ≤ base) : W.ownsRow base' e size v k xs := by
  obtain ⟨h1, h2⟩ := h
  refine ⟨h1, ?_⟩
  rcases h2 with h2 | ⟨g, cap, cur, e1, hb1, r⟩
  · exact .inl h2
  · exact .inr ⟨g, cap, cur, e1, by omega, r⟩
theorem ownsRow_one {W : World} {base : Nat} {e : TypeId} {size : Nat} {v : Value} {k : Nat} {xs : List Value} (h : W.ownsRow base e size v k xs) : v.oneCell' = true := by
  rcases h.2 with ⟨rfl, _⟩ | ⟨g, cap, cur, rfl, _⟩ <;> rfl
theorem fresh_node (n : Nat) (l : List Int) (h : l.length < n) : ∃ v, v < n ∧ (v : Int) ∉ l := by
  apply Classical.byContradiction
  intro hno
  have := nodup_le (List.nodup_range (n := n)) (m := l.map Int.toNat) fun j hj => List.mem_map.2 ⟨(j : Int), Classical.byContradiction fun h => hno ⟨j, List.mem_range.1 hj, h⟩, rfl⟩
  simp at this
  omega
theorem layF_mem (n : Nat) : ∀ (d : Nat) (l : List Int), l.length + d = n → ∃ x, x ∈ layF n d l
  | 0, l, _ => ⟨l, by simp [layF]⟩
  | d + 1, l, h => by
    obtain ⟨v, hv, hn⟩ := fresh_node n l (by omega)
    obtain ⟨x, hx⟩ := layF_mem n d (l ++ [(v : Int)]) (by simp; omega)
    refine ⟨x, ?_⟩
    simp only [layF]
    exact List.mem_flatMap.2 ⟨v, List.mem_range.2 hv, by rw [if_neg hn]; exact hx⟩
theorem layF_small (n d : Nat) (hn : n ≤ 7) (hd : d ≤ 7) : n ^ d ≤ 7 ^ 7 := Nat.le_trans (Nat.pow_le_pow_left hn d) (Nat.pow_le_pow_right (by omega) hd)
theorem info22 : (Tryd.prog.info? 22).map (fun i => (i.zero, i.size, i.bytes)) = some (some (.slice none 0 0), 1, 24) := by kernel_rfl

theorem mem_take_succ (l : List Int) (x : Int) (j : Nat) (hj : j < l.length) : decide (x ∈ l.take (j + 1)) = (decide (x ∈ l.take j) || (rd l (j : Int) == x)) := by
  have e : rd l (j : Int) = l[j] := by unfold rd; rw [Int.toNat_natCast, List.getD_eq_getElem?_getD, List.getElem?_eq_getElem hj]; rfl
  rw [e]
  apply Bool.eq_iff_iff.2
  rw [decide_eq_true_eq, Bool.or_eq_true, decide_eq_true_eq, beq_iff_eq, List.take_add_one, List.getElem?_eq_getElem hj, List.mem_append]
  simp
  exact or_congr_right eq_comm
set_option maxHeartbeats 2000000 in
set_option maxRecDepth 100000 in
theorem layouts_calls (n : Nat) (hn : n ≤ 7) : ∀ (d : Nat) (l : List Int) (A : Option Addr) (cap B : Nat) (w : World), l.length + d = n → B ≤ w.heap.size → w.ownsRow B 3 1 (.slice A l.length cap) l.length (l.map (Value.int .i64)) →
    Calls Tryd.prog 58 #[.int .i64 n, .slice A l.length cap] w fun e w' => ∃ v rows, e = .returned v ∧ w'.ownsRow w.heap.size 22 1 v (layF n d l).length rows ∧ Rows B w' rows (layF n d l) ∧ Below w.heap.size w w' := by
  intro d
  induction d with
  | zero =>
    intro l A cap B w hl hB hown
    have hln : ((l.length : Int) == (n : Int)) = true := by simp; omega
    go_enter Tryd.func58, Tryd.ntmps58
    go_wp2
    go_ret
    refine ⟨_, [.slice A l.length cap], rfl, ⟨rfl, .inr ⟨w.heap.size, 1, #[.slice A l.length cap], rfl, Nat.le_refl _, World.alloc_heap_new w _, Nat.le_refl _, by unfold maxLen; omega, rfl, rfl⟩⟩, ⟨rfl, fun i L hL => ?_⟩, below_alloc (Below.refl _ _) _⟩
    cases i with
    | zero =>
      obtain rfl : l = L := by simpa [layF] using hL
      exact ⟨_, rfl, hown.alloc _⟩
    | succ i => simp [layF] at hL
  | succ d ih =>
    intro l A cap B w hl hB hown
    have hln : ((l.length : Int) == (n : Int)) = false := by simp; omega
    obtain ⟨hcap, hnone, hread⟩ := ownsRow_reads hown
    go_enter Tryd.func58, Tryd.ntmps58
    go_wp2
    go_loopg [5, 17] n (fun kq v5 v17 w' => ∃ (i : Nat) (rows : List Value), v17 = .int .i64 (i : Int) ∧ i + kq = n ∧ w'.ownsRow w.heap.size 22 1 v5 (outTo n d l i).length rows ∧ Rows B w' rows (outTo n d l i) ∧ Below w.heap.size w w')
    case atStart => exact ⟨0, [], rfl, by omega, World.ownsRow_nil _ _ _ _, ⟨rfl, fun i L h => by simp [outTo] at h⟩, Below.refl _ _⟩
    case round =>
      obtain ⟨i, rows, rfl, hi, ho, hR, hBw⟩ := hrel
      by_cases hin : i < n
      · have hi1 : ((i : Int) < (n : Int)) = True := eq_true (by omega)
        have hi2 : decide ((i : Int) < (n : Int)) = true := decide_eq_true (by omega)
        go_wp2
        go_loopg [7, 22] l.length (fun kq v7 v22 w'' => ∃ (j : Nat), v22 = .int .i64 (j : Int) ∧ j + kq = l.length ∧ v7 = .bool (decide ((i : Int) ∈ l.take j)) ∧ w'' = wr)
        case atStart => exact ⟨0, rfl, by omega, by simp, rfl⟩
        case round =>
          obtain ⟨j, rfl, hj, rfl, rfl⟩ := hrel
          by_cases hjl : j < l.length
          · obtain ⟨ad, e, hx⟩ := hread j hjl
            subst e
            have hx2 := (hBw.cell (World.block_lt_of_cell? w _ hx)).trans hx
            have hj1 : ((j : Int) < (l.length : Int)) = True := eq_true (by omega)
            have hj2 : decide ((j : Int) < (l.length : Int)) = true := decide_eq_true (by omega)
            have HWJ := Aside0.mk (wrap_succ j (by omega))
            by_cases hm : (i : Int) ∈ l.take j
            · have hmb : decide ((i : Int) ∈ l.take j) = true := decide_eq_true hm
              rw [hmb]
              go_wp2
              go_roundg (l.length - (j + 1))
              case measure => omega
              case rel =>
                refine ⟨j + 1, ?_, by omega, ?_, rfl⟩
                · first | exact congrArg (Value.int IntKind.i64) (by omega) | rw [HWJ.out] | rw [i64_w, HWJ.out]
                · rw [mem_take_succ _ _ _ hjl, hmb]; rfl
            · have hmb : decide ((i : Int) ∈ l.take j) = false := decide_eq_false hm
              rw [hmb]
              go_wp2
              go_roundg (l.length - (j + 1))
              case measure => omega
              case rel =>
                refine ⟨j + 1, ?_, by omega, ?_, rfl⟩
                · first | exact congrArg (Value.int IntKind.i64) (by omega) | rw [HWJ.out] | rw [i64_w, HWJ.out]
                · rw [mem_take_succ _ _ _ hjl, hmb]; first | rfl | simp
          · have hj1 : ((j : Int) < (l.length : Int)) = False := eq_false (by omega)
            have hj2 : decide ((j : Int) < (l.length : Int)) = false := decide_eq_false (by omega)
            rw [List.take_of_length_le (by omega)]
            have HWI := Aside0.mk (wrap_succ i (by omega))
            by_cases hm : (i : Int) ∈ l
            · have hmb : decide ((i : Int) ∈ l) = true := decide_eq_true hm
              rw [hmb]
              go_wp2
              go_roundg (n - (i + 1))
              case measure => omega
              case rel =>
                refine ⟨i + 1, rows, ?_, by omega, ?_, ?_, hBw⟩
                · first | exact congrArg (Value.int IntKind.i64) (by omega) | rw [HWI.out] | rw [i64_w, HWI.out]
                · rw [outTo_succ, if_pos hm, List.append_nil]; exact ho
                · rw [outTo_succ, if_pos hm, List.append_nil]; exact hR
            · have hmb : decide ((i : Int) ∈ l) = false := decide_eq_false hm
              rw [hmb]
              obtain ⟨i0, hi0, hz0, hz1, hz2⟩ := info_parts info3
              obtain ⟨i2, hi2', hy0, hy1, hy2⟩ := info_parts info22
              have hwz := hBw.size
              have hreadW : ∀ b, A = some b → ∀ (q : Nat) u, (l.map (Value.int .i64))[q]? = some u → (wr.alloc (.cells #[.int .i64 (i : Int)] 3)).cell? (b.add q) = some u := fun b hb q u hu => by
                have hq : q < l.length := by have := (List.getElem?_eq_some_iff.1 hu).1; simpa using this
                obtain ⟨ad, e, hx⟩ := hread q hq
                rw [hb] at e
                cases e
                have hx2 := ((below_alloc hBw (.cells #[.int .i64 (i : Int)] 3)).cell (World.block_lt_of_cell? w _ hx)).trans hx
                rw [hx2]
                rw [List.getElem?_map, List.getElem?_eq_getElem hq] at hu
                unfold rd
                rw [Int.toNat_natCast, List.getD_eq_getElem?_getD, List.getElem?_eq_getElem hq]
                exact hu
              have hnone2 : A = none → l.length = 0 ∧ l.length = 0 := fun h => ⟨(hnone h).1, (hnone h).1⟩
              go_wp2_with (first
                | (at_builtin; refine wpList_append_grows _ rfl _ _ 22 rfl 3 i0 (.int .i64 0) 1 8 Tryd.underlying22 hi0 hz0 hz1 hz2 rfl (by decide) A l.length l.length (l.map (Value.int .i64)) rfl hnone2 (by simp) hreadW ⟨wr.heap.size, 0, none⟩ 1 1 [.int .i64 (i : Int)] rfl rfl (cell_one_new _ _ _) (by simp [Value.oneCell']) (by omega) (by unfold maxLen; omega) (by omega) ?_; intro v1 w1 hown1 hg1; obtain ⟨g1, cap1, rfl⟩ := ownsRow_succ hown1))
              have hgz := hg1.size
              have hB1 : Below w.heap.size w w1 := (below_alloc hBw (.cells #[.int .i64 (i : Int)] 3)).grown hg1 (by simp; omega) (fun k e => by cases e)
              have hown1' : w1.ownsRow B 3 1 (.slice (some ⟨g1, 0, none⟩) (l ++ [(i : Int)]).length cap1) (l ++ [(i : Int)]).length ((l ++ [(i : Int)]).map (Value.int .i64)) := by
                have := ownsRow_mono hown1 (show B ≤ _ by simp; omega)
                simpa using this
              have IH := ih (l ++ [(i : Int)]) (some ⟨g1, 0, none⟩) cap1 B w1 (by simp; omega) (by have := hB1.size; omega) hown1'
              rw [show (l ++ [(i : Int)]).length = l.length + 1 by simp] at IH
              obtain ⟨x0, hx0⟩ := layF_mem n d (l ++ [(i : Int)]) (by simp; omega)
              obtain ⟨m2, hm2⟩ : ∃ m, (layF n d (l ++ [(i : Int)])).length = m + 1 := ⟨(layF n d (l ++ [(i : Int)])).length - 1, by have := List.length_pos_of_mem hx0; omega⟩
              have hml := layF_length n d (l ++ [(i : Int)])
              have hol := outTo_length n d l i (by omega)
              have hp1 := layF_small n d hn (by omega)
              have hp2 := layF_small n (d + 1) hn (by omega)
              have h77 : (7 : Nat) ^ 7 = 823543 := by rfl
              rw [h77] at hp1 hp2
              have hkm : (outTo n d l i).length + (m2 + 1) ≤ 1647086 := by omega
              have HKM := Aside0.mk hkm
              have HHB := Aside0.mk hB1
              have HM2 := Aside0.mk hm2
              clear hml hol hp1 hp2 h77 hkm hm2 hx0 x0
              refine IH.mono ?_
              rintro e w2 ⟨v2, rows2, rfl, ho2, hR2, hb2⟩
              rw [HM2.out] at ho2
              obtain ⟨g2, cap2, rfl⟩ := ownsRow_succ ho2
              have hB2 : Below w.heap.size w w2 := below_step hB1 hb2
              have ho1 : w1.ownsRow w.heap.size 22 1 u5 (outTo n d l i).length rows := (ho.alloc _).kept hg1 (by rcases ho.2 with ⟨rfl, _⟩ | ⟨g, c, cur, rfl, _⟩; exact .inl rfl; exact .inr (by simp [Value.ownBlock]))
              have ho3 : w2.ownsRow w.heap.size 22 1 u5 (outTo n d l i).length rows := ownsRow_below ho1 hb2
              have hR3 : Rows B w2 rows (outTo n d l i) := hR.imp fun v L h => ownsRow_below ((h.alloc _).kept hg1 (by rcases h.2 with ⟨rfl, _⟩ | ⟨g, c, cur, rfl, _⟩; exact .inl rfl; exact .inr (by simp [Value.ownBlock]))) hb2
              have hcells : ∀ (q : Nat) u, rows2[q]? = some u → w2.cell? ((⟨g2, 0, none⟩ : Addr).add q) = some u := ownsRow_cells ho2
              have hones : ∀ u ∈ rows2, u.oneCell' = true := fun u hu => by
                obtain ⟨q, hq, rfl⟩ := List.getElem_of_mem hu
                obtain ⟨v, h1, h2⟩ := hR2.2 q ((layF n d (l ++ [(i : Int)]))[q]'(by rw [← hR2.1]; exact hq)) (List.getElem?_eq_getElem _)
                rw [List.getElem?_eq_getElem hq] at h1
                cases h1
                exact ownsRow_one h2
              have hrl2 : rows2.length = (m2 + 1) * 1 := ho2.1
              have hz2 := hB2.size
              have hb63 : (outTo n d l i).length + (m2 + 1) ≤ maxLen := by have := HKM.out; unfold maxLen; omega
              have hb24 : ((outTo n d l i).length + (m2 + 1)) * 24 ≤ 140737488355328 := by have := HKM.out; omega
              dsimp only
              go_wp2_with (at_builtin; refine wpList_append_own_at _ rfl _ _ 88 rfl w.heap.size 22 i2 (.slice none 0 0) 1 24 Tryd.underlying88 hi2' hy0 hy1 hy2 rfl (by decide) u5 (outTo n d l i).length rows rfl ho3 ⟨g2, 0, none⟩ (m2 + 1) cap2 rows2 rfl hrl2 hcells hones hb63 hb24 hz2 ?_; intro v6 w3 ho6 hg6 _ _)
              go_roundg (n - (i + 1))
              case measure => omega
              case rel =>
                refine ⟨i + 1, rows ++ rows2, ?_, by omega, ?_, ?_, ?_⟩
                · first | exact congrArg (Value.int IntKind.i64) (by omega) | rw [HWI.out] | rw [i64_w, HWI.out]
                · rw [outTo_succ, if_neg hm, List.length_append, HM2.out]; exact ho6
                · rw [outTo_succ, if_neg hm]
                  exact (hR3.imp fun v L h => ownsRow_other h ho3 (by decide) hg6).append (hR2.imp fun v L h => ownsRow_other h ho3 (by decide) hg6)
                · refine hB2.grown hg6 hz2 fun k e => ?_
                  rcases ho3.2 with ⟨rfl, _⟩ | ⟨g, c, cur, rfl, hb, _⟩
                  · simp [Value.ownBlock] at e
                  · obtain rfl : g = k := by simpa [Value.ownBlock] using e
                    exact hb
      · have hi1 : ((i : Int) < (n : Int)) = False := eq_false (by omega)
        have hi2 : decide ((i : Int) < (n : Int)) = false := decide_eq_false (by omega)
        go_wp2
        go_ret
        have e : i = n := by omega
        subst e
        exact ⟨_, rows, rfl, ho, hR, hBw⟩
end Go.Proofs.YtijfddobandcdaaDoor.X
end
section
/- sweep.follow, by hand: the plan of bags. -/
namespace Go.Proofs.YtijfddobandcdaaDoor.X
open Go.RowKit Go.Shelf Go.Proofs.YtijfddobandcdaaDoorW.PrintWords Go.Proofs.YtijfddobandcdaaDoorW.PrintLast Go.Proofs.YtijfddobandcdaaDoorW.PrintMore Go.Proofs.YtijfddobandcdaaDoor.T
attribute [local go_sem] Oper.semAt_some
set_option linter.unusedVariables false
set_option linter.unusedSimpArgs false

/-- The nodes of a set, each as an act of one kind, behind what there is. -/
def folTo (b : Bool) : Nat → Nat → List S85 → Option (List S85)
  | 0, _, _ => none
  | k + 1, z, xs => if z = 0 then some xs else folTo b k (rest z) (xs ++ [⟨b, ((Lib.ctz 64 z : Nat) : Int)⟩])
def folAll : List Int → Nat → List S85 → Option (List S85)
  | [], _, out => some out
  | b :: B, now, out => if 0 ≤ b ∧ b < 2 ^ 62 then (folTo false 64 (diff now b.toNat) out).bind fun o1 => (folTo true 64 (diff b.toNat now) o1).bind fun o2 => if o2.length ≤ 60000 then folAll B b.toNat o2 else none else none
def sweep_follow.f (l0 : List Int) : Option (List S85) := if l0.length ≤ 1000 then folAll (l0 ++ [0]) 0 [] else none
theorem folTo_len (b : Bool) : ∀ (k z : Nat) (xs t : List S85), folTo b k z xs = some t → xs.length ≤ t.length
  | 0, _, _, _, h => by cases h
  | k + 1, z, xs, t, h => by
    simp only [folTo] at h
    by_cases h0 : z = 0
    · rw [if_pos h0] at h
      rw [Option.some.inj h]
      exact Nat.le_refl _
    · rw [if_neg h0] at h
      have := folTo_len b k _ _ _ h
      simp at this
      omega
/-- An act as its cells. -/
def encP (p : S85) (c : List Value) : Prop := c = [.bool p.f0, .int .i64 p.f1]

/-- Where the loop over the bags stands. H: the heap's size where it began. -/
structure FI (w : World) (l0 : List Int) (r : List S85) (H g cp : Nat) (W : World) (i now : Nat) (xs : List S85) (v : Value) (inner : List Value) (ds : List Deferred) : Prop where
  below : Below w.heap.size w W
  o : Boxed W w.heap.size 35 v
  own : W.ownsRow H 85 2 v xs.length inner
  reps : Reps encP 2 xs inner
  row : W.ownsRow w.heap.size 3 1 (.slice (some ⟨g, 0, none⟩) (l0.length + 1) cp) (l0.length + 1) ((l0 ++ [0]).map (Value.int .i64))
  go : folAll ((l0 ++ [0]).drop i) now xs = some r
  now62 : now < 2 ^ 62
  hg : w.heap.size < g ∧ g < H
  top : H ≤ W.heap.size
  marks : Marks w.heap.size W.heap.size ds W
/-- Between two rounds of a range: z is left. c: the iterator's variable. -/
structure FK (w : World) (l0 : List Int) (H g cp c : Nat) (b : Bool) (tgt : List S85) (ds : List Deferred) (z : Nat) (V : World) (xs : List S85) (v : Value) (inner : List Value) : Prop where
  go : ∃ k, folTo b k z xs = some tgt
  below : Below w.heap.size w V
  o : Boxed V w.heap.size 35 v
  own : V.ownsRow H 85 2 v xs.length inner
  reps : Reps encP 2 xs inner
  row : V.ownsRow w.heap.size 3 1 (.slice (some ⟨g, 0, none⟩) (l0.length + 1) cp) (l0.length + 1) ((l0 ++ [0]).map (Value.int .i64))
  apart : ∀ b, v.ownBlock = some b → b ≠ c
  marks : Marks w.heap.size c ds V
  top : c < V.heap.size
theorem infoP : (Tryd.prog.info? 85).map (fun i => (i.zero, i.size, i.bytes)) = some (some (.agg #[(.bool false), (.int .i64 0)]), 2, 16) := by kernel_rfl

theorem cells_new (W : World) (cs : List Value) (e : TypeId) (j : Nat) (u : Value) (hu : cs[j]? = some u) : (W.alloc (.cells cs.toArray e)).cell? ((⟨W.heap.size, 0, none⟩ : Addr).add j) = some u := by
  rw [Addr.add_lit, Nat.zero_add]
  unfold World.cell?
  rw [show (W.alloc (.cells cs.toArray e)).heap[(⟨W.heap.size, j, none⟩ : Addr).block]? = _ from World.alloc_heap_new W _]
  simpa using hu
/-- What is left stays as it is when the book-keeping turns. -/
theorem FK.books {w : World} {l0 : List Int} {H g cp c : Nat} {b : Bool} {tgt : List S85} {ds : List Deferred} {z B : Nat} {V V2 : World} {xs : List S85} {v : Value} {inner : List Value} {row : Option Nat} (h : FK w l0 H g cp c b tgt ds z V xs v inner) (hw : w.heap.size < g) (hgH : g < H) (hHc : H ≤ c) (hcB : c < B) (hg : V.grownBy V2 row) (hbk : Books B c V row) : FK w l0 H g cp c b tgt ds z V2 xs v inner := by
  have ne : ∀ b, b < c → some b ≠ row := fun b hb e => by
    rcases hbk b e.symm with h | ⟨h, _⟩
    · omega
    · omega
  refine ⟨h.go, h.below.grown hg h.below.size (fun k e => ?_), h.o.kept hg (ne _ (by omega)), own_kept h.own hg (fun b hb e => ?_), h.reps, own_kept h.row hg (fun b hb => ?_), h.apart, h.marks.low (fun D hD => hg.block D (by have := h.top; omega) (ne D hD)), Nat.lt_of_lt_of_le h.top hg.size⟩
  · rcases hbk k e with h | ⟨h, _⟩
    · omega
    · omega
  · rcases hbk b e.symm with h2 | ⟨_, o2, ho2, hc2⟩
    · exact h.apart b hb h2
    · rw [own_cell h.own b hb o2 ho2] at hc2
      cases hc2
  · obtain rfl : g = b := by simpa [Value.ownBlock] using hb
    exact ne g (by omega)
/-- A round: the node has been appended. -/
theorem FK.appended {w : World} {l0 : List Int} {H g cp c : Nat} {b : Bool} {tgt : List S85} {ds : List Deferred} {z z2 k : Nat} {V w5 : World} {xs : List S85} {v : Value} {inner : List Value} {y : Int} {g2 cp2 : Nat} (h : FK w l0 H g cp c b tgt ds z V xs v inner) (hw : w.heap.size < g) (hgH : g < H) (hHc : H ≤ c)
    (hgo : folTo b k z2 (xs ++ [⟨b, y⟩]) = some tgt) (hown : w5.ownsRow H 85 2 (.slice (some ⟨g2, 0, none⟩) (xs.length + 1) cp2) (xs.length + 1) (inner ++ [.bool b, .int .i64 y])) (hg : (V.alloc (.cells #[.bool b, .int .i64 y] 85)).grownBy w5 v.ownBlock) (hat : (Value.slice (some ⟨g2, 0, none⟩) (xs.length + 1) cp2).ownBlock = v.ownBlock ∨ (Value.slice (some ⟨g2, 0, none⟩) (xs.length + 1) cp2).ownBlock = some (V.alloc (.cells #[.bool b, .int .i64 y] 85)).heap.size) :
    KeepsOthers V (w5.setCell ⟨w.heap.size, 0, none⟩ (.slice (some ⟨g2, 0, none⟩) (xs.length + 1) cp2)) ∧ (w5.setCell ⟨w.heap.size, 0, none⟩ (.slice (some ⟨g2, 0, none⟩) (xs.length + 1) cp2)).heap[c]? = V.heap[c]? ∧
    FK w l0 H g cp c b tgt ds z2 (w5.setCell ⟨w.heap.size, 0, none⟩ (.slice (some ⟨g2, 0, none⟩) (xs.length + 1) cp2)) (xs ++ [⟨b, y⟩]) (.slice (some ⟨g2, 0, none⟩) (xs.length + 1) cp2) (inner ++ [.bool b, .int .i64 y]) := by
  have htop := h.top
  have hvH : ∀ b, v.ownBlock = some b → H ≤ b := own_base h.own
  have hvl : ∀ b, v.ownBlock = some b → b < V.heap.size := own_lt h.own
  obtain ⟨hv1, hv2, _, hk2, hb2⟩ := h.o.appended (by decide) (ownsRow_mono h.own (show w.heap.size ≤ H by omega)) (by omega) (Nat.le_refl _) (ownsRow_mono hown (show w.heap.size ≤ H by omega)) hg
  have hg2 : g2 ≠ c ∧ g2 ≠ w.heap.size := by
    rcases hat with e | e
    · have e1 : v.ownBlock = some g2 := e.symm
      have := hvH g2 e1
      exact ⟨h.apart g2 e1, by omega⟩
    · have e1 : g2 = V.heap.size + 1 := by simpa [Value.ownBlock] using e
      exact ⟨by omega, by omega⟩
  refine ⟨hk2, ?_, ⟨k, hgo⟩, h.below.trans hb2, hv2, ?_, h.reps.snoc rfl rfl, ?_, fun b hb => ?_, h.marks.others hk2, Nat.lt_of_lt_of_le h.top hk2.size⟩
  · exact (Below.heap_setCell w5 ⟨w.heap.size, 0, none⟩ _ c (by simp; omega)).trans ((hg.block c (by simp; omega) (fun e => h.apart c e.symm rfl)).trans (Below.heap_alloc _ _ _ htop))
  · rw [List.length_append]
    exact own_kept hown (grownBy_set _ ⟨w.heap.size, 0, none⟩ _) (fun b hb e => by cases e; exact hg2.2 (by simpa [Value.ownBlock] using hb))
  · refine own_kept (own_kept (h.row.alloc _) hg (fun b hb e => ?_)) (grownBy_set _ ⟨w.heap.size, 0, none⟩ _) (fun b hb e => ?_)
    · obtain rfl : g = b := by simpa [Value.ownBlock] using hb
      have := hvH g e.symm
      omega
    · obtain rfl : g = b := by simpa [Value.ownBlock] using hb
      have e2 : g = w.heap.size := Option.some.inj e
      omega
  · obtain rfl : g2 = b := by simpa [Value.ownBlock] using hb
    exact hg2.1

set_option maxHeartbeats 4000000 in
set_option maxRecDepth 100000 in
theorem sweep_follow.calls (A0 : Option Addr) (c0 : Nat) (l0 : List Int) (r : List S85) (w : World) (hGL : GL w) (hr0 : Kd.C (Kd.int .i64) w A0 l0.length l0) (hc0 : l0.length ≤ c0) (h : sweep_follow.f l0 = some r) :
    Calls Tryd.prog 51 #[.slice A0 l0.length c0] w fun e w' => ∃ v, e = .returned v ∧ Kd.R k85 85 w' w.heap.size (fun _ => True) v r ∧ Below w.heap.size w w' := by
  unfold sweep_follow.f at h
  by_cases hlen : l0.length ≤ 1000
  · rw [if_pos hlen] at h
    have HF := Aside0.mk h
    have HR := Aside0.mk hr0
    clear h hr0
    obtain ⟨i0, hi0, hz0, hz1, hz2⟩ := info_parts info3
    obtain ⟨i8, hi8, hy0, hy1, hy2⟩ := info_parts infoP
    refine (callsIn_wide (n := 4)).1 ?_
    refine callsIn_of_wp_marks Tryd.func51 rfl trivial ?_ rfl
    simp only [Tryd.ntmps51, List.size_toArray, List.length_cons, List.length_nil, Nat.reduceAdd, Nat.reduceSub, Array.replicate_succ, Array.replicate_zero, List.push_toArray, List.append_toArray, List.nil_append, List.cons_append]
    have hcl : slices_Clone_int_int.f l0 = some l0 := by
      unfold slices_Clone_int_int.f
      simp only [Option.bind_some, List.length_nil, List.nil_append]
      rw [if_pos (by omega)]
    have HCL := Aside0.mk hcl
    clear hcl
    gi_wp2_with (first
      | (refine ⟨trivial, ?_⟩; refine (callsIn_wide.2 (slices_Clone_int_int.calls _ _ l0 l0 _ ?side1 ?side2 HCL.out)).mono ?_; (case side1 => repeat (first | exact HR.out | (with_reducible refine Kd.C_alloc ?_ _) | (with_reducible refine Kd.C_drewN ?_ _) | (with_reducible refine Kd.C_drew ?_))); (case side2 => exact hc0); rintro e w2 ⟨v, rfl, hO, hB⟩; (have hown : w2.ownsRow (w.heap.size + 1) 3 1 v l0.length (l0.map (Value.int .i64)) := (by have := Kd.own_of_R hO; simp only [World.size_alloc, encs] at this; exact this); have hBz := hB.size))
      | (gi_at_builtin; (refine wpListIn_append_own_at _ rfl _ _ 22 rfl (w.heap.size + 1) 3 i0 (.int .i64 0) 1 8 Tryd.underlying22 hi0 hz0 hz1 hz2 rfl (by decide) v l0.length (l0.map (Value.int .i64)) rfl (hown.alloc _) ⟨w2.heap.size, 0, none⟩ 1 1 [.int .i64 0] rfl rfl (cell_one_new _ _ _) (by simp [Value.oneCell']) (by unfold maxLen; omega) (by omega) (by simp at hBz; simp; omega) ?_; intro v1 w3 hown1 hg1 _ hat; obtain ⟨g, cp, rfl⟩ := ownsRow_succ hown1)))
    have hgb : w.heap.size + 1 ≤ g := own_base hown1 g rfl
    have hgl := own_lt hown1 g rfl
    have hg1z := hg1.size
    simp only [World.size_alloc] at hBz hg1z
    have hB2 : Below w.heap.size w w2 := (below_alloc (Below.refl w.heap.size w) (.cells #[.slice none 0 0] 35)).trans (hB.mono (by simp))
    have hvb : ∀ b, v.ownBlock = some b → w.heap.size < b := fun b hb => by have := own_base hown b hb; omega
    have hB3 : Below w.heap.size w w3 := (below_alloc hB2 _).grown hg1 (by simp; omega) (fun k e => by have := hvb k e; omega)
    have hbox : Boxed w3 w.heap.size 35 (.slice none 0 0) := by
      have b1 : Boxed (w.alloc (.cells #[.slice none 0 0] 35)) w.heap.size 35 (.slice none 0 0) := Boxed.new w 35 _
      have b2 : Boxed w2 w.heap.size 35 (.slice none 0 0) := (hB.block _ (by simp)).trans b1
      exact (b2.alloc _).kept hg1 (fun e => by have := hvb _ e.symm; omega)
    have hrow : w3.ownsRow w.heap.size 3 1 (.slice (some ⟨g, 0, none⟩) (l0.length + 1) cp) (l0.length + 1) ((l0 ++ [0]).map (Value.int .i64)) := by
      rw [List.map_append]
      exact ownsRow_mono hown1 (by omega)
    obtain ⟨H, hH⟩ : ∃ H, w3.heap.size = H := ⟨_, rfl⟩
    rw [hH] at hgl
    obtain ⟨Inv, hInv⟩ : ∃ Inv : Act → World → Prop, Inv = (fun a W => ∃ (u1 u2 u5 u9 u10 u11 u6 u7 u8 u15 u16 u17 u18 u19 u20 u21 u22 u23 u24 u25 u26 u27 u28 u29 u30 u31 u32 u33 u34 u35 u36 u37 u38 u39 u40 : Value) (ds : List Deferred) (i now : Nat) (xs : List S85) (v : Value) (inner : List Value), a = { tmps := #[.slice A0 l0.length c0, u1, u2, .pointer (some ⟨w.heap.size, 0, none⟩), .int .i64 (now : Int), u5, u6, u7, u8, u9, u10, u11, .slice (some ⟨g, 0, none⟩) (l0.length + 1) cp, .int .i64 ((l0.length : Int) + 1), .int .i64 (i : Int), u15, u16, u17, u18, u19, u20, u21, u22, u23, u24, u25, u26, u27, u28, u29, u30, u31, u32, u33, u34, u35, u36, u37, u38, u39, u40], defers := ds } ∧ FI w l0 r H g cp W i now xs v inner ds) := ⟨_, rfl⟩
    obtain ⟨Me, hMe⟩ : ∃ Me : Act → World → Nat, Me = (fun a _ => match a.tmps.getD 14 undef with | .int _ z => (l0.length + 1) - z.toNat | _ => 0) := ⟨_, rfl⟩
    have HInv := Aside0.mk hInv
    have HMe := Aside0.mk hMe
    clear hInv hMe
    refine wpIn_loop Inv Me ?_ ?_
    · rw [HInv.out]
      iterate 35 apply Exists.intro
      refine ⟨[], 0, 0, [], .slice none 0 0, [], rfl, hB3, hbox, World.ownsRow_nil _ _ _ _, Reps.none _ _, hrow, by rw [List.drop_zero]; exact HF.out, by decide, ⟨by omega, hgl⟩, by omega, trivial⟩
    · intro a W hIa
      rw [HInv.out] at hIa
      obtain ⟨u1, u2, u5, u9, u10, u11, u6, u7, u8, u15, u16, u17, u18, u19, u20, u21, u22, u23, u24, u25, u26, u27, u28, u29, u30, u31, u32, u33, u34, u35, u36, u37, u38, u39, u40, ds, i, now, xs, v', inner, rfl, hJ⟩ := hIa
      clear hg1 hown1 hown hO hB hat hbox hrow hB2 hvb
      by_cases hil : i < l0.length + 1
      · have hi1 : ((i : Int) < ((l0.length : Int) + 1)) = True := eq_true (by omega)
        have hi2 : decide ((i : Int) < ((l0.length : Int) + 1)) = true := decide_eq_true (by omega)
        have hil2 : i < (l0 ++ [0]).length := by simp; omega
        have hgo := hJ.go
        rw [List.drop_eq_getElem_cons hil2] at hgo
        simp only [folAll] at hgo
        obtain ⟨bb, hbb⟩ : ∃ bb : Int, (l0 ++ [0])[i]'hil2 = bb := ⟨_, rfl⟩
        rw [hbb] at hgo
        by_cases hb : 0 ≤ bb ∧ bb < 2 ^ 62
        · rw [if_pos hb] at hgo
          obtain ⟨b, hbe⟩ := Int.eq_ofNat_of_zero_le hb.1
          have hb62 : b < 2 ^ 62 := by omega
          have hcell : W.cell? ⟨g, i, none⟩ = some (.int .i64 (b : Int)) := by
            have := ownsRow_cells hJ.row i (.int .i64 (b : Int)) (by rw [List.getElem?_map, List.getElem?_eq_getElem hil2, hbb, hbe]; rfl)
            rwa [Addr.add_lit, Nat.zero_add] at this
          rw [hbe, Int.toNat_natCast] at hgo
          obtain ⟨o1, ho1, hgo⟩ := Option.bind_eq_some_iff.mp hgo
          obtain ⟨o2, ho2, hgo⟩ := Option.bind_eq_some_iff.mp hgo
          by_cases hlim : o2.length ≤ 60000
          · rw [if_pos hlim] at hgo
            have hn62 := hJ.now62
            have HO1 := Aside0.mk ho1
            have HO2 := Aside0.mk ho2
            have HGO := Aside0.mk hgo
            have HLIM := Aside0.mk hlim
            clear ho1 ho2 hgo hb hbb hlim
            gi_wp2_with (refine ⟨trivial, ?_⟩; refine (callsIn_wide.2 (sweep_nodes.calls _ _)).mono ?_; rintro e w' ⟨rfl, rfl⟩)
            rw [b_andNot now b hn62 hb62]
            have hl12 := folTo_len true 64 _ _ _ HO2.out
            have HLEN := Aside0.mk (show o1.length ≤ 60000 from Nat.le_trans hl12 HLIM.out)
            clear hl12
            have hgg := hJ.hg
            have htp := hJ.top
            have hwz := hJ.below.size
            have hd1 : diff now b < 2 ^ 62 := Nat.lt_of_le_of_lt (diff_le _ _) hn62
            refine range_nodes (by omega) (c := W.heap.size) rfl w hGL (by omega) (diff now b) hd1 ?_ (fun z V => ∃ xs v inner, FK w l0 H g cp W.heap.size false o1 ds z V xs v inner) (fun _ _ => False) (fun z V h => by obtain ⟨_, _, _, h⟩ := h; exact h.below) ?_ (fun _ _ _ _ h _ _ => h) ?_ (fun x => { tmps := #[.slice A0 l0.length c0, u1, u2, .pointer (some ⟨w.heap.size, 0, none⟩), .int .i64 (now : Int), u5, .int .i64 (b : Int), .int .i64 x, u8, u9, u10, u11, .slice (some ⟨g, 0, none⟩) (l0.length + 1) cp, .int .i64 ((l0.length : Int) + 1), .int .i64 (i : Int), .bool true, .pointer (some ⟨g, i, none⟩), .int .i64 (b : Int), .int .i64 (now : Int), .int .i64 (b : Int), .int .i64 ((diff now b : Nat) : Int), .func (.func 91) #[] #[.pointer (some ⟨W.heap.size, 0, none⟩)], .int .i64 x, u23, u24, u25, u26, u27, u28, u29, u30, u31, u32, u33, u34, u35, u36, u37, u38, u39, u40], defers := [] }) ?_ ?_ ?_ (fun _ _ _ _ h _ => h.elim)
            · simpa using Boxed.new W 3 (.int .i64 ((diff now b : Nat) : Int))
            · rintro z V V2 row ⟨xs, v, inner, hK⟩ hg' hbk
              exact ⟨xs, v, inner, hK.books hgg.1 hgg.2 htp (by simp) hg' hbk⟩
            · exact ⟨xs, v', inner, ⟨64, HO1.out⟩, below_alloc hJ.below _, hJ.o.alloc _, hJ.own.alloc _, hJ.reps, hJ.row.alloc _, fun b hb => Nat.ne_of_lt (own_lt hJ.own b hb), hJ.marks.low (fun D hD => Below.heap_alloc _ _ _ hD), by simp⟩
            · intro l x V K hK
              gi_wp2
              exact hK
            · rintro l z V ⟨xs, v, inner, hK⟩ hz hz2
              obtain ⟨k, hgk⟩ := hK.go
              cases k with
              | zero => cases hgk
              | succ k =>
                simp only [folTo] at hgk
                rw [if_neg (by omega)] at hgk
                have hlx := folTo_len false k _ _ _ hgk
                simp only [List.length_append, List.length_singleton] at hlx
                have HGK := Aside0.mk hgk
                have hoc := hK.o.cell
                have hof := hK.o.frozen
                have hln := HLEN.out
                have hHle : w.heap.size ≤ H := by omega
                have htop := hK.top
                generalize Lib.ctz 64 z = y at *
                clear hgk
                gi_wp2_with (gi_at_builtin; go_loud (refine wpListIn_append_own_at _ rfl _ _ 35 rfl H 85 i8 (.agg #[(.bool false), (.int .i64 0)]) 2 16 Tryd.underlying35 hi8 hy0 hy1 hy2 rfl (by decide) v xs.length inner rfl (hK.own.alloc _) ⟨V.heap.size, 0, none⟩ 1 1 [.bool false, .int .i64 (y : Int)] rfl rfl (cells_new V [.bool false, .int .i64 (y : Int)] 85) (by simp [Value.oneCell']) (by unfold maxLen; omega) (by omega) (by simp; omega) ?_; intro v2 w5 hown' hgrow _ hat; obtain ⟨g2, cp2, rfl⟩ := ownsRow_succ hown'; have hv1 := (hK.o.appended (by decide) (ownsRow_mono hK.own hHle) (by omega) (Nat.le_refl _) (ownsRow_mono hown' hHle) hgrow).1; have hc1 := hv1.cell; have hf1 := hv1.frozen))
                obtain ⟨q1, q2, q3⟩ := hK.appended hgg.1 hgg.2 htp HGK.out hown' hgrow hat
                exact ⟨q1, q2, _, _, _, q3⟩
            · rintro D V hD ⟨xs, v, inner, hK⟩ hDf
              obtain ⟨k, hgk⟩ := hK.go
              cases k with
              | zero => cases hgk
              | succ k =>
              simp only [folTo, if_pos] at hgk
              obtain rfl := Option.some.inj hgk
              clear hgk
              simp only [World.size_alloc] at hD
              have htopV := hK.top
              have hDl := (Array.getElem?_eq_some_iff.1 hDf).1
              have hbz := hK.below.size
              gi_wp2_with (refine ⟨trivial, ?_⟩; refine (callsIn_wide.2 (sweep_nodes.calls _ _)).mono ?_; rintro e w' ⟨rfl, rfl⟩)
              rw [b_andNot b now hb62 hn62]
              have hd2 : diff b now < 2 ^ 62 := Nat.lt_of_le_of_lt (diff_le _ _) hb62
              refine range_nodes (by omega) (c := V.heap.size) rfl w hGL (by omega) (diff b now) hd2 ?_ (fun z V3 => ∃ xs3 v3 inner3, FK w l0 H g cp V.heap.size true o2 ({ target := .collected D, args := #[] } :: ds) z V3 xs3 v3 inner3) (fun _ _ => False) (fun z V h => by obtain ⟨_, _, _, h⟩ := h; exact h.below) ?_ (fun _ _ _ _ h _ _ => h) ?_ (fun x => { tmps := #[.slice A0 l0.length c0, u1, u2, .pointer (some ⟨w.heap.size, 0, none⟩), .int .i64 (now : Int), u5, .int .i64 (b : Int), u7, .int .i64 x, u9, u10, u11, .slice (some ⟨g, 0, none⟩) (l0.length + 1) cp, .int .i64 ((l0.length : Int) + 1), .int .i64 (i : Int), .bool true, .pointer (some ⟨g, i, none⟩), .int .i64 (b : Int), .int .i64 (now : Int), .int .i64 (b : Int), .int .i64 ((diff now b : Nat) : Int), .func (.func 91) #[] #[.pointer (some ⟨W.heap.size, 0, none⟩)], u22, u23, u24, u25, u26, u27, .int .i64 (b : Int), .int .i64 (now : Int), .int .i64 ((diff b now : Nat) : Int), .func (.func 91) #[] #[.pointer (some ⟨V.heap.size, 0, none⟩)], .int .i64 x, u33, u34, u35, u36, u37, u38, u39, u40], defers := [] }) ?_ ?_ ?_ (fun _ _ _ _ h _ => h.elim)
              · simpa using Boxed.new V 3 (.int .i64 ((diff b now : Nat) : Int))
              · rintro z V3 V4 row ⟨xs3, v3, inner3, hK3⟩ hg' hbk
                exact ⟨xs3, v3, inner3, hK3.books hgg.1 hgg.2 (by omega) (by simp) hg' hbk⟩
              · exact ⟨xs, v, inner, ⟨64, HO2.out⟩, below_alloc hK.below _, hK.o.alloc _, hK.own.alloc _, hK.reps, hK.row.alloc _, fun b hb => Nat.ne_of_lt (own_lt hK.own b hb), ⟨D, rfl, by omega, hDl, (Below.heap_alloc _ _ _ hDl).trans hDf, (hK.marks.low (fun E hE => Below.heap_alloc _ _ _ (by omega))).mono (by omega)⟩, by simp⟩
              · intro l x V3 K hK'
                gi_wp2
                exact hK'
              · rintro l z V3 ⟨xs3, v3, inner3, hK3⟩ hz hz2
                obtain ⟨k, hgk⟩ := hK3.go
                cases k with
                | zero => cases hgk
                | succ k =>
                  simp only [folTo] at hgk
                  rw [if_neg (by omega)] at hgk
                  have hlx := folTo_len true k _ _ _ hgk
                  simp only [List.length_append, List.length_singleton] at hlx
                  have HGK := Aside0.mk hgk
                  have hoc := hK3.o.cell
                  have hof := hK3.o.frozen
                  have hln := HLIM.out
                  have hHle : w.heap.size ≤ H := by omega
                  have htop := hK3.top
                  generalize Lib.ctz 64 z = y at *
                  clear hgk
                  gi_wp2_with (gi_at_builtin; go_loud (refine wpListIn_append_own_at _ rfl _ _ 35 rfl H 85 i8 (.agg #[(.bool false), (.int .i64 0)]) 2 16 Tryd.underlying35 hi8 hy0 hy1 hy2 rfl (by decide) v3 xs3.length inner3 rfl (hK3.own.alloc _) ⟨V3.heap.size, 0, none⟩ 1 1 [.bool true, .int .i64 (y : Int)] rfl rfl (cells_new V3 [.bool true, .int .i64 (y : Int)] 85) (by simp [Value.oneCell']) (by unfold maxLen; omega) (by omega) (by simp; omega) ?_; intro v2 w5 hown' hgrow _ hat; obtain ⟨g2, cp2, rfl⟩ := ownsRow_succ hown'; have hv1 := (hK3.o.appended (by decide) (ownsRow_mono hK3.own hHle) (by omega) (Nat.le_refl _) (ownsRow_mono hown' hHle) hgrow).1; have hc1 := hv1.cell; have hf1 := hv1.frozen))
                  obtain ⟨q1, q2, q3⟩ := hK3.appended hgg.1 hgg.2 (show H ≤ V.heap.size by omega) HGK.out hown' hgrow hat
                  exact ⟨q1, q2, _, _, _, q3⟩
              · rintro D2 V3 hD2 ⟨xs3, v3, inner3, hK3⟩ hDf2
                obtain ⟨k3, hgk3⟩ := hK3.go
                cases k3 with
                | zero => cases hgk3
                | succ k3 =>
                simp only [folTo, if_pos] at hgk3
                obtain rfl := Option.some.inj hgk3
                simp only [World.size_alloc] at hD2
                have htop3 := hK3.top
                have hDl2 := (Array.getElem?_eq_some_iff.1 hDf2).1
                gi_wp2
                refine ⟨?_, ?_⟩
                · rw [HInv.out]
                  iterate 35 apply Exists.intro
                  exact ⟨_, i + 1, b, xs3, v3, inner3, rfl, hK3.below, hK3.o, hK3.own, hK3.reps, hK3.row, HGO.out, hb62, hgg, by omega, ⟨D2, rfl, by omega, hDl2, hDf2, hK3.marks.mono (by omega)⟩⟩
                · rw [HMe.out]
                  show (l0.length + 1) - (((i + 1 : Nat) : Int)).toNat < (l0.length + 1) - ((i : Int)).toNat
                  rw [Int.toNat_natCast, Int.toNat_natCast]
                  omega
          · rw [if_neg hlim] at hgo
            cases hgo
        · rw [if_neg hb] at hgo
          cases hgo
      · have hi1 : ((i : Int) < ((l0.length : Int) + 1)) = False := eq_false (by omega)
        have hi2 : decide ((i : Int) < ((l0.length : Int) + 1)) = false := decide_eq_false (by omega)
        have hgo := hJ.go
        rw [List.drop_eq_nil_of_le (by simp; omega)] at hgo
        simp only [folAll, Option.some.injEq] at hgo
        subst hgo
        have hoc := hJ.o.cell
        gi_wp2
        refine marks_leave (B := w.heap.size) ds W.heap.size W hJ.below.size hJ.marks (fun V2 hb hc => ?_)
        refine ⟨_, results_tmp rfl _ _ _, v', rfl, ⟨fun _ _ => trivial, inner, owns_cells hJ.own hc (by have := hJ.hg; omega), hJ.reps.imp_ (fun p c h => by rw [show c = _ from h]; exact k85_mkM _ _ _ p)⟩, hJ.below.trans hb⟩
  · rw [if_neg hlen] at h
    cases h
end Go.Proofs.YtijfddobandcdaaDoor.X
end
