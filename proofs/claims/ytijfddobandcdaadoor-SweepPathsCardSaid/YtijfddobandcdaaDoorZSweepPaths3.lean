/- Part 3 of what SweepPaths rests on: contracts of the functions that it reaches, and what they compute, in plain words. -/
import Derived.Test.YtijfddobandcdaaDoorZSweepPaths0
import Derived.Test.YtijfddobandcdaaDoorZSweepPaths2
import Derived.Test.YtijfddobandcdaaDoorZSweepPaths1
section
-- by ownprint.py (wip/tool), over the kit's print
namespace Go.Proofs.YtijfddobandcdaaDoor.X
open Go.RowKit Go.Proofs.YtijfddobandcdaaDoorW.PrintWords Go.Proofs.YtijfddobandcdaaDoorW.PrintLast Go.Proofs.YtijfddobandcdaaDoorW.PrintMore
attribute [local go_sem] max2_int min2_int max_two min_two max_three min_three max_four min_four
set_option linter.unusedVariables false
set_option linter.unusedSimpArgs false

/-! ### lampblackref02_IsOrder: function 30 -/
def lampblackref02_IsOrder.l0 : Nat → List Int → Int → Int → List Int → Int → Int → Option (Bool)
  | 0, _, _, _, _, _, _ => none
  | k + 1, x0, x1, x5, x8, x9, x10 => if x10 < x9 then (if 0 ≤ x10 then (if x10 < (x8.length : Int) then (if (rd x8 x10) < 0 then (some false) else (if (rd x8 x10) ≥ x1 then (some false) else (if 0 ≤ (rd x8 x10) then (if (Go.bits .and .i64 (shr .i64 x5 (rd x8 x10)) 1) = 1 then (some false) else (lampblackref02_IsOrder.l0 k x0 x1 (Go.bits .or .i64 x5 (shl .i64 1 (rd x8 x10))) x8 x9 (wrap64 (x10 + 1)))) else (none)))) else (none)) else (none)) else (some ((x0.length : Int) == x1))
def lampblackref02_IsOrder.f (k : Nat) (l0 : List Int) (a1 : Int) : Option (Bool) := lampblackref02_IsOrder.l0 k l0 a1 0 l0 (l0.length : Int) 0
theorem lampblackref02_IsOrder.mono_l : ∀ k, (∀ y0 y1 y2 y3 y4 y5, LeO (lampblackref02_IsOrder.l0 k y0 y1 y2 y3 y4 y5) (lampblackref02_IsOrder.l0 (k + 1) y0 y1 y2 y3 y4 y5))
  | 0 => fun _ _ _ _ _ _ r h => by simp [lampblackref02_IsOrder.l0] at h
  | k + 1 => by
    have ih0 := lampblackref02_IsOrder.mono_l k
    · intro y0 y1 y2 y3 y4 y5
      unfold lampblackref02_IsOrder.l0
      repeat' first
      | (with_reducible exact ih0 _ _ _ _ _ _)
      | (with_reducible exact LeO.refl _)
      | (with_reducible exact LeO.none _)
      | (with_reducible refine LeO.ite ?_ ?_)
      | (with_reducible refine LeO.bind ?_ (fun _ => ?_))
      | exact ih0 _ _ _ _ _ _
      | exact LeO.none _
      | refine LeO.ite ?_ ?_
      | refine LeO.bind ?_ (fun _ => ?_)
theorem lampblackref02_IsOrder.mono : ∀ a0 a1 k, LeO (lampblackref02_IsOrder.f k a0 a1) (lampblackref02_IsOrder.f (k + 1) a0 a1) := by
  intro a0 a1 k
  have ih0 := lampblackref02_IsOrder.mono_l k
  unfold lampblackref02_IsOrder.f
  repeat' first
      | (with_reducible exact ih0 _ _ _ _ _ _)
      | (with_reducible exact LeO.refl _)
      | (with_reducible exact LeO.none _)
      | (with_reducible refine LeO.ite ?_ ?_)
      | (with_reducible refine LeO.bind ?_ (fun _ => ?_))
      | exact ih0 _ _ _ _ _ _
      | exact LeO.none _
      | refine LeO.ite ?_ ?_
      | refine LeO.bind ?_ (fun _ => ?_)
set_option maxHeartbeats 8000000 in
set_option maxRecDepth 100000 in
theorem lampblackref02_IsOrder.calls (k : Nat) (A0 : Option Addr) (c0 : Nat) (l0 : List Int) (a1 : Int) (r : Bool) (w : World) (hr0 : Kd.C (Kd.int .i64) w A0 l0.length l0) (hc0 : l0.length ≤ c0) (h : lampblackref02_IsOrder.f k l0 a1 = some r) :
    Calls Tryd.prog 30 #[.slice A0 l0.length c0, .int .i64 a1] w fun e w' => e = .returned (.bool r) ∧ Drawn0 w w' := by
  have HR0 := Aside0.mk hr0
  have HC0 := Aside0.mk hc0
  clear hr0 hc0
  have H : (lampblackref02_IsOrder.l0 k l0 a1 0 l0 (l0.length : Int) 0) = some r := h
  clear h
  have H' := Aside0.mk H
  clear H
  go_enter Tryd.func30, Tryd.ntmps30
  go_wp2
  go_loopg [5, 10] k (fun kq v5 v10 w' => ∃ (x5_1 : Int) (x10_1 : Int), v5 = .int .i64 x5_1 ∧ v10 = .int .i64 x10_1 ∧ Aside0 (lampblackref02_IsOrder.l0 kq l0 a1 x5_1 l0 (l0.length : Int) x10_1 = some r) ∧ Aside0 (kq ≤ k) ∧ Drawn0 w w')
  case atStart => exact ⟨(0), (0), (by first | rfl | (simp; done) | (simp [*]; done)), (by first | rfl | (simp; done) | (simp [*]; done)), H', ⟨Nat.le_refl _⟩, by repeat (first | exact Drawn0.refl _ | apply Drawn0.step)⟩
  case round =>
    clear H'
    try clear p2
    obtain ⟨x5_1, x10_1, rfl, rfl, HA, HK1, ⟨m1, rfl⟩⟩ := hrel
    cases gk with
    | zero => exact absurd HA.out (by simp [lampblackref02_IsOrder.l0])
    | succ k1 =>
      have H := HA.out
      clear HA
      simp only [lampblackref02_IsOrder.l0] at H
      by_cases c3 : x10_1 < (l0.length : Int)
      · rw [if_pos c3] at H
        have c3b0 : decide (x10_1 < (l0.length : Int)) = true := decide_eq_true c3
        clear c3
        by_cases c4 : 0 ≤ x10_1
        · rw [if_pos c4] at H
          have c4b0 : decide (0 ≤ x10_1) = true := decide_eq_true c4
          clear c4
          by_cases c5 : x10_1 < (l0.length : Int)
          · rw [if_pos c5] at H
            have c5b0 : decide (x10_1 < (l0.length : Int)) = true := decide_eq_true c5
            clear c5
            by_cases c6 : (rd l0 x10_1) < 0
            · rw [if_pos c6] at H
              have c6b0 : decide ((rd l0 x10_1) < 0) = true := decide_eq_true c6
              clear c6
              obtain rfl := Option.some.inj H
              have p246 : 0 ≤ (x10_1 : Int) := of_decide_eq_true (by first | (with_reducible assumption) | assumption)
              have q246 : x10_1 < (l0.length : Int) := of_decide_eq_true (by first | (with_reducible assumption) | assumption)
              obtain ⟨ad246, e246, hx246_0⟩ := Kd.at_int HR0.out x10_1 p246 q246
              cases e246
              replace p246 := eq_true p246
              replace q246 := eq_true q246
              go_wp2
              go_ret
              exact ⟨by first | rfl | (simp; done) | (simp [*]; done), by repeat (first | exact Drawn0.refl _ | apply Drawn0.step)⟩
            · rw [if_neg c6] at H
              have c6b0 : decide ((rd l0 x10_1) < 0) = false := decide_eq_false c6
              clear c6
              by_cases c7 : (rd l0 x10_1) ≥ a1
              · rw [if_pos c7] at H
                have c7b0 : decide (a1 ≤ (rd l0 x10_1)) = true := decide_eq_true c7
                clear c7
                obtain rfl := Option.some.inj H
                have p246 : 0 ≤ (x10_1 : Int) := of_decide_eq_true (by first | (with_reducible assumption) | assumption)
                have q246 : x10_1 < (l0.length : Int) := of_decide_eq_true (by first | (with_reducible assumption) | assumption)
                obtain ⟨ad246, e246, hx246_0⟩ := Kd.at_int HR0.out x10_1 p246 q246
                cases e246
                replace p246 := eq_true p246
                replace q246 := eq_true q246
                go_wp2
                go_ret
                exact ⟨by first | rfl | (simp; done) | (simp [*]; done), by repeat (first | exact Drawn0.refl _ | apply Drawn0.step)⟩
              · rw [if_neg c7] at H
                have c7b0 : decide (a1 ≤ (rd l0 x10_1)) = false := decide_eq_false c7
                clear c7
                by_cases c8 : 0 ≤ (rd l0 x10_1)
                · rw [if_pos c8] at H
                  have c8b0 := eq_true c8
                  have c8b1 : decide (0 ≤ (rd l0 x10_1)) = true := decide_eq_true c8
                  clear c8
                  obtain ⟨ji9, hji9⟩ : ∃ j_ : Int, (shr .i64 x5_1 (rd l0 x10_1)) = j_ := ⟨_, rfl⟩
                  replace H : (if (Go.bits .and .i64 (ji9) 1) = 1 then (some false) else (lampblackref02_IsOrder.l0 k1 l0 a1 (Go.bits .or .i64 x5_1 (shl .i64 1 (rd l0 x10_1))) l0 (l0.length : Int) (wrap64 (x10_1 + 1)))) = some r := by first | (rw [hji9] at H; exact H) | (simp only [hji9] at H ⊢; exact H)
                  have hji9_ : (x5_1 / 2 ^ min (rd l0 x10_1).toNat 64) = ji9 := hji9
                  have hji9z : (rd l0 x10_1) ≤ 64 → (x5_1 / 2 ^ (rd l0 x10_1).toNat) = ji9 := shr_small hji9
                  by_cases c10 : (Go.bits .and .i64 (ji9) 1) = 1
                  · rw [if_pos c10] at H
                    have c10b0 : ((Go.bits .and .i64 (ji9) 1) == 1) = true := beq_iff_eq.mpr c10
                    have c10b1 : ((Go.bits .and .i64 (ji9) 1) != 1) = false := bne_eq_false_iff_eq.mpr c10
                    clear c10
                    obtain rfl := Option.some.inj H
                    have p246 : 0 ≤ (x10_1 : Int) := of_decide_eq_true (by first | (with_reducible assumption) | assumption)
                    have q246 : x10_1 < (l0.length : Int) := of_decide_eq_true (by first | (with_reducible assumption) | assumption)
                    obtain ⟨ad246, e246, hx246_0⟩ := Kd.at_int HR0.out x10_1 p246 q246
                    cases e246
                    replace p246 := eq_true p246
                    replace q246 := eq_true q246
                    go_wp2
                    go_ret
                    exact ⟨by first | rfl | (simp; done) | (simp only [← hji9] <;> (first | rfl | simp)) | (simp [*]; done), by repeat (first | exact Drawn0.refl _ | apply Drawn0.step)⟩
                  · rw [if_neg c10] at H
                    have c10b0 : ((Go.bits .and .i64 (ji9) 1) == 1) = false := beq_eq_false_iff_ne.mpr c10
                    have c10b1 : ((Go.bits .and .i64 (ji9) 1) != 1) = true := bne_iff_ne.mpr c10
                    have c11b0 := eq_true (of_decide_eq_true (by first | (with_reducible assumption) | assumption) : 0 ≤ (rd l0 x10_1))
                    obtain ⟨ji12, hji12⟩ : ∃ j_ : Int, (shl .i64 1 (rd l0 x10_1)) = j_ := ⟨_, rfl⟩
                    replace H : (lampblackref02_IsOrder.l0 k1 l0 a1 (Go.bits .or .i64 x5_1 (ji12)) l0 (l0.length : Int) (wrap64 (x10_1 + 1))) = some r := by first | (rw [hji12] at H; exact H) | (simp only [hji12] at H ⊢; exact H)
                    have hji12_ : (IntKind.i64.wrap (1 * 2 ^ min (rd l0 x10_1).toNat 64)) = ji12 := hji12
                    have hji12z : (rd l0 x10_1) ≤ 64 → (IntKind.i64.wrap (1 * 2 ^ (rd l0 x10_1).toNat)) = ji12 := shl_small hji12
                    have hji12u : (IntKind.i64.wrap (2 ^ min (rd l0 x10_1).toNat 64)) = ji12 := by have h_ := hji12_; rw [Int.one_mul] at h_; exact h_
                    have hji12v : (rd l0 x10_1) ≤ 64 → (IntKind.i64.wrap (2 ^ (rd l0 x10_1).toNat)) = ji12 := fun hle_ => by have h_ := hji12z hle_; rw [Int.one_mul] at h_; exact h_
                    have hji12y : (wrap64 (1 * 2 ^ min (rd l0 x10_1).toNat 64)) = ji12 := (i64_w _).symm.trans hji12_
                    have hji12x : (rd l0 x10_1) ≤ 64 → (wrap64 (1 * 2 ^ (rd l0 x10_1).toNat)) = ji12 := fun h_ => (i64_w _).symm.trans (hji12z h_)
                    have H' := Aside0.mk H
                    clear H
                    have p246 : 0 ≤ (x10_1 : Int) := of_decide_eq_true (by first | (with_reducible assumption) | assumption)
                    have q246 : x10_1 < (l0.length : Int) := of_decide_eq_true (by first | (with_reducible assumption) | assumption)
                    obtain ⟨ad246, e246, hx246_0⟩ := Kd.at_int HR0.out x10_1 p246 q246
                    cases e246
                    replace p246 := eq_true p246
                    replace q246 := eq_true q246
                    go_wp2
                    go_roundg k1
                    case measure => have := HK1.out; omega
                    case rel => exact ⟨(Go.bits .or .i64 x5_1 (ji12)), (wrap64 (x10_1 + 1)), (by first | rfl | (simp; done) | (simp only [← hji12] <;> (first | rfl | simp)) | (simp [*]; done)), (by first | rfl | (simp; done) | (simp [*]; done)), H', ⟨by have := HK1.out; omega⟩, by repeat (first | exact Drawn0.refl _ | apply Drawn0.step)⟩
                · rw [if_neg c8] at H
                  exact absurd H (by simp)
          · rw [if_neg c5] at H
            exact absurd H (by simp)
        · rw [if_neg c4] at H
          exact absurd H (by simp)
      · rw [if_neg c3] at H
        have c3b0 : decide (x10_1 < (l0.length : Int)) = false := decide_eq_false c3
        clear c3
        obtain rfl := Option.some.inj H
        go_wp2
        go_ret
        exact ⟨by first | rfl | (simp; done) | (simp [*]; done), by repeat (first | exact Drawn0.refl _ | apply Drawn0.step)⟩

end Go.Proofs.YtijfddobandcdaaDoor.X
end
section
-- by ownprint.py (wip/tool), over the kit's print
namespace Go.Proofs.YtijfddobandcdaaDoor.X
open Go.RowKit Go.Proofs.YtijfddobandcdaaDoorW.PrintWords Go.Proofs.YtijfddobandcdaaDoorW.PrintLast Go.Proofs.YtijfddobandcdaaDoorW.PrintMore
attribute [local go_sem] max2_int min2_int max_two min_two max_three min_three max_four min_four
set_option linter.unusedVariables false
set_option linter.unusedSimpArgs false

/-! ### lampblackref03_Border: function 59 -/
def lampblackref03_Border.l0 : Nat → List Int → Int → Int → Int → Int → Option (Int)
  | 0, _, _, _, _, _ => none
  | k + 1, x0, x1, x5, x8, x9 => if x9 < x8 then (if 0 ≤ x9 then (if (Go.bits .and .i64 (shr .i64 x1 x9) 1) = 1 then (if x9 < (x0.length : Int) then (if (Go.bits .andNot .i64 (rd x0 x9) x1) = 0 then (lampblackref03_Border.l0 k x0 x1 x5 x8 (wrap64 (x9 + 1))) else (lampblackref03_Border.l0 k x0 x1 (Go.bits .or .i64 x5 (shl .i64 1 x9)) x8 (wrap64 (x9 + 1)))) else (none)) else (lampblackref03_Border.l0 k x0 x1 x5 x8 (wrap64 (x9 + 1)))) else (none)) else (some x5)
def lampblackref03_Border.f (k : Nat) (l0 : List Int) (a1 : Int) : Option (Int) := lampblackref03_Border.l0 k l0 a1 0 (l0.length : Int) 0
theorem lampblackref03_Border.mono_l : ∀ k, (∀ y0 y1 y2 y3 y4, LeO (lampblackref03_Border.l0 k y0 y1 y2 y3 y4) (lampblackref03_Border.l0 (k + 1) y0 y1 y2 y3 y4))
  | 0 => fun _ _ _ _ _ r h => by simp [lampblackref03_Border.l0] at h
  | k + 1 => by
    have ih0 := lampblackref03_Border.mono_l k
    · intro y0 y1 y2 y3 y4
      unfold lampblackref03_Border.l0
      repeat' first
      | (with_reducible exact ih0 _ _ _ _ _)
      | (with_reducible exact LeO.refl _)
      | (with_reducible exact LeO.none _)
      | (with_reducible refine LeO.ite ?_ ?_)
      | (with_reducible refine LeO.bind ?_ (fun _ => ?_))
      | exact ih0 _ _ _ _ _
      | exact LeO.none _
      | refine LeO.ite ?_ ?_
      | refine LeO.bind ?_ (fun _ => ?_)
theorem lampblackref03_Border.mono : ∀ a0 a1 k, LeO (lampblackref03_Border.f k a0 a1) (lampblackref03_Border.f (k + 1) a0 a1) := by
  intro a0 a1 k
  have ih0 := lampblackref03_Border.mono_l k
  unfold lampblackref03_Border.f
  repeat' first
      | (with_reducible exact ih0 _ _ _ _ _)
      | (with_reducible exact LeO.refl _)
      | (with_reducible exact LeO.none _)
      | (with_reducible refine LeO.ite ?_ ?_)
      | (with_reducible refine LeO.bind ?_ (fun _ => ?_))
      | exact ih0 _ _ _ _ _
      | exact LeO.none _
      | refine LeO.ite ?_ ?_
      | refine LeO.bind ?_ (fun _ => ?_)
set_option maxHeartbeats 8000000 in
set_option maxRecDepth 100000 in
theorem lampblackref03_Border.calls (k : Nat) (A0 : Option Addr) (c0 : Nat) (l0 : List Int) (a1 : Int) (r : Int) (w : World) (hr0 : Kd.C (Kd.int .i64) w A0 l0.length l0) (hc0 : l0.length ≤ c0) (h : lampblackref03_Border.f k l0 a1 = some r) :
    Calls Tryd.prog 59 #[.slice A0 l0.length c0, .int .i64 a1] w fun e w' => e = .returned (.int .i64 r) ∧ Drawn0 w w' := by
  have HR0 := Aside0.mk hr0
  have HC0 := Aside0.mk hc0
  clear hr0 hc0
  have H : (lampblackref03_Border.l0 k l0 a1 0 (l0.length : Int) 0) = some r := h
  clear h
  have H' := Aside0.mk H
  clear H
  go_enter Tryd.func59, Tryd.ntmps59
  go_wp2
  go_loopg [5, 9] k (fun kq v5 v9 w' => ∃ (x5_1 : Int) (x9_1 : Int), v5 = .int .i64 x5_1 ∧ v9 = .int .i64 x9_1 ∧ Aside0 (lampblackref03_Border.l0 kq l0 a1 x5_1 (l0.length : Int) x9_1 = some r) ∧ Aside0 (kq ≤ k) ∧ Drawn0 w w')
  case atStart => exact ⟨(0), (0), (by first | rfl | (simp; done) | (simp [*]; done)), (by first | rfl | (simp; done) | (simp [*]; done)), H', ⟨Nat.le_refl _⟩, by repeat (first | exact Drawn0.refl _ | apply Drawn0.step)⟩
  case round =>
    clear H'
    try clear p2
    obtain ⟨x5_1, x9_1, rfl, rfl, HA, HK1, ⟨m1, rfl⟩⟩ := hrel
    cases gk with
    | zero => exact absurd HA.out (by simp [lampblackref03_Border.l0])
    | succ k1 =>
      have H := HA.out
      clear HA
      simp only [lampblackref03_Border.l0] at H
      by_cases c3 : x9_1 < (l0.length : Int)
      · rw [if_pos c3] at H
        have c3b0 : decide (x9_1 < (l0.length : Int)) = true := decide_eq_true c3
        clear c3
        by_cases c4 : 0 ≤ x9_1
        · rw [if_pos c4] at H
          have c4b0 := eq_true c4
          have c4b1 : decide (0 ≤ x9_1) = true := decide_eq_true c4
          clear c4
          obtain ⟨ji5, hji5⟩ : ∃ j_ : Int, (shr .i64 a1 x9_1) = j_ := ⟨_, rfl⟩
          replace H : (if (Go.bits .and .i64 (ji5) 1) = 1 then (if x9_1 < (l0.length : Int) then (if (Go.bits .andNot .i64 (rd l0 x9_1) a1) = 0 then (lampblackref03_Border.l0 k1 l0 a1 x5_1 (l0.length : Int) (wrap64 (x9_1 + 1))) else (lampblackref03_Border.l0 k1 l0 a1 (Go.bits .or .i64 x5_1 (shl .i64 1 x9_1)) (l0.length : Int) (wrap64 (x9_1 + 1)))) else (none)) else (lampblackref03_Border.l0 k1 l0 a1 x5_1 (l0.length : Int) (wrap64 (x9_1 + 1)))) = some r := by first | (rw [hji5] at H; exact H) | (simp only [hji5] at H ⊢; exact H)
          have hji5_ : (a1 / 2 ^ min x9_1.toNat 64) = ji5 := hji5
          have hji5z : x9_1 ≤ 64 → (a1 / 2 ^ x9_1.toNat) = ji5 := shr_small hji5
          by_cases c6 : (Go.bits .and .i64 (ji5) 1) = 1
          · rw [if_pos c6] at H
            have c6b0 : ((Go.bits .and .i64 (ji5) 1) == 1) = true := beq_iff_eq.mpr c6
            have c6b1 : ((Go.bits .and .i64 (ji5) 1) != 1) = false := bne_eq_false_iff_eq.mpr c6
            clear c6
            by_cases c7 : x9_1 < (l0.length : Int)
            · rw [if_pos c7] at H
              have c7b0 : decide (x9_1 < (l0.length : Int)) = true := decide_eq_true c7
              clear c7
              by_cases c8 : (Go.bits .andNot .i64 (rd l0 x9_1) a1) = 0
              · rw [if_pos c8] at H
                have c8b0 : ((Go.bits .andNot .i64 (rd l0 x9_1) a1) == 0) = true := beq_iff_eq.mpr c8
                have c8b1 : ((Go.bits .andNot .i64 (rd l0 x9_1) a1) != 0) = false := bne_eq_false_iff_eq.mpr c8
                clear c8
                have H' := Aside0.mk H
                clear H
                have p136 : 0 ≤ (x9_1 : Int) := of_decide_eq_true (by first | (with_reducible assumption) | assumption)
                have q136 : x9_1 < (l0.length : Int) := of_decide_eq_true (by first | (with_reducible assumption) | assumption)
                obtain ⟨ad136, e136, hx136_0⟩ := Kd.at_int HR0.out x9_1 p136 q136
                cases e136
                replace p136 := eq_true p136
                replace q136 := eq_true q136
                go_wp2
                go_roundg k1
                case measure => have := HK1.out; omega
                case rel => exact ⟨(x5_1), (wrap64 (x9_1 + 1)), (by first | rfl | (simp; done) | (simp [*]; done)), (by first | rfl | (simp; done) | (simp [*]; done)), H', ⟨by have := HK1.out; omega⟩, by repeat (first | exact Drawn0.refl _ | apply Drawn0.step)⟩
              · rw [if_neg c8] at H
                have c8b0 : ((Go.bits .andNot .i64 (rd l0 x9_1) a1) == 0) = false := beq_eq_false_iff_ne.mpr c8
                have c8b1 : ((Go.bits .andNot .i64 (rd l0 x9_1) a1) != 0) = true := bne_iff_ne.mpr c8
                have c9b0 := eq_true (of_decide_eq_true (by first | (with_reducible assumption) | assumption) : 0 ≤ x9_1)
                obtain ⟨ji10, hji10⟩ : ∃ j_ : Int, (shl .i64 1 x9_1) = j_ := ⟨_, rfl⟩
                replace H : (lampblackref03_Border.l0 k1 l0 a1 (Go.bits .or .i64 x5_1 (ji10)) (l0.length : Int) (wrap64 (x9_1 + 1))) = some r := by first | (rw [hji10] at H; exact H) | (simp only [hji10] at H ⊢; exact H)
                have hji10_ : (IntKind.i64.wrap (1 * 2 ^ min x9_1.toNat 64)) = ji10 := hji10
                have hji10z : x9_1 ≤ 64 → (IntKind.i64.wrap (1 * 2 ^ x9_1.toNat)) = ji10 := shl_small hji10
                have hji10u : (IntKind.i64.wrap (2 ^ min x9_1.toNat 64)) = ji10 := by have h_ := hji10_; rw [Int.one_mul] at h_; exact h_
                have hji10v : x9_1 ≤ 64 → (IntKind.i64.wrap (2 ^ x9_1.toNat)) = ji10 := fun hle_ => by have h_ := hji10z hle_; rw [Int.one_mul] at h_; exact h_
                have hji10y : (wrap64 (1 * 2 ^ min x9_1.toNat 64)) = ji10 := (i64_w _).symm.trans hji10_
                have hji10x : x9_1 ≤ 64 → (wrap64 (1 * 2 ^ x9_1.toNat)) = ji10 := fun h_ => (i64_w _).symm.trans (hji10z h_)
                have H' := Aside0.mk H
                clear H
                have p136 : 0 ≤ (x9_1 : Int) := of_decide_eq_true (by first | (with_reducible assumption) | assumption)
                have q136 : x9_1 < (l0.length : Int) := of_decide_eq_true (by first | (with_reducible assumption) | assumption)
                obtain ⟨ad136, e136, hx136_0⟩ := Kd.at_int HR0.out x9_1 p136 q136
                cases e136
                replace p136 := eq_true p136
                replace q136 := eq_true q136
                go_wp2
                go_roundg k1
                case measure => have := HK1.out; omega
                case rel => exact ⟨(Go.bits .or .i64 x5_1 (ji10)), (wrap64 (x9_1 + 1)), (by first | rfl | (simp; done) | (simp only [← hji10] <;> (first | rfl | simp)) | (simp [*]; done)), (by first | rfl | (simp; done) | (simp [*]; done)), H', ⟨by have := HK1.out; omega⟩, by repeat (first | exact Drawn0.refl _ | apply Drawn0.step)⟩
            · rw [if_neg c7] at H
              exact absurd H (by simp)
          · rw [if_neg c6] at H
            have c6b0 : ((Go.bits .and .i64 (ji5) 1) == 1) = false := beq_eq_false_iff_ne.mpr c6
            have c6b1 : ((Go.bits .and .i64 (ji5) 1) != 1) = true := bne_iff_ne.mpr c6
            have H' := Aside0.mk H
            clear H
            go_wp2
            go_roundg k1
            case measure => have := HK1.out; omega
            case rel => exact ⟨(x5_1), (wrap64 (x9_1 + 1)), (by first | rfl | (simp; done) | (simp [*]; done)), (by first | rfl | (simp; done) | (simp [*]; done)), H', ⟨by have := HK1.out; omega⟩, by repeat (first | exact Drawn0.refl _ | apply Drawn0.step)⟩
        · rw [if_neg c4] at H
          exact absurd H (by simp)
      · rw [if_neg c3] at H
        have c3b0 : decide (x9_1 < (l0.length : Int)) = false := decide_eq_false c3
        clear c3
        obtain rfl := Option.some.inj H
        go_wp2
        go_ret
        exact ⟨by first | rfl | (simp; done) | (simp [*]; done), by repeat (first | exact Drawn0.refl _ | apply Drawn0.step)⟩

end Go.Proofs.YtijfddobandcdaaDoor.X
end
section
-- by ownprint.py (wip/tool), over the kit's print
namespace Go.Proofs.YtijfddobandcdaaDoor.X
open Go.RowKit Go.Proofs.YtijfddobandcdaaDoorW.PrintWords Go.Proofs.YtijfddobandcdaaDoorW.PrintLast Go.Proofs.YtijfddobandcdaaDoorW.PrintMore
attribute [local go_sem] max2_int min2_int max_two min_two max_three min_three max_four min_four
set_option linter.unusedVariables false
set_option linter.unusedSimpArgs false

/-! ### lampblackref03_Bags: function 33 -/
def lampblackref03_Bags.l0 : Nat → List Int → List Int → Int → List Int → Int → Int → Option (List Int)
  | 0, _, _, _, _, _, _ => none
  | k + 1, x0, x5, x6, x9, x10, x11 => if x11 < x10 then (if 0 ≤ x11 then (if x11 < (x9.length : Int) then ((lampblackref03_Border.f k x0 x6).bind fun t282 => (if 0 ≤ (rd x9 x11) then (if x5.length < 17592186044416 then (lampblackref03_Bags.l0 k x0 (x5 ++ [Go.bits .or .i64 t282 (shl .i64 1 (rd x9 x11))]) (Go.bits .or .i64 x6 (shl .i64 1 (rd x9 x11))) x9 x10 (wrap64 (x11 + 1))) else (none)) else (none))) else (none)) else (none)) else (some x5)
def lampblackref03_Bags.f (k : Nat) (l0 : List Int) (l1 : List Int) : Option (List Int) := lampblackref03_Bags.l0 k l0 ([] : List Int) 0 l1 (l1.length : Int) 0
theorem lampblackref03_Bags.mono_l : ∀ k, (∀ y0 y1 y2 y3 y4 y5, LeO (lampblackref03_Bags.l0 k y0 y1 y2 y3 y4 y5) (lampblackref03_Bags.l0 (k + 1) y0 y1 y2 y3 y4 y5))
  | 0 => fun _ _ _ _ _ _ r h => by simp [lampblackref03_Bags.l0] at h
  | k + 1 => by
    have ih0 := lampblackref03_Bags.mono_l k
    · intro y0 y1 y2 y3 y4 y5
      unfold lampblackref03_Bags.l0
      repeat' first
      | (with_reducible exact ih0 _ _ _ _ _ _)
      | (with_reducible exact lampblackref03_Border.mono _ _ _)
      | (with_reducible exact LeO.refl _)
      | (with_reducible exact LeO.none _)
      | (with_reducible refine LeO.ite ?_ ?_)
      | (with_reducible refine LeO.bind ?_ (fun _ => ?_))
      | exact ih0 _ _ _ _ _ _
      | exact lampblackref03_Border.mono _ _ _
      | exact LeO.none _
      | refine LeO.ite ?_ ?_
      | refine LeO.bind ?_ (fun _ => ?_)
theorem lampblackref03_Bags.mono : ∀ a0 a1 k, LeO (lampblackref03_Bags.f k a0 a1) (lampblackref03_Bags.f (k + 1) a0 a1) := by
  intro a0 a1 k
  have ih0 := lampblackref03_Bags.mono_l k
  unfold lampblackref03_Bags.f
  repeat' first
      | (with_reducible exact ih0 _ _ _ _ _ _)
      | (with_reducible exact lampblackref03_Border.mono _ _ _)
      | (with_reducible exact LeO.refl _)
      | (with_reducible exact LeO.none _)
      | (with_reducible refine LeO.ite ?_ ?_)
      | (with_reducible refine LeO.bind ?_ (fun _ => ?_))
      | exact ih0 _ _ _ _ _ _
      | exact lampblackref03_Border.mono _ _ _
      | exact LeO.none _
      | refine LeO.ite ?_ ?_
      | refine LeO.bind ?_ (fun _ => ?_)
def lampblackref03_Bags.T6 : Bool × List (List Nat × List Nat) := (true, [([], []), ([], []), ([], []), ([1, 2], [1, 2]), ([], []), ([4], [4]), ([3, 5], [3, 5]), ([6], [6]), ([0, 7, 3], [0, 7]), ([8, 8, 0, 1, 2, 3, 4, 5, 6, 7, 8], [0, 8])])
def lampblackref03_Bags.B6 : List Nat := [0, 0, 0, 6, 0, 16, 62, 126, 255, 511]
theorem lampblackref03_Bags.tab6 : rtab .any (opsOf Tryd.f33 6) = lampblackref03_Bags.T6 := by kernel_rfl
theorem lampblackref03_Bags.bits6 : waitsOk lampblackref03_Bags.T6.2 lampblackref03_Bags.B6 = true := by kernel_rfl
set_option maxHeartbeats 8000000 in
set_option maxRecDepth 100000 in
theorem lampblackref03_Bags.calls (k : Nat) (A0 : Option Addr) (c0 : Nat) (l0 : List Int) (A1 : Option Addr) (c1 : Nat) (l1 : List Int) (r : List Int) (w : World) (hr0 : Kd.C (Kd.int .i64) w A0 l0.length l0) (hc0 : l0.length ≤ c0) (hr1 : Kd.C (Kd.int .i64) w A1 l1.length l1) (hc1 : l1.length ≤ c1) (h : lampblackref03_Bags.f k l0 l1 = some r) :
    Calls Tryd.prog 33 #[.slice A0 l0.length c0, .slice A1 l1.length c1] w fun e w' => ∃ v0_ : Value, e = .returned (v0_) ∧ Kd.R (Kd.int .i64) 3 w' w.heap.size (fun _ => True) v0_ r ∧ Below w.heap.size w w' := by
  have HR0 := Aside0.mk hr0
  have HC0 := Aside0.mk hc0
  clear hr0 hc0
  have HR1 := Aside0.mk hr1
  have HC1 := Aside0.mk hc1
  clear hr1 hc1
  have HB := Aside0.mk (Below.refl w.heap.size w)
  have H : (lampblackref03_Bags.l0 k l0 ([] : List Int) 0 l1 (l1.length : Int) 0) = some r := h
  clear h
  have H' := Aside0.mk H
  clear H
  go_enter Tryd.func33, Tryd.ntmps33
  go_wp2
  go_loopg [5, 6, 11] k (fun kq v5 v6 v11 w' => ∃ (x5_1 : List Int) (x6_1 : Int) (x11_1 : Int), v6 = .int .i64 x6_1 ∧ v11 = .int .i64 x11_1 ∧ Aside0 (lampblackref03_Bags.l0 kq l0 x5_1 x6_1 l1 (l1.length : Int) x11_1 = some r) ∧ Aside0 (kq ≤ k) ∧ Aside0 (Kd.R (Kd.int .i64) 3 w' w.heap.size (fun _ => True) v5 x5_1) ∧ Aside0 (Below w.heap.size w w'))
  case atStart => exact ⟨(([] : List Int)), (0), (0), (by first | rfl | (simp; done) | (simp [*]; done)), (by first | rfl | (simp; done) | (simp [*]; done)), H', ⟨Nat.le_refl _⟩, ⟨by first | exact Kd.R_nil _ _ _ _ _ | exact Kd.N_nil _ _ _ _ _ | exact Kd.V_nil _ _ _ _ _ | exact Kd.Q_nil _ _ _ _ _ | exact Kd.S_nil _ _ _ _ _⟩, ⟨by repeat (first | (with_reducible first | exact HB.out | apply below_alloc | apply pw_below_drewN | apply below_drew1) | exact HB.out)⟩⟩
  case round =>
    clear H'
    try clear c1
    try clear p2
    obtain ⟨x5_1, x6_1, x11_1, rfl, rfl, HA, HK1, HO_5, HB⟩ := hrel
    cases gk with
    | zero => exact absurd HA.out (by simp [lampblackref03_Bags.l0])
    | succ k1 =>
      have H := HA.out
      clear HA
      simp only [lampblackref03_Bags.l0] at H
      by_cases c3 : x11_1 < (l1.length : Int)
      · rw [if_pos c3] at H
        have c3b0 : decide (x11_1 < (l1.length : Int)) = true := decide_eq_true c3
        clear c3
        by_cases c4 : 0 ≤ x11_1
        · rw [if_pos c4] at H
          have c4b0 : decide (0 ≤ x11_1) = true := decide_eq_true c4
          clear c4
          by_cases c5 : x11_1 < (l1.length : Int)
          · rw [if_pos c5] at H
            have c5b0 : decide (x11_1 < (l1.length : Int)) = true := decide_eq_true c5
            clear c5
            replace H := Option.bind_eq_some_iff.mp H
            obtain ⟨t282, A60, H⟩ := H
            replace H : (if 0 ≤ (rd l1 x11_1) then (if x5_1.length < 17592186044416 then (lampblackref03_Bags.l0 k1 l0 (x5_1 ++ [Go.bits .or .i64 t282 (shl .i64 1 (rd l1 x11_1))]) (Go.bits .or .i64 x6_1 (shl .i64 1 (rd l1 x11_1))) l1 (l1.length : Int) (wrap64 (x11_1 + 1))) else (none)) else (none)) = some r := H
            have A6 := Aside0.mk A60
            clear A60
            by_cases c7 : 0 ≤ (rd l1 x11_1)
            · rw [if_pos c7] at H
              have c7b0 := eq_true c7
              have c7b1 : decide (0 ≤ (rd l1 x11_1)) = true := decide_eq_true c7
              clear c7
              obtain ⟨ji8, hji8⟩ : ∃ j_ : Int, (shl .i64 1 (rd l1 x11_1)) = j_ := ⟨_, rfl⟩
              replace H : (if x5_1.length < 17592186044416 then (lampblackref03_Bags.l0 k1 l0 (x5_1 ++ [Go.bits .or .i64 t282 (ji8)]) (Go.bits .or .i64 x6_1 (ji8)) l1 (l1.length : Int) (wrap64 (x11_1 + 1))) else (none)) = some r := by first | (rw [hji8] at H; exact H) | (simp only [hji8] at H ⊢; exact H)
              (try rw [hji8] at A6)
              have hji8_ : (IntKind.i64.wrap (1 * 2 ^ min (rd l1 x11_1).toNat 64)) = ji8 := hji8
              have hji8z : (rd l1 x11_1) ≤ 64 → (IntKind.i64.wrap (1 * 2 ^ (rd l1 x11_1).toNat)) = ji8 := shl_small hji8
              have hji8u : (IntKind.i64.wrap (2 ^ min (rd l1 x11_1).toNat 64)) = ji8 := by have h_ := hji8_; rw [Int.one_mul] at h_; exact h_
              have hji8v : (rd l1 x11_1) ≤ 64 → (IntKind.i64.wrap (2 ^ (rd l1 x11_1).toNat)) = ji8 := fun hle_ => by have h_ := hji8z hle_; rw [Int.one_mul] at h_; exact h_
              have hji8y : (wrap64 (1 * 2 ^ min (rd l1 x11_1).toNat 64)) = ji8 := (i64_w _).symm.trans hji8_
              have hji8x : (rd l1 x11_1) ≤ 64 → (wrap64 (1 * 2 ^ (rd l1 x11_1).toNat)) = ji8 := fun h_ => (i64_w _).symm.trans (hji8z h_)
              by_cases c9 : x5_1.length < 17592186044416
              · rw [if_pos c9] at H
                have LMc9 := Aside0.mk c9
                clear c9
                obtain ⟨y283, hy283⟩ : ∃ y_ : List Int, y_ = (x5_1 ++ [Go.bits .or .i64 t282 (ji8)]) := ⟨_, rfl⟩
                replace H : (lampblackref03_Bags.l0 k1 l0 y283 (Go.bits .or .i64 x6_1 (ji8)) l1 (l1.length : Int) (wrap64 (x11_1 + 1))) = some r := by first | (rw [hy283]; with_reducible exact H) | (have H2_ := (Option.bind_some _ _).symm.trans H; rw [hy283]; with_reducible exact H2_) | (have H2_ := (Option.bind_some _ _).symm.trans H; with_reducible exact H2_) | with_reducible exact H | (rw [hy283]; exact H) | exact H
                have Ny283 := Aside0.mk hy283
                clear hy283
                have c10b0 := eq_true (of_decide_eq_true (by first | (with_reducible assumption) | assumption) : 0 ≤ (rd l1 x11_1))
                have H' := Aside0.mk H
                clear H
                have p281 : 0 ≤ (x11_1 : Int) := of_decide_eq_true (by first | (with_reducible assumption) | assumption)
                have q281 : x11_1 < (l1.length : Int) := of_decide_eq_true (by first | (with_reducible assumption) | assumption)
                obtain ⟨ad281, e281, hx281_0⟩ := Kd.at_int HR1.out x11_1 p281 q281
                cases e281
                replace hx281_0 := (HB.out.cell (World.block_lt_of_cell? w _ hx281_0)).trans hx281_0
                replace p281 := eq_true p281
                replace q281 := eq_true q281
                try go_wp2
                have n0_ := Aside0.mk (Kd.R_drew HO_5.out)
                have n1_ := Aside0.mk (below_drew1 HB.out)
                clear HO_5
                clear HB
                have HO_5 := n0_
                have HB := n1_
                clear n0_ n1_
                refine start_ (n := 10) (S := fun w' => True) (ds := []) #[false, false, false, false, false, false, false, false, false, false] (by kernel_rfl) rfl rfl trivial (fun hHeld => ?_); refine with_tabW lampblackref03_Bags.tab6 lampblackref03_Bags.bits6 (fun HT_ HW_ => ?_)
                generalize wr.drew = w11 at HO_5 HB hHeld ⊢
                refine pure_ (i := 0) (N := some 15) (v := ?_) (a' := ?_) #[true, false, false, false, false, false, false, false, false, false] rfl rfl (any_of HT_.out (by kernel_rfl)) (fun _ _ _ h => h) (Or.inl ⟨by rfl, ?_⟩) ?_ ?_
                rotate_left
                · intro w'
                  go_simp
                  with_reducible rfl
                rotate_left
                · simp only [Act.put, List.setIfInBounds_toArray, List.set_cons_zero, List.set_cons_succ, i64_w, i32_w]
                  rfl
                refine pure_ (i := 1) (N := some 16) (v := ?_) (a' := ?_) #[true, true, false, false, false, false, false, false, false, false] rfl rfl (any_of HT_.out (by kernel_rfl)) (fun _ _ _ h => h) (Or.inl ⟨by rfl, ?_⟩) ?_ ?_
                rotate_left
                · intro w'
                  go_simp
                  with_reducible rfl
                rotate_left
                · simp only [Act.put, List.setIfInBounds_toArray, List.set_cons_zero, List.set_cons_succ, i64_w, i32_w]
                  rfl
                refine pure_ (i := 2) (N := some 17) (v := ?_) (a' := ?_) #[true, true, true, false, false, false, false, false, false, false] rfl rfl (any_of HT_.out (by kernel_rfl)) (fun _ _ _ h => h) (Or.inl ⟨by rfl, ?_⟩) ?_ ?_
                rotate_left
                · intro w'
                  go_simp
                  with_reducible rfl
                rotate_left
                · simp only [Act.put, List.setIfInBounds_toArray, List.set_cons_zero, List.set_cons_succ, i64_w, i32_w]
                  rfl
                refine pure_ (i := 4) (N := some 19) (v := ?_) (a' := ?_) #[true, true, true, false, true, false, false, false, false, false] rfl rfl (any_of HT_.out (by kernel_rfl)) (fun _ _ _ h => h) (Or.inl ⟨by rfl, ?_⟩) ?_ ?_
                rotate_left
                · intro w'
                  go_simp
                  with_reducible rfl
                rotate_left
                · simp only [Act.put, List.setIfInBounds_toArray, List.set_cons_zero, List.set_cons_succ, i64_w, i32_w]
                  rfl
                refine pure_ (i := 5) (N := some 20) (v := ?_) (a' := ?_) #[true, true, true, false, true, true, false, false, false, false] rfl rfl (any_of HT_.out (by kernel_rfl)) (fun _ _ _ h => h) (Or.inl ⟨by rfl, ?_⟩) ?_ ?_
                rotate_left
                · intro w'
                  go_simp
                  with_reducible rfl
                rotate_left
                · simp only [Act.put, List.setIfInBounds_toArray, List.set_cons_zero, List.set_cons_succ, i64_w, i32_w]
                  rfl
                refine one_ (i := 3) (N := some 18) #[true, true, true, true, true, true, false, false, false, false] rfl rfl (one_of HT_.out (by kernel_rfl)) (by decide) (fun K hK => ?_)
                refine goes_ Tryd.func59 (by kernel_rfl) rfl #[.slice A0 l0.length c0, .int .i64 x6_1] (by rfl) rfl rfl (by (try simp only [List.map_toArray, List.map_cons, List.map_nil]); first | done | rfl | (simp only [List.length_drop, List.length_take]; rfl)) ?_
                with_reducible refine (lampblackref03_Border.calls k1 _ _ l0 x6_1 t282 _ ?side1 ?side2 A6.out).mono ?_
                (case side1 => repeat (first | exact (Kd.C_below HR0.out HB.out) | (with_reducible refine Kd.C_alloc ?_ _) | (with_reducible refine Kd.C_drewN ?_ _) | (with_reducible refine Kd.C_drew ?_)))
                (case side2 => exact HC0.out)
                rintro e w' ⟨rfl, ⟨nd, rfl⟩⟩
                refine ⟨_, rfl, ?_⟩
                refine hK.out _ _ trivial (fun hHeld => ?_)
                clear hK K
                refine norm_ (a' := ?_) ?_ ?_
                rotate_left
                · show Act.put _ (some 18) _ = _
                  simp only [Act.put, List.setIfInBounds_toArray, List.set_cons_zero, List.set_cons_succ, i64_w, i32_w]
                  rfl
                refine pure_ (i := 6) (N := some 21) (v := ?_) (a' := ?_) #[true, true, true, true, true, true, true, false, false, false] rfl rfl (any_of HT_.out (by kernel_rfl)) (fun _ _ _ h => h) (Or.inl ⟨by rfl, ?_⟩) ?_ ?_
                rotate_left
                · intro w'
                  go_simp
                  with_reducible rfl
                rotate_left
                · simp only [Act.put, List.setIfInBounds_toArray, List.set_cons_zero, List.set_cons_succ, i64_w, i32_w]
                  rfl
                refine one_ (i := 7) (N := some 22) #[true, true, true, true, true, true, true, true, false, false] rfl rfl (one_of HT_.out (by kernel_rfl)) (by decide) (fun K hK => ?_)
                refine value_ (w1 := ?_) (v := ?_) (by rfl) rfl ?_ ?_
                rotate_left 2
                · go_simp
                  constructor
                  · rfl
                  · rfl
                refine hK.out _ _ trivial (fun hHeld => ?_)
                clear hK K
                refine norm_ (a' := ?_) ?_ ?_
                rotate_left
                · show Act.put _ (some 22) _ = _
                  simp only [Act.put, List.setIfInBounds_toArray, List.set_cons_zero, List.set_cons_succ, i64_w, i32_w]
                  rfl
                refine one_ (i := 8) (N := some 23) #[true, true, true, true, true, true, true, true, true, false] rfl rfl (one_of HT_.out (by kernel_rfl)) (by decide) (fun K hK => ?_)
                refine Kd.R_append_step (Kd.int .i64) (w0 := w) w.heap.size (by rfl) (.tmp 15) (.tmp 22) 22 3 (.int .i64 0) 8 rfl Tryd.underlying22 info3 rfl (by decide) (by omega) u5 x5_1 (Go.bits .or .i64 t282 (ji8)) [.int .i64 (Go.bits .or .i64 t282 (ji8))] (fun _ => True) (fun _ => False) rfl rfl ?aP (fun _ hk => hk.elim) ?aF ?aO ?aB ?aS ?aL ?_
                (case aP => exact rfl)
                (case aB => exact (by repeat (first | (with_reducible first | exact HB.out | apply below_alloc | apply pw_below_drewN | apply below_drew1) | exact HB.out)))
                (case aF => exact (fun _ _ => trivial))
                (case aO => exact (by (with_reducible repeat (first | apply Kd.R_alloc | apply Kd.R_drewN | apply Kd.R_drew)); exact HO_5.out))
                (case aS => exact (below_size (by repeat (first | (with_reducible first | exact HB.out | apply below_alloc | apply pw_below_drewN | apply below_drew1) | exact HB.out))))
                (case aL => have := LMc9.out; omega)
                intro v284 w12 ho hb hg hat
                rw [← Ny283.out] at ho
                have n0_ := Aside0.mk (hb)
                have n1_ := Aside0.mk (ho)
                clear HB
                clear HO_5
                have HB := n0_
                have HO285 := n1_
                clear n0_ n1_
                clear ho hb hg hat
                refine hK.out _ _ trivial (fun hHeld => ?_)
                clear hK K
                refine norm_ (a' := ?_) ?_ ?_
                rotate_left
                · show Act.put _ (some 23) _ = _
                  simp only [Act.put, List.setIfInBounds_toArray, List.set_cons_zero, List.set_cons_succ, i64_w, i32_w]
                  rfl
                refine pure_ (i := 9) (N := some 5) (v := ?_) (a' := ?_) #[true, true, true, true, true, true, true, true, true, true] rfl rfl (any_of HT_.out (by kernel_rfl)) (fun _ _ _ h => h) (Or.inl ⟨by rfl, ?_⟩) ?_ ?_
                rotate_left
                · intro w'
                  go_simp
                  with_reducible rfl
                rotate_left
                · simp only [Act.put, List.setIfInBounds_toArray, List.set_cons_zero, List.set_cons_succ, i64_w, i32_w]
                  rfl
                refine done_ (done_of HT_.out (by kernel_rfl)) ?_
                try go_wp2
                go_roundg k1
                case measure => have := HK1.out; omega
                case rel => exact ⟨(y283), (Go.bits .or .i64 x6_1 (ji8)), (wrap64 (x11_1 + 1)), (by first | rfl | (simp; done) | (simp only [← hji8] <;> (first | rfl | simp)) | (simp [*]; done)), (by first | rfl | (simp; done) | (simp [*]; done)), H', ⟨by have := HK1.out; omega⟩, ⟨by (with_reducible repeat (first | apply Kd.R_alloc | apply Kd.R_drewN | apply Kd.R_drew)); exact HO285.out⟩, ⟨by repeat (first | (with_reducible first | exact HB.out | apply below_alloc | apply pw_below_drewN | apply below_drew1) | exact HB.out)⟩⟩
              · rw [if_neg c9] at H
                exact absurd H (by simp)
            · rw [if_neg c7] at H
              exact absurd H (by simp)
          · rw [if_neg c5] at H
            exact absurd H (by simp)
        · rw [if_neg c4] at H
          exact absurd H (by simp)
      · rw [if_neg c3] at H
        have c3b0 : decide (x11_1 < (l1.length : Int)) = false := decide_eq_false c3
        clear c3
        obtain rfl := Option.some.inj H
        go_wp2
        go_ret
        exact ⟨_, by first | rfl | (simp [errW_none, errW_some] <;> rfl) | (simp [*, errW_none, errW_some] <;> rfl), by (with_reducible repeat (first | apply Kd.R_alloc | apply Kd.R_drewN | apply Kd.R_drew)); exact HO_5.out, by repeat (first | (with_reducible first | exact HB.out | apply below_alloc | apply pw_below_drewN | apply below_drew1) | exact HB.out)⟩

end Go.Proofs.YtijfddobandcdaaDoor.X
end
section
-- by ownprint.py (wip/tool), over the kit's print
namespace Go.Proofs.YtijfddobandcdaaDoor.X
open Go.RowKit Go.Proofs.YtijfddobandcdaaDoorW.PrintWords Go.Proofs.YtijfddobandcdaaDoorW.PrintLast Go.Proofs.YtijfddobandcdaaDoorW.PrintMore
attribute [local go_sem] max2_int min2_int max_two min_two max_three min_three max_four min_four
set_option linter.unusedVariables false
set_option linter.unusedSimpArgs false

/-! ### slices_Equal_int_int: function 29 -/
def slices_Equal_int_int.l0 : Nat → List Int → List Int → Int → Int → Option (Bool)
  | 0, _, _, _, _ => none
  | k + 1, x0, x1, x12, x13 => if x13 < x12 then (if 0 ≤ x13 then (if x13 < (x0.length : Int) then (if x13 < (x1.length : Int) then (if (rd x0 x13) = (rd x1 x13) then (slices_Equal_int_int.l0 k x0 x1 x12 (wrap64 (x13 + 1))) else (some false)) else (none)) else (none)) else (none)) else (some true)
def slices_Equal_int_int.f (k : Nat) (l0 : List Int) (l1 : List Int) : Option (Bool) := if (l0.length : Int) = (l1.length : Int) then (slices_Equal_int_int.l0 k l0 l1 (l0.length : Int) 0) else (some false)
theorem slices_Equal_int_int.mono_l : ∀ k, (∀ y0 y1 y2 y3, LeO (slices_Equal_int_int.l0 k y0 y1 y2 y3) (slices_Equal_int_int.l0 (k + 1) y0 y1 y2 y3))
  | 0 => fun _ _ _ _ r h => by simp [slices_Equal_int_int.l0] at h
  | k + 1 => by
    have ih0 := slices_Equal_int_int.mono_l k
    · intro y0 y1 y2 y3
      unfold slices_Equal_int_int.l0
      repeat' first
      | (with_reducible exact ih0 _ _ _ _)
      | (with_reducible exact LeO.refl _)
      | (with_reducible exact LeO.none _)
      | (with_reducible refine LeO.ite ?_ ?_)
      | (with_reducible refine LeO.bind ?_ (fun _ => ?_))
      | exact ih0 _ _ _ _
      | exact LeO.none _
      | refine LeO.ite ?_ ?_
      | refine LeO.bind ?_ (fun _ => ?_)
theorem slices_Equal_int_int.mono : ∀ a0 a1 k, LeO (slices_Equal_int_int.f k a0 a1) (slices_Equal_int_int.f (k + 1) a0 a1) := by
  intro a0 a1 k
  have ih0 := slices_Equal_int_int.mono_l k
  unfold slices_Equal_int_int.f
  repeat' first
      | (with_reducible exact ih0 _ _ _ _)
      | (with_reducible exact LeO.refl _)
      | (with_reducible exact LeO.none _)
      | (with_reducible refine LeO.ite ?_ ?_)
      | (with_reducible refine LeO.bind ?_ (fun _ => ?_))
      | exact ih0 _ _ _ _
      | exact LeO.none _
      | refine LeO.ite ?_ ?_
      | refine LeO.bind ?_ (fun _ => ?_)
set_option maxHeartbeats 8000000 in
set_option maxRecDepth 100000 in
theorem slices_Equal_int_int.calls (k : Nat) (A0 : Option Addr) (c0 : Nat) (l0 : List Int) (A1 : Option Addr) (c1 : Nat) (l1 : List Int) (r : Bool) (w : World) (hr0 : Kd.C (Kd.int .i64) w A0 l0.length l0) (hc0 : l0.length ≤ c0) (hr1 : Kd.C (Kd.int .i64) w A1 l1.length l1) (hc1 : l1.length ≤ c1) (h : slices_Equal_int_int.f k l0 l1 = some r) :
    Calls Tryd.prog 29 #[.slice A0 l0.length c0, .slice A1 l1.length c1] w fun e w' => e = .returned (.bool r) ∧ Drawn0 w w' := by
  have HR0 := Aside0.mk hr0
  have HC0 := Aside0.mk hc0
  clear hr0 hc0
  have HR1 := Aside0.mk hr1
  have HC1 := Aside0.mk hc1
  clear hr1 hc1
  have H : (if (l0.length : Int) = (l1.length : Int) then (slices_Equal_int_int.l0 k l0 l1 (l0.length : Int) 0) else (some false)) = some r := h
  clear h
  by_cases c3 : (l0.length : Int) = (l1.length : Int)
  · rw [if_pos c3] at H
    have c3b0 : ((l0.length : Int) == (l1.length : Int)) = true := beq_iff_eq.mpr c3
    have c3b1 : ((l0.length : Int) != (l1.length : Int)) = false := bne_eq_false_iff_eq.mpr c3
    have c3b2 : (l0.length == l1.length) = true := by first | simpa using c3 | (simp at c3 ⊢; omega)
    clear c3
    have H' := Aside0.mk H
    clear H
    go_enter Tryd.func29, Tryd.ntmps29
    go_wp2
    repeat (go_quiet (fail); try go_wp2)
    go_loopg [13] k (fun kq v13 w' => ∃ (x13_1 : Int), v13 = .int .i64 x13_1 ∧ Aside0 (slices_Equal_int_int.l0 kq l0 l1 (l0.length : Int) x13_1 = some r) ∧ Aside0 (kq ≤ k) ∧ Drawn0 w w')
    case atStart => exact ⟨(0), (by first | rfl | (simp; done) | (simp [*]; done)), H', ⟨Nat.le_refl _⟩, by repeat (first | exact Drawn0.refl _ | apply Drawn0.step)⟩
    case round =>
      clear H'
      try clear c1
      try clear c2
      try clear p2
      try clear c3
      try clear c3b0
      try clear c3b1
      try clear c3b2
      obtain ⟨x13_1, rfl, HA, HK1, ⟨m1, rfl⟩⟩ := hrel
      cases gk with
      | zero => exact absurd HA.out (by simp [slices_Equal_int_int.l0])
      | succ k1 =>
        have H := HA.out
        clear HA
        simp only [slices_Equal_int_int.l0] at H
        by_cases c4 : x13_1 < (l0.length : Int)
        · rw [if_pos c4] at H
          have c4b0 : decide (x13_1 < (l0.length : Int)) = true := decide_eq_true c4
          clear c4
          by_cases c5 : 0 ≤ x13_1
          · rw [if_pos c5] at H
            have c5b0 : decide (0 ≤ x13_1) = true := decide_eq_true c5
            clear c5
            by_cases c6 : x13_1 < (l0.length : Int)
            · rw [if_pos c6] at H
              have c6b0 : decide (x13_1 < (l0.length : Int)) = true := decide_eq_true c6
              clear c6
              by_cases c7 : x13_1 < (l1.length : Int)
              · rw [if_pos c7] at H
                have c7b0 : decide (x13_1 < (l1.length : Int)) = true := decide_eq_true c7
                clear c7
                by_cases c8 : (rd l0 x13_1) = (rd l1 x13_1)
                · rw [if_pos c8] at H
                  have c8b0 : ((rd l0 x13_1) == (rd l1 x13_1)) = true := beq_iff_eq.mpr c8
                  have c8b1 : ((rd l0 x13_1) != (rd l1 x13_1)) = false := bne_eq_false_iff_eq.mpr c8
                  clear c8
                  have H' := Aside0.mk H
                  clear H
                  have p244 : 0 ≤ (x13_1 : Int) := of_decide_eq_true (by first | (with_reducible assumption) | assumption)
                  have q244 : x13_1 < (l0.length : Int) := of_decide_eq_true (by first | (with_reducible assumption) | assumption)
                  obtain ⟨ad244, e244, hx244_0⟩ := Kd.at_int HR0.out x13_1 p244 q244
                  cases e244
                  replace p244 := eq_true p244
                  replace q244 := eq_true q244
                  have p245 : 0 ≤ (x13_1 : Int) := of_decide_eq_true (by first | (with_reducible assumption) | assumption)
                  have q245 : x13_1 < (l1.length : Int) := of_decide_eq_true (by first | (with_reducible assumption) | assumption)
                  obtain ⟨ad245, e245, hx245_0⟩ := Kd.at_int HR1.out x13_1 p245 q245
                  cases e245
                  replace p245 := eq_true p245
                  replace q245 := eq_true q245
                  go_wp2
                  repeat (go_quiet (fail); try go_wp2)
                  go_roundg k1
                  case measure => have := HK1.out; omega
                  case rel => exact ⟨(wrap64 (x13_1 + 1)), (by first | rfl | (simp; done) | (simp [*]; done)), H', ⟨by have := HK1.out; omega⟩, by repeat (first | exact Drawn0.refl _ | apply Drawn0.step)⟩
                · rw [if_neg c8] at H
                  have c8b0 : ((rd l0 x13_1) == (rd l1 x13_1)) = false := beq_eq_false_iff_ne.mpr c8
                  have c8b1 : ((rd l0 x13_1) != (rd l1 x13_1)) = true := bne_iff_ne.mpr c8
                  obtain rfl := Option.some.inj H
                  have p244 : 0 ≤ (x13_1 : Int) := of_decide_eq_true (by first | (with_reducible assumption) | assumption)
                  have q244 : x13_1 < (l0.length : Int) := of_decide_eq_true (by first | (with_reducible assumption) | assumption)
                  obtain ⟨ad244, e244, hx244_0⟩ := Kd.at_int HR0.out x13_1 p244 q244
                  cases e244
                  replace p244 := eq_true p244
                  replace q244 := eq_true q244
                  have p245 : 0 ≤ (x13_1 : Int) := of_decide_eq_true (by first | (with_reducible assumption) | assumption)
                  have q245 : x13_1 < (l1.length : Int) := of_decide_eq_true (by first | (with_reducible assumption) | assumption)
                  obtain ⟨ad245, e245, hx245_0⟩ := Kd.at_int HR1.out x13_1 p245 q245
                  cases e245
                  replace p245 := eq_true p245
                  replace q245 := eq_true q245
                  go_wp2
                  repeat (go_quiet (fail); try go_wp2)
                  go_ret
                  exact ⟨by first | rfl | (simp; done) | (simp [*]; done), by repeat (first | exact Drawn0.refl _ | apply Drawn0.step)⟩
              · rw [if_neg c7] at H
                exact absurd H (by simp)
            · rw [if_neg c6] at H
              exact absurd H (by simp)
          · rw [if_neg c5] at H
            exact absurd H (by simp)
        · rw [if_neg c4] at H
          have c4b0 : decide (x13_1 < (l0.length : Int)) = false := decide_eq_false c4
          clear c4
          obtain rfl := Option.some.inj H
          go_wp2
          repeat (go_quiet (fail); try go_wp2)
          go_ret
          exact ⟨by first | rfl | (simp; done) | (simp [*]; done), by repeat (first | exact Drawn0.refl _ | apply Drawn0.step)⟩
  · rw [if_neg c3] at H
    have c3b0 : ((l0.length : Int) == (l1.length : Int)) = false := beq_eq_false_iff_ne.mpr c3
    have c3b1 : ((l0.length : Int) != (l1.length : Int)) = true := bne_iff_ne.mpr c3
    have c3b2 : (l0.length == l1.length) = false := by first | simpa using c3 | (simp at c3 ⊢; omega)
    obtain rfl := Option.some.inj H
    go_enter Tryd.func29, Tryd.ntmps29
    go_wp2
    repeat (go_quiet (fail); try go_wp2)
    go_ret
    exact ⟨by first | rfl | (simp; done) | (simp [*]; done), by repeat (first | exact Drawn0.refl _ | apply Drawn0.step)⟩

end Go.Proofs.YtijfddobandcdaaDoor.X
end
section
/- IsOrder, isLayout, Border, bags, Equal: what they compute. -/
set_option linter.unusedVariables false
namespace Go.Proofs.YtijfddobandcdaaDoor.X
open Go.RowKit Go.Proofs.YtijfddobandcdaaDoorW.PrintWords Go.Proofs.YtijfddobandcdaaDoorW.PrintLast Go.Proofs.YtijfddobandcdaaDoorW.PrintMore Go.Proofs.YtijfddobandcdaaDoor.T

theorem bit_bset (a i : Nat) (ha : a < 2 ^ 62) (hi : i < 62) : Go.bits .and .i64 (shr .i64 (a : Int) (i : Int)) 1 = 1 ↔ bset a i := bit_one a i ha hi
theorem isOrder_l0 (l : List Int) (n : Nat) (hn : n ≤ 9) (hl : l.length < 2 ^ 60) : ∀ (d i : Nat) (P : List Nat), i + d = l.length → l.take i = gi P → P.Nodup → (∀ v ∈ P, v < n) →
    ∃ r, Ev (fun k => lampblackref02_IsOrder.l0 k l (n : Int) ((lset P : Nat) : Int) l (l.length : Int) (i : Int)) r ∧ (r = true ↔ IsOrd n l) := by
  intro d
  induction d with
  | zero =>
    intro i P hi hP h1 h2
    have e : l = gi P := by rw [← hP, List.take_of_length_le (by omega)]
    refine ⟨((l.length : Int) == (n : Int)), Ev.step (f := fun _ => some ((l.length : Int) == (n : Int))) (fun k => by rw [lampblackref02_IsOrder.l0, if_neg (by omega)]) (Ev.some rfl), ?_⟩
    rw [e, IsOrd.of h1 h2, gi_length, beq_iff_eq]
    omega
  | succ d ih =>
    intro i P hi hP h1 h2
    have hil : i < l.length := by omega
    have hP62 : lset P < 2 ^ 62 := Nat.lt_of_lt_of_le (lset_lt h2) (Nat.pow_le_pow_right (by omega) (by omega))
    by_cases h3 : rd l (i : Int) < 0
    · refine ⟨false, Ev.step (f := fun _ => some false) (fun k => by rw [lampblackref02_IsOrder.l0, if_pos (by omega), if_pos (by omega), if_pos (by omega), if_pos h3]) (Ev.some rfl), ?_⟩
      simp only [Bool.false_eq_true, false_iff]
      intro h
      obtain ⟨v, hv, _⟩ := h.get i hil
      omega
    · by_cases h4 : rd l (i : Int) ≥ (n : Int)
      · refine ⟨false, Ev.step (f := fun _ => some false) (fun k => by rw [lampblackref02_IsOrder.l0, if_pos (by omega), if_pos (by omega), if_pos (by omega), if_neg h3, if_pos h4]) (Ev.some rfl), ?_⟩
        simp only [Bool.false_eq_true, false_iff]
        intro h
        obtain ⟨v, hv, hv2⟩ := h.get i hil
        omega
      · obtain ⟨v, hv⟩ : ∃ v : Nat, rd l (i : Int) = (v : Int) := ⟨(rd l (i : Int)).toNat, by omega⟩
        have hvn : v < n := by omega
        by_cases h5 : v ∈ P
        · refine ⟨false, Ev.step (f := fun _ => some false) (fun k => ?_) (Ev.some rfl), ?_⟩
          · rw [lampblackref02_IsOrder.l0, if_pos (by omega), if_pos (by omega), if_pos (by omega), if_neg h3, if_neg h4, if_pos (by omega), hv, if_pos ((bit_bset _ _ hP62 (by omega)).2 ((lset_bit P v).2 h5))]
          · simp only [Bool.false_eq_true, false_iff]
            intro h
            exact h.fresh hil hP hv h5
        · have hb : ¬ Go.bits .and .i64 (shr .i64 ((lset P : Nat) : Int) (v : Int)) 1 = 1 := fun h => h5 ((lset_bit P v).1 ((bit_bset _ _ hP62 (by omega)).1 h))
          obtain ⟨r, h6, h7⟩ := ih (i + 1) (P ++ [v]) (by omega) (take_snoc hP hil v hv) (List.nodup_append.2 ⟨h1, by simp, by simp; intro a ha; exact fun e => h5 (e ▸ ha)⟩) (by
            intro x hx
            rcases List.mem_append.1 hx with h | h
            · exact h2 x h
            · rw [List.mem_singleton.1 h]; exact hvn)
          refine ⟨r, Ev.step (fun k => ?_) h6, h7⟩
          have e2 : 2 ^ v < 2 ^ 62 := Nat.pow_lt_pow_right (by omega) (by omega)
          rw [lampblackref02_IsOrder.l0, if_pos (by omega), if_pos (by omega), if_pos (by omega), if_neg h3, if_neg h4, if_pos (by omega), hv, if_neg hb, s_one v (by omega), b_or _ _ hP62 e2, wrap_succ i (by omega), lset_snoc]
theorem isOrder_ev (l : List Int) (n : Nat) (hn : n ≤ 9) (hl : l.length < 2 ^ 60) : ∃ r, Ev (fun k => lampblackref02_IsOrder.f k l (n : Int)) r ∧ (r = true ↔ IsOrd n l) :=
  isOrder_l0 l n hn hl l.length 0 [] (by omega) (by simp [gi]) List.nodup_nil (by simp)
theorem isLayout_l0 (G : List Nat) (hG : Gr 7 G) (l : List Int) (hl : l.length < 2 ^ 60) : ∀ (d i : Nat) (P : List Nat), i + d = l.length → l.take i = gi P → (∀ v ∈ P, v < G.length) →
    ∃ r, Ev (fun k => sweep_town_isLayout.l0 k (gi G) l ((lset P : Nat) : Int) l (l.length : Int) (i : Int)) r ∧ (r = true ↔ IsOrd G.length l) := by
  have hn := hG.most
  intro d
  induction d with
  | zero =>
    intro i P hi hP h2
    have e : l = gi P := by rw [← hP, List.take_of_length_le (by omega)]
    have hall : sweep_town_all.f (gi G) = some ((2 ^ G.length - 1 : Nat) : Int) := by
      unfold sweep_town_all.f
      have h1 : 2 ^ G.length ≤ 2 ^ 9 := Nat.pow_le_pow_right (by omega) (by omega)
      have h2 := Nat.two_pow_pos G.length
      rw [gi_length, s_one _ (by omega), w64_small _ (by omega) (by omega)]
      congr 1
      omega
    by_cases hlen : l.length = G.length
    · refine ⟨(((lset P : Nat) : Int) == ((2 ^ G.length - 1 : Nat) : Int)), Ev.step (fun k => by rw [sweep_town_isLayout.l0, if_neg (by omega), if_pos (by rw [gi_length]; omega)]) (Ev.bind1 hall (Ev.some rfl)), ?_⟩
      have hPl : P.length = G.length := by rw [e, gi_length] at hlen; exact hlen
      constructor
      · intro h
        have h3 : lset P = 2 ^ G.length - 1 := Int.ofNat.inj (beq_iff_eq.1 h)
        have h4 := nodup_of_covers (P := P) (n := G.length) (by omega) fun j hj => by rw [← lset_bit, h3, full_bit]; exact hj
        exact e ▸ (IsOrd.of h4 h2).2 hPl
      · intro h
        rw [e] at h
        obtain ⟨Q, e2, h3, h4, h5⟩ := h
        obtain rfl := gi_inj e2
        have h6 : lset P = 2 ^ G.length - 1 := eq_of_bits fun j => by
          show bset _ _ ↔ bset _ _
          rw [lset_bit, full_bit]
          exact ⟨fun h => h4 j h, covers_of_nodup h5 h3 h4 j⟩
        simp [h6]
    · refine ⟨false, Ev.step (f := fun _ => some false) (fun k => by rw [sweep_town_isLayout.l0, if_neg (by omega), if_neg (by rw [gi_length]; omega)]) (Ev.some rfl), ?_⟩
      simp only [Bool.false_eq_true, false_iff]
      rintro ⟨Q, e2, _, _, h5⟩
      rw [e2, gi_length] at hlen
      exact hlen h5
  | succ d ih =>
    intro i P hi hP h2
    have hil : i < l.length := by omega
    have hP62 : lset P < 2 ^ 62 := Nat.lt_of_lt_of_le (lset_lt h2) (Nat.pow_le_pow_right (by omega) (by omega))
    by_cases h3 : rd l (i : Int) < 0
    · refine ⟨false, Ev.step (f := fun _ => some false) (fun k => by rw [sweep_town_isLayout.l0, if_pos (by omega), if_pos (by omega), if_pos (by omega), if_pos h3]) (Ev.some rfl), ?_⟩
      simp only [Bool.false_eq_true, false_iff]
      intro h
      obtain ⟨v, hv, _⟩ := h.get i hil
      omega
    · by_cases h4 : rd l (i : Int) ≥ (G.length : Int)
      · refine ⟨false, Ev.step (f := fun _ => some false) (fun k => by rw [sweep_town_isLayout.l0, if_pos (by omega), if_pos (by omega), if_pos (by omega), if_neg h3, if_pos (by rw [gi_length]; exact h4)]) (Ev.some rfl), ?_⟩
        simp only [Bool.false_eq_true, false_iff]
        intro h
        obtain ⟨v, hv, hv2⟩ := h.get i hil
        omega
      · obtain ⟨v, hv⟩ : ∃ v : Nat, rd l (i : Int) = (v : Int) := ⟨(rd l (i : Int)).toNat, by omega⟩
        have hvn : v < G.length := by omega
        obtain ⟨r, h6, h7⟩ := ih (i + 1) (P ++ [v]) (by omega) (take_snoc hP hil v hv) (by
          intro x hx
          rcases List.mem_append.1 hx with h | h
          · exact h2 x h
          · rw [List.mem_singleton.1 h]; exact hvn)
        refine ⟨r, Ev.step (fun k => ?_) h6, h7⟩
        have e2 : 2 ^ v < 2 ^ 62 := Nat.pow_lt_pow_right (by omega) (by omega)
        rw [sweep_town_isLayout.l0, if_pos (by omega), if_pos (by omega), if_pos (by omega), if_neg h3, if_neg (by rw [gi_length]; exact h4), if_pos (by omega), hv, s_one v (by omega), b_or _ _ hP62 e2, wrap_succ i (by omega), lset_snoc]
theorem isLayout_ev (G : List Nat) (hG : Gr 7 G) (l : List Int) (hl : l.length < 2 ^ 60) : ∃ r, Ev (fun k => sweep_town_isLayout.f k (gi G) l) r ∧ (r = true ↔ IsOrd G.length l) :=
  isLayout_l0 G hG l hl l.length 0 [] (by omega) (by simp [gi]) (by simp)
/-- list hands on a beginning of at least 140. -/
theorem list_eq (l : List Int) (hl : l.length < 2 ^ 44) : ∃ m, lampblacklaw03_list.f l = some m ∧ (l.length ≤ 140 → m = l) ∧ (140 < l.length → m.length = 140) ∧ m.length ≤ 140 := by
  have hm : mn (l.length : Int) 140 = ((min l.length 140 : Nat) : Int) := mn_nat l.length 140
  refine ⟨l.take (min l.length 140), ?_, fun h => List.take_of_length_le (by omega), fun h => by rw [List.length_take]; omega, by rw [List.length_take]; omega⟩
  unfold lampblacklaw03_list.f slices_Clone_int_int.f
  simp only [hm, Int.toNat_natCast]
  rw [if_pos (by omega), if_pos (by omega)]
  simp only [Option.bind_some, List.length_nil, List.nil_append]
  rw [if_pos (by rw [List.length_take]; omega)]
  rfl
theorem list_ord {l m : List Int} {n : Nat} (hn : n ≤ 9) (h1 : l.length ≤ 140 → m = l) (h2 : 140 < l.length → m.length = 140) : IsOrd n m ↔ IsOrd n l := by
  by_cases h : l.length ≤ 140
  · rw [h1 h]
  · have := h2 (by omega)
    exact ⟨fun h' => by have := h'.length; omega, fun h' => by have := h'.length; omega⟩

theorem refBorder_l0 (G : List Nat) (hG : Gr 7 G) (S : Nat) (hS : S < 2 ^ G.length) : ∀ (d i o : Nat), i + d = G.length → o < 2 ^ G.length → (∀ j, bset o j ↔ j < i ∧ bset (bor G S) j) →
    Ev (fun k => lampblackref03_Border.l0 k (gi G) (S : Int) (o : Int) (G.length : Int) (i : Int)) ((bor G S : Nat) : Int) := by
  have hn := hG.most
  intro d
  induction d with
  | zero =>
    intro i o hi ho h
    have e : o = bor G S := eq_of_bits fun j => by
      show bset _ _ ↔ bset _ _
      rw [h]
      exact ⟨fun h => h.2, fun h => ⟨by have := bit_lt (bor_lt G S) h; omega, h⟩⟩
    subst e
    exact Ev.step (f := fun _ => some ((bor G S : Nat) : Int)) (fun k => by rw [lampblackref03_Border.l0, if_neg (by omega)]) (Ev.some rfl)
  | succ d ih =>
    intro i o hi ho h
    have hi' : i < G.length := by omega
    have hS62 := big (small G (by omega) hS)
    have hr62 := big (small G (by omega) (hG.row i))
    have ho62 := big (small G (by omega) ho)
    have e2 : 2 ^ i < 2 ^ G.length := Nat.pow_lt_pow_right (by omega) hi'
    have e62 := big (small G (by omega) e2)
    have hE2 := Aside0.mk e2
    clear e2
    have step : ∀ o2 : Nat, o2 < 2 ^ G.length → (∀ j, bset o2 j ↔ bset o j ∨ (j = i ∧ bset (bor G S) i)) → Ev (fun k => lampblackref03_Border.l0 k (gi G) (S : Int) (o2 : Int) (G.length : Int) ((i + 1 : Nat) : Int)) ((bor G S : Nat) : Int) := fun o2 h1 h2 => by
      refine ih (i + 1) o2 (by omega) h1 fun j => ?_
      rw [h2, h]
      constructor
      · rintro (h | ⟨rfl, h⟩)
        · exact ⟨by omega, h.2⟩
        · exact ⟨by omega, h⟩
      · rintro ⟨h3, h4⟩
        by_cases e : j = i
        · subst e; exact .inr ⟨rfl, h4⟩
        · exact .inl ⟨by omega, h4⟩
    have hwi := wrap_succ i (by omega)
    by_cases hb : bset S i
    · by_cases hd : diff (G.getD i 0) S = 0
      · refine Ev.step (fun k => ?_) (step o ho fun j => ⟨.inl, fun h => h.elim id fun h => ?_⟩)
        · rw [lampblackref03_Border.l0, if_pos (by omega), if_pos (by omega), if_pos ((bit_bset _ _ hS62 (by omega)).2 hb), if_pos (by rw [gi_length]; omega), rd_gi, b_andNot _ _ hr62 hS62, hd, if_pos (show ((0 : Nat) : Int) = 0 from rfl), hwi]
        · obtain ⟨_, u, hu, hu'⟩ := (bor_bit hG S i).1 h.2
          exact (diff_ne.2 ⟨u, hu, hu'⟩ hd).elim
      · refine Ev.step (fun k => ?_) (step (o ||| 2 ^ i) (or_lt ho hE2.out) fun j => ?_)
        · rw [lampblackref03_Border.l0, if_pos (by omega), if_pos (by omega), if_pos ((bit_bset _ _ hS62 (by omega)).2 hb), if_pos (by rw [gi_length]; omega), rd_gi, b_andNot _ _ hr62 hS62, if_neg (by omega), s_one i (by omega), b_or _ _ ho62 e62, hwi]
        · rw [or_bset, two_pow_bit]
          refine ⟨fun h => h.imp id fun h => ⟨h, ?_⟩, fun h => h.imp id fun h => h.1⟩
          obtain ⟨u, hu⟩ := diff_ne.1 hd
          exact (bor_bit hG S i).2 ⟨hb, u, hu⟩
    · refine Ev.step (fun k => ?_) (step o ho fun j => ⟨.inl, fun h => h.elim id fun h => (hb ((bor_bit hG S i).1 h.2).1).elim⟩)
      rw [lampblackref03_Border.l0, if_pos (by omega), if_pos (by omega), if_neg (fun h => hb ((bit_bset _ _ hS62 (by omega)).1 h)), hwi]
theorem refBorder_ev (G : List Nat) (hG : Gr 7 G) (S : Nat) (hS : S < 2 ^ G.length) : Ev (fun k => lampblackref03_Border.f k (gi G) (S : Int)) ((bor G S : Nat) : Int) := by
  unfold lampblackref03_Border.f
  rw [gi_length]
  exact refBorder_l0 G hG S hS G.length 0 0 (by omega) (Nat.two_pow_pos _) fun j => ⟨fun h => by unfold bset at h; simp at h, fun h => by omega⟩

/-- The bags of a layout that goes on behind S. -/
noncomputable def bagsOf (G : List Nat) : Nat → List Nat → List Nat
  | _, [] => []
  | S, v :: P => (bor G S ||| 2 ^ v) :: bagsOf G (S ||| 2 ^ v) P
theorem bagsOf_length (G : List Nat) : ∀ (P : List Nat) (S : Nat), (bagsOf G S P).length = P.length
  | [], _ => rfl
  | v :: P, S => by simp [bagsOf, bagsOf_length G P]
theorem refBags_l0 (G : List Nat) (hG : Gr 7 G) (P : List Nat) (hP : ∀ v ∈ P, v < G.length) (hl : P.length < 2 ^ 40) : ∀ (d i S : Nat) (out : List Nat), i + d = P.length → S < 2 ^ G.length → out.length = i →
    Ev (fun k => lampblackref03_Bags.l0 k (gi G) (gi out) (S : Int) (gi P) (P.length : Int) (i : Int)) (gi (out ++ bagsOf G S (P.drop i))) := by
  have hn := hG.most
  intro d
  induction d with
  | zero =>
    intro i S out hi hS ho
    refine Ev.step (f := fun _ => some (gi out)) (fun k => by rw [lampblackref03_Bags.l0, if_neg (by omega)]) (Ev.some ?_)
    rw [List.drop_eq_nil_of_le (by omega)]
    simp [bagsOf]
  | succ d ih =>
    intro i S out hi hS ho
    have hi' : i < P.length := by omega
    have hm := hP _ (List.getElem_mem hi')
    have hr : rd (gi P) (i : Int) = ((P[i] : Nat) : Int) := by rw [rd_gi, List.getD_eq_getElem?_getD, List.getElem?_eq_getElem hi']; rfl
    have hS62 := big (small G (by omega) hS)
    have hb62 := big (small G (by omega) (bor_lt G S))
    have e2 : 2 ^ P[i] < 2 ^ G.length := Nat.pow_lt_pow_right (by omega) hm
    have e62 := big (small G (by omega) e2)
    have hS2 := or_lt hS e2
    clear e2
    have h := ih (i + 1) (S ||| 2 ^ P[i]) (out ++ [bor G S ||| 2 ^ P[i]]) (by omega) hS2 (by simp; omega)
    refine Ev.step (f := fun k => (lampblackref03_Border.f k (gi G) (S : Int)).bind fun t259 => if 0 ≤ ((P[i] : Nat) : Int) then (if (gi out).length < 17592186044416 then lampblackref03_Bags.l0 k (gi G) (gi out ++ [Go.bits .or .i64 t259 (shl .i64 1 ((P[i] : Nat) : Int))]) (Go.bits .or .i64 (S : Int) (shl .i64 1 ((P[i] : Nat) : Int))) (gi P) (P.length : Int) (wrap64 ((i : Int) + 1)) else none) else none) (fun k => ?_) ?_
    · rw [lampblackref03_Bags.l0, if_pos (by omega), if_pos (by omega), if_pos (by rw [gi_length]; omega), hr]
    · refine Ev.bind (refBorder_ev G hG S hS) (Ev.if_pos (by omega) (Ev.if_pos (by rw [gi_length]; omega) ?_))
      rw [s_one _ (by omega), b_or _ _ hb62 e62, b_or _ _ hS62 e62, wrap_succ i (by omega), gi_snoc]
      rw [List.drop_eq_getElem_cons hi', bagsOf]
      simpa using h
theorem bags_l0 (G : List Nat) (hG : Gr 7 G) (P : List Nat) (hP : ∀ v ∈ P, v < G.length) (hl : P.length < 2 ^ 40) : ∀ (d i S : Nat) (out : List Nat), i + d = P.length → S < 2 ^ G.length → out.length = i →
    Ev (fun k => sweep_town_bags.l0 k (gi G) (gi out) (S : Int) (gi P) (P.length : Int) (i : Int)) (gi (out ++ bagsOf G S (P.drop i))) := by
  have hn := hG.most
  intro d
  induction d with
  | zero =>
    intro i S out hi hS ho
    refine Ev.step (f := fun _ => some (gi out)) (fun k => by rw [sweep_town_bags.l0, if_neg (by omega)]) (Ev.some ?_)
    rw [List.drop_eq_nil_of_le (by omega)]
    simp [bagsOf]
  | succ d ih =>
    intro i S out hi hS ho
    have hi' : i < P.length := by omega
    have hm := hP _ (List.getElem_mem hi')
    have hr : rd (gi P) (i : Int) = ((P[i] : Nat) : Int) := by rw [rd_gi, List.getD_eq_getElem?_getD, List.getElem?_eq_getElem hi']; rfl
    have hS62 := big (small G (by omega) hS)
    have hb62 := big (small G (by omega) (bor_lt G S))
    have e2 : 2 ^ P[i] < 2 ^ G.length := Nat.pow_lt_pow_right (by omega) hm
    have e62 := big (small G (by omega) e2)
    have hS2 := or_lt hS e2
    clear e2
    have h := ih (i + 1) (S ||| 2 ^ P[i]) (out ++ [bor G S ||| 2 ^ P[i]]) (by omega) hS2 (by simp; omega)
    refine Ev.step (f := fun k => (sweep_town_border.f (gi G) (S : Int)).bind fun t259 => if 0 ≤ ((P[i] : Nat) : Int) then (if (gi out).length < 17592186044416 then sweep_town_bags.l0 k (gi G) (gi out ++ [Go.bits .or .i64 t259 (shl .i64 1 ((P[i] : Nat) : Int))]) (Go.bits .or .i64 (S : Int) (shl .i64 1 ((P[i] : Nat) : Int))) (gi P) (P.length : Int) (wrap64 ((i : Int) + 1)) else none) else none) (fun k => ?_) ?_
    · rw [sweep_town_bags.l0, if_pos (by omega), if_pos (by omega), if_pos (by rw [gi_length]; omega), hr]
    · refine Ev.bind1 (border_eq G hG S hS) (Ev.if_pos (by omega) (Ev.if_pos (by rw [gi_length]; omega) ?_))
      rw [s_one _ (by omega), b_or _ _ hb62 e62, b_or _ _ hS62 e62, wrap_succ i (by omega), gi_snoc]
      rw [List.drop_eq_getElem_cons hi', bagsOf]
      simpa using h
theorem bags_ev (G : List Nat) (hG : Gr 7 G) (P : List Nat) (hP : ∀ v ∈ P, v < G.length) (hl : P.length < 2 ^ 40) : Ev (fun k => sweep_town_bags.f k (gi G) (gi P)) (gi (bagsOf G 0 P)) := by
  unfold sweep_town_bags.f
  rw [gi_length]
  exact bags_l0 G hG P hP hl P.length 0 0 [] (by omega) (Nat.two_pow_pos _) rfl
theorem refBags_ev (G : List Nat) (hG : Gr 7 G) (P : List Nat) (hP : ∀ v ∈ P, v < G.length) (hl : P.length < 2 ^ 40) : Ev (fun k => lampblackref03_Bags.f k (gi G) (gi P)) (gi (bagsOf G 0 P)) := by
  unfold lampblackref03_Bags.f
  rw [gi_length]
  exact refBags_l0 G hG P hP hl P.length 0 0 [] (by omega) (Nat.two_pow_pos _) rfl

theorem equal_l0 (a b : List Int) (hl : a.length = b.length) (h40 : a.length < 2 ^ 40) : ∀ d i, i + d = a.length → Ev (fun k => slices_Equal_int_int.l0 k a b (a.length : Int) (i : Int)) (decide (a.drop i = b.drop i)) := by
  intro d
  induction d with
  | zero =>
    intro i hi
    refine Ev.step (f := fun _ => some true) (fun k => by rw [slices_Equal_int_int.l0, if_neg (by omega)]) (Ev.some ?_)
    rw [List.drop_eq_nil_of_le (by omega), List.drop_eq_nil_of_le (by omega)]
    rfl
  | succ d ih =>
    intro i hi
    have h1 : i < a.length := by omega
    have h2 : i < b.length := by omega
    have r1 : rd a (i : Int) = a[i] := by unfold rd; rw [Int.toNat_natCast, List.getD_eq_getElem?_getD, List.getElem?_eq_getElem h1]; rfl
    have r2 : rd b (i : Int) = b[i] := by unfold rd; rw [Int.toNat_natCast, List.getD_eq_getElem?_getD, List.getElem?_eq_getElem h2]; rfl
    rw [List.drop_eq_getElem_cons h1, List.drop_eq_getElem_cons h2]
    by_cases e : a[i] = b[i]
    · refine Ev.step (f := fun k => slices_Equal_int_int.l0 k a b (a.length : Int) ((i + 1 : Nat) : Int)) (fun k => ?_) ?_
      · rw [slices_Equal_int_int.l0, if_pos (by omega), if_pos (by omega), if_pos (by omega), if_pos (by omega), r1, r2, if_pos e, wrap_succ i (by omega)]
      · rw [show (decide (a[i] :: a.drop (i + 1) = b[i] :: b.drop (i + 1))) = decide (a.drop (i + 1) = b.drop (i + 1)) from decide_eq_decide.2 ⟨fun h => (List.cons.inj h).2, fun h => by rw [e, h]⟩]
        exact ih (i + 1) (by omega)
    · refine Ev.step (f := fun _ => some false) (fun k => ?_) (Ev.some (decide_eq_false fun h => e (List.cons.inj h).1).symm)
      rw [slices_Equal_int_int.l0, if_pos (by omega), if_pos (by omega), if_pos (by omega), if_pos (by omega), r1, r2, if_neg e]
theorem equal_ev (a b : List Int) (h40 : a.length < 2 ^ 40) : Ev (fun k => slices_Equal_int_int.f k a b) (decide (a = b)) := by
  unfold slices_Equal_int_int.f
  by_cases hl : a.length = b.length
  · refine Ev.if_pos (by omega) ?_
    have := equal_l0 a b hl h40 a.length 0 (by omega)
    simpa using this
  · exact Ev.if_neg (by omega) (Ev.some (by symm; rw [decide_eq_false_iff_not]; exact fun e => hl (by rw [e])))
theorem equal_same (a : List Int) (h40 : a.length < 2 ^ 40) : Ev (fun k => slices_Equal_int_int.f k a a) true := by
  have := equal_ev a a h40
  simpa using this
end Go.Proofs.YtijfddobandcdaaDoor.X
end
section
/- The reference's IsPath and Follow, and the program's follow: what they compute. -/
set_option linter.unusedVariables false
namespace Go.Proofs.YtijfddobandcdaaDoor.X
open Go.RowKit Go.Proofs.YtijfddobandcdaaDoorW.PrintWords Go.Proofs.YtijfddobandcdaaDoorW.PrintLast Go.Proofs.YtijfddobandcdaaDoorW.PrintMore Go.Proofs.YtijfddobandcdaaDoor.T

theorem size_all : ∀ x : Fin 512, lampblackref02_Size.f 12 (x.val : Int) = some (pc x.val 9 : Int) := by decide +kernel
theorem size_ev (x : Nat) (hx : x < 512) : Ev (fun k => lampblackref02_Size.f k (x : Int)) (pc x 9 : Int) := Ev.of (lampblackref02_Size.mono _) (size_all ⟨x, hx⟩)
theorem els_rest : ∀ z : Fin 512, z.val ≠ 0 → els z.val 9 = Lib.ctz 64 z.val :: els (rest z.val) 9 := by decide +kernel
theorem folTo_eq (b : Bool) : ∀ (k z : Nat) (xs : List S85), pc z 9 < k → z < 512 → folTo b k z xs = some (xs ++ (els z 9).map fun (v : Nat) => (⟨b, (v : Int)⟩ : S85))
  | 0, _, _, h, _ => by omega
  | k + 1, z, xs, h, hz => by
    simp only [folTo]
    by_cases h0 : z = 0
    · subst h0
      rw [if_pos rfl, show els 0 9 = [] from by decide]
      simp
    · have hr : rest z < 512 := by
        have := rest_lt' (n := 9) hz h0 (by omega)
        omega
      rw [if_neg h0, folTo_eq b k (rest z) _ (by have := rest_pc hz h0; omega) hr, els_rest ⟨z, hz⟩ h0]
      simp
/-- The plan of bags, as acts. -/
def planOf : List Nat → Nat → List S85 → List S85
  | [], _, out => out
  | b :: B, now, out => planOf B b ((out ++ (els (diff now b) 9).map fun (v : Nat) => (⟨false, (v : Int)⟩ : S85)) ++ (els (diff b now) 9).map fun (v : Nat) => (⟨true, (v : Int)⟩ : S85))
theorem folAll_eq : ∀ (B : List Nat) (now : Nat) (out : List S85), (∀ b ∈ B, b < 512) → now < 512 → out.length + 18 * B.length ≤ 50000 → folAll (gi B) now out = some (planOf B now out)
  | [], now, out, _, _, _ => rfl
  | b :: B, now, out, hB, hn, hl => by
    have hb := hB b List.mem_cons_self
    have h1 := pc_le (diff now b) 9
    have h2 := pc_le (diff b now) 9
    have e1 := els_length (diff now b) 9
    have e2 := els_length (diff b now) 9
    simp only [List.length_cons] at hl
    show folAll ((b : Int) :: gi B) now out = _
    simp only [folAll, planOf]
    rw [if_pos ⟨by omega, by omega⟩, Int.toNat_natCast, folTo_eq false 64 _ _ (by omega) (Nat.lt_of_le_of_lt (diff_le _ _) hn), Option.bind_some, folTo_eq true 64 _ _ (by omega) (Nat.lt_of_le_of_lt (diff_le _ _) hb), Option.bind_some]
    rw [if_pos (by simp; omega)]
    exact folAll_eq B b _ (fun x hx => hB x (List.mem_cons_of_mem _ hx)) hb (by simp; omega)
theorem follow_eq (B : List Nat) (hB : ∀ b ∈ B, b < 512) (hl : B.length ≤ 30) : sweep_follow.f (gi B) = some (planOf (B ++ [0]) 0 []) := by
  unfold sweep_follow.f
  rw [if_pos (by rw [gi_length]; omega), show gi B ++ [0] = gi (B ++ [0]) from gi_snoc B 0]
  exact folAll_eq (B ++ [0]) 0 [] (by
    intro b hb
    rcases List.mem_append.1 hb with h | h
    · exact hB b h
    · rw [List.mem_singleton.1 h]; omega) (by omega) (by simp; omega)

def conv (p : S85) : S70 := ⟨p.f0, p.f1⟩
def elsF (z j d : Nat) : List Nat := (List.range' j d).filter fun v => z.testBit v
theorem elsF_succ (z j d : Nat) : elsF z j (d + 1) = (if z.testBit j = true then [j] else []) ++ elsF z (j + 1) d := by
  unfold elsF
  rw [List.range'_succ, List.filter_cons]
  split <;> simp
theorem els_all : ∀ (n : Fin 10) (z : Fin 512), z.val < 2 ^ n.val → elsF z.val 0 n.val = els z.val 9 := by decide +kernel
theorem elsF_eq {n z : Nat} (hn : n ≤ 9) (hz : z < 2 ^ n) : elsF z 0 n = els z 9 :=
  els_all ⟨n, by omega⟩ ⟨z, Nat.lt_of_lt_of_le hz (show 2 ^ n ≤ 2 ^ 9 from Nat.pow_le_pow_right (by omega) hn)⟩ hz
theorem refFollow_l2 (G : List Nat) (hG : Gr 7 G) (B : List Nat) (now b i : Nat) (hn62 : now < 2 ^ 62) (hb62 : b < 2 ^ 62) (R : List S70) : ∀ (d j : Nat) (X : List S70), j + d = G.length → X.length + d ≤ 2 ^ 40 →
    Ev (fun k => lampblackref03_Follow.l0 k (gi G) (X ++ (elsF (diff b now) j d).map fun (v : Nat) => (⟨true, (v : Int)⟩ : S70)) (b : Int) (gi B) (B.length : Int) (wrap64 ((i : Int) + 1))) R →
    Ev (fun k => lampblackref03_Follow.l2 k (gi G) X (now : Int) (b : Int) (gi B) (B.length : Int) (i : Int) (G.length : Int) (j : Int)) R := by
  have hn := hG.most
  intro d
  induction d with
  | zero =>
    intro j X hj hX h
    refine Ev.step (fun k => by rw [lampblackref03_Follow.l2, if_neg (by omega)]) ?_
    simpa [elsF] using h
  | succ d ih =>
    intro j X hj hX h
    have hd62 : diff b now < 2 ^ 62 := Nat.lt_of_le_of_lt (diff_le _ _) hb62
    rw [elsF_succ] at h
    by_cases hb : (diff b now).testBit j = true
    · rw [if_pos hb] at h
      refine Ev.step (fun k => by rw [lampblackref03_Follow.l2, if_pos (by omega), if_pos (by omega), b_andNot _ _ hb62 hn62, if_pos ((bit_one _ j hd62 (by omega)).2 hb), if_pos (by omega), wrap_succ j (by omega)]) (ih (j + 1) _ (by omega) (by simp; omega) ?_)
      simpa using h
    · rw [if_neg hb] at h
      refine Ev.step (fun k => by rw [lampblackref03_Follow.l2, if_pos (by omega), if_pos (by omega), b_andNot _ _ hb62 hn62, if_neg (fun h => hb ((bit_one _ j hd62 (by omega)).1 h)), wrap_succ j (by omega)]) (ih (j + 1) _ (by omega) (by omega) ?_)
      simpa using h
theorem refFollow_l1 (G : List Nat) (hG : Gr 7 G) (B : List Nat) (now b i : Nat) (hn62 : now < 2 ^ 62) (hb62 : b < 2 ^ 62) (R : List S70) : ∀ (d j : Nat) (X : List S70), j + d = G.length → X.length + d ≤ 2 ^ 40 →
    Ev (fun k => lampblackref03_Follow.l2 k (gi G) (X ++ (elsF (diff now b) j d).map fun (v : Nat) => (⟨false, (v : Int)⟩ : S70)) (now : Int) (b : Int) (gi B) (B.length : Int) (i : Int) ((gi G).length : Int) 0) R →
    Ev (fun k => lampblackref03_Follow.l1 k (gi G) X (now : Int) (b : Int) (gi B) (B.length : Int) (i : Int) (G.length : Int) (j : Int)) R := by
  have hn := hG.most
  intro d
  induction d with
  | zero =>
    intro j X hj hX h
    refine Ev.step (fun k => by rw [lampblackref03_Follow.l1, if_neg (by omega)]) ?_
    simpa [elsF] using h
  | succ d ih =>
    intro j X hj hX h
    have hd62 : diff now b < 2 ^ 62 := Nat.lt_of_le_of_lt (diff_le _ _) hn62
    rw [elsF_succ] at h
    by_cases hb : (diff now b).testBit j = true
    · rw [if_pos hb] at h
      refine Ev.step (fun k => by rw [lampblackref03_Follow.l1, if_pos (by omega), if_pos (by omega), b_andNot _ _ hn62 hb62, if_pos ((bit_one _ j hd62 (by omega)).2 hb), if_pos (by omega), wrap_succ j (by omega)]) (ih (j + 1) _ (by omega) (by simp; omega) ?_)
      simpa using h
    · rw [if_neg hb] at h
      refine Ev.step (fun k => by rw [lampblackref03_Follow.l1, if_pos (by omega), if_pos (by omega), b_andNot _ _ hn62 hb62, if_neg (fun h => hb ((bit_one _ j hd62 (by omega)).1 h)), wrap_succ j (by omega)]) (ih (j + 1) _ (by omega) (by omega) ?_)
      simpa using h
theorem refFollow_l0 (G : List Nat) (hG : Gr 7 G) (B : List Nat) (hB : ∀ b ∈ B, b < 2 ^ G.length) (hl : B.length ≤ 40) : ∀ (d i now : Nat) (out : List S85), i + d = B.length → now < 2 ^ G.length → out.length ≤ 20 * i →
    Ev (fun k => lampblackref03_Follow.l0 k (gi G) (out.map conv) (now : Int) (gi B) (B.length : Int) (i : Int)) ((planOf (B.drop i) now out).map conv) := by
  have hn := hG.most
  intro d
  induction d with
  | zero =>
    intro i now out hi _ _
    refine Ev.step (f := fun _ => some (out.map conv)) (fun k => by rw [lampblackref03_Follow.l0, if_neg (by omega)]) (Ev.some ?_)
    rw [List.drop_eq_nil_of_le (by omega)]
    rfl
  | succ d ih =>
    intro i now out hi hnow ho
    have hi' : i < B.length := by omega
    have HBB := Aside0.mk (hB _ (List.getElem_mem hi'))
    have HNN := Aside0.mk hnow
    clear hnow
    have hwi := wrap_succ i (by omega)
    have hr : rd (gi B) (i : Int) = ((B[i] : Nat) : Int) := by rw [rd_gi, List.getD_eq_getElem?_getD, List.getElem?_eq_getElem hi']; rfl
    have hb62 := big (small G (by omega) HBB.out)
    have hn62 := big (small G (by omega) HNN.out)
    have e1 := elsF_eq (show G.length ≤ 9 by omega) (Nat.lt_of_le_of_lt (diff_le now B[i]) HNN.out)
    have e2 := elsF_eq (show G.length ≤ 9 by omega) (Nat.lt_of_le_of_lt (diff_le B[i] now) HBB.out)
    have l1 := els_length (diff now B[i]) 9
    have l2 := els_length (diff B[i] now) 9
    have p1 := pc_le (diff now B[i]) 9
    have p2 := pc_le (diff B[i] now) 9
    have next := ih (i + 1) B[i] ((out ++ (els (diff now B[i]) 9).map fun (v : Nat) => (⟨false, (v : Int)⟩ : S85)) ++ (els (diff B[i] now) 9).map fun (v : Nat) => (⟨true, (v : Int)⟩ : S85)) (by omega) HBB.out (by simp; omega)
    rw [List.drop_eq_getElem_cons hi', planOf]
    refine Ev.step (fun k => by rw [lampblackref03_Follow.l0, if_pos (by omega), if_pos (by omega), if_pos (by rw [gi_length]; omega), hr, gi_length]) ?_
    refine refFollow_l1 G hG B now B[i] i hn62 hb62 _ G.length 0 _ (by omega) (by simp; omega) ?_
    rw [gi_length]
    refine refFollow_l2 G hG B now B[i] i hn62 hb62 _ G.length 0 _ (by omega) (by simp; rw [e1]; omega) ?_
    rw [e1, e2, hwi]
    simpa [conv, List.map_append, Function.comp_def] using next
theorem refFollow_ev (G : List Nat) (hG : Gr 7 G) (B : List Nat) (hB : ∀ b ∈ B, b < 2 ^ G.length) (hl : B.length ≤ 30) : Ev (fun k => lampblackref03_Follow.f k (gi G) (gi B)) ((planOf (B ++ [0]) 0 []).map conv) := by
  have h0 := Nat.two_pow_pos G.length
  have hgl := gi_length B
  unfold lampblackref03_Follow.f
  simp only [Option.bind_some, List.length_nil, List.nil_append]
  refine Ev.if_pos (by omega) (Ev.if_pos (by omega) ?_)
  rw [show gi B ++ [0] = gi (B ++ [0]) from gi_snoc B 0, gi_length]
  exact refFollow_l0 G hG (B ++ [0]) (by
    intro b hb
    rcases List.mem_append.1 hb with h | h
    · exact hB b h
    · rw [List.mem_singleton.1 h]; exact h0) (by simp; omega) (B ++ [0]).length 0 0 [] (by omega) h0 (by simp)
theorem own_l0 (l : List S85) (hl : l.length < 2 ^ 40) : ∀ (d i : Nat), i + d = l.length → Ev (fun k => lampblacklaw03_own.l0 k ((l.take i).map conv) l (l.length : Int) (i : Int)) (l.map conv) := by
  intro d
  induction d with
  | zero =>
    intro i hi
    refine Ev.step (f := fun _ => some ((l.take i).map conv)) (fun k => by rw [lampblacklaw03_own.l0, if_neg (by omega)]) (Ev.some ?_)
    rw [List.take_of_length_le (by omega)]
  | succ d ih =>
    intro i hi
    have hi' : i < l.length := by omega
    have hr : rd_T85 l (i : Int) = l[i] := by unfold rd_T85; rw [Int.toNat_natCast, List.getD_eq_getElem?_getD, List.getElem?_eq_getElem hi']; rfl
    have e : (l.take i).map conv ++ [(⟨(rd_T85 l (i : Int)).f0, (rd_T85 l (i : Int)).f1⟩ : S70)] = (l.take (i + 1)).map conv := by
      rw [hr, List.take_add_one, List.getElem?_eq_getElem hi', List.map_append]
      rfl
    refine Ev.step (fun k => by rw [lampblacklaw03_own.l0, if_pos (by omega), if_pos (by omega), if_pos (by omega), if_pos (by rw [List.length_map, List.length_take]; omega), e, wrap_succ i (by omega)]) (ih (i + 1) (by omega))
theorem own_ev (l : List S85) (hl : l.length < 2 ^ 40) : Ev (fun k => lampblacklaw03_own.f k l) (l.map conv) := by
  unfold lampblacklaw03_own.f
  have := own_l0 l hl l.length 0 (by omega)
  simpa using this
theorem act_l0 (l : List S70) (hl : l.length < 2 ^ 40) : ∀ (d i : Nat), i + d = l.length → Ev (fun k => lampblackref03_Act.l0 k l l (l.length : Int) (i : Int)) true := by
  intro d
  induction d with
  | zero => intro i hi; exact Ev.step (f := fun _ => some true) (fun k => by rw [lampblackref03_Act.l0, if_neg (by omega)]) (Ev.some rfl)
  | succ d ih =>
    intro i hi
    exact Ev.step (fun k => by rw [lampblackref03_Act.l0, if_pos (by omega), if_pos (by omega), if_pos (by omega), if_pos (by omega), if_neg (by simp), wrap_succ i (by omega)]) (ih (i + 1) (by omega))
theorem act_same (l : List S70) (hl : l.length < 2 ^ 40) : Ev (fun k => lampblackref03_Act.f k l l) true := by
  unfold lampblackref03_Act.f
  exact Ev.if_pos rfl (act_l0 l hl l.length 0 (by omega))
end Go.Proofs.YtijfddobandcdaaDoor.X
end
section
/- The reference's IsPath: the same path decompositions, the same width. -/
set_option linter.unusedVariables false
namespace Go.Proofs.YtijfddobandcdaaDoor.X
open Go.RowKit Go.Proofs.YtijfddobandcdaaDoorW.PrintWords Go.Proofs.YtijfddobandcdaaDoorW.PrintLast Go.Proofs.YtijfddobandcdaaDoorW.PrintMore Go.Proofs.YtijfddobandcdaaDoor.T

/-- The nodes with which v is in some bag. -/
def metOf (v : Nat) : Nat → List Nat → Nat
  | s, [] => s
  | s, b :: B => metOf v (if b.testBit v then s ||| b else s) B
theorem metOf_bit (v : Nat) : ∀ (B : List Nat) (s u : Nat), bset (metOf v s B) u ↔ bset s u ∨ ∃ b ∈ B, bset b v ∧ bset b u
  | [], s, u => by simp [metOf]
  | b :: B, s, u => by
    simp only [metOf]
    rw [metOf_bit v B]
    by_cases hb : b.testBit v = true
    · rw [if_pos hb, or_bset]
      constructor
      · rintro ((h | h) | ⟨x, hx, h⟩)
        · exact .inl h
        · exact .inr ⟨b, List.mem_cons_self, hb, h⟩
        · exact .inr ⟨x, List.mem_cons_of_mem _ hx, h⟩
      · rintro (h | ⟨x, hx, h1, h2⟩)
        · exact .inl (.inl h)
        · rcases List.mem_cons.1 hx with e | e
          · subst e; exact .inl (.inr h2)
          · exact .inr ⟨x, e, h1, h2⟩
    · rw [if_neg hb]
      constructor
      · rintro (h | ⟨x, hx, h⟩)
        · exact .inl h
        · exact .inr ⟨x, List.mem_cons_of_mem _ hx, h⟩
      · rintro (h | ⟨x, hx, h1, h2⟩)
        · exact .inl h
        · rcases List.mem_cons.1 hx with e | e
          · subst e; exact (hb h1).elim
          · exact .inr ⟨x, e, h1, h2⟩
theorem starts_tf (L : List Bool) : starts false (true :: L) = 1 + starts true L := by simp [starts]
theorem starts_tt (L : List Bool) : starts true (true :: L) = starts true L := by simp [starts]
theorem starts_f (p : Bool) (L : List Bool) : starts p (false :: L) = starts false L := by simp [starts]
theorem refPath_l2 (G : List Nat) (hG : Gr 7 G) (B : List Nat) (hB : ∀ b ∈ B, b < 2 ^ G.length) (h30 : B.length ≤ 30) (v : Nat) (hv : v < G.length) (m : Int) (r : Int × Bool)
    (cont : Ev (fun k => lampblackref03_IsPath.l1 k (gi G) (gi B) m (G.length : Int) ((v + 1 : Nat) : Int)) r) : ∀ (d i s c : Nat), i + d = B.length → s < 2 ^ G.length → c ≤ i →
    Ev (fun k => lampblackref03_IsPath.l2 k (gi G) (gi B) m (v : Int) (c : Int) (s : Int) (G.length : Int) (v : Int) (gi B) (B.length : Int) (i : Int)) (if c + starts (ahead v B i) (marks v (B.drop i)) = 1 ∧ diff (G.getD v 0) (metOf v s (B.drop i)) = 0 then r else (0, false)) := by
  have hn := hG.most
  intro d
  induction d with
  | zero =>
    intro i s c hi hs hc
    rw [List.drop_eq_nil_of_le (by omega)]
    simp only [marks, List.map_nil, starts, metOf, Nat.add_zero]
    have hs62 := big (small G (by omega) hs)
    have hr62 := big (small G (by omega) (hG.row v))
    clear hs
    by_cases h1 : c = 1
    · by_cases h2 : diff (G.getD v 0) s = 0
      · refine Ev.step (fun k => by rw [lampblackref03_IsPath.l2, if_neg (by omega), if_pos (by omega), if_pos (by omega), if_pos (by rw [gi_length]; omega), rd_gi, b_andNot _ _ hr62 hs62, if_pos (by omega), wrap_succ v (by omega)]) ?_
        rw [if_pos ⟨h1, h2⟩]
        exact cont
      · refine Ev.step (f := fun _ => some (0, false)) (fun k => by rw [lampblackref03_IsPath.l2, if_neg (by omega), if_pos (by omega), if_pos (by omega), if_pos (by rw [gi_length]; omega), rd_gi, b_andNot _ _ hr62 hs62, if_neg (by omega)]) (Ev.some ?_)
        rw [if_neg (fun h => h2 h.2)]
    · refine Ev.step (f := fun _ => some (0, false)) (fun k => by rw [lampblackref03_IsPath.l2, if_neg (by omega), if_neg (by omega)]) (Ev.some ?_)
      rw [if_neg (fun h => h1 h.1)]
  | succ d ih =>
    intro i s c hi hs hc
    have HS := Aside0.mk hs
    clear hs
    have hi' : i < B.length := by omega
    have hwi := wrap_succ i (by omega)
    have hwc := wrap_succ c (by omega)
    have HB2 := Aside0.mk (hB _ (List.getElem_mem hi'))
    have hr : rd (gi B) (i : Int) = ((B[i] : Nat) : Int) := by rw [rd_gi, List.getD_eq_getElem?_getD, List.getElem?_eq_getElem hi']; rfl
    have hb62 := big (small G (by omega) HB2.out)
    have hs62 := big (small G (by omega) HS.out)
    have hget : B.getD i 0 = B[i] := by rw [List.getD_eq_getElem?_getD, List.getElem?_eq_getElem hi']; rfl
    have hah : ahead v B (i + 1) = B[i].testBit v := by unfold ahead; rw [if_neg (by omega), Nat.add_sub_cancel, hget]
    rw [List.drop_eq_getElem_cons hi']
    simp only [marks, List.map_cons, metOf]
    have hd := Aside0.mk (or_lt HS.out HB2.out)
    by_cases hb : B[i].testBit v = true
    · have hbit : ¬ Go.bits .and .i64 (shr .i64 ((B[i] : Nat) : Int) (v : Int)) 1 = 0 := fun h => by rw [(bit_zero _ v hb62 (by omega)).1 h] at hb; cases hb
      rw [if_pos hb]
      have next : ∀ c' : Nat, c' ≤ i + 1 → Ev (fun k => lampblackref03_IsPath.l2 k (gi G) (gi B) m (v : Int) (c' : Int) ((s ||| B[i] : Nat) : Int) (G.length : Int) (v : Int) (gi B) (B.length : Int) ((i + 1 : Nat) : Int)) (if c' + starts (B[i].testBit v) ((B.drop (i + 1)).map fun b => b.testBit v) = 1 ∧ diff (G.getD v 0) (metOf v (s ||| B[i]) (B.drop (i + 1))) = 0 then r else (0, false)) := fun c' h' => by
        have := ih (i + 1) (s ||| B[i]) c' (by omega) hd.out h'
        rw [hah] at this
        exact this
      by_cases hp : ahead v B i = true
      · have hi0 : i ≠ 0 := fun e => by rw [e] at hp; simp [ahead] at hp
        have hpr : (B.getD (i - 1) 0).testBit v = true := by unfold ahead at hp; rw [if_neg hi0] at hp; exact hp
        have hp2 : B.getD (i - 1) 0 < 2 ^ 62 := by
          rw [List.getD_eq_getElem?_getD, List.getElem?_eq_getElem (by omega)]
          exact big (small G (by omega) (hB _ (List.getElem_mem _)))
        refine Ev.step (fun k => by rw [lampblackref03_IsPath.l2, if_pos (by omega), if_pos (by omega), if_pos (by rw [gi_length]; omega), if_pos (by omega), hr, if_neg hbit, if_neg (by omega), wrap_pred i (by omega) (by omega), if_pos (by omega), if_pos (by rw [gi_length]; omega), rd_gi, if_neg (fun h => by rw [(bit_zero _ v hp2 (by omega)).1 h] at hpr; cases hpr), b_or _ _ hs62 hb62, hwi]) ?_
        have := next c (by omega)
        rw [hb] at this
        rw [hp, hb, starts_tt]
        exact this
      · have hp' : ahead v B i = false := by simpa using hp
        refine Ev.step (f := fun k => lampblackref03_IsPath.l2 k (gi G) (gi B) m (v : Int) ((c + 1 : Nat) : Int) ((s ||| B[i] : Nat) : Int) (G.length : Int) (v : Int) (gi B) (B.length : Int) ((i + 1 : Nat) : Int)) (fun k => ?_) ?_
        · rw [lampblackref03_IsPath.l2, if_pos (by omega), if_pos (by omega), if_pos (by rw [gi_length]; omega), if_pos (by omega), hr, if_neg hbit]
          by_cases hi0 : i = 0
          · rw [if_pos (by omega), b_or _ _ hs62 hb62, hwi, hwc]
          · have hpr : (B.getD (i - 1) 0).testBit v = false := by unfold ahead at hp'; rw [if_neg hi0] at hp'; exact hp'
            have hp2 : B.getD (i - 1) 0 < 2 ^ 62 := by
              rw [List.getD_eq_getElem?_getD, List.getElem?_eq_getElem (by omega)]
              exact big (small G (by omega) (hB _ (List.getElem_mem _)))
            rw [if_neg (by omega), wrap_pred i (by omega) (by omega), if_pos (by omega), if_pos (by rw [gi_length]; omega), rd_gi, if_pos ((bit_zero _ v hp2 (by omega)).2 hpr), b_or _ _ hs62 hb62, hwi, hwc]
        · have := next (c + 1) (by omega)
          rw [hb] at this
          rw [hp', hb, starts_tf, ← Nat.add_assoc]
          exact this
    · have hb' : B[i].testBit v = false := by simpa using hb
      rw [if_neg hb]
      refine Ev.step (fun k => by rw [lampblackref03_IsPath.l2, if_pos (by omega), if_pos (by omega), if_pos (by rw [gi_length]; omega), if_pos (by omega), hr, if_pos ((bit_zero _ v hb62 (by omega)).2 hb'), hwi]) ?_
      have := ih (i + 1) s c (by omega) HS.out (by omega)
      rw [hah, hb'] at this
      rw [hb', starts_f]
      exact this
/-- What node v asks of the bags. -/
def fitsR (G B : List Nat) (v : Nat) : Bool := decide (starts false (marks v B) = 1 ∧ diff (G.getD v 0) (metOf v 0 B) = 0)
theorem fitsR_eq (G B : List Nat) (v : Nat) : fitsR G B v = fits G B v := by
  unfold fitsR fits
  apply decide_eq_decide.2
  refine and_congr_right fun _ => ?_
  rw [left_zero]
  constructor
  · intro h u hu
    apply Classical.byContradiction
    intro hno
    have : bset (diff (G.getD v 0) (metOf v 0 B)) u := (diff_bset _ _ _).2 ⟨hu, fun h => by
      rcases (metOf_bit v B 0 u).1 h with h | h
      · unfold bset at h; simp at h
      · exact hno h⟩
    rw [h] at this
    unfold bset at this
    simp at this
  · intro h
    apply Classical.byContradiction
    intro hno
    obtain ⟨u, hu, hu2⟩ := diff_ne.1 hno
    exact hu2 ((metOf_bit v B 0 u).2 (.inr (h u hu)))
theorem refPath_l1 (G : List Nat) (hG : Gr 7 G) (B : List Nat) (hB : ∀ b ∈ B, b < 2 ^ G.length) (h30 : B.length ≤ 30) (m : Nat) (hm : m ≤ 9) : ∀ (d v : Nat), v + d = G.length →
    Ev (fun k => lampblackref03_IsPath.l1 k (gi G) (gi B) (m : Int) (G.length : Int) (v : Int)) (if allFrom (fits G B) G.length d v = true then ((m : Int) - 1, true) else (0, false)) := by
  have hn := hG.most
  intro d
  induction d with
  | zero => intro v hv; exact Ev.step (f := fun _ => some ((m : Int) - 1, true)) (fun k => by rw [lampblackref03_IsPath.l1, if_neg (by omega), w64_small _ (by omega) (by omega)]) (Ev.some rfl)
  | succ d ih =>
    intro v hv
    have := refPath_l2 G hG B hB h30 v (by omega) (m : Int) _ (ih (v + 1) (by omega)) B.length 0 0 0 (by omega) (Nat.two_pow_pos _) (Nat.le_refl _)
    refine Ev.step (fun k => by rw [lampblackref03_IsPath.l1, if_pos (by omega), gi_length]) ?_
    rw [Nat.zero_add, List.drop_zero] at this
    simp only [allFrom, ← fitsR_eq, fitsR]
    by_cases h : starts false (marks v B) = 1 ∧ diff (G.getD v 0) (metOf v 0 B) = 0
    · rw [decide_eq_true h, Bool.true_and]
      have e : ahead v B 0 = false := rfl
      rw [e, if_pos h] at this
      exact this
    · rw [decide_eq_false h, Bool.false_and]
      have e : ahead v B 0 = false := rfl
      rw [e, if_neg h] at this
      exact this
theorem refPath_l0 (G : List Nat) (hG : Gr 7 G) (l : List Int) (h1 : 1 ≤ l.length) (h30 : l.length ≤ 30) : ∀ (d i m : Nat) (P : List Nat), i + d = l.length → l.take i = gi P → (∀ b ∈ P, b < 2 ^ G.length) → m = mostOf P → m ≤ 9 →
    ∃ r, Ev (fun k => lampblackref03_IsPath.l0 k (gi G) l (m : Int) l (l.length : Int) (i : Int)) r ∧ ((∃ B, l = gi B ∧ PathDec G B ∧ r = (((mostOf B : Nat) : Int) - 1, true)) ∨ (¬ IsPathL G l ∧ r = (0, false))) := by
  have hn := hG.most
  intro d
  induction d with
  | zero =>
    intro i m P hi hP hb hm hm9
    have e : l = gi P := by rw [← hP, List.take_of_length_le (by omega)]
    subst e
    rw [gi_length] at h1 h30 hi
    have h2 := refPath_l1 G hG P hb h30 m hm9 G.length 0 (by omega)
    refine ⟨_, Ev.step (fun k => by rw [lampblackref03_IsPath.l0, if_neg (by rw [gi_length]; omega), gi_length]; rfl) h2, ?_⟩
    by_cases hf : allFrom (fits G P) G.length G.length 0 = true
    · rw [if_pos hf, hm]
      exact .inl ⟨P, rfl, (fits_iff G P h1 h30 hb).1 hf, rfl⟩
    · rw [if_neg hf]
      refine .inr ⟨?_, rfl⟩
      rintro ⟨B', e, h⟩
      rw [← gi_inj e] at h
      exact hf ((fits_iff G P h1 h30 hb).2 h)
  | succ d ih =>
    intro i m P hi hP hb hm hm9
    have hil : i < l.length := by omega
    have hwi := wrap_succ i (by omega)
    have hbad : ∀ x : Int, rd l (i : Int) = x → (x < 0 ∨ ((2 ^ G.length : Nat) : Int) ≤ x) → ¬ IsPathL G l := fun x hx hx2 => by
      rintro ⟨B, rfl, h⟩
      rw [gi_length] at hil
      have h3 := h.lt _ (List.getElem_mem hil)
      rw [rd_gi, List.getD_eq_getElem?_getD, List.getElem?_eq_getElem hil] at hx
      simp only [Option.getD_some] at hx
      omega
    have hs1 : shl .i64 1 ((gi G).length : Int) = ((2 ^ G.length : Nat) : Int) := by rw [gi_length, s_one _ (by omega)]
    by_cases h3 : rd l (i : Int) < 0
    · exact ⟨_, Ev.step (f := fun _ => some (0, false)) (fun k => by rw [lampblackref03_IsPath.l0, if_pos (by omega), if_pos (by omega), if_pos (by omega), if_pos h3]) (Ev.some rfl), .inr ⟨hbad _ rfl (.inl h3), rfl⟩⟩
    · by_cases h4 : ((2 ^ G.length : Nat) : Int) ≤ rd l (i : Int)
      · exact ⟨_, Ev.step (f := fun _ => some (0, false)) (fun k => by rw [lampblackref03_IsPath.l0, if_pos (by omega), if_pos (by omega), if_pos (by omega), if_neg h3, hs1, if_pos h4]) (Ev.some rfl), .inr ⟨hbad _ rfl (.inr h4), rfl⟩⟩
      · obtain ⟨b, hbe⟩ : ∃ b : Nat, rd l (i : Int) = (b : Int) := ⟨(rd l (i : Int)).toNat, by omega⟩
        have hb2 : b < 2 ^ G.length := by omega
        have hp9 := pc_le b 9
        have hsz := size_ev b (small G (by omega) hb2)
        have hP2 := take_snoc hP hil b hbe
        have hbs : ∀ x ∈ P ++ [b], x < 2 ^ G.length := fun x hx => by
          rcases List.mem_append.1 hx with h | h
          · exact hb x h
          · rw [List.mem_singleton.1 h]; exact hb2
        have hmo : max m (pc b 9) = mostOf (P ++ [b]) := by
          apply Nat.le_antisymm
          · rw [hm]
            exact Nat.max_le.2 ⟨mostOf_le.2 fun x hx => mostOf_le.1 (Nat.le_refl _) x (List.mem_append_left _ hx), mostOf_le.1 (Nat.le_refl _) b (List.mem_append_right _ List.mem_cons_self)⟩
          · refine mostOf_le.2 fun x hx => ?_
            rcases List.mem_append.1 hx with h | h
            · exact Nat.le_trans (mostOf_le.1 (Nat.le_refl _) x h) (hm ▸ Nat.le_max_left _ _)
            · rw [List.mem_singleton.1 h]; exact Nat.le_max_right _ _
        obtain ⟨r, h5, h6⟩ := ih (i + 1) (max m (pc b 9)) (P ++ [b]) (by omega) hP2 hbs hmo (Nat.max_le.2 ⟨hm9, hp9⟩)
        refine ⟨r, Ev.step (f := fun k => (lampblackref02_Size.f k (b : Int)).bind fun t => lampblackref03_IsPath.l0 k (gi G) l (mx (m : Int) t) l (l.length : Int) ((i + 1 : Nat) : Int)) (fun k => ?_) (Ev.bind hsz (by rw [mx_nat]; exact h5)), h6⟩
        rw [lampblackref03_IsPath.l0, if_pos (by omega), if_pos (by omega), if_pos (by omega), if_neg h3, hs1, if_neg h4, hbe, hwi]
theorem refPath_ev (G : List Nat) (hG : Gr 7 G) (l : List Int) (hl : l.length < 2 ^ 60) : ∃ r, Ev (fun k => lampblackref03_IsPath.f k (gi G) l) r ∧ ((∃ B, l = gi B ∧ PathDec G B ∧ r = (((mostOf B : Nat) : Int) - 1, true)) ∨ (¬ IsPathL G l ∧ r = (0, false))) := by
  have stop : Ev (fun k => lampblackref03_IsPath.j0 k (gi G) l true) (0, false) := Ev.step (f := fun _ => some (0, false)) (fun k => by rw [lampblackref03_IsPath.j0, if_pos rfl]) (Ev.some rfl)
  have no : ¬ (1 ≤ l.length ∧ l.length ≤ 30) → ¬ IsPathL G l := fun h => by
    rintro ⟨B, rfl, hB⟩
    rw [gi_length] at h
    exact h ⟨hB.pos, hB.most⟩
  unfold lampblackref03_IsPath.f
  by_cases h1 : 1 ≤ l.length
  · by_cases h30 : l.length ≤ 30
    · obtain ⟨r, h2, h3⟩ := refPath_l0 G hG l h1 h30 l.length 0 0 [] (by omega) (by simp [gi]) (by simp) rfl (by omega)
      refine ⟨r, Ev.if_neg (by omega) ?_, h3⟩
      rw [decide_eq_false (by omega)]
      exact Ev.step (fun k => by rw [lampblackref03_IsPath.j0, if_neg (by simp)]; rfl) h2
    · refine ⟨_, Ev.if_neg (by omega) (by rw [decide_eq_true (by omega)]; exact stop), .inr ⟨no (by omega), rfl⟩⟩
  · exact ⟨_, Ev.if_pos (by omega) stop, .inr ⟨no (by omega), rfl⟩⟩
end Go.Proofs.YtijfddobandcdaaDoor.X
end
section
/- SweepPaths, without Go and memory: Check returns the width of a path decomposition, and false of everything else, and Follow its plan, or the documented error. -/
set_option linter.unusedVariables false
namespace Go.Proofs.YtijfddobandcdaaDoor.Pure
open Go.RowKit Go.Proofs.YtijfddobandcdaaDoorW.PrintWords Go.Proofs.YtijfddobandcdaaDoorW.PrintLast Go.Proofs.YtijfddobandcdaaDoorW.PrintMore Go.Proofs.YtijfddobandcdaaDoor.T Go.Proofs.YtijfddobandcdaaDoor.X
theorem Follow_yes (G : List Nat) (hG : Gr 7 G) (B : List Nat) (h : PathDec G B) : Ev (fun k => sweep_Follow.f k (gi G) (gi B)) (planOf (B ++ [0]) 0 [], 0) := by
  have hn := hG.most
  have hr := read_ev (gi G) (by rw [gi_length]; omega)
  rw [(chk_iff 7 (by omega) _).2 ⟨G, rfl, hG⟩] at hr
  have h30 := h.most
  obtain ⟨r, h1, h2⟩ := isPath_ev G hG (gi B) (by rw [gi_length]; omega)
  rw [h2.2 ⟨B, rfl, h⟩] at h1
  unfold sweep_Follow.f
  exact Ev.bind hr (Ev.if_pos rfl (Ev.bind h1 (Ev.if_pos rfl (Ev.bind1 (follow_eq B (fun b hb => small G (by omega) (h.lt b hb)) h30) (Ev.some rfl)))))
theorem Follow_no (G : List Nat) (hG : Gr 7 G) (l : List Int) (hl : l.length < 2 ^ 60) (h : ¬ IsPathL G l) : Ev (fun k => sweep_Follow.f k (gi G) l) (([] : List S85), 2) := by
  have hr := read_ev (gi G) (by rw [gi_length]; have := hG.most; omega)
  rw [(chk_iff 7 (by omega) _).2 ⟨G, rfl, hG⟩] at hr
  obtain ⟨r, h1, h2⟩ := isPath_ev G hG l hl
  have hr2 : r = false := by cases r <;> simp_all
  rw [hr2] at h1
  unfold sweep_Follow.f
  exact Ev.bind hr (Ev.if_pos rfl (Ev.bind h1 (Ev.if_neg (by simp) (Ev.some rfl))))
theorem Follow_bad (g l : List Int) (hl : g.length < 2 ^ 60) (h : chk 7 g = false) : Ev (fun k => sweep_Follow.f k g l) (([] : List S85), 2) := by
  have hr := read_ev g hl
  rw [h] at hr
  unfold sweep_Follow.f
  exact Ev.bind hr (Ev.if_neg (by simp) (Ev.some rfl))
theorem plan_len : ∀ (B : List Nat) (now : Nat) (out : List S85), (planOf B now out).length ≤ out.length + 18 * B.length
  | [], _, out => by simp [planOf]
  | b :: B, now, out => by
    simp only [planOf]
    have h := plan_len B b ((out ++ (els (diff now b) 9).map fun (v : Nat) => (⟨false, (v : Int)⟩ : S85)) ++ (els (diff b now) 9).map fun (v : Nat) => (⟨true, (v : Int)⟩ : S85))
    have h1 := pc_le (diff now b) 9
    have h2 := pc_le (diff b now) 9
    have e1 := els_length (diff now b) 9
    have e2 := els_length (diff b now) 9
    simp at h ⊢
    omega
theorem SweepPaths : ∀ (l0 l1 : List Int), l0.length ≤ maxLen → l0.length * 8 ≤ 140737488351232 → (∀ x ∈ l0, (Lit.int .i64 x).wf = true) → l1.length ≤ maxLen → l1.length * 8 ≤ 140737488351232 → (∀ x ∈ l1, (Lit.int .i64 x).wf = true) → ∃ k, lampblacklaw03_SweepPaths.f k l0 l1 = some true := by
  intro g l _ hg _ _ hl _
  apply Ev.rounds
  obtain ⟨h, e, e1, e2, e3⟩ := few_eq g (by omega)
  obtain ⟨m, f, f1, f2, f3⟩ := list_eq l (by omega)
  have hv := valid_ev g (by omega)
  unfold lampblacklaw03_SweepPaths.f
  refine Ev.bind1 e (Ev.bind1 f ?_)
  by_cases hc : chk 7 g = true
  · obtain ⟨G, rfl, hG⟩ := (chk_iff 7 (by omega) _).1 hc
    have hn := hG.most
    rw [hc] at hv
    rw [e1 hc] at e ⊢
    obtain ⟨r, hr, hr2⟩ := refPath_ev G hG l (by omega)
    rcases hr2 with ⟨B, rfl, hB, rfl⟩ | ⟨hno, rfl⟩
    · have h30 := hB.most
      have hm : m = gi B := f1 (by rw [gi_length]; omega)
      rw [hm] at f ⊢
      have hpl := plan_len (B ++ [0]) 0 []
      simp only [List.length_append, List.length_nil, List.length_singleton] at hpl
      have hp40 : (planOf (B ++ [0]) 0 []).length < 2 ^ 40 := by omega
      have hj : Ev (fun k => lampblacklaw03_SweepPaths.j0 k (gi G) (gi B) (planOf (B ++ [0]) 0 []) 0 true false) true := by
        refine Ev.step (fun k => by rw [lampblacklaw03_SweepPaths.j0, if_neg (by simp), if_pos rfl]) ?_
        exact Ev.bind (own_ev _ hp40) (Ev.bind (refFollow_ev G hG B hB.lt h30) (Ev.bind (act_same _ (by rw [List.length_map]; exact hp40)) (Ev.if_pos rfl (Ev.some rfl))))
      exact Ev.bind (Check_yes G hG B hB) (Ev.bind1 e (Ev.bind1 f (Ev.bind (Follow_yes G hG B hB) (Ev.bind hv (Ev.if_pos rfl (Ev.bind hr (Ev.if_pos rfl (Ev.if_neg (by simp) (Ev.if_pos rfl (Ev.bind awake_ev hj))))))))))
    · have hno2 : ¬ IsPathL G m := by
        rintro ⟨B, hB, hp⟩
        have h30 := hp.most
        by_cases hl140 : l.length ≤ 140
        · rw [f1 hl140] at hB
          exact hno ⟨B, hB, hp⟩
        · have := f2 (by omega)
          rw [hB, gi_length] at this
          omega
      have hj : Ev (fun k => lampblacklaw03_SweepPaths.j0 k (gi G) l ([] : List S85) 2 false false) true :=
        Ev.step (f := fun _ => some true) (fun k => by rw [lampblacklaw03_SweepPaths.j0, if_neg (by simp), if_neg (by simp), if_pos (show ((([] : List S85).length : Nat) : Int) = 0 from rfl)]; rfl) (Ev.some rfl)
      exact Ev.bind (Check_no G hG m (by omega) hno2) (Ev.bind1 e (Ev.bind1 f (Ev.bind (Follow_no G hG m (by omega) hno2) (Ev.bind hv (Ev.if_pos rfl (Ev.bind hr (Ev.if_pos rfl (Ev.if_neg (by simp) (Ev.if_pos rfl (Ev.bind awake_ev hj))))))))))
  · have hc' : chk 7 g = false := by simpa using hc
    rw [hc'] at hv
    exact Ev.bind (Check_bad h m (by omega) (e2 hc')) (Ev.bind1 e (Ev.bind1 f (Ev.bind (Follow_bad h m (by omega) (e2 hc')) (Ev.bind hv (Ev.if_neg (by simp) (Ev.if_pos rfl (Ev.if_neg (by simp) (Ev.if_pos rfl (Ev.if_pos rfl (Ev.if_pos rfl (Ev.bind awake_ev (Ev.some rfl))))))))))))
end Go.Proofs.YtijfddobandcdaaDoor.Pure
end
