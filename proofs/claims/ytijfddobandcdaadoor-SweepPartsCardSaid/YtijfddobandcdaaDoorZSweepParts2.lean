/- Part 2 of what SweepParts rests on: contracts of the functions that it reaches, and what they compute, in plain words. -/
import Derived.Test.YtijfddobandcdaaDoorZSweepParts0
import Derived.Test.YtijfddobandcdaaDoorZSweepParts1
section
-- by ownprint.py (wip/tool), over the kit's print
namespace Go.Proofs.YtijfddobandcdaaDoor.X
open Go.RowKit Go.Proofs.YtijfddobandcdaaDoorW.PrintWords Go.Proofs.YtijfddobandcdaaDoorW.PrintLast Go.Proofs.YtijfddobandcdaaDoorW.PrintMore
attribute [local go_sem] max2_int min2_int max_two min_two max_three min_three max_four min_four
set_option linter.unusedVariables false
set_option linter.unusedSimpArgs false

/-! ### lampblackref01_IsGraph: function 48 -/
mutual
def lampblackref01_IsGraph.l0 : Nat → List Int → Int → List Int → Int → Int → Option (Bool)
  | 0, _, _, _, _, _ => none
  | k + 1, x0, x1, x8, x9, x10 => if x10 < x9 then (if 0 ≤ x10 then (if x10 < (x8.length : Int) then (if (x0.length : Int) > x1 then (lampblackref01_IsGraph.j1 k x0 x1 x10 (rd x8 x10) x8 x9 x10 true) else (if (rd x8 x10) < 0 then (lampblackref01_IsGraph.j1 k x0 x1 x10 (rd x8 x10) x8 x9 x10 true) else (if (rd x8 x10) ≥ (shl .i64 1 (x0.length : Int)) then (lampblackref01_IsGraph.j1 k x0 x1 x10 (rd x8 x10) x8 x9 x10 true) else (lampblackref01_IsGraph.j1 k x0 x1 x10 (rd x8 x10) x8 x9 x10 ((Go.bits .and .i64 (shr .i64 (rd x8 x10) x10) 1) == 1))))) else (none)) else (none)) else (if (x0.length : Int) ≥ 1 then (some (decide ((x0.length : Int) ≤ x1))) else (some false))
def lampblackref01_IsGraph.j1 : Nat → List Int → Int → Int → Int → List Int → Int → Int → Bool → Option (Bool)
  | 0, _, _, _, _, _, _, _, _ => none
  | k + 1, x0, x1, x5, x6, x8, x9, x10, x36 => if x36 = true then (some false) else (lampblackref01_IsGraph.l1 k x0 x1 x5 x6 x8 x9 x10 (x0.length : Int) 0)
def lampblackref01_IsGraph.l1 : Nat → List Int → Int → Int → Int → List Int → Int → Int → Int → Int → Option (Bool)
  | 0, _, _, _, _, _, _, _, _, _ => none
  | k + 1, x0, x1, x5, x6, x8, x9, x10, x38, x39 => if x39 < x38 then (if 0 ≤ x39 then (if x39 < (x0.length : Int) then (if 0 ≤ x5 then (if (Go.bits .and .i64 (shr .i64 x6 x39) 1) = (Go.bits .and .i64 (shr .i64 (rd x0 x39) x5) 1) then (lampblackref01_IsGraph.l1 k x0 x1 x5 x6 x8 x9 x10 x38 (wrap64 (x39 + 1))) else (some false)) else (none)) else (none)) else (none)) else (lampblackref01_IsGraph.l0 k x0 x1 x8 x9 (wrap64 (x10 + 1)))
end
def lampblackref01_IsGraph.f (k : Nat) (l0 : List Int) (a1 : Int) : Option (Bool) := lampblackref01_IsGraph.l0 k l0 a1 l0 (l0.length : Int) 0
theorem lampblackref01_IsGraph.mono_l : ∀ k, (∀ y0 y1 y2 y3 y4, LeO (lampblackref01_IsGraph.l0 k y0 y1 y2 y3 y4) (lampblackref01_IsGraph.l0 (k + 1) y0 y1 y2 y3 y4)) ∧ (∀ y0 y1 y2 y3 y4 y5 y6 y7, LeO (lampblackref01_IsGraph.j1 k y0 y1 y2 y3 y4 y5 y6 y7) (lampblackref01_IsGraph.j1 (k + 1) y0 y1 y2 y3 y4 y5 y6 y7)) ∧ (∀ y0 y1 y2 y3 y4 y5 y6 y7 y8, LeO (lampblackref01_IsGraph.l1 k y0 y1 y2 y3 y4 y5 y6 y7 y8) (lampblackref01_IsGraph.l1 (k + 1) y0 y1 y2 y3 y4 y5 y6 y7 y8))
  | 0 => ⟨fun _ _ _ _ _ r h => by simp [lampblackref01_IsGraph.l0] at h, fun _ _ _ _ _ _ _ _ r h => by simp [lampblackref01_IsGraph.j1] at h, fun _ _ _ _ _ _ _ _ _ r h => by simp [lampblackref01_IsGraph.l1] at h⟩
  | k + 1 => by
    obtain ⟨ih0, ih1, ih2⟩ := lampblackref01_IsGraph.mono_l k
    refine ⟨?_, ?_, ?_⟩
    · intro y0 y1 y2 y3 y4
      unfold lampblackref01_IsGraph.l0
      repeat' first
      | (with_reducible exact ih0 _ _ _ _ _)
      | (with_reducible exact ih1 _ _ _ _ _ _ _ _)
      | (with_reducible exact ih2 _ _ _ _ _ _ _ _ _)
      | (with_reducible exact LeO.refl _)
      | (with_reducible exact LeO.none _)
      | (with_reducible refine LeO.ite ?_ ?_)
      | (with_reducible refine LeO.bind ?_ (fun _ => ?_))
      | exact ih0 _ _ _ _ _
      | exact ih1 _ _ _ _ _ _ _ _
      | exact ih2 _ _ _ _ _ _ _ _ _
      | exact LeO.none _
      | refine LeO.ite ?_ ?_
      | refine LeO.bind ?_ (fun _ => ?_)
    · intro y0 y1 y2 y3 y4 y5 y6 y7
      unfold lampblackref01_IsGraph.j1
      repeat' first
      | (with_reducible exact ih0 _ _ _ _ _)
      | (with_reducible exact ih1 _ _ _ _ _ _ _ _)
      | (with_reducible exact ih2 _ _ _ _ _ _ _ _ _)
      | (with_reducible exact LeO.refl _)
      | (with_reducible exact LeO.none _)
      | (with_reducible refine LeO.ite ?_ ?_)
      | (with_reducible refine LeO.bind ?_ (fun _ => ?_))
      | exact ih0 _ _ _ _ _
      | exact ih1 _ _ _ _ _ _ _ _
      | exact ih2 _ _ _ _ _ _ _ _ _
      | exact LeO.none _
      | refine LeO.ite ?_ ?_
      | refine LeO.bind ?_ (fun _ => ?_)
    · intro y0 y1 y2 y3 y4 y5 y6 y7 y8
      unfold lampblackref01_IsGraph.l1
      repeat' first
      | (with_reducible exact ih0 _ _ _ _ _)
      | (with_reducible exact ih1 _ _ _ _ _ _ _ _)
      | (with_reducible exact ih2 _ _ _ _ _ _ _ _ _)
      | (with_reducible exact LeO.refl _)
      | (with_reducible exact LeO.none _)
      | (with_reducible refine LeO.ite ?_ ?_)
      | (with_reducible refine LeO.bind ?_ (fun _ => ?_))
      | exact ih0 _ _ _ _ _
      | exact ih1 _ _ _ _ _ _ _ _
      | exact ih2 _ _ _ _ _ _ _ _ _
      | exact LeO.none _
      | refine LeO.ite ?_ ?_
      | refine LeO.bind ?_ (fun _ => ?_)
theorem lampblackref01_IsGraph.mono : ∀ a0 a1 k, LeO (lampblackref01_IsGraph.f k a0 a1) (lampblackref01_IsGraph.f (k + 1) a0 a1) := by
  intro a0 a1 k
  obtain ⟨ih0, ih1, ih2⟩ := lampblackref01_IsGraph.mono_l k
  unfold lampblackref01_IsGraph.f
  repeat' first
      | (with_reducible exact ih0 _ _ _ _ _)
      | (with_reducible exact ih1 _ _ _ _ _ _ _ _)
      | (with_reducible exact ih2 _ _ _ _ _ _ _ _ _)
      | (with_reducible exact LeO.refl _)
      | (with_reducible exact LeO.none _)
      | (with_reducible refine LeO.ite ?_ ?_)
      | (with_reducible refine LeO.bind ?_ (fun _ => ?_))
      | exact ih0 _ _ _ _ _
      | exact ih1 _ _ _ _ _ _ _ _
      | exact ih2 _ _ _ _ _ _ _ _ _
      | exact LeO.none _
      | refine LeO.ite ?_ ?_
      | refine LeO.bind ?_ (fun _ => ?_)
set_option maxHeartbeats 8000000 in
set_option maxRecDepth 100000 in
theorem lampblackref01_IsGraph.calls (k : Nat) (A0 : Option Addr) (c0 : Nat) (l0 : List Int) (a1 : Int) (r : Bool) (w : World) (hr0 : Kd.C (Kd.int .i64) w A0 l0.length l0) (hc0 : l0.length ≤ c0) (h : lampblackref01_IsGraph.f k l0 a1 = some r) :
    Calls Tryd.prog 48 #[.slice A0 l0.length c0, .int .i64 a1] w fun e w' => e = .returned (.bool r) ∧ Drawn0 w w' := by
  have HR0 := Aside0.mk hr0
  have HC0 := Aside0.mk hc0
  clear hr0 hc0
  have H : (lampblackref01_IsGraph.l0 k l0 a1 l0 (l0.length : Int) 0) = some r := h
  clear h
  have H' := Aside0.mk H
  clear H
  go_enter Tryd.func48, Tryd.ntmps48
  go_wp2
  repeat (go_quiet (fail); try go_wp2)
  go_loopg [10] k (fun kq v10 w' => ∃ (x10_1 : Int), v10 = .int .i64 x10_1 ∧ Aside0 (lampblackref01_IsGraph.l0 kq l0 a1 l0 (l0.length : Int) x10_1 = some r) ∧ Aside0 (kq ≤ k) ∧ Drawn0 w w')
  case atStart => exact ⟨(0), (by first | rfl | (simp; done) | (simp [*]; done)), H', ⟨Nat.le_refl _⟩, by repeat (first | exact Drawn0.refl _ | apply Drawn0.step)⟩
  case round =>
    clear H'
    try clear p2
    obtain ⟨x10_1, rfl, HA, HK1, ⟨m1, rfl⟩⟩ := hrel
    cases gk with
    | zero => exact absurd HA.out (by simp [lampblackref01_IsGraph.l0])
    | succ k1 =>
      have H := HA.out
      clear HA
      simp only [lampblackref01_IsGraph.l0] at H
      by_cases c3 : x10_1 < (l0.length : Int)
      · rw [if_pos c3] at H
        have c3b0 : decide (x10_1 < (l0.length : Int)) = true := decide_eq_true c3
        clear c3
        by_cases c4 : 0 ≤ x10_1
        · rw [if_pos c4] at H
          have c4b0 : decide (0 ≤ x10_1) = true := decide_eq_true c4
          clear c4
          by_cases c5 : x10_1 < (l0.length : Int)
          · rw [if_pos c5] at H
            have c5b0 : decide (x10_1 < (l0.length : Int)) = true := decide_eq_true c5
            clear c5
            have HC6 := Aside0.mk H
            clear H
            have p128 : 0 ≤ (x10_1 : Int) := of_decide_eq_true (by first | (with_reducible assumption) | assumption)
            have q128 : x10_1 < (l0.length : Int) := of_decide_eq_true (by first | (with_reducible assumption) | assumption)
            obtain ⟨ad128, e128, hx128_0⟩ := Kd.at_int HR0.out x10_1 p128 q128
            cases e128
            replace p128 := eq_true p128
            replace q128 := eq_true q128
            go_upto_region 4 with (fail)
            repeat (go_quiet (fail); go_upto_region 4 with (fail))
            go_cut [36] (fun v36 wc => ∃ (kq : Nat) (x36_5 : Bool), v36 = .bool x36_5 ∧ Aside0 (lampblackref01_IsGraph.j1 kq l0 a1 x10_1 (rd l0 x10_1) l0 (l0.length : Int) x10_1 x36_5 = some r) ∧ Aside0 (kq ≤ k1) ∧ Drawn0 w wc)
            case first =>
              have H := HC6.out
              clear HC6
              by_cases c7 : (l0.length : Int) > a1
              · rw [if_pos c7] at H
                have c7b0 : decide (a1 < (l0.length : Int)) = true := decide_eq_true c7
                clear c7
                (first | rw [c7b0] | (simp only [i64_w, i32_w]; rw [c7b0]) | skip)
                have H' := Aside0.mk H
                clear H
                go_wp2
                repeat (go_quiet (fail); try go_wp2)
                go_meet
                case rel => exact ⟨_, (true), (by first | rfl | (simp; done) | (simp [*]; done)), H', ⟨by have := HK1.out; first | omega | exact Nat.le_refl _⟩, by repeat (first | exact Drawn0.refl _ | apply Drawn0.step)⟩
              · rw [if_neg c7] at H
                have c7b0 : decide (a1 < (l0.length : Int)) = false := decide_eq_false c7
                clear c7
                (first | rw [c7b0] | (simp only [i64_w, i32_w]; rw [c7b0]) | skip)
                by_cases c8 : (rd l0 x10_1) < 0
                · rw [if_pos c8] at H
                  have c8b0 : decide ((rd l0 x10_1) < 0) = true := decide_eq_true c8
                  clear c8
                  have H' := Aside0.mk H
                  clear H
                  go_wp2
                  repeat (go_quiet (fail); try go_wp2)
                  go_meet
                  case rel => exact ⟨_, (true), (by first | rfl | (simp; done) | (simp [*]; done)), H', ⟨by have := HK1.out; first | omega | exact Nat.le_refl _⟩, by repeat (first | exact Drawn0.refl _ | apply Drawn0.step)⟩
                · rw [if_neg c8] at H
                  have c8b0 : decide ((rd l0 x10_1) < 0) = false := decide_eq_false c8
                  clear c8
                  obtain ⟨ji9, hji9⟩ : ∃ j_ : Int, (shl .i64 1 (l0.length : Int)) = j_ := ⟨_, rfl⟩
                  replace H : (if (rd l0 x10_1) ≥ (ji9) then (lampblackref01_IsGraph.j1 k1 l0 a1 x10_1 (rd l0 x10_1) l0 (l0.length : Int) x10_1 true) else (lampblackref01_IsGraph.j1 k1 l0 a1 x10_1 (rd l0 x10_1) l0 (l0.length : Int) x10_1 ((Go.bits .and .i64 (shr .i64 (rd l0 x10_1) x10_1) 1) == 1))) = some r := by first | (rw [hji9] at H; exact H) | (simp only [hji9] at H ⊢; exact H)
                  have hji9_ : (IntKind.i64.wrap (1 * 2 ^ min (l0.length : Int).toNat 64)) = ji9 := hji9
                  have hji9z : (l0.length : Int) ≤ 64 → (IntKind.i64.wrap (1 * 2 ^ (l0.length : Int).toNat)) = ji9 := shl_small hji9
                  have hji9p : (IntKind.i64.wrap (1 * 2 ^ min l0.length 64)) = ji9 := hji9_
                  have hji9q : (l0.length : Int) ≤ 64 → (IntKind.i64.wrap (1 * 2 ^ l0.length)) = ji9 := hji9z
                  have hji9r : (IntKind.i64.wrap (2 ^ min l0.length 64)) = ji9 := by have h_ := hji9p; rw [Int.one_mul] at h_; exact h_
                  have hji9s : (l0.length : Int) ≤ 64 → (IntKind.i64.wrap (2 ^ l0.length)) = ji9 := fun hle_ => by have h_ := hji9q hle_; rw [Int.one_mul] at h_; exact h_
                  have hji9u : (IntKind.i64.wrap (2 ^ min (l0.length : Int).toNat 64)) = ji9 := by have h_ := hji9_; rw [Int.one_mul] at h_; exact h_
                  have hji9v : (l0.length : Int) ≤ 64 → (IntKind.i64.wrap (2 ^ (l0.length : Int).toNat)) = ji9 := fun hle_ => by have h_ := hji9z hle_; rw [Int.one_mul] at h_; exact h_
                  have hji9y : (wrap64 (1 * 2 ^ min (l0.length : Int).toNat 64)) = ji9 := (i64_w _).symm.trans hji9_
                  have hji9x : (l0.length : Int) ≤ 64 → (wrap64 (1 * 2 ^ (l0.length : Int).toNat)) = ji9 := fun h_ => (i64_w _).symm.trans (hji9z h_)
                  by_cases c10 : (rd l0 x10_1) ≥ (ji9)
                  · rw [if_pos c10] at H
                    have c10b0 : decide ((ji9) ≤ (rd l0 x10_1)) = true := decide_eq_true c10
                    clear c10
                    have H' := Aside0.mk H
                    clear H
                    go_wp2
                    repeat (go_quiet (fail); try go_wp2)
                    go_meet
                    case rel => exact ⟨_, (true), (by first | rfl | (simp; done) | (simp [*]; done)), H', ⟨by have := HK1.out; first | omega | exact Nat.le_refl _⟩, by repeat (first | exact Drawn0.refl _ | apply Drawn0.step)⟩
                  · rw [if_neg c10] at H
                    have c10b0 : decide ((ji9) ≤ (rd l0 x10_1)) = false := decide_eq_false c10
                    clear c10
                    have c11b0 := eq_true (of_decide_eq_true (by first | (with_reducible assumption) | assumption) : 0 ≤ x10_1)
                    obtain ⟨ji12, hji12⟩ : ∃ j_ : Int, (shr .i64 (rd l0 x10_1) x10_1) = j_ := ⟨_, rfl⟩
                    replace H : (lampblackref01_IsGraph.j1 k1 l0 a1 x10_1 (rd l0 x10_1) l0 (l0.length : Int) x10_1 ((Go.bits .and .i64 (ji12) 1) == 1)) = some r := by first | (rw [hji12] at H; exact H) | (simp only [hji12] at H ⊢; exact H)
                    have hji12_ : ((rd l0 x10_1) / 2 ^ min x10_1.toNat 64) = ji12 := hji12
                    have hji12z : x10_1 ≤ 64 → ((rd l0 x10_1) / 2 ^ x10_1.toNat) = ji12 := shr_small hji12
                    have H' := Aside0.mk H
                    clear H
                    go_wp2
                    repeat (go_quiet (fail); try go_wp2)
                    go_meet
                    case rel => exact ⟨_, (((Go.bits .and .i64 (ji12) 1) == 1)), (by first | rfl | (simp; done) | (simp only [← hji12] <;> (first | rfl | simp)) | (simp [*]; done)), H', ⟨by have := HK1.out; first | omega | exact Nat.le_refl _⟩, by repeat (first | exact Drawn0.refl _ | apply Drawn0.step)⟩
            case rest =>
              clear HC6
              try clear c1
              try clear p1
              try clear q1
              try clear hx1
              try clear p2
              try clear c3
              try clear c3b0
              try clear c4
              try clear c4b0
              try clear c5
              try clear c5b0
              try clear p6
              try clear c7
              try clear c7b0
              try clear c8
              try clear c8b0
              try clear c10
              try clear c10b0
              try clear c11
              try clear c11b0
              try clear p12
              try clear q12
              try clear hx12
              try clear hx128_0
              try clear p128
              try clear p2
              try clear q128
              obtain ⟨kq, x36_5, rfl, HA, HJ5, ⟨mc5, rfl⟩⟩ := hcut
              cases kq with
              | zero => exact absurd HA.out (by simp [lampblackref01_IsGraph.j1])
              | succ kj5 =>
                have H := HA.out
                clear HA
                simp only [lampblackref01_IsGraph.j1] at H
                by_cases c13 : x36_5 = true
                · subst c13
                  have H1 : (some false) = some r := by rw [if_pos rfl] at H; exact H
                  clear H
                  have H := H1
                  clear H1
                  obtain rfl := Option.some.inj H
                  go_wp2
                  repeat (go_quiet (fail); try go_wp2)
                  go_ret
                  exact ⟨by first | rfl | (simp; done) | (simp [*]; done), by repeat (first | exact Drawn0.refl _ | apply Drawn0.step)⟩
                · replace c13 := Bool.eq_false_iff.mpr c13
                  subst c13
                  have H1 : (lampblackref01_IsGraph.l1 kj5 l0 a1 x10_1 (rd l0 x10_1) l0 (l0.length : Int) x10_1 (l0.length : Int) 0) = some r := by rw [if_neg (show ¬ (false = true) by decide)] at H; exact H
                  clear H
                  have H := H1
                  clear H1
                  have H' := Aside0.mk H
                  clear H
                  go_wp2
                  repeat (go_quiet (fail); try go_wp2)
                  go_loopg [39] kj5 (fun kq v39 w' => ∃ (x39_3 : Int), v39 = .int .i64 x39_3 ∧ Aside0 (lampblackref01_IsGraph.l1 kq l0 a1 x10_1 (rd l0 x10_1) l0 (l0.length : Int) x10_1 (l0.length : Int) x39_3 = some r) ∧ Aside0 (kq ≤ kj5) ∧ Drawn0 w w')
                  case atStart => exact ⟨(0), (by first | rfl | (simp; done) | (simp [*]; done)), H', ⟨Nat.le_refl _⟩, by repeat (first | exact Drawn0.refl _ | apply Drawn0.step)⟩
                  case round =>
                    clear H'
                    try clear c1
                    try clear p1
                    try clear q1
                    try clear hx1
                    try clear p2
                    try clear c3
                    try clear c3b0
                    try clear c4
                    try clear c4b0
                    try clear c5
                    try clear c5b0
                    try clear p6
                    try clear c7
                    try clear c7b0
                    try clear c8
                    try clear c8b0
                    try clear c10
                    try clear c10b0
                    try clear c11
                    try clear c11b0
                    try clear p12
                    try clear q12
                    try clear hx12
                    try clear c13
                    try clear hx128_0
                    try clear p1
                    try clear p12
                    try clear p128
                    try clear p2
                    try clear p6
                    try clear q1
                    try clear q12
                    try clear q128
                    obtain ⟨x39_3, rfl, HA, HK3, ⟨m3, rfl⟩⟩ := hrel
                    cases gk with
                    | zero => exact absurd HA.out (by simp [lampblackref01_IsGraph.l1])
                    | succ k3 =>
                      have H := HA.out
                      clear HA
                      simp only [lampblackref01_IsGraph.l1] at H
                      by_cases c14 : x39_3 < (l0.length : Int)
                      · rw [if_pos c14] at H
                        have c14b0 : decide (x39_3 < (l0.length : Int)) = true := decide_eq_true c14
                        clear c14
                        by_cases c15 : 0 ≤ x39_3
                        · rw [if_pos c15] at H
                          have c15b0 := eq_true c15
                          have c15b1 : decide (0 ≤ x39_3) = true := decide_eq_true c15
                          clear c15
                          obtain ⟨ji16, hji16⟩ : ∃ j_ : Int, (shr .i64 (rd l0 x10_1) x39_3) = j_ := ⟨_, rfl⟩
                          replace H : (if x39_3 < (l0.length : Int) then (if 0 ≤ x10_1 then (if (Go.bits .and .i64 (ji16) 1) = (Go.bits .and .i64 (shr .i64 (rd l0 x39_3) x10_1) 1) then (lampblackref01_IsGraph.l1 k3 l0 a1 x10_1 (rd l0 x10_1) l0 (l0.length : Int) x10_1 (l0.length : Int) (wrap64 (x39_3 + 1))) else (some false)) else (none)) else (none)) = some r := by first | (rw [hji16] at H; exact H) | (simp only [hji16] at H ⊢; exact H)
                          have hji16_ : ((rd l0 x10_1) / 2 ^ min x39_3.toNat 64) = ji16 := hji16
                          have hji16z : x39_3 ≤ 64 → ((rd l0 x10_1) / 2 ^ x39_3.toNat) = ji16 := shr_small hji16
                          by_cases c17 : x39_3 < (l0.length : Int)
                          · rw [if_pos c17] at H
                            have c17b0 : decide (x39_3 < (l0.length : Int)) = true := decide_eq_true c17
                            clear c17
                            by_cases c18 : 0 ≤ x10_1
                            · rw [if_pos c18] at H
                              have c18b0 := eq_true c18
                              have c18b1 : decide (0 ≤ x10_1) = true := decide_eq_true c18
                              clear c18
                              obtain ⟨ji19, hji19⟩ : ∃ j_ : Int, (shr .i64 (rd l0 x39_3) x10_1) = j_ := ⟨_, rfl⟩
                              replace H : (if (Go.bits .and .i64 (ji16) 1) = (Go.bits .and .i64 (ji19) 1) then (lampblackref01_IsGraph.l1 k3 l0 a1 x10_1 (rd l0 x10_1) l0 (l0.length : Int) x10_1 (l0.length : Int) (wrap64 (x39_3 + 1))) else (some false)) = some r := by first | (rw [hji19] at H; exact H) | (simp only [hji19] at H ⊢; exact H)
                              have hji19_ : ((rd l0 x39_3) / 2 ^ min x10_1.toNat 64) = ji19 := hji19
                              have hji19z : x10_1 ≤ 64 → ((rd l0 x39_3) / 2 ^ x10_1.toNat) = ji19 := shr_small hji19
                              by_cases c20 : (Go.bits .and .i64 (ji16) 1) = (Go.bits .and .i64 (ji19) 1)
                              · rw [if_pos c20] at H
                                have c20b0 : ((Go.bits .and .i64 (ji16) 1) == (Go.bits .and .i64 (ji19) 1)) = true := beq_iff_eq.mpr c20
                                have c20b1 : ((Go.bits .and .i64 (ji16) 1) != (Go.bits .and .i64 (ji19) 1)) = false := bne_eq_false_iff_eq.mpr c20
                                clear c20
                                have H' := Aside0.mk H
                                clear H
                                have p129 : 0 ≤ (x39_3 : Int) := of_decide_eq_true (by first | (with_reducible assumption) | assumption)
                                have q129 : x39_3 < (l0.length : Int) := of_decide_eq_true (by first | (with_reducible assumption) | assumption)
                                obtain ⟨ad129, e129, hx129_0⟩ := Kd.at_int HR0.out x39_3 p129 q129
                                obtain rfl : ad128 = ad129 := (by injection e129)
                                replace p129 := eq_true p129
                                replace q129 := eq_true q129
                                go_wp2
                                repeat (go_quiet (fail); try go_wp2)
                                go_roundg k3
                                case measure => have := HK1.out; have := HJ5.out; have := HK3.out; omega
                                case rel => exact ⟨(wrap64 (x39_3 + 1)), (by first | rfl | (simp; done) | (simp [*]; done)), H', ⟨by have := HK1.out; have := HJ5.out; have := HK3.out; omega⟩, by repeat (first | exact Drawn0.refl _ | apply Drawn0.step)⟩
                              · rw [if_neg c20] at H
                                have c20b0 : ((Go.bits .and .i64 (ji16) 1) == (Go.bits .and .i64 (ji19) 1)) = false := beq_eq_false_iff_ne.mpr c20
                                have c20b1 : ((Go.bits .and .i64 (ji16) 1) != (Go.bits .and .i64 (ji19) 1)) = true := bne_iff_ne.mpr c20
                                obtain rfl := Option.some.inj H
                                have p129 : 0 ≤ (x39_3 : Int) := of_decide_eq_true (by first | (with_reducible assumption) | assumption)
                                have q129 : x39_3 < (l0.length : Int) := of_decide_eq_true (by first | (with_reducible assumption) | assumption)
                                obtain ⟨ad129, e129, hx129_0⟩ := Kd.at_int HR0.out x39_3 p129 q129
                                obtain rfl : ad128 = ad129 := (by injection e129)
                                replace p129 := eq_true p129
                                replace q129 := eq_true q129
                                go_wp2
                                repeat (go_quiet (fail); try go_wp2)
                                go_ret
                                exact ⟨by first | rfl | (simp; done) | (simp only [← hji16, ← hji19] <;> (first | rfl | simp)) | (simp [*]; done), by repeat (first | exact Drawn0.refl _ | apply Drawn0.step)⟩
                            · rw [if_neg c18] at H
                              exact absurd H (by simp)
                          · rw [if_neg c17] at H
                            exact absurd H (by simp)
                        · rw [if_neg c15] at H
                          exact absurd H (by simp)
                      · rw [if_neg c14] at H
                        have c14b0 : decide (x39_3 < (l0.length : Int)) = false := decide_eq_false c14
                        clear c14
                        have H' := Aside0.mk H
                        clear H
                        go_wp2
                        repeat (go_quiet (fail); try go_wp2)
                        go_roundg k3
                        case measure => have := HK1.out; have := HJ5.out; have := HK3.out; omega
                        case rel => exact ⟨(wrap64 (x10_1 + 1)), (by first | rfl | (simp; done) | (simp [*]; done)), H', ⟨by have := HK1.out; have := HJ5.out; have := HK3.out; omega⟩, by repeat (first | exact Drawn0.refl _ | apply Drawn0.step)⟩
          · rw [if_neg c5] at H
            exact absurd H (by simp)
        · rw [if_neg c4] at H
          exact absurd H (by simp)
      · rw [if_neg c3] at H
        have c3b0 : decide (x10_1 < (l0.length : Int)) = false := decide_eq_false c3
        clear c3
        by_cases c21 : (l0.length : Int) ≥ 1
        · rw [if_pos c21] at H
          have c21b0 : decide (1 ≤ (l0.length : Int)) = true := decide_eq_true c21
          have c21b1 : decide (1 ≤ l0.length) = true := decide_eq_true (by omega)
          clear c21
          obtain rfl := Option.some.inj H
          go_wp2
          repeat (go_quiet (fail); try go_wp2)
          go_ret
          exact ⟨by first | rfl | (simp; done) | (simp [*]; done), by repeat (first | exact Drawn0.refl _ | apply Drawn0.step)⟩
        · rw [if_neg c21] at H
          have c21b0 : decide (1 ≤ (l0.length : Int)) = false := decide_eq_false c21
          have c21b1 : decide (1 ≤ l0.length) = false := decide_eq_false (by omega)
          clear c21
          obtain rfl := Option.some.inj H
          go_wp2
          repeat (go_quiet (fail); try go_wp2)
          go_ret
          exact ⟨by first | rfl | (simp; done) | (simp [*]; done), by repeat (first | exact Drawn0.refl _ | apply Drawn0.step)⟩

end Go.Proofs.YtijfddobandcdaaDoor.X
end
section
/- The references' own words: IsGraph. -/
set_option linter.unusedVariables false
namespace Go.Proofs.YtijfddobandcdaaDoor.X
open Go.RowKit Go.Proofs.YtijfddobandcdaaDoorW.PrintWords Go.Proofs.YtijfddobandcdaaDoorW.PrintLast Go.Proofs.YtijfddobandcdaaDoorW.PrintMore Go.Proofs.YtijfddobandcdaaDoor.T

theorem isGraph_l1 (m : Nat) (g : List Int) (hn : g.length ≤ 13) (i : Nat) (hi : i < g.length) (r : Bool)
    (hrest : Ev (fun k => lampblackref01_IsGraph.l0 k g (m : Int) g (g.length : Int) ((i + 1 : Nat) : Int)) r) :
    ∀ d j, j + d = g.length → Ev (fun k => lampblackref01_IsGraph.l1 k g (m : Int) (i : Int) (rd g (i : Int)) g (g.length : Int) (i : Int) (g.length : Int) (j : Int))
      (allFrom (fun j => decide (ibit (rd g (i : Int)) j = ibit (rd g (j : Int)) i)) g.length d j && r) := by
  intro d
  induction d with
  | zero =>
    intro j hj
    refine Ev.step (fun k => ?_) hrest
    rw [lampblackref01_IsGraph.l1, if_neg (by omega), wrap_succ i (by omega)]
  | succ d ih =>
    intro j hj
    simp only [allFrom]
    by_cases hb : ibit (rd g (i : Int)) j = ibit (rd g (j : Int)) i
    · refine Ev.step (f := fun k => lampblackref01_IsGraph.l1 k g (m : Int) (i : Int) (rd g (i : Int)) g (g.length : Int) (i : Int) (g.length : Int) ((j + 1 : Nat) : Int)) (fun k => ?_) ?_
      · rw [lampblackref01_IsGraph.l1, if_pos (by omega), if_pos (by omega), if_pos (by omega), if_pos (by omega), wrap_succ j (by omega)]
        exact if_pos hb
      · have := ih (j + 1) (by omega)
        simpa [hb] using this
    · refine Ev.step (f := fun _ => some false) (fun k => ?_) (Ev.some (by simp [hb]))
      rw [lampblackref01_IsGraph.l1, if_pos (by omega), if_pos (by omega), if_pos (by omega), if_pos (by omega)]
      exact if_neg hb

theorem isGraph_l0 (m : Nat) (hm : m ≤ 13) (g : List Int) (h1 : 1 ≤ g.length) (hn : g.length ≤ m) :
    ∀ d i, i + d = g.length → Ev (fun k => lampblackref01_IsGraph.l0 k g (m : Int) g (g.length : Int) (i : Int)) (allFrom (rowOk g) g.length d i) := by
  intro d
  induction d with
  | zero =>
    intro i hi
    refine Ev.step (f := fun _ => some true) (fun k => ?_) (Ev.some (by simp [allFrom]))
    rw [lampblackref01_IsGraph.l0, if_neg (by omega), if_pos (by omega), decide_eq_true (by omega)]
  | succ d ih =>
    intro i hi
    have stop : ∀ k, lampblackref01_IsGraph.j1 (k + 1) g (m : Int) (i : Int) (rd g (i : Int)) g (g.length : Int) (i : Int) true = some false := fun k => by
      rw [lampblackref01_IsGraph.j1, if_pos rfl]
    simp only [allFrom, rowOk]
    by_cases h1' : rd g (i : Int) < 0
    · refine Ev.step (fun k => ?_) (f := fun k => lampblackref01_IsGraph.j1 k g (m : Int) (i : Int) (rd g (i : Int)) g (g.length : Int) (i : Int) true) ?_
      · rw [lampblackref01_IsGraph.l0, if_pos (by omega), if_pos (by omega), if_pos (by omega), if_neg (by omega), if_pos h1']
      · exact Ev.step stop (Ev.some (by simp [h1']))
    · by_cases h2 : rd g (i : Int) ≥ shl .i64 1 (g.length : Int)
      · refine Ev.step (fun k => ?_) (f := fun k => lampblackref01_IsGraph.j1 k g (m : Int) (i : Int) (rd g (i : Int)) g (g.length : Int) (i : Int) true) ?_
        · rw [lampblackref01_IsGraph.l0, if_pos (by omega), if_pos (by omega), if_pos (by omega), if_neg (by omega), if_neg h1', if_pos h2]
        · exact Ev.step stop (Ev.some (by simp [h2]))
      · refine Ev.step (fun k => ?_) (f := fun k => lampblackref01_IsGraph.j1 k g (m : Int) (i : Int) (rd g (i : Int)) g (g.length : Int) (i : Int) (ibit (rd g (i : Int)) i == 1)) ?_
        · rw [lampblackref01_IsGraph.l0, if_pos (by omega), if_pos (by omega), if_pos (by omega), if_neg (by omega), if_neg h1', if_neg h2]
          rfl
        · by_cases h3 : (ibit (rd g (i : Int)) i == 1) = true
          · simp only [h3]
            exact Ev.step stop (Ev.some (by simp))
          · refine Ev.step (fun k => by rw [lampblackref01_IsGraph.j1, if_neg h3]) ?_
            have := isGraph_l1 m g (by omega) i (by omega) _ (ih (i + 1) (by omega)) g.length 0 (by omega)
            have h3' : (ibit (rd g (i : Int)) i == 1) = false := by simpa using h3
            simp only [h1', h2, h3', decide_false, Bool.not_false, Bool.true_and]
            exact this

theorem isGraph_ev (m : Nat) (hm : m ≤ 13) (g : List Int) (hg : g.length < 2 ^ 60) : Ev (fun k => lampblackref01_IsGraph.f k g (m : Int)) (chk m g) := by
  unfold lampblackref01_IsGraph.f
  by_cases h1 : 1 ≤ g.length
  · by_cases h2 : g.length ≤ m
    · have := isGraph_l0 m hm g h1 h2 g.length 0 (by omega)
      simpa [chk, h1, h2] using this
    · refine Ev.step (f := fun k => lampblackref01_IsGraph.j1 k g (m : Int) 0 (rd g 0) g (g.length : Int) 0 true) (fun k => ?_) (Ev.step (f := fun _ => some false) (fun k => ?_) (Ev.some (by simp [chk, h2])))
      · rw [lampblackref01_IsGraph.l0, if_pos (by omega), if_pos (by omega), if_pos (by omega), if_pos (by omega)]
      · rw [lampblackref01_IsGraph.j1, if_pos rfl]
  · refine Ev.step (f := fun _ => some false) (fun k => ?_) (Ev.some (by simp [chk, h1]))
    rw [lampblackref01_IsGraph.l0, if_neg (by omega), if_neg (by omega)]

end Go.Proofs.YtijfddobandcdaaDoor.X
end
section
-- by ownprint.py (wip/tool), over the kit's print
namespace Go.Proofs.YtijfddobandcdaaDoor.X
open Go.RowKit Go.Proofs.YtijfddobandcdaaDoorW.PrintWords Go.Proofs.YtijfddobandcdaaDoorW.PrintLast Go.Proofs.YtijfddobandcdaaDoorW.PrintMore
attribute [local go_sem] max2_int min2_int max_two min_two max_three min_three max_four min_four
set_option linter.unusedVariables false
set_option linter.unusedSimpArgs false

/-! ### lampblackref03_Valid: function 19 -/
def lampblackref03_Valid.f (k : Nat) (l0 : List Int) : Option (Bool) := (lampblackref01_IsGraph.f k l0 7).bind fun t130 => (some t130)
theorem lampblackref03_Valid.mono : ∀ a0 k, LeO (lampblackref03_Valid.f k a0) (lampblackref03_Valid.f (k + 1) a0) := by
  intro a0 k
  unfold lampblackref03_Valid.f
  repeat' first
      | (with_reducible exact lampblackref01_IsGraph.mono _ _ _)
      | (with_reducible exact LeO.refl _)
      | (with_reducible exact LeO.none _)
      | (with_reducible refine LeO.ite ?_ ?_)
      | (with_reducible refine LeO.bind ?_ (fun _ => ?_))
      | exact lampblackref01_IsGraph.mono _ _ _
      | exact LeO.none _
      | refine LeO.ite ?_ ?_
      | refine LeO.bind ?_ (fun _ => ?_)
set_option maxHeartbeats 8000000 in
set_option maxRecDepth 100000 in
theorem lampblackref03_Valid.calls (k : Nat) (A0 : Option Addr) (c0 : Nat) (l0 : List Int) (r : Bool) (w : World) (hr0 : Kd.C (Kd.int .i64) w A0 l0.length l0) (hc0 : l0.length ≤ c0) (h : lampblackref03_Valid.f k l0 = some r) :
    Calls Tryd.prog 19 #[.slice A0 l0.length c0] w fun e w' => e = .returned (.bool r) ∧ Drawn0 w w' := by
  have HR0 := Aside0.mk hr0
  have HC0 := Aside0.mk hc0
  clear hr0 hc0
  have H : ((lampblackref01_IsGraph.f k l0 7).bind fun t130 => (some t130)) = some r := h
  clear h
  replace H := Option.bind_eq_some_iff.mp H
  obtain ⟨t130, A20, H⟩ := H
  replace H : (some t130) = some r := H
  have A2 := Aside0.mk A20
  clear A20
  obtain rfl := Option.some.inj H
  go_enter Tryd.func19, Tryd.ntmps19
  go_wp2_with (first | ((with_reducible refine gate_callee (f := 48) rfl ?_); refine goesL_ (some 4) rfl rfl Tryd.func48 (by kernel_rfl) rfl #[.slice A0 l0.length c0, .int .i64 7] rfl (by (try simp only [List.map_toArray, List.map_cons, List.map_nil]); first | done | rfl | (simp only [List.length_drop, List.length_take]; rfl)) ?_; (with_reducible refine (lampblackref01_IsGraph.calls k _ _ l0 7 t130 _ ?side1 ?side2 A2.out).mono ?_); (case side1 => repeat (first | exact HR0.out | (with_reducible refine Kd.C_alloc ?_ _) | (with_reducible refine Kd.C_drewN ?_ _) | (with_reducible refine Kd.C_drew ?_))); (case side2 => exact HC0.out); rintro e w' ⟨rfl, ⟨nd, rfl⟩⟩; refine ⟨_, rfl, ?_⟩))
  go_ret
  exact ⟨by first | rfl | (simp; done) | (simp [*]; done), by repeat (first | exact Drawn0.refl _ | apply Drawn0.step)⟩

end Go.Proofs.YtijfddobandcdaaDoor.X
end
section
/- border, count, layout: what they compute, in plain words; Layout, Least, awake, Few. -/
set_option linter.unusedVariables false
namespace Go.Proofs.YtijfddobandcdaaDoor.X
open Go.RowKit Go.Proofs.YtijfddobandcdaaDoorW.PrintWords Go.Proofs.YtijfddobandcdaaDoorW.PrintLast Go.Proofs.YtijfddobandcdaaDoorW.PrintMore Go.Proofs.YtijfddobandcdaaDoor.T

theorem mx_nat (a b : Nat) : mx (a : Int) (b : Int) = ((max a b : Nat) : Int) := by unfold mx; split <;> omega
theorem mn_nat (a b : Nat) : mn (a : Int) (b : Int) = ((min a b : Nat) : Int) := by unfold mn; split <;> omega
theorem small (G : List Nat) (h : G.length ≤ 9) {x : Nat} (hx : x < 2 ^ G.length) : x < 512 := Nat.lt_of_lt_of_le hx (show 2 ^ G.length ≤ 2 ^ 9 from Nat.pow_le_pow_right (by omega) h)
theorem big {x : Nat} (h : x < 512) : x < 2 ^ 62 := by omega
theorem ctz_all : ∀ z : Fin 512, 0 < z.val → Lib.ctz 64 z.val < 9 ∧ z.val.testBit (Lib.ctz 64 z.val) = true ∧ rest z.val = diff z.val (2 ^ Lib.ctz 64 z.val) ∧ ∀ j : Fin 9, z.val.testBit j.val = true → Lib.ctz 64 z.val ≤ j.val := by decide +kernel
theorem ctz_bit {z : Nat} (hz : z < 512) (h0 : z ≠ 0) : bset z (Lib.ctz 64 z) := (ctz_all ⟨z, hz⟩ (by show 0 < z; omega)).2.1
theorem ctz_low {z : Nat} (hz : z < 512) (h0 : z ≠ 0) {j : Nat} (hj : bset z j) : Lib.ctz 64 z ≤ j := (ctz_all ⟨z, hz⟩ (by show 0 < z; omega)).2.2.2 ⟨j, bit_lt (n := 9) (by omega) hj⟩ hj
theorem rest_diff {z : Nat} (hz : z < 512) (h0 : z ≠ 0) : rest z = diff z (2 ^ Lib.ctz 64 z) := (ctz_all ⟨z, hz⟩ (by show 0 < z; omega)).2.2.1
theorem rest_bset {z : Nat} (hz : z < 512) (h0 : z ≠ 0) (j : Nat) : bset (rest z) j ↔ bset z j ∧ j ≠ Lib.ctz 64 z := by
  rw [rest_diff hz h0, diff_bset, two_pow_bit]
theorem rest_pc {z : Nat} (hz : z < 512) (h0 : z ≠ 0) : pc (rest z) 9 < pc z 9 := by
  have h1 := ctz_bit hz h0
  refine pc_lt (Lib.ctz 64 z) 9 (fun j _ h => ((rest_bset hz h0 j).1 h).1) (bit_lt (n := 9) (by omega) h1) ?_ h1
  have := rest_bset hz h0 (Lib.ctz 64 z)
  cases h : (rest z).testBit (Lib.ctz 64 z)
  · rfl
  · exact ((this.1 h).2 rfl).elim
theorem diff_ne {a b : Nat} : diff a b ≠ 0 ↔ ∃ u, bset a u ∧ ¬ bset b u := by
  constructor
  · intro h
    obtain ⟨i, hi⟩ := Nat.exists_testBit_of_ne_zero h
    exact ⟨i, (diff_bset a b i).1 hi⟩
  · rintro ⟨u, hu⟩ h
    have := (diff_bset a b u).2 hu
    rw [h] at this
    unfold bset at this
    simp at this

theorem count_all : ∀ x : Fin 512, sweep_count.f (x.val : Int) = some (pc x.val 9 : Int) := by decide +kernel
theorem count_eq (x : Nat) (hx : x < 512) : sweep_count.f (x : Int) = some (pc x 9 : Int) := count_all ⟨x, hx⟩

theorem rest_lt' {s n : Nat} (hs5 : s < 512) (h0 : s ≠ 0) (hs : s < 2 ^ n) : rest s < 2 ^ n := lt_of_bits fun j hj => bit_lt hs ((rest_bset hs5 h0 j).1 hj).1
theorem bordTo_eq (G : List Nat) (hG : Gr 7 G) (S : Nat) (hS : S < 2 ^ G.length) : ∀ (k s o : Nat), pc s 9 < k → s < 2 ^ G.length → o < 2 ^ G.length → (∀ j, bset s j → bset S j) →
    ∃ r : Nat, bordTo (gi G) S k s (o : Int) = some (r : Int) ∧ r < 2 ^ G.length ∧ ∀ j, bset r j ↔ bset o j ∨ (bset s j ∧ ∃ u, Adj G j u ∧ ¬ bset S u) := by
  have hn := hG.most
  intro k
  induction k with
  | zero => intro s o h; omega
  | succ k ih =>
    intro s o hk hs ho hsS
    have hs5 := small G (by omega) hs
    by_cases h0 : s = 0
    · subst h0
      refine ⟨o, by rw [bordTo, if_pos rfl], ho, fun j => ⟨.inl, fun h => h.elim id (fun h => ?_)⟩⟩
      have := h.1
      unfold bset at this
      simp at this
    · have hb := ctz_bit hs5 h0
      have hp := rest_pc hs5 h0
      have hr := rest_bset hs5 h0
      have hrl := rest_lt' hs5 h0 hs
      rw [bordTo, if_neg h0]
      generalize Lib.ctz 64 s = v at *
      have hv : v < G.length := bit_lt hs hb
      have hpv : 2 ^ v < 2 ^ G.length := Nat.pow_lt_pow_right (by omega) hv
      have hrow := hG.row v
      rw [if_pos (by rw [gi_length]; omega), rd_gi, b_andNot _ _ (big (small G (by omega) hrow)) (big (small G (by omega) hS)), s_one v (by omega), b_or _ _ (big (small G (by omega) ho)) (big (small G (by omega) hpv))]
      by_cases hd : diff (G.getD v 0) S = 0
      · rw [hd, if_neg (by decide)]
        obtain ⟨r, h1, h2, h3⟩ := ih (rest s) o (by omega) hrl ho (fun j hj => hsS j ((hr j).1 hj).1)
        refine ⟨r, h1, h2, fun j => ?_⟩
        rw [h3, hr]
        constructor
        · rintro (h | ⟨h, h'⟩)
          · exact .inl h
          · exact .inr ⟨h.1, h'⟩
        · rintro (h | ⟨h, u, hu, hu'⟩)
          · exact .inl h
          · refine .inr ⟨⟨h, fun e => ?_⟩, u, hu, hu'⟩
            subst e
            exact (diff_ne.2 ⟨u, hu, hu'⟩ hd).elim
      · have hd' : ((diff (G.getD v 0) S : Nat) : Int) ≠ 0 := by omega
        rw [if_pos (by simpa using hd)]
        obtain ⟨r, h1, h2, h3⟩ := ih (rest s) (o ||| 2 ^ v) (by omega) hrl (or_lt ho hpv) (fun j hj => hsS j ((hr j).1 hj).1)
        refine ⟨r, h1, h2, fun j => ?_⟩
        rw [h3, hr, or_bset, two_pow_bit]
        obtain ⟨u, hu, hu'⟩ := diff_ne.1 hd
        constructor
        · rintro ((h | h) | ⟨h, h'⟩)
          · exact .inl h
          · subst h; exact .inr ⟨hb, u, hu, hu'⟩
          · exact .inr ⟨h.1, h'⟩
        · rintro (h | ⟨h, h'⟩)
          · exact .inl (.inl h)
          · by_cases e : j = v
            · exact .inl (.inr e)
            · exact .inr ⟨⟨h, e⟩, h'⟩
theorem border_eq (G : List Nat) (hG : Gr 7 G) (S : Nat) (hS : S < 2 ^ G.length) : sweep_town_border.f (gi G) (S : Int) = some ((bor G S : Nat) : Int) := by
  have hn := hG.most
  have hS5 := small G (by omega) hS
  unfold sweep_town_border.f
  rw [if_pos (by omega), if_pos (by have := big hS5; omega), Int.toNat_natCast]
  obtain ⟨r, h1, h2, h3⟩ := bordTo_eq G hG S hS 64 S 0 (by have := pc_le S 9; omega) hS (Nat.two_pow_pos _) (fun _ h => h)
  have e : r = bor G S := eq_of_bits fun j => by
    have a := h3 j
    have b := bor_bit hG S j
    unfold bset at *
    rw [a, b]
    simp
  subst e
  exact h1
/-- How many nodes a set's border has. -/
noncomputable def bc (G : List Nat) (S : Nat) : Nat := pc (bor G S) 9
theorem cost_eq (G : List Nat) (hG : Gr 7 G) (S : Nat) (hS : S < 2 ^ G.length) : cost (gi G) (S : Int) = some ((bc G S : Nat) : Int) := by
  unfold cost bc
  rw [border_eq G hG S hS, Option.bind_some]
  exact count_eq _ (small G (by have := hG.most; omega) (bor_lt G S))

/-- x is the least breadth of what can come behind S. -/
def PV (G : List Nat) (S x : Nat) : Prop := ∀ q, x ≤ q ↔ Lay G q S
theorem getD_set (W : List Nat) (i j x : Nat) (hi : i < W.length) : (W.set i x).getD j 0 = if j = i then x else W.getD j 0 := by
  simp only [List.getD_eq_getElem?_getD, List.getElem?_set]
  by_cases h : i = j
  · subst h; simp [hi]
  · rw [if_neg h, if_neg (fun e => h e.symm)]
theorem bestIn_eq (G : List Nat) (hG : Gr 7 G) (S : Nat) (hS : S < 2 ^ G.length) : ∀ (k s : Nat) (W : List Nat), pc s 9 < k → s < 2 ^ G.length → (∀ j, bset s j → ¬ bset S j) → W.length = 2 ^ G.length →
    ∃ x, bestIn (gi G) S k s (gi W) = some (gi (W.set S x)) ∧ ∀ q, x ≤ q ↔ W.getD S 0 ≤ q ∨ ∃ v, bset s v ∧ W.getD (S ||| 2 ^ v) 0 ≤ q ∧ bc G (S ||| 2 ^ v) ≤ q := by
  have hn := hG.most
  intro k
  induction k with
  | zero => intro s W h; omega
  | succ k ih =>
    intro s W hk hs hsS hW
    have hs5 := small G (by omega) hs
    by_cases h0 : s = 0
    · subst h0
      refine ⟨W.getD S 0, ?_, fun q => ⟨.inl, fun h => h.elim id (fun ⟨v, h, _⟩ => by unfold bset at h; simp at h)⟩⟩
      rw [bestIn, if_pos rfl]
      congr 2
      apply List.ext_getElem?
      intro i
      rw [List.getElem?_set]
      by_cases e : S = i
      · subst e
        rw [if_pos rfl, if_pos (by omega), List.getD_eq_getElem?_getD, List.getElem?_eq_getElem (by omega)]
        rfl
      · rw [if_neg e]
    · have hb := ctz_bit hs5 h0
      have hp := rest_pc hs5 h0
      have hr := rest_bset hs5 h0
      have hrl := rest_lt' hs5 h0 hs
      rw [bestIn, if_neg h0]
      unfold nxt
      generalize Lib.ctz 64 s = v at *
      have hv : v < G.length := bit_lt hs hb
      have hX := or_new hS hv
      have hgt := or_gt (hsS v hb)
      have hSW : S < W.length := by rw [hW]; exact hS
      have hXW : S ||| 2 ^ v < W.length := by rw [hW]; exact hX
      rw [if_pos (by rw [gi_length]; exact ⟨hSW, hXW⟩), cost_eq G hG _ hX, Option.bind_some, rd_gi, rd_gi, mx_nat, mn_nat, gi_set]
      obtain ⟨x, h1, h2⟩ := ih (rest s) (W.set S (min (W.getD S 0) (max (W.getD (S ||| 2 ^ v) 0) (bc G (S ||| 2 ^ v))))) (Nat.lt_of_lt_of_le hp (Nat.le_of_lt_succ hk)) hrl (fun j hj => hsS j ((hr j).1 hj).1) (by rw [List.length_set]; exact hW)
      refine ⟨x, by rw [h1, List.set_set], fun q => ?_⟩
      rw [h2, getD_set _ _ _ _ hSW, if_pos rfl]
      have hoth : ∀ u, bset (rest s) u → (W.set S (min (W.getD S 0) (max (W.getD (S ||| 2 ^ v) 0) (bc G (S ||| 2 ^ v))))).getD (S ||| 2 ^ u) 0 = W.getD (S ||| 2 ^ u) 0 := fun u hu => by
        have := or_gt (hsS u ((hr u).1 hu).1)
        rw [getD_set _ _ _ _ hSW, if_neg (Nat.ne_of_gt this)]
      clear hX hgt hSW hXW hs hrl hW hs5 hv hp hk ih h1 h2 h0
      constructor
      · rintro (h | ⟨u, hu, h3, h4⟩)
        · rcases Nat.le_total (W.getD S 0) (max (W.getD (S ||| 2 ^ v) 0) (bc G (S ||| 2 ^ v))) with h5 | h5
          · rw [Nat.min_eq_left h5] at h
            exact .inl h
          · rw [Nat.min_eq_right h5] at h
            exact .inr ⟨v, hb, Nat.le_trans (Nat.le_max_left _ _) h, Nat.le_trans (Nat.le_max_right _ _) h⟩
        · rw [hoth u hu] at h3
          exact .inr ⟨u, ((hr u).1 hu).1, h3, h4⟩
      · rintro (h | ⟨u, hu, h3, h4⟩)
        · exact .inl (Nat.le_trans (Nat.min_le_left _ _) h)
        · by_cases e : u = v
          · subst e; exact .inl (Nat.le_trans (Nat.min_le_right _ _) (Nat.max_le.2 ⟨h3, h4⟩))
          · have hu' := (hr u).2 ⟨hu, e⟩
            exact .inr ⟨u, hu', by rw [hoth u hu']; exact h3, h4⟩
theorem bestTo_eq (G : List Nat) (hG : Gr 7 G) : ∀ (d : Nat) (W : List Nat), d < 2 ^ G.length → W.length = 2 ^ G.length → (∀ T, d ≤ T → T < 2 ^ G.length → PV G T (W.getD T 0)) →
    ∃ W2 : List Nat, bestTo (gi G) d (gi W) = some (gi W2) ∧ W2.length = 2 ^ G.length ∧ ∀ T, T < 2 ^ G.length → PV G T (W2.getD T 0) := by
  have hn := hG.most
  intro d
  induction d with
  | zero => intro W _ hW h; exact ⟨W, rfl, hW, fun T hT => h T (by omega) hT⟩
  | succ d ih =>
    intro W hd hW h
    have hd' : d < 2 ^ G.length := by omega
    have hS5 := small G (by omega) hd'
    have h2 := Nat.two_pow_pos G.length
    have hc : ∀ j, bset (diff (2 ^ G.length - 1) d) j ↔ j < G.length ∧ ¬ bset d j := fun j => by rw [diff_bset, full_bit]
    rw [bestTo]
    simp only [gi_length]
    have e1 : (gi W).set d (G.length : Int) = gi (W.set d G.length) := gi_set W d G.length
    rw [e1]
    obtain ⟨x, h3, h4⟩ := bestIn_eq G hG d hd' 64 (diff (2 ^ G.length - 1) d) (W.set d G.length) (by have := pc_le (diff (2 ^ G.length - 1) d) 9; omega) (Nat.lt_of_le_of_lt (diff_le _ _) (by omega)) (fun j hj => ((hc j).1 hj).2) (by rw [List.length_set]; exact hW)
    rw [h3, Option.bind_some, List.set_set]
    refine ih _ hd' (by rw [List.length_set]; exact hW) fun T h5 h6 => ?_
    rw [getD_set _ _ _ _ (by omega)]
    by_cases e : T = d
    · subst e
      rw [if_pos rfl]
      intro q
      rw [h4, getD_set _ _ _ _ (by omega), if_pos rfl]
      have hoth : ∀ v, v < G.length → ¬ bset T v → (W.set T G.length).getD (T ||| 2 ^ v) 0 = W.getD (T ||| 2 ^ v) 0 ∧ PV G (T ||| 2 ^ v) (W.getD (T ||| 2 ^ v) 0) := fun v hv hb => by
        have h7 := or_gt hb
        have h8 := or_new hd' hv
        rw [getD_set _ _ _ _ (by omega), if_neg (by omega)]
        exact ⟨rfl, h _ (by omega) h8⟩
      constructor
      · rintro (h7 | ⟨v, hv, h7, h8⟩)
        · exact lay_big (.inr h7) (by omega) _ _ rfl hd'
        · obtain ⟨h9, h10⟩ := (hc v).1 hv
          obtain ⟨h11, h12⟩ := hoth v h9 h10
          rw [h11] at h7
          exact .step h9 h10 h8 ((h12 q).1 h7)
      · intro h7
        cases h7 with
        | done => omega
        | step h9 h10 h8 h13 =>
          obtain ⟨h11, h12⟩ := hoth _ h9 h10
          exact .inr ⟨_, (hc _).2 ⟨h9, h10⟩, by rw [h11]; exact (h12 q).2 h13, h8⟩
    · rw [if_neg e]
      exact h T (by omega) h6

/-- Node v can come behind S, if all is to be laid out with borders of at most m nodes. -/
def Can (G : List Nat) (m S v : Nat) : Prop := Lay G m (S ||| 2 ^ v) ∧ bc G (S ||| 2 ^ v) ≤ m
/-- Node by node the first one that can come. -/
inductive Greedy (G : List Nat) (m : Nat) : Nat → List Nat → Prop
  | nil : Greedy G m (2 ^ G.length - 1) []
  | cons {S v : Nat} {L : List Nat} : v < G.length → ¬ bset S v → Can G m S v → (∀ u, u < v → ¬ bset S u → ¬ Can G m S u) → Greedy G m (S ||| 2 ^ v) L → Greedy G m S (v :: L)
theorem goOn_eq (G : List Nat) (hG : Gr 7 G) (W : List Nat) (m : Nat) (hW : W.length = 2 ^ G.length) (hP : ∀ T, T < 2 ^ G.length → PV G T (W.getD T 0)) (hm : W.getD 0 0 = m) (S : Nat) (hS : S < 2 ^ G.length) :
    ∀ (k s : Nat), pc s 9 < k → s < 2 ^ G.length → (∀ j, bset s j → ¬ bset S j) → (∃ v, bset s v ∧ Can G m S v) →
      ∃ v : Nat, goOn (gi G) (gi W) S k s = some (some ((v : Int), S ||| 2 ^ v)) ∧ bset s v ∧ Can G m S v ∧ ∀ u, u < v → bset s u → ¬ Can G m S u := by
  have hn := hG.most
  intro k
  induction k with
  | zero => intro s h; omega
  | succ k ih =>
    intro s hk hs hsS hex
    have hs5 := small G (by omega) hs
    have h0 : s ≠ 0 := fun e => by obtain ⟨v, h, _⟩ := hex; subst e; unfold bset at h; simp at h
    have hb := ctz_bit hs5 h0
    have hlow : ∀ j, bset s j → Lib.ctz 64 s ≤ j := fun j hj => ctz_low hs5 h0 hj
    have hp := rest_pc hs5 h0
    have hr := rest_bset hs5 h0
    have hrl := rest_lt' hs5 h0 hs
    rw [goOn, if_neg h0]
    unfold nxt
    generalize Lib.ctz 64 s = v at *
    have hv : v < G.length := bit_lt hs hb
    have hX := or_new hS hv
    have hXW : S ||| 2 ^ v < W.length := by rw [hW]; exact hX
    have hp' := Nat.lt_of_lt_of_le hp (Nat.le_of_lt_succ hk)
    rw [if_pos (by rw [gi_length]; exact hXW), cost_eq G hG _ hX, Option.bind_some, rd_gi, show rd (gi W) 0 = ((W.getD 0 0 : Nat) : Int) from rd_gi W 0, mx_nat, hm]
    have hPX := hP _ hX
    clear hX hs hW hs5 hv hp hk h0 hS hXW
    by_cases hc : max (W.getD (S ||| 2 ^ v) 0) (bc G (S ||| 2 ^ v)) ≤ m
    · rw [if_pos (by omega)]
      exact ⟨v, rfl, hb, ⟨(hPX m).1 (by omega), by omega⟩, fun u hu hsu => by have := hlow u hsu; omega⟩
    · rw [if_neg (by omega)]
      have hno : ¬ Can G m S v := fun h => hc (by have := (hPX m).2 h.1; have := h.2; omega)
      obtain ⟨u, h1, h2, h3, h4⟩ := ih (rest s) hp' hrl (fun j hj => hsS j ((hr j).1 hj).1) (by
        obtain ⟨u, hu, hcu⟩ := hex
        exact ⟨u, (hr u).2 ⟨hu, fun e => hno (e ▸ hcu)⟩, hcu⟩)
      refine ⟨u, h1, ((hr u).1 h2).1, h3, fun x hx hsx => ?_⟩
      by_cases e : x = v
      · subst e; exact hno
      · exact h4 x hx ((hr x).2 ⟨hsx, e⟩)
theorem layTo_eq (G : List Nat) (hG : Gr 7 G) (W : List Nat) (m : Nat) (hW : W.length = 2 ^ G.length) (hP : ∀ T, T < 2 ^ G.length → PV G T (W.getD T 0)) (hm : W.getD 0 0 = m) :
    ∀ (k S : Nat) (pre : List Int), pc (diff (2 ^ G.length - 1) S) 9 < k → S < 2 ^ G.length → Lay G m S → ∃ L, layTo (gi G) (gi W) k S pre = some (pre ++ gi L) ∧ Greedy G m S L := by
  have hn := hG.most
  intro k
  induction k with
  | zero => intro S pre h; omega
  | succ k ih =>
    intro S pre hk hS hL
    have h2 := Nat.two_pow_pos G.length
    rw [layTo]
    simp only [gi_length]
    by_cases e : S = 2 ^ G.length - 1
    · rw [if_pos e, e]
      exact ⟨[], by simp [gi], .nil⟩
    · rw [if_neg e]
      have hc : ∀ j, bset (diff (2 ^ G.length - 1) S) j ↔ j < G.length ∧ ¬ bset S j := fun j => by rw [diff_bset, full_bit]
      obtain ⟨v, h3, h4, h5, h6⟩ := goOn_eq G hG W m hW hP hm S hS 64 (diff (2 ^ G.length - 1) S) (by have := pc_le (diff (2 ^ G.length - 1) S) 9; omega) (Nat.lt_of_le_of_lt (diff_le _ _) (by omega)) (fun j hj => ((hc j).1 hj).2) (by
        cases hL with
        | done => exact (e rfl).elim
        | step h7 h8 h9 h10 => exact ⟨_, (hc _).2 ⟨h7, h8⟩, h10, h9⟩)
      rw [h3, Option.bind_some]
      obtain ⟨h7, h8⟩ := (hc v).1 h4
      have hX := or_new hS h7
      obtain ⟨L, h9, h10⟩ := ih (S ||| 2 ^ v) (pre ++ [(v : Int)]) (by
        refine Nat.lt_of_lt_of_le (pc_lt v 9 (fun j _ hj => ?_) (by omega) ?_ ((hc v).2 ⟨h7, h8⟩)) (show pc (diff (2 ^ G.length - 1) S) 9 ≤ k by omega)
        · have a := (diff_bset (2 ^ G.length - 1) (S ||| 2 ^ v) j).1 hj
          exact (diff_bset _ _ _).2 ⟨a.1, fun h => a.2 ((or_bset _ _ _).2 (.inl h))⟩
        · have a := diff_bset (2 ^ G.length - 1) (S ||| 2 ^ v) v
          cases hh : (diff (2 ^ G.length - 1) (S ||| 2 ^ v)).testBit v
          · rfl
          · exact ((a.1 hh).2 ((or_bset _ _ _).2 (.inr ((two_pow_bit v v).2 rfl)))).elim) hX h5.1
      refine ⟨v :: L, ?_, .cons h7 h8 h5 (fun u hu hSu => h6 u hu ((hc u).2 ⟨by omega, hSu⟩)) h10⟩
      show layTo (gi G) (gi W) k (S ||| 2 ^ v) (pre ++ [(v : Int)]) = _
      rw [h9]
      simp [gi]
theorem layout_eq (G : List Nat) (hG : Gr 7 G) : ∃ (L : List Nat) (m : Nat), sweep_town_layout.f (gi G) = some (gi L, (m : Int)) ∧ IsVs G m ∧ Greedy G m 0 L := by
  have hn := hG.most
  have h2 := Nat.two_pow_pos G.length
  have e : List.replicate (2 ^ G.length) (0 : Int) = gi (List.replicate (2 ^ G.length) 0) := by simp [gi]
  obtain ⟨W, h3, h4, h5⟩ := bestTo_eq G hG (2 ^ G.length - 1) (List.replicate (2 ^ G.length) 0) (by omega) (by simp) (fun T hT hT2 q => by
    have e : T = 2 ^ G.length - 1 := by omega
    subst e
    have : (List.replicate (2 ^ G.length) 0).getD (2 ^ G.length - 1) 0 = 0 := by simp [List.getD_eq_getElem?_getD, List.getElem?_replicate]; rw [if_pos (by omega)]; rfl
    rw [this]
    exact ⟨fun _ => .done, fun _ => by omega⟩)
  obtain ⟨L, h6, h7⟩ := layTo_eq G hG W (W.getD 0 0) h4 h5 rfl 11 0 [] (by have := pc_le (diff (2 ^ G.length - 1) 0) 9; omega) h2 ((h5 0 h2 _).1 (Nat.le_refl _))
  refine ⟨L, W.getD 0 0, ?_, h5 0 h2, h7⟩
  unfold sweep_town_layout.f
  simp only [gi_length]
  rw [if_pos ⟨hG.pos, by omega⟩, e, h3, Option.bind_some, h6]
  simp only [List.nil_append, Option.bind_some]
  rw [show rd (gi W) 0 = ((W.getD 0 0 : Nat) : Int) from rd_gi W 0]

theorem Layout_ev (G : List Nat) (hG : Gr 7 G) : ∃ (L : List Nat) (m : Nat), Ev (fun k => sweep_Layout.f k (gi G)) (gi L, (m : Int), 0) ∧ IsVs G m ∧ Greedy G m 0 L := by
  obtain ⟨L, m, h1, h2, h3⟩ := layout_eq G hG
  refine ⟨L, m, ?_, h2, h3⟩
  have hr := read_ev (gi G) (by rw [gi_length]; have := hG.most; omega)
  rw [(chk_iff 7 (by omega) _).2 ⟨G, rfl, hG⟩] at hr
  unfold sweep_Layout.f
  exact Ev.bind hr (Ev.if_pos rfl (Ev.bind1 h1 (Ev.some rfl)))
theorem Layout_bad (g : List Int) (hl : g.length < 2 ^ 60) (h : chk 7 g = false) : Ev (fun k => sweep_Layout.f k g) (([] : List Int), 0, 2) := by
  have hr := read_ev g hl
  rw [h] at hr
  unfold sweep_Layout.f
  exact Ev.bind hr (Ev.if_neg (by simp) (Ev.some rfl))
theorem awake_ev : Ev (fun k => lampblacklaw03_awake.f k) true := by
  exact Ev.of (lampblacklaw03_awake.mono) (k := 40) (by decide +kernel)
theorem vs_exists {G : List Nat} (hG : Gr 7 G) : ∃ m, IsVs G m ∧ m ≤ 7 := by
  obtain ⟨L, m, _, h, _⟩ := layout_eq G hG
  exact ⟨m, h, Nat.le_trans ((h G.length).2 (lay_big (.inr (Nat.le_refl _)) (by have := hG.most; omega) _ _ rfl (Nat.two_pow_pos _))) hG.most⟩
theorem valid_ev (g : List Int) (hg : g.length < 2 ^ 60) : Ev (fun k => lampblackref03_Valid.f k g) (chk 7 g) := by
  unfold lampblackref03_Valid.f
  exact Ev.bind (isGraph_ev 7 (by omega) g hg) (Ev.some rfl)
/-- Few hands on a beginning; what is valid it hands on whole, and what isn't stays so. -/
theorem few_eq (g : List Int) (hg : g.length < 2 ^ 44) : ∃ h, lampblacklaw03_Few.f g = some h ∧ (chk 7 g = true → h = g) ∧ (chk 7 g = false → chk 7 h = false) ∧ h.length ≤ 11 := by
  have hm : mn (g.length : Int) 11 = ((min g.length 11 : Nat) : Int) := mn_nat g.length 11
  refine ⟨g.take (min g.length 11), ?_, ?_, ?_, ?_⟩
  · unfold lampblacklaw03_Few.f slices_Clone_Graph.f
    simp only [hm, Int.toNat_natCast]
    rw [if_pos (by omega), if_pos (by omega)]
    simp only [Option.bind_some, List.length_nil, List.nil_append]
    rw [if_pos (by rw [List.length_take]; omega)]
    rfl
  · intro h
    simp only [chk, Bool.and_eq_true, decide_eq_true_eq] at h
    exact List.take_of_length_le (by omega)
  · intro h
    by_cases hl : g.length ≤ 11
    · rw [List.take_of_length_le (by omega)]; exact h
    · unfold chk
      have : ¬ (List.take (min g.length 11) g).length ≤ 7 := by rw [List.length_take]; omega
      rw [decide_eq_false this, Bool.and_false, Bool.false_and]
  · rw [List.length_take]; omega
end Go.Proofs.YtijfddobandcdaaDoor.X
end
section
/- SweepParts, without Go and memory: a node less does not raise the path width, and lowers it by at most 1; an edge less does not raise it. -/
set_option linter.unusedVariables false
namespace Go.Proofs.YtijfddobandcdaaDoor.Pure
open Go.RowKit Go.Proofs.YtijfddobandcdaaDoorW.PrintWords Go.Proofs.YtijfddobandcdaaDoorW.PrintLast Go.Proofs.YtijfddobandcdaaDoorW.PrintMore Go.Proofs.YtijfddobandcdaaDoor.T Go.Proofs.YtijfddobandcdaaDoor.X

theorem parts_j2 (G : List Nat) (hG : Gr 7 G) (m : Nat) (hm : IsVs G m) (hm7 : m ≤ 7) (a b : Nat) (ha : a < G.length) (hb : b < G.length) (hfew : lampblacklaw03_Few.f (gi G) = some (gi G)) :
    Ev (fun k => lampblacklaw03_SweepParts.j2 k (gi G) (a : Int) (b : Int) (m : Int) false) true := by
  have hn := hG.most
  have ha1 : 2 ^ a < 2 ^ G.length := Nat.pow_lt_pow_right (by omega) ha
  have hb1 : 2 ^ b < 2 ^ G.length := Nat.pow_lt_pow_right (by omega) hb
  have hra := big (small G (by omega) (hG.row a))
  have hrb := big (small G (by omega) (hG.row b))
  have hba := big (small G (by omega) ha1)
  have hbb := big (small G (by omega) hb1)
  by_cases hab : (G.getD a 0).testBit b = true
  · have hab' : Adj G a b := hab
    have hne : a ≠ b := fun e => by subst e; exact hG.adj_irr hab'
    have hC1 : (gi G).set (a : Int).toNat (Go.bits .andNot .i64 (rd (gi G) (a : Int)) (shl .i64 1 (b : Int))) = gi (G.set a (diff (G.getD a 0) (2 ^ b))) := by
      rw [rd_gi, s_one b (by omega), b_andNot _ _ hra hbb, Int.toNat_natCast, gi_set]
    have hrow2 : (G.set a (diff (G.getD a 0) (2 ^ b))).getD b 0 = G.getD b 0 := by rw [getD_set _ _ _ _ ha, if_neg (fun h => hne h.symm)]
    have hC2 : (gi (G.set a (diff (G.getD a 0) (2 ^ b)))).set (b : Int).toNat (Go.bits .andNot .i64 (rd (gi (G.set a (diff (G.getD a 0) (2 ^ b)))) (b : Int)) (shl .i64 1 (a : Int))) = gi ((G.set a (diff (G.getD a 0) (2 ^ b))).set b (diff (G.getD b 0) (2 ^ a))) := by
      rw [rd_gi, hrow2, s_one a (by omega), b_andNot _ _ hrb hba, Int.toNat_natCast, gi_set]
    have hget : ∀ u, ((G.set a (diff (G.getD a 0) (2 ^ b))).set b (diff (G.getD b 0) (2 ^ a))).getD u 0 = if u = b then diff (G.getD b 0) (2 ^ a) else if u = a then diff (G.getD a 0) (2 ^ b) else G.getD u 0 := fun u => by
      rw [getD_set _ _ _ _ (by simpa using hb), getD_set _ _ _ _ ha]
    have hcut : LessV G ((G.set a (diff (G.getD a 0) (2 ^ b))).set b (diff (G.getD b 0) (2 ^ a))) := lessV_cut hG a b (by simp) fun u w => by
      unfold Adj
      rw [hget]
      by_cases h1 : u = b
      · rw [if_pos h1]
        show bset _ w ↔ _
        rw [diff_bset, two_pow_bit, h1]
        exact ⟨fun ⟨h, h'⟩ => ⟨h, fun e => hne e.1.symm, fun e => h' e.2⟩, fun ⟨h, _, h'⟩ => ⟨h, fun e => h' ⟨rfl, e⟩⟩⟩
      · rw [if_neg h1]
        by_cases h2 : u = a
        · rw [if_pos h2]
          show bset _ w ↔ _
          rw [diff_bset, two_pow_bit, h2]
          exact ⟨fun ⟨h, h'⟩ => ⟨h, fun e => h' e.2, fun e => hne e.1⟩, fun ⟨h, h', _⟩ => ⟨h, fun e => h' ⟨rfl, e⟩⟩⟩
        · rw [if_neg h2]
          exact ⟨fun h => ⟨h, fun e => h2 e.1, fun e => h1 e.1⟩, fun h => h.1⟩
    obtain ⟨L, m2, hL, hV, _⟩ := Layout_ev _ hcut.1
    have hle := lessV_le hm hV hcut
    have hw : wrap64 ((m : Int) - 1) = (m : Int) - 1 := w64_small _ (by omega) (by omega)
    refine Ev.step (fun k => by rw [lampblacklaw03_SweepParts.j2, if_neg (by simp), if_pos (by omega), if_pos (by rw [gi_length]; omega), if_pos (by omega), rd_gi, if_neg (by rw [bit_at _ b hra (by omega), hab]; decide)]) ?_
    refine Ev.bind1 hfew (Ev.if_pos (by rw [gi_length]; omega) ?_)
    refine Ev.bind1 (a := gi (G.set a (diff (G.getD a 0) (2 ^ b)))) (by rw [hC1]) (Ev.if_pos (by rw [gi_length]; omega) ?_)
    simp only [hC2]
    refine Ev.bind hL (Ev.if_pos rfl (Ev.if_pos (by simp only; omega) (Ev.if_pos (by rw [hw]; simp only; omega) (Ev.bind awake_ev (Ev.some rfl)))))
  · have hab0 : (G.getD a 0).testBit b = false := Bool.eq_false_iff.mpr hab
    exact Ev.step (fun k => by rw [lampblacklaw03_SweepParts.j2, if_neg (by simp), if_pos (by omega), if_pos (by rw [gi_length]; omega), if_pos (by omega), rd_gi, if_pos (by rw [bit_at _ b hra (by omega), hab0]; rfl)]) (Ev.bind awake_ev (Ev.some rfl))
theorem del_all : ∀ (x : Fin 512) (v : Fin 9), Go.bits .or .i64 (Go.bits .and .i64 (x.val : Int) (wrap64 ((shl .i64 1 (v.val : Int)) - 1))) (shl .i64 (shr .i64 (x.val : Int) ((v.val + 1 : Nat) : Int)) (v.val : Int)) = ((delbits v.val x.val : Nat) : Int) := by decide +kernel
theorem del_row (x v : Nat) (hx : x < 512) (hv : v < 9) : Go.bits .or .i64 (Go.bits .and .i64 (x : Int) (wrap64 ((shl .i64 1 (v : Int)) - 1))) (shl .i64 (shr .i64 (x : Int) ((v + 1 : Nat) : Int)) (v : Int)) = ((delbits v x : Nat) : Int) := del_all ⟨x, hx⟩ ⟨v, hv⟩
theorem parts_l0 (G : List Nat) (hG : Gr 7 G) (m : Nat) (hm : IsVs G m) (hm7 : m ≤ 7) (v b : Nat) (hv : v < G.length) (hb : b < G.length) (hn2 : 2 ≤ G.length) (hfew : lampblacklaw03_Few.f (gi G) = some (gi G)) : ∀ d i, i + d = G.length →
    Ev (fun k => lampblacklaw03_SweepParts.l0 k (gi G) (v : Int) (b : Int) (m : Int) (gi (delTo G v i)) (gi G) (G.length : Int) (i : Int)) true := by
  have hn := hG.most
  intro d
  induction d with
  | zero =>
    intro i hi
    obtain rfl : i = G.length := by omega
    have hless := lessV_del hG hv hn2
    obtain ⟨L, m2, hL, hV, _⟩ := Layout_ev _ hless.1
    have hle := lessV_le hm hV hless
    have hw : wrap64 ((m : Int) - 1) = (m : Int) - 1 := w64_small _ (by omega) (by omega)
    have hL' : Ev (fun k => sweep_Layout.f k (gi (delTo G v G.length))) (gi L, (m2 : Int), 0) := hL
    refine Ev.step (fun k => by rw [lampblacklaw03_SweepParts.l0, if_neg (by omega)]) (Ev.bind hL' (Ev.if_pos rfl (Ev.if_neg (by show ¬ (m2 : Int) > (m : Int); omega) ?_)))
    rw [hw, decide_eq_false (show ¬ (m2 : Int) < (m : Int) - 1 by omega)]
    exact parts_j2 G hG m hm hm7 v b hv hb hfew
  | succ d ih =>
    intro i hi
    have hwi : wrap64 ((i : Int) + 1) = ((i + 1 : Nat) : Int) := wrap_succ i (by omega)
    have next := ih (i + 1) (by omega)
    have hll : (gi (delTo G v i)).length ≤ 9 := by
      have := delTo_length G v i
      rw [gi_length]
      by_cases h : i ≤ v
      · rw [if_pos h] at this; omega
      · rw [if_neg h] at this; omega
    by_cases e : i = v
    · subst e
      refine Ev.step (fun k => by rw [lampblacklaw03_SweepParts.l0, if_pos (by omega), if_pos (by omega), if_pos (by rw [gi_length]; omega), if_pos rfl, hwi]) ?_
      simpa only [delTo, if_true] using next
    · have hwv : wrap64 ((v : Int) + 1) = ((v + 1 : Nat) : Int) := wrap_succ v (by omega)
      have hs5 := small G (Nat.le_trans hn (by decide)) (hG.row i)
      have hv9 : v < 9 := Nat.lt_of_lt_of_le hv (Nat.le_trans hn (by decide))
      have hel := del_row (G.getD i 0) v hs5 hv9
      refine Ev.step (f := fun k => lampblacklaw03_SweepParts.l0 k (gi G) (v : Int) (b : Int) (m : Int) (gi (delTo G v i) ++ [((delbits v (G.getD i 0) : Nat) : Int)]) (gi G) (G.length : Int) ((i + 1 : Nat) : Int)) (fun k => ?_) ?_
      · rw [lampblacklaw03_SweepParts.l0]
        rw [if_pos (by omega), if_pos (by omega), if_pos (by rw [gi_length]; omega), if_neg (by omega), if_pos (by omega)]
        rw [hwv, if_pos (by omega), if_pos (by omega)]
        rw [rd_gi, hel, hwi]
      have h2 : gi (delTo G v i) ++ [((delbits v (G.getD i 0) : Nat) : Int)] = gi (delTo G v (i + 1)) := by
        simp only [delTo, if_neg e]; simp [gi]
      rw [h2]
      exact next

/-- 'int(uint(a) % uint(n))' is a node. -/
theorem node_of (a : Int) (n : Nat) (h0 : 0 < n) (hn : n ≤ 9) : ∃ A : Nat, A < n ∧ wrap64 (Int.tmod (IntKind.u64.wrap a) (IntKind.u64.wrap (n : Int))) = (A : Int) := by
  have h1 : 0 ≤ IntKind.u64.wrap a := by rw [IntKind.wrap_u64]; omega
  rw [u64_small (n : Int) (by omega) (by omega), Int.tmod_eq_emod_of_nonneg h1]
  have h2 : 0 ≤ IntKind.u64.wrap a % (n : Int) := Int.emod_nonneg _ (by omega)
  have h3 : IntKind.u64.wrap a % (n : Int) < (n : Int) := Int.emod_lt_of_pos _ (by omega)
  refine ⟨(IntKind.u64.wrap a % (n : Int)).toNat, by omega, ?_⟩
  rw [w64_small _ (by omega) (by omega)]
  omega
theorem SweepParts : ∀ (l0 : List Int) (a1 a2 : Int), l0.length ≤ maxLen → l0.length * 8 ≤ 140737488351232 → (∀ x ∈ l0, (Lit.int .i64 x).wf = true) → (Lit.int .i64 a1).wf = true → (Lit.int .i64 a2).wf = true → ∃ k, lampblacklaw03_SweepParts.f k l0 a1 a2 = some true := by
  intro g x y _ hl _ _ _
  apply Ev.rounds
  obtain ⟨h, e, e1, e2, e3⟩ := few_eq g (by omega)
  unfold lampblacklaw03_SweepParts.f
  refine Ev.bind1 e ?_
  have stop : ∀ w (c : Int), c = 0 ∨ c = 2 → Ev (fun k => lampblacklaw03_SweepParts.j0 k g x y w c true) true := fun w c hc => by
    refine Ev.step (fun k => by rw [lampblacklaw03_SweepParts.j0, if_pos rfl]) ?_
    rcases hc with hc | hc
    · exact Ev.if_pos hc (Ev.bind awake_ev (Ev.some rfl))
    · exact Ev.if_neg (by omega) (Ev.if_pos hc (Ev.bind awake_ev (Ev.some rfl)))
  by_cases hc : chk 7 g = true
  · obtain ⟨G, rfl, hG⟩ := (chk_iff 7 (by omega) _).1 hc
    have hn := hG.most
    have e' := e
    rw [e1 hc] at e' ⊢
    obtain ⟨L, m, hL, hm, _⟩ := Layout_ev G hG
    have hm7 : m ≤ 7 := by
      obtain ⟨m', h1, h2⟩ := vs_exists hG
      rw [hm.uniq h1]; omega
    refine Ev.bind hL (Ev.if_pos rfl ?_)
    by_cases hn2 : 2 ≤ G.length
    · rw [decide_eq_false (show ¬ ((gi G).length : Int) < 2 by rw [gi_length]; omega)]
      obtain ⟨a, ha, ea⟩ := node_of x G.length (by omega) (by omega)
      obtain ⟨b, hb, eb⟩ := node_of y G.length (by omega) (by omega)
      have hz : ¬ IntKind.u64.wrap ((gi G).length : Int) = 0 := by rw [gi_length, u64_small _ (by omega) (by omega)]; omega
      refine Ev.step (fun k => by rw [lampblacklaw03_SweepParts.j0, if_neg (by simp), if_neg hz]) ?_
      simp only [gi_length, ea, eb]
      exact parts_l0 G hG m hm hm7 a b ha hb hn2 e' G.length 0 (by omega)
    · rw [decide_eq_true (show ((gi G).length : Int) < 2 by rw [gi_length]; omega)]
      exact stop _ 0 (.inl rfl)
  · have hc' : chk 7 g = false := by simpa using hc
    exact Ev.bind (Layout_bad h (by omega) (e2 hc')) (Ev.if_neg (by simp) (stop _ 2 (.inr rfl)))
end Go.Proofs.YtijfddobandcdaaDoor.Pure
end
