/- Part 2 of what WidthParts rests on: contracts of the functions that it reaches, and what they compute, in plain words. -/
import Derived.Test.YtoffehihicabcaaDoorZWidthParts0
import Derived.Test.YtoffehihicabcaaDoorZWidthParts1
section
-- by ownprint.py (wip/tool), over the kit's print
namespace Go.Proofs.YtoffehihicabcaaDoor.X
open Go.RowKit Go.Proofs.YtoffehihicabcaaDoorW.PrintWords Go.Proofs.YtoffehihicabcaaDoorW.PrintLast Go.Proofs.YtoffehihicabcaaDoorW.PrintMore
attribute [local go_sem] max2_int min2_int max_two min_two max_three min_three max_four min_four
set_option linter.unusedVariables false
set_option linter.unusedSimpArgs false

/-! ### lampblackref01_Reached: function 29 -/
mutual
def lampblackref01_Reached.l0 : Nat → List Int → Int → Int → Int → Int → Option (Int)
  | 0, _, _, _, _, _ => none
  | k + 1, x0, x1, x7, x12, x13 => if x13 < x12 then (lampblackref01_Reached.l1 k x0 x1 x7 x12 x13 (x0.length : Int) 0) else (some x7)
def lampblackref01_Reached.l1 : Nat → List Int → Int → Int → Int → Int → Int → Int → Option (Int)
  | 0, _, _, _, _, _, _, _ => none
  | k + 1, x0, x1, x7, x12, x13, x16, x17 => if x17 < x16 then (if 0 ≤ x17 then (if (Go.bits .and .i64 (shr .i64 x7 x17) 1) = 1 then (if x17 < (x0.length : Int) then (lampblackref01_Reached.l1 k x0 x1 (Go.bits .or .i64 x7 (Go.bits .and .i64 (rd x0 x17) x1)) x12 x13 x16 (wrap64 (x17 + 1))) else (none)) else (lampblackref01_Reached.l1 k x0 x1 x7 x12 x13 x16 (wrap64 (x17 + 1)))) else (none)) else (lampblackref01_Reached.l0 k x0 x1 x7 x12 (wrap64 (x13 + 1)))
end
def lampblackref01_Reached.f (k : Nat) (l0 : List Int) (a1 : Int) (a2 : Int) : Option (Int) := if 0 ≤ a2 then (lampblackref01_Reached.l0 k l0 a1 (shl .i64 1 a2) (l0.length : Int) 0) else (none)
theorem lampblackref01_Reached.mono_l : ∀ k, (∀ y0 y1 y2 y3 y4, LeO (lampblackref01_Reached.l0 k y0 y1 y2 y3 y4) (lampblackref01_Reached.l0 (k + 1) y0 y1 y2 y3 y4)) ∧ (∀ y0 y1 y2 y3 y4 y5 y6, LeO (lampblackref01_Reached.l1 k y0 y1 y2 y3 y4 y5 y6) (lampblackref01_Reached.l1 (k + 1) y0 y1 y2 y3 y4 y5 y6))
  | 0 => ⟨fun _ _ _ _ _ r h => by simp [lampblackref01_Reached.l0] at h, fun _ _ _ _ _ _ _ r h => by simp [lampblackref01_Reached.l1] at h⟩
  | k + 1 => by
    obtain ⟨ih0, ih1⟩ := lampblackref01_Reached.mono_l k
    refine ⟨?_, ?_⟩
    · intro y0 y1 y2 y3 y4
      unfold lampblackref01_Reached.l0
      repeat' first
      | (with_reducible exact ih0 _ _ _ _ _)
      | (with_reducible exact ih1 _ _ _ _ _ _ _)
      | (with_reducible exact LeO.refl _)
      | (with_reducible exact LeO.none _)
      | (with_reducible refine LeO.ite ?_ ?_)
      | (with_reducible refine LeO.bind ?_ (fun _ => ?_))
      | exact ih0 _ _ _ _ _
      | exact ih1 _ _ _ _ _ _ _
      | exact LeO.none _
      | refine LeO.ite ?_ ?_
      | refine LeO.bind ?_ (fun _ => ?_)
    · intro y0 y1 y2 y3 y4 y5 y6
      unfold lampblackref01_Reached.l1
      repeat' first
      | (with_reducible exact ih0 _ _ _ _ _)
      | (with_reducible exact ih1 _ _ _ _ _ _ _)
      | (with_reducible exact LeO.refl _)
      | (with_reducible exact LeO.none _)
      | (with_reducible refine LeO.ite ?_ ?_)
      | (with_reducible refine LeO.bind ?_ (fun _ => ?_))
      | exact ih0 _ _ _ _ _
      | exact ih1 _ _ _ _ _ _ _
      | exact LeO.none _
      | refine LeO.ite ?_ ?_
      | refine LeO.bind ?_ (fun _ => ?_)
theorem lampblackref01_Reached.mono : ∀ a0 a1 a2 k, LeO (lampblackref01_Reached.f k a0 a1 a2) (lampblackref01_Reached.f (k + 1) a0 a1 a2) := by
  intro a0 a1 a2 k
  obtain ⟨ih0, ih1⟩ := lampblackref01_Reached.mono_l k
  unfold lampblackref01_Reached.f
  repeat' first
      | (with_reducible exact ih0 _ _ _ _ _)
      | (with_reducible exact ih1 _ _ _ _ _ _ _)
      | (with_reducible exact LeO.refl _)
      | (with_reducible exact LeO.none _)
      | (with_reducible refine LeO.ite ?_ ?_)
      | (with_reducible refine LeO.bind ?_ (fun _ => ?_))
      | exact ih0 _ _ _ _ _
      | exact ih1 _ _ _ _ _ _ _
      | exact LeO.none _
      | refine LeO.ite ?_ ?_
      | refine LeO.bind ?_ (fun _ => ?_)
set_option maxHeartbeats 8000000 in
set_option maxRecDepth 100000 in
theorem lampblackref01_Reached.calls (k : Nat) (A0 : Option Addr) (c0 : Nat) (l0 : List Int) (a1 : Int) (a2 : Int) (r : Int) (w : World) (hr0 : Kd.C (Kd.int .i64) w A0 l0.length l0) (hc0 : l0.length ≤ c0) (h : lampblackref01_Reached.f k l0 a1 a2 = some r) :
    Calls Tryd.prog 29 #[.slice A0 l0.length c0, .int .i64 a1, .int .i64 a2] w fun e w' => e = .returned (.int .i64 r) ∧ Drawn0 w w' := by
  have HR0 := Aside0.mk hr0
  have HC0 := Aside0.mk hc0
  clear hr0 hc0
  have H : (if 0 ≤ a2 then (lampblackref01_Reached.l0 k l0 a1 (shl .i64 1 a2) (l0.length : Int) 0) else (none)) = some r := h
  clear h
  by_cases c4 : 0 ≤ a2
  · rw [if_pos c4] at H
    have c4b0 := eq_true c4
    have c4b1 : decide (0 ≤ a2) = true := decide_eq_true c4
    clear c4
    obtain ⟨ji5, hji5⟩ : ∃ j_ : Int, (shl .i64 1 a2) = j_ := ⟨_, rfl⟩
    replace H : (lampblackref01_Reached.l0 k l0 a1 ji5 (l0.length : Int) 0) = some r := by first | (rw [hji5] at H; exact H) | (simp only [hji5] at H ⊢; exact H)
    have hji5_ : (IntKind.i64.wrap (1 * 2 ^ min a2.toNat 64)) = ji5 := hji5
    have hji5z : a2 ≤ 64 → (IntKind.i64.wrap (1 * 2 ^ a2.toNat)) = ji5 := shl_small hji5
    have hji5u : (IntKind.i64.wrap (2 ^ min a2.toNat 64)) = ji5 := by have h_ := hji5_; rw [Int.one_mul] at h_; exact h_
    have hji5v : a2 ≤ 64 → (IntKind.i64.wrap (2 ^ a2.toNat)) = ji5 := fun hle_ => by have h_ := hji5z hle_; rw [Int.one_mul] at h_; exact h_
    have hji5y : (wrap64 (1 * 2 ^ min a2.toNat 64)) = ji5 := (i64_w _).symm.trans hji5_
    have hji5x : a2 ≤ 64 → (wrap64 (1 * 2 ^ a2.toNat)) = ji5 := fun h_ => (i64_w _).symm.trans (hji5z h_)
    have H' := Aside0.mk H
    clear H
    go_enter Tryd.func29, Tryd.ntmps29
    go_wp2
    go_loopg [7, 13] k (fun kq v7 v13 w' => ∃ (x7_1 : Int) (x13_1 : Int), v7 = .int .i64 x7_1 ∧ v13 = .int .i64 x13_1 ∧ Aside0 (lampblackref01_Reached.l0 kq l0 a1 x7_1 (l0.length : Int) x13_1 = some r) ∧ Aside0 (kq ≤ k) ∧ Drawn0 w w')
    case atStart => exact ⟨(ji5), (0), (by first | rfl | (simp; done) | (simp only [← hji5] <;> (first | rfl | simp)) | (simp [*]; done)), (by first | rfl | (simp; done) | (simp [*]; done)), H', ⟨Nat.le_refl _⟩, by repeat (first | exact Drawn0.refl _ | apply Drawn0.step)⟩
    case round =>
      clear H'
      try clear c2
      try clear p2
      try clear c4
      try clear c4b0
      try clear c4b1
      obtain ⟨x7_1, x13_1, rfl, rfl, HA, HK1, ⟨m1, rfl⟩⟩ := hrel
      cases gk with
      | zero => exact absurd HA.out (by simp [lampblackref01_Reached.l0])
      | succ k1 =>
        have H := HA.out
        clear HA
        simp only [lampblackref01_Reached.l0] at H
        by_cases c6 : x13_1 < (l0.length : Int)
        · rw [if_pos c6] at H
          have c6b0 : decide (x13_1 < (l0.length : Int)) = true := decide_eq_true c6
          clear c6
          have H' := Aside0.mk H
          clear H
          go_wp2
          go_loopg [7, 17] k1 (fun kq v7 v17 w' => ∃ (x7_2 : Int) (x17_2 : Int), v7 = .int .i64 x7_2 ∧ v17 = .int .i64 x17_2 ∧ Aside0 (lampblackref01_Reached.l1 kq l0 a1 x7_2 (l0.length : Int) x13_1 (l0.length : Int) x17_2 = some r) ∧ Aside0 (kq ≤ k1) ∧ Drawn0 w w')
          case atStart => exact ⟨(x7_1), (0), (by first | rfl | (simp; done) | (simp [*]; done)), (by first | rfl | (simp; done) | (simp [*]; done)), H', ⟨Nat.le_refl _⟩, by repeat (first | exact Drawn0.refl _ | apply Drawn0.step)⟩
          case round =>
            clear H'
            try clear c2
            try clear p2
            try clear c4
            try clear c4b0
            try clear c4b1
            try clear c6
            try clear c6b0
            try clear p6
            try clear p2
            obtain ⟨x7_2, x17_2, rfl, rfl, HA, HK2, ⟨m2, rfl⟩⟩ := hrel
            cases gk with
            | zero => exact absurd HA.out (by simp [lampblackref01_Reached.l1])
            | succ k2 =>
              have H := HA.out
              clear HA
              simp only [lampblackref01_Reached.l1] at H
              by_cases c7 : x17_2 < (l0.length : Int)
              · rw [if_pos c7] at H
                have c7b0 : decide (x17_2 < (l0.length : Int)) = true := decide_eq_true c7
                clear c7
                by_cases c8 : 0 ≤ x17_2
                · rw [if_pos c8] at H
                  have c8b0 := eq_true c8
                  have c8b1 : decide (0 ≤ x17_2) = true := decide_eq_true c8
                  clear c8
                  obtain ⟨ji9, hji9⟩ : ∃ j_ : Int, (shr .i64 x7_2 x17_2) = j_ := ⟨_, rfl⟩
                  replace H : (if (Go.bits .and .i64 (ji9) 1) = 1 then (if x17_2 < (l0.length : Int) then (lampblackref01_Reached.l1 k2 l0 a1 (Go.bits .or .i64 x7_2 (Go.bits .and .i64 (rd l0 x17_2) a1)) (l0.length : Int) x13_1 (l0.length : Int) (wrap64 (x17_2 + 1))) else (none)) else (lampblackref01_Reached.l1 k2 l0 a1 x7_2 (l0.length : Int) x13_1 (l0.length : Int) (wrap64 (x17_2 + 1)))) = some r := by first | (rw [hji9] at H; exact H) | (simp only [hji9] at H ⊢; exact H)
                  have hji9_ : (x7_2 / 2 ^ min x17_2.toNat 64) = ji9 := hji9
                  have hji9z : x17_2 ≤ 64 → (x7_2 / 2 ^ x17_2.toNat) = ji9 := shr_small hji9
                  by_cases c10 : (Go.bits .and .i64 (ji9) 1) = 1
                  · rw [if_pos c10] at H
                    have c10b0 : ((Go.bits .and .i64 (ji9) 1) == 1) = true := beq_iff_eq.mpr c10
                    have c10b1 : ((Go.bits .and .i64 (ji9) 1) != 1) = false := bne_eq_false_iff_eq.mpr c10
                    clear c10
                    by_cases c11 : x17_2 < (l0.length : Int)
                    · rw [if_pos c11] at H
                      have c11b0 : decide (x17_2 < (l0.length : Int)) = true := decide_eq_true c11
                      clear c11
                      have H' := Aside0.mk H
                      clear H
                      have p218 : 0 ≤ (x17_2 : Int) := of_decide_eq_true (by first | (with_reducible assumption) | assumption)
                      have q218 : x17_2 < (l0.length : Int) := of_decide_eq_true (by first | (with_reducible assumption) | assumption)
                      obtain ⟨ad218, e218, hx218_0⟩ := Kd.at_int HR0.out x17_2 p218 q218
                      cases e218
                      replace p218 := eq_true p218
                      replace q218 := eq_true q218
                      go_wp2
                      go_roundg k2
                      case measure => have := HK1.out; have := HK2.out; omega
                      case rel => exact ⟨(Go.bits .or .i64 x7_2 (Go.bits .and .i64 (rd l0 x17_2) a1)), (wrap64 (x17_2 + 1)), (by first | rfl | (simp; done) | (simp [*]; done)), (by first | rfl | (simp; done) | (simp [*]; done)), H', ⟨by have := HK1.out; have := HK2.out; omega⟩, by repeat (first | exact Drawn0.refl _ | apply Drawn0.step)⟩
                    · rw [if_neg c11] at H
                      exact absurd H (by simp)
                  · rw [if_neg c10] at H
                    have c10b0 : ((Go.bits .and .i64 (ji9) 1) == 1) = false := beq_eq_false_iff_ne.mpr c10
                    have c10b1 : ((Go.bits .and .i64 (ji9) 1) != 1) = true := bne_iff_ne.mpr c10
                    have H' := Aside0.mk H
                    clear H
                    go_wp2
                    go_roundg k2
                    case measure => have := HK1.out; have := HK2.out; omega
                    case rel => exact ⟨(x7_2), (wrap64 (x17_2 + 1)), (by first | rfl | (simp; done) | (simp [*]; done)), (by first | rfl | (simp; done) | (simp [*]; done)), H', ⟨by have := HK1.out; have := HK2.out; omega⟩, by repeat (first | exact Drawn0.refl _ | apply Drawn0.step)⟩
                · rw [if_neg c8] at H
                  exact absurd H (by simp)
              · rw [if_neg c7] at H
                have c7b0 : decide (x17_2 < (l0.length : Int)) = false := decide_eq_false c7
                clear c7
                have H' := Aside0.mk H
                clear H
                go_wp2
                go_roundg k2
                case measure => have := HK1.out; have := HK2.out; omega
                case rel => exact ⟨(x7_2), (wrap64 (x13_1 + 1)), (by first | rfl | (simp; done) | (simp [*]; done)), (by first | rfl | (simp; done) | (simp [*]; done)), H', ⟨by have := HK1.out; have := HK2.out; omega⟩, by repeat (first | exact Drawn0.refl _ | apply Drawn0.step)⟩
        · rw [if_neg c6] at H
          have c6b0 : decide (x13_1 < (l0.length : Int)) = false := decide_eq_false c6
          clear c6
          obtain rfl := Option.some.inj H
          go_wp2
          go_ret
          exact ⟨by first | rfl | (simp; done) | (simp only [← hji5] <;> (first | rfl | simp)) | (simp [*]; done), by repeat (first | exact Drawn0.refl _ | apply Drawn0.step)⟩
  · rw [if_neg c4] at H
    exact absurd H (by simp)

end Go.Proofs.YtoffehihicabcaaDoor.X
end
section
/- The references' own words: IsGraph, Reached. -/
set_option linter.unusedVariables false
namespace Go.Proofs.YtoffehihicabcaaDoor.X
open Go.RowKit Go.Proofs.YtoffehihicabcaaDoorW.PrintWords Go.Proofs.YtoffehihicabcaaDoorW.PrintLast Go.Proofs.YtoffehihicabcaaDoorW.PrintMore Go.Proofs.YtoffehihicabcaaDoor.T

theorem isGraph_l1 (m : Nat) (g : List Int) (hn : g.length ≤ 13) (i : Nat) (hi : i < g.length) (r : Bool)
    (hrest : Ev (fun k => lampblackref01_IsGraph.l0 k g (m : Int) g (g.length : Int) ((i + 1 : Nat) : Int)) r) :
    ∀ d j, j + d = g.length → Ev (fun k => lampblackref01_IsGraph.l1 k g (m : Int) (i : Int) (rd g (i : Int)) g (g.length : Int) (i : Int) (g.length : Int) (j : Int))
      (allFrom (fun j => decide (ibit (rd g (i : Int)) j = ibit (rd g (j : Int)) i)) g.length d j && r) := by
  intro d
  induction d with
  | zero =>
    intro j hj
    refine Ev.step (fun k => ?_) hrest
    rw [lampblackref01_IsGraph.l1, if_neg (by omega), wrap_succ i (by omega)]
  | succ d ih =>
    intro j hj
    simp only [allFrom]
    by_cases hb : ibit (rd g (i : Int)) j = ibit (rd g (j : Int)) i
    · refine Ev.step (f := fun k => lampblackref01_IsGraph.l1 k g (m : Int) (i : Int) (rd g (i : Int)) g (g.length : Int) (i : Int) (g.length : Int) ((j + 1 : Nat) : Int)) (fun k => ?_) ?_
      · rw [lampblackref01_IsGraph.l1, if_pos (by omega), if_pos (by omega), if_pos (by omega), if_pos (by omega), wrap_succ j (by omega)]
        exact if_pos hb
      · have := ih (j + 1) (by omega)
        simpa [hb] using this
    · refine Ev.step (f := fun _ => some false) (fun k => ?_) (Ev.some (by simp [hb]))
      rw [lampblackref01_IsGraph.l1, if_pos (by omega), if_pos (by omega), if_pos (by omega), if_pos (by omega)]
      exact if_neg hb

theorem isGraph_l0 (m : Nat) (hm : m ≤ 13) (g : List Int) (h1 : 1 ≤ g.length) (hn : g.length ≤ m) :
    ∀ d i, i + d = g.length → Ev (fun k => lampblackref01_IsGraph.l0 k g (m : Int) g (g.length : Int) (i : Int)) (allFrom (rowOk g) g.length d i) := by
  intro d
  induction d with
  | zero =>
    intro i hi
    refine Ev.step (f := fun _ => some true) (fun k => ?_) (Ev.some (by simp [allFrom]))
    rw [lampblackref01_IsGraph.l0, if_neg (by omega), if_pos (by omega), decide_eq_true (by omega)]
  | succ d ih =>
    intro i hi
    have stop : ∀ k, lampblackref01_IsGraph.j1 (k + 1) g (m : Int) (i : Int) (rd g (i : Int)) g (g.length : Int) (i : Int) true = some false := fun k => by
      rw [lampblackref01_IsGraph.j1, if_pos rfl]
    simp only [allFrom, rowOk]
    by_cases h1' : rd g (i : Int) < 0
    · refine Ev.step (fun k => ?_) (f := fun k => lampblackref01_IsGraph.j1 k g (m : Int) (i : Int) (rd g (i : Int)) g (g.length : Int) (i : Int) true) ?_
      · rw [lampblackref01_IsGraph.l0, if_pos (by omega), if_pos (by omega), if_pos (by omega), if_neg (by omega), if_pos h1']
      · exact Ev.step stop (Ev.some (by simp [h1']))
    · by_cases h2 : rd g (i : Int) ≥ shl .i64 1 (g.length : Int)
      · refine Ev.step (fun k => ?_) (f := fun k => lampblackref01_IsGraph.j1 k g (m : Int) (i : Int) (rd g (i : Int)) g (g.length : Int) (i : Int) true) ?_
        · rw [lampblackref01_IsGraph.l0, if_pos (by omega), if_pos (by omega), if_pos (by omega), if_neg (by omega), if_neg h1', if_pos h2]
        · exact Ev.step stop (Ev.some (by simp [h2]))
      · refine Ev.step (fun k => ?_) (f := fun k => lampblackref01_IsGraph.j1 k g (m : Int) (i : Int) (rd g (i : Int)) g (g.length : Int) (i : Int) (ibit (rd g (i : Int)) i == 1)) ?_
        · rw [lampblackref01_IsGraph.l0, if_pos (by omega), if_pos (by omega), if_pos (by omega), if_neg (by omega), if_neg h1', if_neg h2]
          rfl
        · by_cases h3 : (ibit (rd g (i : Int)) i == 1) = true
          · simp only [h3]
            exact Ev.step stop (Ev.some (by simp))
          · refine Ev.step (fun k => by rw [lampblackref01_IsGraph.j1, if_neg h3]) ?_
            have := isGraph_l1 m g (by omega) i (by omega) _ (ih (i + 1) (by omega)) g.length 0 (by omega)
            have h3' : (ibit (rd g (i : Int)) i == 1) = false := by simpa using h3
            simp only [h1', h2, h3', decide_false, Bool.not_false, Bool.true_and]
            exact this

theorem isGraph_ev (m : Nat) (hm : m ≤ 13) (g : List Int) (hg : g.length < 2 ^ 60) : Ev (fun k => lampblackref01_IsGraph.f k g (m : Int)) (chk m g) := by
  unfold lampblackref01_IsGraph.f
  by_cases h1 : 1 ≤ g.length
  · by_cases h2 : g.length ≤ m
    · have := isGraph_l0 m hm g h1 h2 g.length 0 (by omega)
      simpa [chk, h1, h2] using this
    · refine Ev.step (f := fun k => lampblackref01_IsGraph.j1 k g (m : Int) 0 (rd g 0) g (g.length : Int) 0 true) (fun k => ?_) (Ev.step (f := fun _ => some false) (fun k => ?_) (Ev.some (by simp [chk, h2])))
      · rw [lampblackref01_IsGraph.l0, if_pos (by omega), if_pos (by omega), if_pos (by omega), if_pos (by omega)]
      · rw [lampblackref01_IsGraph.j1, if_pos rfl]
  · refine Ev.step (f := fun _ => some false) (fun k => ?_) (Ev.some (by simp [chk, h1]))
    rw [lampblackref01_IsGraph.l0, if_neg (by omega), if_neg (by omega)]

/-- One round over all nodes: the set only grows, by what is connected; and if it stays, it is closed. -/
theorem reached_l1 (m : Nat) (G : List Nat) (hG : Gr m G) (hm : m ≤ 13) (w : Nat) (hw : w < 2 ^ G.length) (c : Nat) (x0 : Nat) (Q : Int → Prop)
    (cont : ∀ x' : Nat, x' < 2 ^ G.length → (∀ j, bset x0 j → bset x' j) → (∀ s, (∀ j, bset x0 j → Con (Adj G) (bset w) s j) → ∀ j, bset x' j → Con (Adj G) (bset w) s j) → (∀ i j, bset x0 i → Adj G i j → bset w j → bset x' j) →
      ∃ r, Ev (fun k => lampblackref01_Reached.l0 k (gi G) (w : Int) (x' : Int) (G.length : Int) ((c + 1 : Nat) : Int)) r ∧ Q r) (hc : c < 2 ^ 50) :
    ∀ d i (x : Nat), i + d = G.length → x < 2 ^ G.length → (∀ j, bset x0 j → bset x j) → (∀ s, (∀ j, bset x0 j → Con (Adj G) (bset w) s j) → ∀ j, bset x j → Con (Adj G) (bset w) s j) →
      (∀ i' j, i' < i → bset x0 i' → Adj G i' j → bset w j → bset x j) →
      ∃ r, Ev (fun k => lampblackref01_Reached.l1 k (gi G) (w : Int) (x : Int) (G.length : Int) (c : Int) (G.length : Int) (i : Int)) r ∧ Q r := by
  have p62 : ∀ y : Nat, y < 2 ^ G.length → y < 2 ^ 62 := fun y hy => Nat.lt_trans hy (Nat.pow_lt_pow_right (by omega) (by have := hG.most; omega))
  have hmost := hG.most
  intro d
  induction d with
  | zero =>
    intro i x hi hx h1 h2 h3
    obtain ⟨r, e1, e2⟩ := cont x hx h1 h2 (fun i' j hi' ha hj => h3 i' j (by have := hG.adj_lt' ha; omega) hi' ha hj)
    refine ⟨r, Ev.step (fun k => ?_) e1, e2⟩
    rw [lampblackref01_Reached.l1, if_neg (by omega), wrap_succ c (by omega)]
  | succ d ih =>
    intro i x hi hx h1 h2 h3
    by_cases hb : x.testBit i = true
    · have hrow := hG.row i
      have hA : G.getD i 0 &&& w < 2 ^ G.length := Nat.lt_of_le_of_lt Nat.and_le_left hrow
      obtain ⟨r, e1, e2⟩ := ih (i + 1) (x ||| (G.getD i 0 &&& w)) (by omega) (or_lt hx hA) (fun j hj => (or_bset _ _ _).2 (.inl (h1 j hj)))
        (fun s hs j hj => by
          rcases (or_bset _ _ _).1 hj with h | h
          · exact h2 s hs j h
          · obtain ⟨ha, hb'⟩ := (and_bset _ _ _).1 h
            exact .step (h2 s hs i hb) ha hb')
        (fun i' j hi' hx0 ha hj => by
          by_cases e : i' = i
          · subst e; exact (or_bset _ _ _).2 (.inr ((and_bset _ _ _).2 ⟨ha, hj⟩))
          · exact (or_bset _ _ _).2 (.inl (h3 i' j (by omega) hx0 ha hj)))
      refine ⟨r, Ev.step (fun k => ?_) e1, e2⟩
      rw [lampblackref01_Reached.l1, if_pos (by omega), if_pos (by omega), if_pos ((bit_one x i (p62 x hx) (by omega)).2 hb), if_pos (by rw [gi_length]; omega), rd_gi,
        b_and _ _ (p62 _ hrow) (p62 _ hw), b_or _ _ (p62 _ hx) (p62 _ hA), wrap_succ i (by omega)]
    · obtain ⟨r, e1, e2⟩ := ih (i + 1) x (by omega) hx h1 h2
        (fun i' j hi' hx0 ha hj => by
          by_cases e : i' = i
          · subst e; exact (hb (h1 _ hx0)).elim
          · exact h3 i' j (by omega) hx0 ha hj)
      refine ⟨r, Ev.step (fun k => ?_) e1, e2⟩
      rw [lampblackref01_Reached.l1, if_pos (by omega), if_pos (by omega), if_neg (fun h => hb ((bit_one x i (p62 x hx) (by omega)).1 h)), wrap_succ i (by omega)]

theorem reached_l0 (m : Nat) (G : List Nat) (hG : Gr m G) (hm : m ≤ 13) (w v : Nat) (hw : w < 2 ^ G.length) (hv : v < G.length) :
    ∀ d c (x : Nat), c + d = G.length → x < 2 ^ G.length → bset x v → (∀ j, bset x j → Con (Adj G) (bset w) (bset (2 ^ v)) j) →
      ((∀ i j, bset x i → Adj G i j → bset w j → bset x j) ∨ c + 1 ≤ pc x G.length) →
      ∃ r, Ev (fun k => lampblackref01_Reached.l0 k (gi G) (w : Int) (x : Int) (G.length : Int) (c : Int)) r ∧ r = ((conset G (2 ^ v) w : Nat) : Int) := by
  have hp : 2 ^ v < 2 ^ G.length := Nat.pow_lt_pow_right (by omega) hv
  have hmost := hG.most
  intro d
  induction d with
  | zero =>
    intro c x hc hx hv' h1 h2
    refine ⟨(x : Int), Ev.step (f := fun _ => some (x : Int)) (fun k => ?_) (Ev.some rfl), ?_⟩
    · rw [lampblackref01_Reached.l0, if_neg (by omega)]
    · have hcl : ∀ i j, bset x i → Adj G i j → bset w j → bset x j := by
        rcases h2 with h | h
        · exact h
        · have := pc_le x G.length; omega
      congr 1
      exact conset_eq hG hp hx (fun j hj => by rw [(two_pow_bit v j).1 hj]; exact hv') h1 hcl
  | succ d ih =>
    intro c x hc hx hv' h1 h2
    obtain ⟨r, e1, e2⟩ := reached_l1 m G hG hm w hw c x (fun r => r = ((conset G (2 ^ v) w : Nat) : Int))
      (fun x' hx' g1 g2 g3 => by
        refine ih (c + 1) x' (by omega) hx' (g1 v hv') (g2 _ h1) ?_
        by_cases hcl : ∀ i j, bset x i → Adj G i j → bset w j → bset x j
        · -- closed: nothing came
          refine .inl fun i j hi ha hj => ?_
          have key : ∀ u, Con (Adj G) (bset w) (bset x) u → bset x u := fun u hu => by
            induction hu with
            | base h => exact h
            | step _ a b ih => exact hcl _ _ ih a b
          have this : ∀ j, bset x' j → bset x j := fun j hj => key j (g2 (bset x) (fun j hj => .base hj) j hj)
          exact g1 _ (hcl i j (this i hi) ha hj)
        · right
          have hcount : c + 1 ≤ pc x G.length := h2.resolve_left hcl
          have : ∃ i j, bset x i ∧ Adj G i j ∧ bset w j ∧ ¬ bset x j := Classical.byContradiction fun hno => hcl fun i j a b c => Classical.byContradiction fun h => hno ⟨i, j, a, b, c, h⟩
          obtain ⟨i, j, a, b, c', h⟩ := this
          have hj : x.testBit j = false := by unfold bset at h; simpa using h
          have := pc_lt (x := x) (y := x') j G.length (fun q _ hq => g1 q hq) (hG.adj_lt b) hj (g3 i j a b c')
          omega) (by omega) G.length 0 x (by omega) hx (fun _ h => h) (fun s hs j hj => hs j hj) (fun i' j hi' => by omega)
    refine ⟨r, Ev.step (fun k => ?_) e1, e2⟩
    rw [lampblackref01_Reached.l0, if_pos (by omega), gi_length]
    rfl

/-- What is reached from a node within a set: what is connected with it. -/
theorem reached_ev (m : Nat) (G : List Nat) (hG : Gr m G) (hm : m ≤ 13) (w v : Nat) (hw : w < 2 ^ G.length) (hv : v < G.length) :
    Ev (fun k => lampblackref01_Reached.f k (gi G) (w : Int) (v : Int)) ((conset G (2 ^ v) w : Nat) : Int) := by
  have hp : 2 ^ v < 2 ^ G.length := Nat.pow_lt_pow_right (by omega) hv
  have hmost := hG.most
  have h1 : 1 ≤ pc (2 ^ v) G.length := by
    have := pc_lt (x := 0) (y := 2 ^ v) v G.length (fun j _ h => by simp at h) hv (by simp) ((two_pow_bit v v).2 rfl)
    omega
  obtain ⟨r, e1, e2⟩ := reached_l0 m G hG hm w v hw hv G.length 0 (2 ^ v) (by omega) hp ((two_pow_bit v v).2 rfl) (fun j hj => .base hj) (.inr h1)
  subst e2
  unfold lampblackref01_Reached.f
  refine Ev.if_pos (by omega) ?_
  rw [s_one v (by omega), gi_length]
  exact e1
end Go.Proofs.YtoffehihicabcaaDoor.X
end
section
/- What read tells: a graph that is valid, or nothing. -/
set_option linter.unusedVariables false
namespace Go.Proofs.YtoffehihicabcaaDoor.X
open Go.RowKit Go.Proofs.YtoffehihicabcaaDoorW.PrintWords Go.Proofs.YtoffehihicabcaaDoorW.PrintLast Go.Proofs.YtoffehihicabcaaDoorW.PrintMore Go.Proofs.YtoffehihicabcaaDoor.T

theorem read_l1 (g : List Int) (hn : g.length ≤ 9) (i : Nat) (hi : i < g.length) (r : List Int × Bool)
    (hrest : Ev (fun k => width_read.l0 k g (g.length : Int) g (g.length : Int) ((i + 1 : Nat) : Int)) r) :
    ∀ d j, j + d = g.length → Ev (fun k => width_read.l1 k g (g.length : Int) (i : Int) (rd g (i : Int)) g (g.length : Int) (i : Int) (g.length : Int) (j : Int))
      (cond (allFrom (fun j => decide (ibit (rd g (i : Int)) j = ibit (rd g (j : Int)) i)) g.length d j) r (([] : List Int), false)) := by
  intro d
  induction d with
  | zero =>
    intro j hj
    refine Ev.step (fun k => ?_) hrest
    rw [width_read.l1, if_neg (by omega), wrap_succ i (by omega)]
  | succ d ih =>
    intro j hj
    simp only [allFrom]
    by_cases hb : ibit (rd g (i : Int)) j = ibit (rd g (j : Int)) i
    · refine Ev.step (f := fun k => width_read.l1 k g (g.length : Int) (i : Int) (rd g (i : Int)) g (g.length : Int) (i : Int) (g.length : Int) ((j + 1 : Nat) : Int)) (fun k => ?_) ?_
      · rw [width_read.l1, if_pos (by omega), if_pos (by omega), if_pos (by omega), if_pos (by omega), wrap_succ j (by omega)]
        exact if_pos hb
      · have := ih (j + 1) (by omega)
        simpa [hb] using this
    · refine Ev.step (f := fun _ => some (([] : List Int), false)) (fun k => ?_) (Ev.some (by simp [hb]))
      rw [width_read.l1, if_pos (by omega), if_pos (by omega), if_pos (by omega), if_pos (by omega)]
      exact if_neg hb

theorem read_l0 (g : List Int) (hn : g.length ≤ 9) :
    ∀ d i, i + d = g.length → Ev (fun k => width_read.l0 k g (g.length : Int) g (g.length : Int) (i : Int)) (cond (allFrom (rowOk g) g.length d i) (g, true) (([] : List Int), false)) := by
  intro d
  induction d with
  | zero =>
    intro i hi
    refine Ev.step (f := fun _ => some (g, true)) (fun k => ?_) (Ev.some (by simp [allFrom]))
    rw [width_read.l0, if_neg (by omega)]
  | succ d ih =>
    intro i hi
    have stop : ∀ k, width_read.j2 (k + 1) g (g.length : Int) (i : Int) (rd g (i : Int)) g (g.length : Int) (i : Int) true = some (([] : List Int), false) := fun k => by
      rw [width_read.j2, if_pos rfl]
    simp only [allFrom, rowOk]
    by_cases h1 : rd g (i : Int) < 0
    · refine Ev.step (fun k => ?_) (f := fun k => width_read.j2 k g (g.length : Int) (i : Int) (rd g (i : Int)) g (g.length : Int) (i : Int) true) ?_
      · rw [width_read.l0, if_pos (by omega), if_pos (by omega), if_pos (by omega), if_pos h1]
      · exact Ev.step stop (Ev.some (by simp [h1]))
    · by_cases h2 : rd g (i : Int) ≥ shl .i64 1 (g.length : Int)
      · refine Ev.step (fun k => ?_) (f := fun k => width_read.j2 k g (g.length : Int) (i : Int) (rd g (i : Int)) g (g.length : Int) (i : Int) true) ?_
        · rw [width_read.l0, if_pos (by omega), if_pos (by omega), if_pos (by omega), if_neg h1, if_pos (by omega), if_pos h2]
        · exact Ev.step stop (Ev.some (by simp [h2]))
      · refine Ev.step (fun k => ?_) (f := fun k => width_read.j2 k g (g.length : Int) (i : Int) (rd g (i : Int)) g (g.length : Int) (i : Int) (ibit (rd g (i : Int)) i == 1)) ?_
        · rw [width_read.l0, if_pos (by omega), if_pos (by omega), if_pos (by omega), if_neg h1, if_pos (by omega), if_neg h2]
          rfl
        · by_cases h3 : (ibit (rd g (i : Int)) i == 1) = true
          · simp only [h3]
            exact Ev.step stop (Ev.some (by simp))
          · refine Ev.step (fun k => by rw [width_read.j2, if_neg h3]) ?_
            have := read_l1 g hn i (by omega) _ (ih (i + 1) (by omega)) g.length 0 (by omega)
            have h3' : (ibit (rd g (i : Int)) i == 1) = false := by simpa using h3
            simp only [h1, h2, h3', decide_false, Bool.not_false, Bool.true_and]
            cases h4 : allFrom (fun j => decide (ibit (rd g (i : Int)) j = ibit (rd g (j : Int)) i)) g.length g.length 0
            · simpa [h4] using this
            · simpa [h4] using this

theorem read_ev (g : List Int) (hg : g.length < 2 ^ 60) : Ev (fun k => width_read.f k g) (cond (chk 9 g) (g, true) (([] : List Int), false)) := by
  have stop : ∀ k, width_read.j0 (k + 1) g (g.length : Int) true = some (([] : List Int), false) := fun k => by
    rw [width_read.j0, if_pos rfl]
  by_cases h1 : g.length < 1
  · refine Ev.congr (f := fun k => width_read.j0 k g (g.length : Int) true) (fun k => ?_) (Ev.step stop (Ev.some ?_))
    · rw [width_read.f, if_pos (by omega)]
    · have : ¬ 1 ≤ g.length := by omega
      simp [chk, this]
  · refine Ev.congr (f := fun k => width_read.j0 k g (g.length : Int) (decide ((g.length : Int) > 9))) (fun k => ?_) ?_
    · rw [width_read.f, if_neg (by omega)]
    · by_cases h2 : g.length ≤ 9
      · have e : decide ((g.length : Int) > 9) = false := decide_eq_false (by omega)
        rw [e]
        refine Ev.step (fun k => by rw [width_read.j0, if_neg (by simp)]) ?_
        have := read_l0 g h2 g.length 0 (by omega)
        have h3 : decide (1 ≤ g.length) = true := decide_eq_true (by omega)
        simpa [chk, h2, h3] using this
      · have e : decide ((g.length : Int) > 9) = true := decide_eq_true (by omega)
        rw [e]
        refine Ev.step stop (Ev.some ?_)
        simp [chk, h2]
end Go.Proofs.YtoffehihicabcaaDoor.X
end
section
-- by ownprint.py (wip/tool), over the kit's print
namespace Go.Proofs.YtoffehihicabcaaDoor.X
open Go.RowKit Go.Proofs.YtoffehihicabcaaDoorW.PrintWords Go.Proofs.YtoffehihicabcaaDoorW.PrintLast Go.Proofs.YtoffehihicabcaaDoorW.PrintMore
attribute [local go_sem] max2_int min2_int max_two min_two max_three min_three max_four min_four
set_option linter.unusedVariables false
set_option linter.unusedSimpArgs false

/-! ### width_town_connected: function 63 -/
def width_town_connected.f (k : Nat) (l0 : List Int) (a1 : Int) : Option (Bool) := if a1 = 0 then (some false) else ((width_town_part.f k l0 (Go.bits .and .i64 a1 (wrap64 (-a1))) a1).bind fun t204 => (some (t204 == a1)))
theorem width_town_connected.mono : ∀ a0 a1 k, LeO (width_town_connected.f k a0 a1) (width_town_connected.f (k + 1) a0 a1) := by
  intro a0 a1 k
  unfold width_town_connected.f
  repeat' first
      | (with_reducible exact width_town_part.mono _ _ _ _)
      | (with_reducible exact LeO.refl _)
      | (with_reducible exact LeO.none _)
      | (with_reducible refine LeO.ite ?_ ?_)
      | (with_reducible refine LeO.bind ?_ (fun _ => ?_))
      | exact width_town_part.mono _ _ _ _
      | exact LeO.none _
      | refine LeO.ite ?_ ?_
      | refine LeO.bind ?_ (fun _ => ?_)
set_option maxHeartbeats 8000000 in
set_option maxRecDepth 100000 in
theorem width_town_connected.calls (k : Nat) (A0 : Option Addr) (c0 : Nat) (l0 : List Int) (a1 : Int) (r : Bool) (w : World) (hGL : GL w) (hr0 : Kd.C (Kd.int .i64) w A0 l0.length l0) (hc0 : l0.length ≤ c0) (h : width_town_connected.f k l0 a1 = some r) :
    Calls Tryd.prog 63 #[.slice A0 l0.length c0, .int .i64 a1] w fun e w' => e = .returned (.bool r) ∧ Below w.heap.size w w' := by
  have HGL := Aside0.mk hGL
  clear hGL
  have HR0 := Aside0.mk hr0
  have HC0 := Aside0.mk hc0
  clear hr0 hc0
  have HB := Aside0.mk (Below.refl w.heap.size w)
  have H : (if a1 = 0 then (some false) else ((width_town_part.f k l0 (Go.bits .and .i64 a1 (wrap64 (-a1))) a1).bind fun t204 => (some (t204 == a1)))) = some r := h
  clear h
  by_cases c3 : a1 = 0
  · rw [if_pos c3] at H
    have c3b0 : (a1 == 0) = true := beq_iff_eq.mpr c3
    have c3b1 : (a1 != 0) = false := bne_eq_false_iff_eq.mpr c3
    clear c3
    obtain rfl := Option.some.inj H
    go_enter Tryd.func63, Tryd.ntmps63
    go_wp2
    go_ret
    exact ⟨by first | rfl | (simp [errW_none, errW_some] <;> rfl) | (simp [*, errW_none, errW_some] <;> rfl), by repeat (first | (with_reducible first | exact HB.out | apply below_alloc | apply pw_below_drewN | apply below_drew1) | exact HB.out)⟩
  · rw [if_neg c3] at H
    have c3b0 : (a1 == 0) = false := beq_eq_false_iff_ne.mpr c3
    have c3b1 : (a1 != 0) = true := bne_iff_ne.mpr c3
    replace H := Option.bind_eq_some_iff.mp H
    obtain ⟨t204, A40, H⟩ := H
    replace H : (some (t204 == a1)) = some r := H
    have A4 := Aside0.mk A40
    clear A40
    obtain rfl := Option.some.inj H
    go_enter Tryd.func63, Tryd.ntmps63
    go_wp2_with (first | (go_at_call 92; (with_reducible refine (width_town_part.calls (hGL := (by repeat (first | (with_reducible exact HGL.out) | (with_reducible exact GL_below HGL.out HB.out) | (with_reducible refine GL_alloc ?_ _) | (with_reducible refine GL_drewN ?_ _) | (with_reducible refine GL_drew ?_)))) k _ _ l0 (Go.bits .and .i64 a1 (wrap64 (-a1))) a1 t204 _ ?side1 ?side2 A4.out).mono ?_); (case side1 => repeat (first | exact HR0.out | (with_reducible refine Kd.C_alloc ?_ _) | (with_reducible refine Kd.C_drewN ?_ _) | (with_reducible refine Kd.C_drew ?_))); (case side2 => exact HC0.out); rintro e w5 ⟨rfl, hb⟩; have n0_ := Aside0.mk (below_step (by repeat (first | (with_reducible first | exact HB.out | apply below_alloc | apply pw_below_drewN | apply below_drew1) | exact HB.out)) hb); clear HB; have HB := n0_; clear n0_; (try clear hb); (try clear hb2); (try clear hk); (try clear hi)))
    go_ret
    exact ⟨by first | rfl | (simp [errW_none, errW_some] <;> rfl) | (simp [*, errW_none, errW_some] <;> rfl), by repeat (first | (with_reducible first | exact HB.out | apply below_alloc | apply pw_below_drewN | apply below_drew1) | exact HB.out)⟩

end Go.Proofs.YtoffehihicabcaaDoor.X
end
section
-- by ownprint.py (wip/tool), over the kit's print
namespace Go.Proofs.YtoffehihicabcaaDoor.X
open Go.RowKit Go.Proofs.YtoffehihicabcaaDoorW.PrintWords Go.Proofs.YtoffehihicabcaaDoorW.PrintLast Go.Proofs.YtoffehihicabcaaDoorW.PrintMore
attribute [local go_sem] max2_int min2_int max_two min_two max_three min_three max_four min_four
set_option linter.unusedVariables false
set_option linter.unusedSimpArgs false

/-! ### width_town_touch: function 64 -/
def width_town_touch.f (k : Nat) (l0 : List Int) (a1 : Int) (a2 : Int) : Option (Bool) := (width_town_around.f k l0 a1).bind fun t205 => (some ((Go.bits .and .i64 (Go.bits .or .i64 a1 t205) a2) != 0))
theorem width_town_touch.mono : ∀ a0 a1 a2 k, LeO (width_town_touch.f k a0 a1 a2) (width_town_touch.f (k + 1) a0 a1 a2) := by
  intro a0 a1 a2 k
  unfold width_town_touch.f
  repeat' first
      | (with_reducible exact width_town_around.mono _ _ _)
      | (with_reducible exact LeO.refl _)
      | (with_reducible exact LeO.none _)
      | (with_reducible refine LeO.ite ?_ ?_)
      | (with_reducible refine LeO.bind ?_ (fun _ => ?_))
      | exact width_town_around.mono _ _ _
      | exact LeO.none _
      | refine LeO.ite ?_ ?_
      | refine LeO.bind ?_ (fun _ => ?_)
set_option maxHeartbeats 8000000 in
set_option maxRecDepth 100000 in
theorem width_town_touch.calls (k : Nat) (A0 : Option Addr) (c0 : Nat) (l0 : List Int) (a1 : Int) (a2 : Int) (r : Bool) (w : World) (hGL : GL w) (hr0 : Kd.C (Kd.int .i64) w A0 l0.length l0) (hc0 : l0.length ≤ c0) (h : width_town_touch.f k l0 a1 a2 = some r) :
    Calls Tryd.prog 64 #[.slice A0 l0.length c0, .int .i64 a1, .int .i64 a2] w fun e w' => e = .returned (.bool r) ∧ Below w.heap.size w w' := by
  have HGL := Aside0.mk hGL
  clear hGL
  have HR0 := Aside0.mk hr0
  have HC0 := Aside0.mk hc0
  clear hr0 hc0
  have HB := Aside0.mk (Below.refl w.heap.size w)
  have H : ((width_town_around.f k l0 a1).bind fun t205 => (some ((Go.bits .and .i64 (Go.bits .or .i64 a1 t205) a2) != 0))) = some r := h
  clear h
  replace H := Option.bind_eq_some_iff.mp H
  obtain ⟨t205, A40, H⟩ := H
  replace H : (some ((Go.bits .and .i64 (Go.bits .or .i64 a1 t205) a2) != 0)) = some r := H
  have A4 := Aside0.mk A40
  clear A40
  obtain rfl := Option.some.inj H
  go_enter Tryd.func64, Tryd.ntmps64
  go_wp2_with (first | ((with_reducible refine gate_callee (f := 93) rfl ?_); refine goesL_ (some 10) rfl rfl Tryd.func93 (by kernel_rfl) rfl #[.slice A0 l0.length c0, .int .i64 a1] rfl (by (try simp only [List.map_toArray, List.map_cons, List.map_nil]); first | done | rfl | (simp only [List.length_drop, List.length_take]; rfl)) ?_; (with_reducible refine (width_town_around.calls (hGL := (by repeat (first | (with_reducible exact HGL.out) | (with_reducible exact GL_below HGL.out HB.out) | (with_reducible refine GL_alloc ?_ _) | (with_reducible refine GL_drewN ?_ _) | (with_reducible refine GL_drew ?_)))) k _ _ l0 a1 t205 _ ?side1 ?side2 A4.out).mono ?_); (case side1 => repeat (first | exact HR0.out | (with_reducible refine Kd.C_alloc ?_ _) | (with_reducible refine Kd.C_drewN ?_ _) | (with_reducible refine Kd.C_drew ?_))); (case side2 => exact HC0.out); rintro e w5 ⟨rfl, hb⟩; refine ⟨_, rfl, ?_⟩; have n0_ := Aside0.mk (below_step (by repeat (first | (with_reducible first | exact HB.out | apply below_alloc | apply pw_below_drewN | apply below_drew1) | exact HB.out)) hb); clear HB; have HB := n0_; clear n0_; (try clear hb); (try clear hb2); (try clear hk); (try clear hi)))
  go_ret
  exact ⟨by first | rfl | (simp [errW_none, errW_some] <;> rfl) | (simp [*, errW_none, errW_some] <;> rfl), by repeat (first | (with_reducible first | exact HB.out | apply below_alloc | apply pw_below_drewN | apply below_drew1) | exact HB.out)⟩

end Go.Proofs.YtoffehihicabcaaDoor.X
end
section
-- by ownprint.py (wip/tool), over the kit's print
namespace Go.Proofs.YtoffehihicabcaaDoor.X
open Go.RowKit Go.Proofs.YtoffehihicabcaaDoorW.PrintWords Go.Proofs.YtoffehihicabcaaDoorW.PrintLast Go.Proofs.YtoffehihicabcaaDoorW.PrintMore
attribute [local go_sem] max2_int min2_int max_two min_two max_three min_three max_four min_four
set_option linter.unusedVariables false
set_option linter.unusedSimpArgs false

/-! ### width_town_set: function 62 -/
def width_town_set.f (l0 : List Int) (a1 : Int) : Option (Bool) := if a1 ≥ 0 then ((width_town_all.f l0).bind fun t203 => (some (decide (a1 ≤ t203)))) else (some false)
set_option maxHeartbeats 8000000 in
set_option maxRecDepth 100000 in
theorem width_town_set.calls (A0 : Option Addr) (c0 : Nat) (l0 : List Int) (a1 : Int) (r : Bool) (w : World) (hr0 : Kd.C (Kd.int .i64) w A0 l0.length l0) (hc0 : l0.length ≤ c0) (h : width_town_set.f l0 a1 = some r) :
    Calls Tryd.prog 62 #[.slice A0 l0.length c0, .int .i64 a1] w fun e w' => e = .returned (.bool r) ∧ Drawn0 w w' := by
  have HR0 := Aside0.mk hr0
  have HC0 := Aside0.mk hc0
  clear hr0 hc0
  have H : (if a1 ≥ 0 then ((width_town_all.f l0).bind fun t203 => (some (decide (a1 ≤ t203)))) else (some false)) = some r := h
  clear h
  by_cases c3 : a1 ≥ 0
  · rw [if_pos c3] at H
    have c3b0 : decide (0 ≤ a1) = true := decide_eq_true c3
    clear c3
    replace H := Option.bind_eq_some_iff.mp H
    obtain ⟨t203, A40, H⟩ := H
    replace H : (some (decide (a1 ≤ t203))) = some r := H
    have A4 := Aside0.mk A40
    clear A40
    obtain rfl := Option.some.inj H
    go_enter Tryd.func62, Tryd.ntmps62
    go_wp2_with (first | (go_at_call 67; (with_reducible refine (width_town_all.calls _ _ l0 t203 _ ?side1 ?side2 A4.out).mono ?_); (case side1 => repeat (first | exact HR0.out | (with_reducible refine Kd.C_alloc ?_ _) | (with_reducible refine Kd.C_drewN ?_ _) | (with_reducible refine Kd.C_drew ?_))); (case side2 => exact HC0.out); rintro e w' ⟨rfl, ⟨nd, rfl⟩⟩))
    go_ret
    exact ⟨by first | rfl | (simp; done) | (simp [*]; done), by repeat (first | exact Drawn0.refl _ | apply Drawn0.step)⟩
  · rw [if_neg c3] at H
    have c3b0 : decide (0 ≤ a1) = false := decide_eq_false c3
    clear c3
    obtain rfl := Option.some.inj H
    go_enter Tryd.func62, Tryd.ntmps62
    go_wp2
    go_ret
    exact ⟨by first | rfl | (simp; done) | (simp [*]; done), by repeat (first | exact Drawn0.refl _ | apply Drawn0.step)⟩

end Go.Proofs.YtoffehihicabcaaDoor.X
end
section
/- nodes, count, around, part, degree: what they compute, in plain words. -/
set_option linter.unusedVariables false
namespace Go.Proofs.YtoffehihicabcaaDoor.X
open Go.RowKit Go.Proofs.YtoffehihicabcaaDoorW.PrintWords Go.Proofs.YtoffehihicabcaaDoorW.PrintLast Go.Proofs.YtoffehihicabcaaDoorW.PrintMore Go.Proofs.YtoffehihicabcaaDoor.T

theorem nodes_all : ∀ x : Fin 512, width_nodes.f 12 (x.val : Int) = some (gi (els x.val 9)) := by decide +kernel
theorem nodes_ev (x : Nat) (hx : x < 512) : Ev (fun k => width_nodes.f k (x : Int)) (gi (els x 9)) :=
  Ev.of (width_nodes.mono _) (nodes_all ⟨x, hx⟩)
theorem count_all : ∀ x : Fin 512, width_count.f (x.val : Int) = some (pc x.val 9 : Int) := by decide +kernel
theorem count_eq (x : Nat) (hx : x < 512) : width_count.f (x : Int) = some (pc x 9 : Int) := count_all ⟨x, hx⟩
theorem low_all : ∀ x : Fin 512, 0 < x.val → ∃ v : Fin 9, Go.bits .and .i64 (x.val : Int) (wrap64 (-(x.val : Int))) = ((2 ^ v.val : Nat) : Int) ∧ x.val.testBit v.val = true := by decide +kernel
theorem low_ev (x : Nat) (hx : x < 512) (h0 : 0 < x) : ∃ v, v < 9 ∧ Go.bits .and .i64 (x : Int) (wrap64 (-(x : Int))) = ((2 ^ v : Nat) : Int) ∧ x.testBit v = true := by
  obtain ⟨v, h1, h2⟩ := low_all ⟨x, hx⟩ h0
  exact ⟨v.val, v.isLt, h1, h2⟩

theorem small (G : List Nat) (h : G.length ≤ 9) {x : Nat} (hx : x < 2 ^ G.length) : x < 512 := Nat.lt_of_lt_of_le hx (show 2 ^ G.length ≤ 2 ^ 9 from Nat.pow_le_pow_right (by omega) h)
theorem big {x : Nat} (h : x < 512) : x < 2 ^ 62 := by omega

theorem around_l0 (G : List Nat) (hG : Gr 9 G) (L : List Nat) (hL : ∀ x ∈ L, x < G.length) (hLl : L.length ≤ 100) : ∀ d i (o : Nat), i + d = L.length → o < 2 ^ G.length →
    ∃ r : Nat, Ev (fun k => width_town_around.l0 k (gi G) (o : Int) (gi L) (L.length : Int) (i : Int)) (r : Int) ∧ r < 2 ^ G.length ∧ ∀ j, bset r j ↔ bset o j ∨ ∃ x, x ∈ L.drop i ∧ Adj G x j := by
  intro d
  induction d with
  | zero =>
    intro i o hi ho
    refine ⟨o, Ev.step (f := fun _ => some (o : Int)) (fun k => ?_) (Ev.some rfl), ho, fun j => ?_⟩
    · rw [width_town_around.l0, if_neg (by omega)]
    · rw [List.drop_eq_nil_of_le (by omega)]; simp
  | succ d ih =>
    intro i o hi ho
    have hi' : i < L.length := by omega
    have hm := hL _ (List.getElem_mem hi')
    have hr : rd (gi L) (i : Int) = ((L[i] : Nat) : Int) := by rw [rd_gi, List.getD_eq_getElem?_getD, List.getElem?_eq_getElem hi']; rfl
    have hrow := hG.row L[i]
    have ho2 : o ||| G.getD L[i] 0 < 2 ^ G.length := or_lt ho hrow
    obtain ⟨r, h1, h2, h3⟩ := ih (i + 1) (o ||| G.getD L[i] 0) (by omega) ho2
    refine ⟨r, Ev.step (fun k => ?_) h1, h2, fun j => ?_⟩
    · rw [width_town_around.l0, if_pos (by omega), if_pos (by omega), if_pos (by rw [gi_length]; omega), hr, if_pos (by omega), if_pos (by rw [gi_length]; omega), rd_gi,
        b_or _ _ (big (small G hG.most ho)) (big (small G hG.most hrow)), wrap_succ i (by omega)]
    · rw [h3, or_bset, List.drop_eq_getElem_cons hi']
      constructor
      · rintro ((h | h) | ⟨x, hx, ha⟩)
        · exact .inl h
        · exact .inr ⟨_, List.mem_cons_self, h⟩
        · exact .inr ⟨x, List.mem_cons_of_mem _ hx, ha⟩
      · rintro (h | ⟨x, hx, ha⟩)
        · exact .inl (.inl h)
        · rcases List.mem_cons.1 hx with h | h
          · subst h; exact .inl (.inr ha)
          · exact .inr ⟨x, h, ha⟩

theorem around_ev (G : List Nat) (hG : Gr 9 G) (s : Nat) (hs : s < 2 ^ G.length) : Ev (fun k => width_town_around.f k (gi G) (s : Int)) ((Around G s : Nat) : Int) := by
  have hs5 := small G hG.most hs
  obtain ⟨r, h1, h2, h3⟩ := around_l0 G hG (els s 9) (fun x hx => bit_lt hs (mem_els.1 hx).2) (by rw [els_length]; have := pc_le s 9; omega) (els s 9).length 0 0 (by omega) (Nat.two_pow_pos _)
  have e : r = Around G s := eq_of_bits fun j => by
    have hh := h3 j
    rw [Around_bit hG]
    unfold bset at hh
    rw [hh]
    constructor
    · rintro (h | ⟨x, hx, ha⟩)
      · simp at h
      · exact ⟨x, (mem_els.1 hx).2, ha⟩
    · rintro ⟨x, hx, ha⟩
      exact .inr ⟨x, mem_els.2 ⟨Nat.lt_of_lt_of_le (bit_lt hs hx) hG.most, hx⟩, ha⟩
  subst e
  refine Ev.bind (nodes_ev s hs5) ?_
  rw [gi_length]
  exact h1

theorem part_l0 (G : List Nat) (hG : Gr 9 G) (s w : Nat) (hs : s < 2 ^ G.length) (hw : w < 2 ^ G.length) : ∀ d x, 2 ^ G.length - x = d → x < 2 ^ G.length → (∀ j, bset s j → bset x j) → (∀ j, bset x j → Con (Adj G) (bset w) (bset s) j) →
    Ev (fun k => width_town_part.l0 k (gi G) (x : Int) (w : Int)) ((conset G s w : Nat) : Int) := by
  intro d
  induction d using Nat.strongRecOn with
  | _ d ih =>
    intro x hd hx h1 h2
    have hA := Around_lt hG x
    have hb : Go.bits .or .i64 (x : Int) (Go.bits .and .i64 ((Around G x : Nat) : Int) (w : Int)) = ((x ||| (Around G x &&& w) : Nat) : Int) := by
      rw [b_and _ _ (big (small G hG.most hA)) (big (small G hG.most hw)), b_or _ _ (big (small G hG.most hx)) (Nat.lt_of_le_of_lt Nat.and_le_left (big (small G hG.most hA)))]
    have hy : x ||| (Around G x &&& w) < 2 ^ G.length := or_lt hx (Nat.lt_of_le_of_lt Nat.and_le_left hA)
    refine Ev.step (fun k => by rw [width_town_part.l0]) (Ev.bind (around_ev G hG x hx) ?_)
    simp only [hb]
    by_cases e : x ||| (Around G x &&& w) = x
    · refine Ev.if_pos (by rw [e]) (Ev.some ?_)
      congr 1
      refine conset_eq hG hs hx h1 h2 fun i j hi ha hj => ?_
      rw [← e, or_bset, and_bset]
      exact .inr ⟨(Around_bit hG x j).2 ⟨i, hi, ha⟩, hj⟩
    · refine Ev.if_neg (by omega) ?_
      have hle : x ≤ x ||| (Around G x &&& w) := Nat.left_le_or
      refine ih (2 ^ G.length - (x ||| (Around G x &&& w))) (by omega) _ rfl hy (fun j hj => (or_bset _ _ _).2 (.inl (h1 j hj))) fun j hj => ?_
      rcases (or_bset _ _ _).1 hj with h | h
      · exact h2 j h
      · obtain ⟨ha, hw'⟩ := (and_bset _ _ _).1 h
        obtain ⟨i, hi, hij⟩ := (Around_bit hG x j).1 ha
        exact .step (h2 i hi) hij hw'
theorem part_ev (G : List Nat) (hG : Gr 9 G) (s w : Nat) (hs : s < 2 ^ G.length) (hw : w < 2 ^ G.length) : Ev (fun k => width_town_part.f k (gi G) (s : Int) (w : Int)) ((conset G s w : Nat) : Int) :=
  part_l0 G hG s w hs hw _ s rfl hs (fun _ h => h) (fun _ h => .base h)

theorem degree_ev (G : List Nat) (hG : Gr 9 G) (gone v : Nat) (hg : gone < 2 ^ G.length) (hv : v < G.length) :
    Ev (fun k => width_town_degree.f k (gi G) (v : Int) (gone : Int)) ((pc (nbset G gone v) 9 : Nat) : Int) := by
  have hp : 2 ^ v < 2 ^ G.length := Nat.pow_lt_pow_right (by omega) hv
  have hn := hG.most
  have hc := conset_lt G (2 ^ v) (gone ||| 2 ^ v)
  have hA := Around_lt hG (conset G (2 ^ v) (gone ||| 2 ^ v))
  have hd : diff (Around G (conset G (2 ^ v) (gone ||| 2 ^ v))) gone < 2 ^ G.length := Nat.lt_of_le_of_lt (diff_le _ _) hA
  unfold width_town_degree.f
  refine Ev.if_pos (by omega) ?_
  simp only [s_one v (by omega), b_or gone (2 ^ v) (big (small G hn hg)) (big (small G hn hp))]
  refine Ev.bind (part_ev G hG _ _ hp (or_lt hg hp)) ?_
  refine Ev.bind (around_ev G hG _ hc) ?_
  simp only [b_andNot _ gone (big (small G hn hA)) (big (small G hn hg)), b_andNot _ (2 ^ v) (big (small G hn hd)) (big (small G hn hp))]
  exact Ev.bind1 (count_eq _ (small G hn (nbset_lt hG gone v))) (Ev.some rfl)

theorem all_eq (G : List Nat) (h : G.length ≤ 9) : width_town_all.f (gi G) = some ((2 ^ G.length - 1 : Nat) : Int) := by
  unfold width_town_all.f
  have h1 : 2 ^ G.length ≤ 2 ^ 9 := Nat.pow_le_pow_right (by omega) h
  have h2 := Nat.two_pow_pos G.length
  rw [gi_length, s_one _ (by omega), w64_small _ (by omega) (by omega)]
  congr 1
  omega
end Go.Proofs.YtoffehihicabcaaDoor.X
end
section
/- widths, width, Width: the width of a valid graph. -/
set_option linter.unusedVariables false
namespace Go.Proofs.YtoffehihicabcaaDoor.X
open Go.RowKit Go.Proofs.YtoffehihicabcaaDoorW.PrintWords Go.Proofs.YtoffehihicabcaaDoorW.PrintLast Go.Proofs.YtoffehihicabcaaDoorW.PrintMore Go.Proofs.YtoffehihicabcaaDoor.T

/-- x is the least width of an order that begins with S. -/
def PS (G : List Nat) (S x : Nat) : Prop := ∀ k, x ≤ k ↔ ElimG G k S
theorem mx_nat (a b : Nat) : mx (a : Int) (b : Int) = ((max a b : Nat) : Int) := by unfold mx; split <;> omega
theorem mn_nat (a b : Nat) : mn (a : Int) (b : Int) = ((min a b : Nat) : Int) := by unfold mn; split <;> omega
/-- The list of widths is right, and so is what comes of it. -/
def Good (G : List Nat) (r : List Int) : Prop := ∃ W : List Nat, r = gi W ∧ W.length = 2 ^ G.length ∧ ∀ S, S < 2 ^ G.length → PS G S (W.getD S 0)

theorem getD_set (W : List Nat) (i j x : Nat) (hi : i < W.length) : (W.set i x).getD j 0 = if j = i then x else W.getD j 0 := by
  simp only [List.getD_eq_getElem?_getD, List.getElem?_set]
  by_cases h : i = j
  · subst h; simp [hi]
  · rw [if_neg h, if_neg (fun e => h e.symm)]

theorem widths_l1 (G : List Nat) (hG : Gr 9 G) (S : Nat) (hS : S < 2 ^ G.length) (h0 : S ≠ 0)
    (cont : ∀ W : List Nat, W.length = 2 ^ G.length → (∀ T, T < S + 1 → PS G T (W.getD T 0)) → ∃ r, Ev (fun k => width_town_widths.l0 k (gi G) (gi W) ((S + 1 : Nat) : Int)) r ∧ Good G r) :
    ∀ d i (W : List Nat), i + d = (els S 9).length → W.length = 2 ^ G.length → (∀ T, T < S → PS G T (W.getD T 0)) →
      (∀ k, W.getD S 0 ≤ k ↔ G.length ≤ k ∨ ∃ v, v ∈ (els S 9).take i ∧ ElimG G k (diff S (2 ^ v)) ∧ pc (nbset G (diff S (2 ^ v)) v) 9 ≤ k) →
      ∃ r, Ev (fun k => width_town_widths.l1 k (gi G) (gi W) (S : Int) (gi (els S 9)) ((els S 9).length : Int) (i : Int)) r ∧ Good G r := by
  have hS5 := small G hG.most hS
  have h29 : 2 ^ G.length ≤ 2 ^ 9 := Nat.pow_le_pow_right (by omega) hG.most
  have hn := hG.most
  have hlen : (els S 9).length ≤ 9 := by rw [els_length]; exact pc_le _ _
  intro d
  induction d with
  | zero =>
    intro i W hi hW hT hc
    have hPS : PS G S (W.getD S 0) := by
      intro k
      rw [hc k]
      by_cases hk : G.length ≤ k
      · exact ⟨fun _ => elimG_big hG hk S hS, fun _ => .inl hk⟩
      · rw [elimG_step hG hS h0]
        have e : (els S 9).take i = els S 9 := List.take_of_length_le (by omega)
        rw [e]
        constructor
        · rintro (h | ⟨v, hv, h1, h2⟩)
          · exact (hk h).elim
          · exact ⟨v, (mem_els.1 hv).2, h1, by rwa [← pc_nine (nbset_lt hG _ _) hn]⟩
        · rintro ⟨v, hv, h1, h2⟩
          exact .inr ⟨v, mem_els.2 ⟨Nat.lt_of_lt_of_le (bit_lt hS hv) hn, hv⟩, h1, by rwa [pc_nine (nbset_lt hG _ _) hn]⟩
    obtain ⟨r, h1, h2⟩ := cont W hW (fun T hT' => by
      by_cases e : T = S
      · subst e; exact hPS
      · exact hT T (by omega))
    refine ⟨r, Ev.step (fun k => ?_) h1, h2⟩
    rw [width_town_widths.l1, if_neg (by omega), wrap_succ S (by omega)]
  | succ d ih =>
    intro i W hi hW hT hc
    have hi' : i < (els S 9).length := by omega
    have hmem := List.getElem_mem hi'
    have hv := (mem_els.1 hmem).2
    have hvn := bit_lt hS hv
    have hr : rd (gi (els S 9)) (i : Int) = (((els S 9)[i] : Nat) : Int) := by rw [rd_gi, List.getD_eq_getElem?_getD, List.getElem?_eq_getElem hi']; rfl
    generalize hev : (els S 9)[i] = v at hr hv hvn hmem
    have hp : 2 ^ v < 2 ^ G.length := Nat.pow_lt_pow_right (by omega) hvn
    have hd : diff S (2 ^ v) < S := diff_lt hv
    have hdl : diff S (2 ^ v) < 2 ^ G.length := by omega
    have hdeg := degree_ev G hG (diff S (2 ^ v)) v hdl hvn
    obtain ⟨r, h1, h2⟩ := ih (i + 1) (W.set S (min (W.getD S 0) (max (W.getD (diff S (2 ^ v)) 0) (pc (nbset G (diff S (2 ^ v)) v) 9)))) (by omega) (by simpa using hW)
      (fun T hT' => by
        rw [getD_set W _ _ _ (by omega), if_neg (by omega)]
        exact hT T hT')
      (fun k => by
        rw [getD_set W _ _ _ (by omega), if_pos rfl]
        have hps := hT _ hd k
        have htake : (els S 9).take (i + 1) = (els S 9).take i ++ [v] := by rw [List.take_succ_eq_append_getElem hi', hev]
        rw [htake]
        constructor
        · intro h
          by_cases hk : W.getD S 0 ≤ k
          · rcases (hc k).1 hk with h | ⟨u, hu, h3⟩
            · exact .inl h
            · exact .inr ⟨u, List.mem_append_left _ hu, h3⟩
          · refine .inr ⟨v, List.mem_append_right _ (List.mem_singleton.2 rfl), hps.1 (by omega), by omega⟩
        · rintro (h | ⟨u, hu, h3, h4⟩)
          · have := (hc k).2 (.inl h); omega
          · rcases List.mem_append.1 hu with hu | hu
            · have := (hc k).2 (.inr ⟨u, hu, h3, h4⟩); omega
            · obtain rfl := List.mem_singleton.1 hu
              have := hps.2 h3
              omega)
    refine ⟨r, Ev.step (f := fun k => (width_town_degree.f k (gi G) (v : Int) ((diff S (2 ^ v) : Nat) : Int)).bind fun t => width_town_widths.l1 k (gi G) ((gi W).set (S : Int).toNat (mn (rd (gi W) (S : Int)) (mx (rd (gi W) ((diff S (2 ^ v) : Nat) : Int)) t))) (S : Int) (gi (els S 9)) ((els S 9).length : Int) ((i + 1 : Nat) : Int)) (fun k => ?_) (Ev.bind hdeg ?_), h2⟩
    · rw [width_town_widths.l1, if_pos (by omega), if_pos (by omega), if_pos (by rw [gi_length]; omega), if_pos (by omega), if_pos (by rw [gi_length]; omega), hr, if_pos (by omega), s_one v (by omega),
        b_andNot S (2 ^ v) (big hS5) (big (small G hn hp)), if_pos (by omega), if_pos (by rw [gi_length]; omega), wrap_succ i (by omega)]
    · simp only [rd_gi, mx_nat, mn_nat, Int.toNat_natCast, gi_set]
      exact h1

theorem widths_l0 (G : List Nat) (hG : Gr 9 G) : ∀ d S (W : List Nat), S + d = 2 ^ G.length → 0 < S → W.length = 2 ^ G.length → (∀ T, T < S → PS G T (W.getD T 0)) →
    ∃ r, Ev (fun k => width_town_widths.l0 k (gi G) (gi W) (S : Int)) r ∧ Good G r := by
  have h29 : 2 ^ G.length ≤ 2 ^ 9 := Nat.pow_le_pow_right (by omega) hG.most
  intro d
  induction d with
  | zero =>
    intro S W hS h0 hW hT
    refine ⟨gi W, Ev.step (f := fun _ => some (gi W)) (fun k => ?_) (Ev.some rfl), W, rfl, hW, fun T h => hT T (by omega)⟩
    rw [width_town_widths.l0, if_neg (by rw [gi_length]; omega)]
  | succ d ih =>
    intro S W hS h0 hW hT
    have hSn : S < 2 ^ G.length := by omega
    have hS5 := small G hG.most hSn
    obtain ⟨r, h1, h2⟩ := widths_l1 G hG S hSn (by omega) (fun W' hW' hT' => ih (S + 1) W' (by omega) (by omega) hW' hT') (els S 9).length 0 (W.set S G.length) (by omega) (by simpa using hW)
      (fun T hT' => by
        rw [getD_set W _ _ _ (by omega), if_neg (by omega)]
        exact hT T hT')
      (fun k => by
        rw [getD_set W _ _ _ (by omega), if_pos rfl]
        simp)
    refine ⟨r, Ev.step (fun k => by rw [width_town_widths.l0, if_pos (by rw [gi_length]; omega), if_pos (by omega)]) (Ev.bind (nodes_ev S hS5) ?_), h2⟩
    simp only [Int.toNat_natCast, gi_length]
    have e : (gi W).set S (G.length : Int) = gi (W.set S G.length) := gi_set W S G.length
    rw [e]
    exact h1

theorem widths_ev (G : List Nat) (hG : Gr 9 G) : ∃ r, Ev (fun k => width_town_widths.f k (gi G)) r ∧ Good G r := by
  have h29 : 2 ^ G.length ≤ 2 ^ 9 := Nat.pow_le_pow_right (by omega) hG.most
  have h2p := Nat.two_pow_pos G.length
  have hn := hG.most
  obtain ⟨r, h1, h2⟩ := widths_l0 G hG (2 ^ G.length - 1) 1 (List.replicate (2 ^ G.length) 0) (by omega) (by omega) (by simp)
    (fun T hT k => by
      have : T = 0 := by omega
      subst this
      have e : (List.replicate (2 ^ G.length) 0).getD 0 0 = 0 := by
        rw [List.getD_eq_getElem?_getD, List.getElem?_replicate]; split <;> rfl
      rw [e]
      exact ⟨fun _ => elimG_zero G k, fun _ => Nat.zero_le k⟩)
  refine ⟨r, Ev.congr (fun k => ?_) h1, h2⟩
  unfold width_town_widths.f
  rw [gi_length, s_one _ (by omega), if_pos (by omega), Int.toNat_natCast, if_pos (by omega)]
  have e : List.replicate (2 ^ G.length) (0 : Int) = gi (List.replicate (2 ^ G.length) 0) := by simp [gi]
  rw [e]
  rfl

theorem width_ev (G : List Nat) (hG : Gr 9 G) : ∃ W : Nat, IsWidth G W ∧ Ev (fun k => width_town_width.f k (gi G)) (W : Int) := by
  have h2p := Nat.two_pow_pos G.length
  obtain ⟨r, h1, W, rfl, hW, hg⟩ := widths_ev G hG
  refine ⟨W.getD (2 ^ G.length - 1) 0, hg _ (by omega), ?_⟩
  unfold width_town_width.f
  refine Ev.bind h1 (Ev.bind1 (all_eq G hG.most) ?_)
  refine Ev.if_pos (by omega) (Ev.if_pos (by rw [gi_length]; omega) (Ev.some ?_))
  rw [rd_gi]

/-- Width of what is valid, and of what is not. -/
theorem Width_ev (G : List Nat) (hG : Gr 9 G) : ∃ W : Nat, IsWidth G W ∧ Ev (fun k => width_Width.f k (gi G)) ((W : Int), 0) := by
  obtain ⟨W, h1, h2⟩ := width_ev G hG
  have hc : chk 9 (gi G) = true := (chk_iff 9 (by omega) _).2 ⟨G, rfl, hG⟩
  have hr := read_ev (gi G) (by rw [gi_length]; have := hG.most; omega)
  rw [hc] at hr
  refine ⟨W, h1, ?_⟩
  unfold width_Width.f
  exact Ev.bind hr (Ev.if_pos rfl (Ev.bind h2 (Ev.some rfl)))
theorem Width_bad (g : List Int) (hl : g.length < 2 ^ 60) (h : chk 9 g = false) : Ev (fun k => width_Width.f k g) (0, 2) := by
  have hr := read_ev g hl
  rw [h] at hr
  unfold width_Width.f
  exact Ev.bind hr (Ev.if_neg (by simp) (Ev.some rfl))
theorem awake_ev : Ev (fun k => lampblacklaw02_awake.f k) true := Ev.of (lampblacklaw02_awake.mono) (k := 40) (by decide +kernel)
end Go.Proofs.YtoffehihicabcaaDoor.X
end
section
-- by ownprint.py (wip/tool), over the kit's print
namespace Go.Proofs.YtoffehihicabcaaDoor.X
open Go.RowKit Go.Proofs.YtoffehihicabcaaDoorW.PrintWords Go.Proofs.YtoffehihicabcaaDoorW.PrintLast Go.Proofs.YtoffehihicabcaaDoorW.PrintMore
attribute [local go_sem] max2_int min2_int max_two min_two max_three min_three max_four min_four
set_option linter.unusedVariables false
set_option linter.unusedSimpArgs false

/-! ### lampblackref02_Connected: function 24 -/
mutual
def lampblackref02_Connected.j0 : Nat → List Int → Int → Bool → Option (Bool)
  | 0, _, _, _ => none
  | k + 1, x0, x1, x14 => if x14 = true then (some false) else (lampblackref02_Connected.l0 k x0 x1 0)
def lampblackref02_Connected.l0 : Nat → List Int → Int → Int → Option (Bool)
  | 0, _, _, _ => none
  | k + 1, x0, x1, x5 => if 0 ≤ x5 then (if (Go.bits .and .i64 (shr .i64 x1 x5) 1) = 0 then (lampblackref02_Connected.l0 k x0 x1 (wrap64 (x5 + 1))) else ((lampblackref01_Reached.f k x0 x1 x5).bind fun t219 => (some (t219 == x1)))) else (none)
end
def lampblackref02_Connected.f (k : Nat) (l0 : List Int) (a1 : Int) : Option (Bool) := if a1 ≤ 0 then (lampblackref02_Connected.j0 k l0 a1 true) else (lampblackref02_Connected.j0 k l0 a1 (decide (a1 ≥ (shl .i64 1 (l0.length : Int)))))
theorem lampblackref02_Connected.mono_l : ∀ k, (∀ y0 y1 y2, LeO (lampblackref02_Connected.j0 k y0 y1 y2) (lampblackref02_Connected.j0 (k + 1) y0 y1 y2)) ∧ (∀ y0 y1 y2, LeO (lampblackref02_Connected.l0 k y0 y1 y2) (lampblackref02_Connected.l0 (k + 1) y0 y1 y2))
  | 0 => ⟨fun _ _ _ r h => by simp [lampblackref02_Connected.j0] at h, fun _ _ _ r h => by simp [lampblackref02_Connected.l0] at h⟩
  | k + 1 => by
    obtain ⟨ih0, ih1⟩ := lampblackref02_Connected.mono_l k
    refine ⟨?_, ?_⟩
    · intro y0 y1 y2
      unfold lampblackref02_Connected.j0
      repeat' first
      | (with_reducible exact ih0 _ _ _)
      | (with_reducible exact ih1 _ _ _)
      | (with_reducible exact lampblackref01_Reached.mono _ _ _ _)
      | (with_reducible exact LeO.refl _)
      | (with_reducible exact LeO.none _)
      | (with_reducible refine LeO.ite ?_ ?_)
      | (with_reducible refine LeO.bind ?_ (fun _ => ?_))
      | exact ih0 _ _ _
      | exact ih1 _ _ _
      | exact lampblackref01_Reached.mono _ _ _ _
      | exact LeO.none _
      | refine LeO.ite ?_ ?_
      | refine LeO.bind ?_ (fun _ => ?_)
    · intro y0 y1 y2
      unfold lampblackref02_Connected.l0
      repeat' first
      | (with_reducible exact ih0 _ _ _)
      | (with_reducible exact ih1 _ _ _)
      | (with_reducible exact lampblackref01_Reached.mono _ _ _ _)
      | (with_reducible exact LeO.refl _)
      | (with_reducible exact LeO.none _)
      | (with_reducible refine LeO.ite ?_ ?_)
      | (with_reducible refine LeO.bind ?_ (fun _ => ?_))
      | exact ih0 _ _ _
      | exact ih1 _ _ _
      | exact lampblackref01_Reached.mono _ _ _ _
      | exact LeO.none _
      | refine LeO.ite ?_ ?_
      | refine LeO.bind ?_ (fun _ => ?_)
theorem lampblackref02_Connected.mono : ∀ a0 a1 k, LeO (lampblackref02_Connected.f k a0 a1) (lampblackref02_Connected.f (k + 1) a0 a1) := by
  intro a0 a1 k
  obtain ⟨ih0, ih1⟩ := lampblackref02_Connected.mono_l k
  unfold lampblackref02_Connected.f
  repeat' first
      | (with_reducible exact ih0 _ _ _)
      | (with_reducible exact ih1 _ _ _)
      | (with_reducible exact lampblackref01_Reached.mono _ _ _ _)
      | (with_reducible exact LeO.refl _)
      | (with_reducible exact LeO.none _)
      | (with_reducible refine LeO.ite ?_ ?_)
      | (with_reducible refine LeO.bind ?_ (fun _ => ?_))
      | exact ih0 _ _ _
      | exact ih1 _ _ _
      | exact lampblackref01_Reached.mono _ _ _ _
      | exact LeO.none _
      | refine LeO.ite ?_ ?_
      | refine LeO.bind ?_ (fun _ => ?_)
set_option maxHeartbeats 8000000 in
set_option maxRecDepth 100000 in
theorem lampblackref02_Connected.calls (k : Nat) (A0 : Option Addr) (c0 : Nat) (l0 : List Int) (a1 : Int) (r : Bool) (w : World) (hr0 : Kd.C (Kd.int .i64) w A0 l0.length l0) (hc0 : l0.length ≤ c0) (h : lampblackref02_Connected.f k l0 a1 = some r) :
    Calls Tryd.prog 24 #[.slice A0 l0.length c0, .int .i64 a1] w fun e w' => e = .returned (.bool r) ∧ Drawn0 w w' := by
  have HR0 := Aside0.mk hr0
  have HC0 := Aside0.mk hc0
  clear hr0 hc0
  have H : (if a1 ≤ 0 then (lampblackref02_Connected.j0 k l0 a1 true) else (lampblackref02_Connected.j0 k l0 a1 (decide (a1 ≥ (shl .i64 1 (l0.length : Int)))))) = some r := h
  clear h
  have HC3 := Aside0.mk H
  clear H
  go_enter Tryd.func24, Tryd.ntmps24
  go_upto_region 1 with (fail)
  go_cut [14] (fun v14 wc => ∃ (kq : Nat) (x14_2 : Bool), v14 = .bool x14_2 ∧ Aside0 (lampblackref02_Connected.j0 kq l0 a1 x14_2 = some r) ∧ Aside0 (kq ≤ k) ∧ Drawn0 w wc)
  case first =>
    have H := HC3.out
    clear HC3
    by_cases c4 : a1 ≤ 0
    · rw [if_pos c4] at H
      have c4b0 : decide (a1 ≤ 0) = true := decide_eq_true c4
      clear c4
      (first | rw [c4b0] | (simp only [i64_w, i32_w]; rw [c4b0]) | skip)
      have H' := Aside0.mk H
      clear H
      go_wp2
      go_meet
      case rel => exact ⟨_, (true), (by first | rfl | (simp; done) | (simp [*]; done)), H', ⟨by first | omega | exact Nat.le_refl _⟩, by repeat (first | exact Drawn0.refl _ | apply Drawn0.step)⟩
    · rw [if_neg c4] at H
      have c4b0 : decide (a1 ≤ 0) = false := decide_eq_false c4
      clear c4
      (first | rw [c4b0] | (simp only [i64_w, i32_w]; rw [c4b0]) | skip)
      obtain ⟨ji5, hji5⟩ : ∃ j_ : Int, (shl .i64 1 (l0.length : Int)) = j_ := ⟨_, rfl⟩
      replace H : (lampblackref02_Connected.j0 k l0 a1 (decide (a1 ≥ (ji5)))) = some r := by first | (rw [hji5] at H; exact H) | (simp only [hji5] at H ⊢; exact H)
      have hji5_ : (IntKind.i64.wrap (1 * 2 ^ min (l0.length : Int).toNat 64)) = ji5 := hji5
      have hji5z : (l0.length : Int) ≤ 64 → (IntKind.i64.wrap (1 * 2 ^ (l0.length : Int).toNat)) = ji5 := shl_small hji5
      have hji5p : (IntKind.i64.wrap (1 * 2 ^ min l0.length 64)) = ji5 := hji5_
      have hji5q : (l0.length : Int) ≤ 64 → (IntKind.i64.wrap (1 * 2 ^ l0.length)) = ji5 := hji5z
      have hji5r : (IntKind.i64.wrap (2 ^ min l0.length 64)) = ji5 := by have h_ := hji5p; rw [Int.one_mul] at h_; exact h_
      have hji5s : (l0.length : Int) ≤ 64 → (IntKind.i64.wrap (2 ^ l0.length)) = ji5 := fun hle_ => by have h_ := hji5q hle_; rw [Int.one_mul] at h_; exact h_
      have hji5u : (IntKind.i64.wrap (2 ^ min (l0.length : Int).toNat 64)) = ji5 := by have h_ := hji5_; rw [Int.one_mul] at h_; exact h_
      have hji5v : (l0.length : Int) ≤ 64 → (IntKind.i64.wrap (2 ^ (l0.length : Int).toNat)) = ji5 := fun hle_ => by have h_ := hji5z hle_; rw [Int.one_mul] at h_; exact h_
      have hji5y : (wrap64 (1 * 2 ^ min (l0.length : Int).toNat 64)) = ji5 := (i64_w _).symm.trans hji5_
      have hji5x : (l0.length : Int) ≤ 64 → (wrap64 (1 * 2 ^ (l0.length : Int).toNat)) = ji5 := fun h_ => (i64_w _).symm.trans (hji5z h_)
      have H' := Aside0.mk H
      clear H
      go_wp2
      go_meet
      case rel => exact ⟨_, (decide (a1 ≥ (ji5))), (by first | rfl | (simp; done) | (simp only [← hji5] <;> (first | rfl | simp)) | (simp [*]; done)), H', ⟨by first | omega | exact Nat.le_refl _⟩, by repeat (first | exact Drawn0.refl _ | apply Drawn0.step)⟩
  case rest =>
    clear HC3
    try clear c2
    try clear p2
    try clear c4
    try clear c4b0
    obtain ⟨kq, x14_2, rfl, HA, HJ2, ⟨mc2, rfl⟩⟩ := hcut
    cases kq with
    | zero => exact absurd HA.out (by simp [lampblackref02_Connected.j0])
    | succ kj2 =>
      have H := HA.out
      clear HA
      simp only [lampblackref02_Connected.j0] at H
      by_cases c6 : x14_2 = true
      · subst c6
        have H1 : (some false) = some r := by rw [if_pos rfl] at H; exact H
        clear H
        have H := H1
        clear H1
        obtain rfl := Option.some.inj H
        go_wp2
        go_ret
        exact ⟨by first | rfl | (simp; done) | (simp [*]; done), by repeat (first | exact Drawn0.refl _ | apply Drawn0.step)⟩
      · replace c6 := Bool.eq_false_iff.mpr c6
        subst c6
        have H1 : (lampblackref02_Connected.l0 kj2 l0 a1 0) = some r := by rw [if_neg (show ¬ (false = true) by decide)] at H; exact H
        clear H
        have H := H1
        clear H1
        have H' := Aside0.mk H
        clear H
        go_wp2
        go_loopg [5] kj2 (fun kq v5 w' => ∃ (x5_2 : Int), v5 = .int .i64 x5_2 ∧ Aside0 (lampblackref02_Connected.l0 kq l0 a1 x5_2 = some r) ∧ Aside0 (kq ≤ kj2) ∧ Drawn0 w w')
        case atStart => exact ⟨(0), (by first | rfl | (simp; done) | (simp [*]; done)), H', ⟨Nat.le_refl _⟩, by repeat (first | exact Drawn0.refl _ | apply Drawn0.step)⟩
        case round =>
          clear H'
          try clear c2
          try clear p2
          try clear c4
          try clear c4b0
          try clear c6
          try clear p6
          try clear p2
          obtain ⟨x5_2, rfl, HA, HK2, ⟨m2, rfl⟩⟩ := hrel
          cases gk with
          | zero => exact absurd HA.out (by simp [lampblackref02_Connected.l0])
          | succ k2 =>
            have H := HA.out
            clear HA
            simp only [lampblackref02_Connected.l0] at H
            by_cases c7 : 0 ≤ x5_2
            · rw [if_pos c7] at H
              have c7b0 := eq_true c7
              have c7b1 : decide (0 ≤ x5_2) = true := decide_eq_true c7
              clear c7
              obtain ⟨ji8, hji8⟩ : ∃ j_ : Int, (shr .i64 a1 x5_2) = j_ := ⟨_, rfl⟩
              replace H : (if (Go.bits .and .i64 (ji8) 1) = 0 then (lampblackref02_Connected.l0 k2 l0 a1 (wrap64 (x5_2 + 1))) else ((lampblackref01_Reached.f k2 l0 a1 x5_2).bind fun t219 => (some (t219 == a1)))) = some r := by first | (rw [hji8] at H; exact H) | (simp only [hji8] at H ⊢; exact H)
              have hji8_ : (a1 / 2 ^ min x5_2.toNat 64) = ji8 := hji8
              have hji8z : x5_2 ≤ 64 → (a1 / 2 ^ x5_2.toNat) = ji8 := shr_small hji8
              by_cases c9 : (Go.bits .and .i64 (ji8) 1) = 0
              · rw [if_pos c9] at H
                have c9b0 : ((Go.bits .and .i64 (ji8) 1) == 0) = true := beq_iff_eq.mpr c9
                have c9b1 : ((Go.bits .and .i64 (ji8) 1) != 0) = false := bne_eq_false_iff_eq.mpr c9
                clear c9
                have H' := Aside0.mk H
                clear H
                go_wp2
                go_roundg k2
                case measure => have := HJ2.out; have := HK2.out; omega
                case rel => exact ⟨(wrap64 (x5_2 + 1)), (by first | rfl | (simp; done) | (simp [*]; done)), H', ⟨by have := HJ2.out; have := HK2.out; omega⟩, by repeat (first | exact Drawn0.refl _ | apply Drawn0.step)⟩
              · rw [if_neg c9] at H
                have c9b0 : ((Go.bits .and .i64 (ji8) 1) == 0) = false := beq_eq_false_iff_ne.mpr c9
                have c9b1 : ((Go.bits .and .i64 (ji8) 1) != 0) = true := bne_iff_ne.mpr c9
                replace H := Option.bind_eq_some_iff.mp H
                obtain ⟨t219, A100, H⟩ := H
                replace H : (some (t219 == a1)) = some r := H
                have A10 := Aside0.mk A100
                clear A100
                obtain rfl := Option.some.inj H
                go_wp2_with (first | ((with_reducible refine gate_callee (f := 29) rfl ?_); refine goesL_ (some 25) rfl rfl Tryd.func29 (by kernel_rfl) rfl #[.slice A0 l0.length c0, .int .i64 a1, .int .i64 x5_2] rfl (by (try simp only [List.map_toArray, List.map_cons, List.map_nil]); first | done | rfl | (simp only [List.length_drop, List.length_take]; rfl)) ?_; (with_reducible refine (lampblackref01_Reached.calls k2 _ _ l0 a1 x5_2 t219 _ ?side1 ?side2 A10.out).mono ?_); (case side1 => repeat (first | exact HR0.out | (with_reducible refine Kd.C_alloc ?_ _) | (with_reducible refine Kd.C_drewN ?_ _) | (with_reducible refine Kd.C_drew ?_))); (case side2 => exact HC0.out); rintro e w' ⟨rfl, ⟨nd, rfl⟩⟩; refine ⟨_, rfl, ?_⟩))
                go_ret
                exact ⟨by first | rfl | (simp; done) | (simp only [← hji8] <;> (first | rfl | simp)) | (simp [*]; done), by repeat (first | exact Drawn0.refl _ | apply Drawn0.step)⟩
            · rw [if_neg c7] at H
              exact absurd H (by simp)

end Go.Proofs.YtoffehihicabcaaDoor.X
end
section
-- by ownprint.py (wip/tool), over the kit's print
namespace Go.Proofs.YtoffehihicabcaaDoor.X
open Go.RowKit Go.Proofs.YtoffehihicabcaaDoorW.PrintWords Go.Proofs.YtoffehihicabcaaDoorW.PrintLast Go.Proofs.YtoffehihicabcaaDoorW.PrintMore
attribute [local go_sem] max2_int min2_int max_two min_two max_three min_three max_four min_four
set_option linter.unusedVariables false
set_option linter.unusedSimpArgs false

/-! ### lampblackref02_Around: function 66 -/
def lampblackref02_Around.l0 : Nat → List Int → Int → Int → Int → Int → Option (Int)
  | 0, _, _, _, _, _ => none
  | k + 1, x0, x1, x5, x8, x9 => if x9 < x8 then (if 0 ≤ x9 then (if (Go.bits .and .i64 (shr .i64 x1 x9) 1) = 1 then (if x9 < (x0.length : Int) then (lampblackref02_Around.l0 k x0 x1 (Go.bits .or .i64 x5 (rd x0 x9)) x8 (wrap64 (x9 + 1))) else (none)) else (lampblackref02_Around.l0 k x0 x1 x5 x8 (wrap64 (x9 + 1)))) else (none)) else (some x5)
def lampblackref02_Around.f (k : Nat) (l0 : List Int) (a1 : Int) : Option (Int) := lampblackref02_Around.l0 k l0 a1 0 (l0.length : Int) 0
theorem lampblackref02_Around.mono_l : ∀ k, (∀ y0 y1 y2 y3 y4, LeO (lampblackref02_Around.l0 k y0 y1 y2 y3 y4) (lampblackref02_Around.l0 (k + 1) y0 y1 y2 y3 y4))
  | 0 => fun _ _ _ _ _ r h => by simp [lampblackref02_Around.l0] at h
  | k + 1 => by
    have ih0 := lampblackref02_Around.mono_l k
    · intro y0 y1 y2 y3 y4
      unfold lampblackref02_Around.l0
      repeat' first
      | (with_reducible exact ih0 _ _ _ _ _)
      | (with_reducible exact LeO.refl _)
      | (with_reducible exact LeO.none _)
      | (with_reducible refine LeO.ite ?_ ?_)
      | (with_reducible refine LeO.bind ?_ (fun _ => ?_))
      | exact ih0 _ _ _ _ _
      | exact LeO.none _
      | refine LeO.ite ?_ ?_
      | refine LeO.bind ?_ (fun _ => ?_)
theorem lampblackref02_Around.mono : ∀ a0 a1 k, LeO (lampblackref02_Around.f k a0 a1) (lampblackref02_Around.f (k + 1) a0 a1) := by
  intro a0 a1 k
  have ih0 := lampblackref02_Around.mono_l k
  unfold lampblackref02_Around.f
  repeat' first
      | (with_reducible exact ih0 _ _ _ _ _)
      | (with_reducible exact LeO.refl _)
      | (with_reducible exact LeO.none _)
      | (with_reducible refine LeO.ite ?_ ?_)
      | (with_reducible refine LeO.bind ?_ (fun _ => ?_))
      | exact ih0 _ _ _ _ _
      | exact LeO.none _
      | refine LeO.ite ?_ ?_
      | refine LeO.bind ?_ (fun _ => ?_)
set_option maxHeartbeats 8000000 in
set_option maxRecDepth 100000 in
theorem lampblackref02_Around.calls (k : Nat) (A0 : Option Addr) (c0 : Nat) (l0 : List Int) (a1 : Int) (r : Int) (w : World) (hr0 : Kd.C (Kd.int .i64) w A0 l0.length l0) (hc0 : l0.length ≤ c0) (h : lampblackref02_Around.f k l0 a1 = some r) :
    Calls Tryd.prog 66 #[.slice A0 l0.length c0, .int .i64 a1] w fun e w' => e = .returned (.int .i64 r) ∧ Drawn0 w w' := by
  have HR0 := Aside0.mk hr0
  have HC0 := Aside0.mk hc0
  clear hr0 hc0
  have H : (lampblackref02_Around.l0 k l0 a1 0 (l0.length : Int) 0) = some r := h
  clear h
  have H' := Aside0.mk H
  clear H
  go_enter Tryd.func66, Tryd.ntmps66
  go_wp2
  go_loopg [5, 9] k (fun kq v5 v9 w' => ∃ (x5_1 : Int) (x9_1 : Int), v5 = .int .i64 x5_1 ∧ v9 = .int .i64 x9_1 ∧ Aside0 (lampblackref02_Around.l0 kq l0 a1 x5_1 (l0.length : Int) x9_1 = some r) ∧ Aside0 (kq ≤ k) ∧ Drawn0 w w')
  case atStart => exact ⟨(0), (0), (by first | rfl | (simp; done) | (simp [*]; done)), (by first | rfl | (simp; done) | (simp [*]; done)), H', ⟨Nat.le_refl _⟩, by repeat (first | exact Drawn0.refl _ | apply Drawn0.step)⟩
  case round =>
    clear H'
    try clear p2
    obtain ⟨x5_1, x9_1, rfl, rfl, HA, HK1, ⟨m1, rfl⟩⟩ := hrel
    cases gk with
    | zero => exact absurd HA.out (by simp [lampblackref02_Around.l0])
    | succ k1 =>
      have H := HA.out
      clear HA
      simp only [lampblackref02_Around.l0] at H
      by_cases c3 : x9_1 < (l0.length : Int)
      · rw [if_pos c3] at H
        have c3b0 : decide (x9_1 < (l0.length : Int)) = true := decide_eq_true c3
        clear c3
        by_cases c4 : 0 ≤ x9_1
        · rw [if_pos c4] at H
          have c4b0 := eq_true c4
          have c4b1 : decide (0 ≤ x9_1) = true := decide_eq_true c4
          clear c4
          obtain ⟨ji5, hji5⟩ : ∃ j_ : Int, (shr .i64 a1 x9_1) = j_ := ⟨_, rfl⟩
          replace H : (if (Go.bits .and .i64 (ji5) 1) = 1 then (if x9_1 < (l0.length : Int) then (lampblackref02_Around.l0 k1 l0 a1 (Go.bits .or .i64 x5_1 (rd l0 x9_1)) (l0.length : Int) (wrap64 (x9_1 + 1))) else (none)) else (lampblackref02_Around.l0 k1 l0 a1 x5_1 (l0.length : Int) (wrap64 (x9_1 + 1)))) = some r := by first | (rw [hji5] at H; exact H) | (simp only [hji5] at H ⊢; exact H)
          have hji5_ : (a1 / 2 ^ min x9_1.toNat 64) = ji5 := hji5
          have hji5z : x9_1 ≤ 64 → (a1 / 2 ^ x9_1.toNat) = ji5 := shr_small hji5
          by_cases c6 : (Go.bits .and .i64 (ji5) 1) = 1
          · rw [if_pos c6] at H
            have c6b0 : ((Go.bits .and .i64 (ji5) 1) == 1) = true := beq_iff_eq.mpr c6
            have c6b1 : ((Go.bits .and .i64 (ji5) 1) != 1) = false := bne_eq_false_iff_eq.mpr c6
            clear c6
            by_cases c7 : x9_1 < (l0.length : Int)
            · rw [if_pos c7] at H
              have c7b0 : decide (x9_1 < (l0.length : Int)) = true := decide_eq_true c7
              clear c7
              have H' := Aside0.mk H
              clear H
              have p220 : 0 ≤ (x9_1 : Int) := of_decide_eq_true (by first | (with_reducible assumption) | assumption)
              have q220 : x9_1 < (l0.length : Int) := of_decide_eq_true (by first | (with_reducible assumption) | assumption)
              obtain ⟨ad220, e220, hx220_0⟩ := Kd.at_int HR0.out x9_1 p220 q220
              cases e220
              replace p220 := eq_true p220
              replace q220 := eq_true q220
              go_wp2
              go_roundg k1
              case measure => have := HK1.out; omega
              case rel => exact ⟨(Go.bits .or .i64 x5_1 (rd l0 x9_1)), (wrap64 (x9_1 + 1)), (by first | rfl | (simp; done) | (simp [*]; done)), (by first | rfl | (simp; done) | (simp [*]; done)), H', ⟨by have := HK1.out; omega⟩, by repeat (first | exact Drawn0.refl _ | apply Drawn0.step)⟩
            · rw [if_neg c7] at H
              exact absurd H (by simp)
          · rw [if_neg c6] at H
            have c6b0 : ((Go.bits .and .i64 (ji5) 1) == 1) = false := beq_eq_false_iff_ne.mpr c6
            have c6b1 : ((Go.bits .and .i64 (ji5) 1) != 1) = true := bne_iff_ne.mpr c6
            have H' := Aside0.mk H
            clear H
            go_wp2
            go_roundg k1
            case measure => have := HK1.out; omega
            case rel => exact ⟨(x5_1), (wrap64 (x9_1 + 1)), (by first | rfl | (simp; done) | (simp [*]; done)), (by first | rfl | (simp; done) | (simp [*]; done)), H', ⟨by have := HK1.out; omega⟩, by repeat (first | exact Drawn0.refl _ | apply Drawn0.step)⟩
        · rw [if_neg c4] at H
          exact absurd H (by simp)
      · rw [if_neg c3] at H
        have c3b0 : decide (x9_1 < (l0.length : Int)) = false := decide_eq_false c3
        clear c3
        obtain rfl := Option.some.inj H
        go_wp2
        go_ret
        exact ⟨by first | rfl | (simp; done) | (simp [*]; done), by repeat (first | exact Drawn0.refl _ | apply Drawn0.step)⟩

end Go.Proofs.YtoffehihicabcaaDoor.X
end
section
-- by ownprint.py (wip/tool), over the kit's print
namespace Go.Proofs.YtoffehihicabcaaDoor.X
open Go.RowKit Go.Proofs.YtoffehihicabcaaDoorW.PrintWords Go.Proofs.YtoffehihicabcaaDoorW.PrintLast Go.Proofs.YtoffehihicabcaaDoorW.PrintMore
attribute [local go_sem] max2_int min2_int max_two min_two max_three min_three max_four min_four
set_option linter.unusedVariables false
set_option linter.unusedSimpArgs false

/-! ### lampblackref02_Touch: function 25 -/
def lampblackref02_Touch.f (k : Nat) (l0 : List Int) (a1 : Int) (a2 : Int) : Option (Bool) := (lampblackref02_Around.f k l0 a1).bind fun t221 => (some ((Go.bits .and .i64 (Go.bits .or .i64 a1 t221) a2) != 0))
theorem lampblackref02_Touch.mono : ∀ a0 a1 a2 k, LeO (lampblackref02_Touch.f k a0 a1 a2) (lampblackref02_Touch.f (k + 1) a0 a1 a2) := by
  intro a0 a1 a2 k
  unfold lampblackref02_Touch.f
  repeat' first
      | (with_reducible exact lampblackref02_Around.mono _ _ _)
      | (with_reducible exact LeO.refl _)
      | (with_reducible exact LeO.none _)
      | (with_reducible refine LeO.ite ?_ ?_)
      | (with_reducible refine LeO.bind ?_ (fun _ => ?_))
      | exact lampblackref02_Around.mono _ _ _
      | exact LeO.none _
      | refine LeO.ite ?_ ?_
      | refine LeO.bind ?_ (fun _ => ?_)
set_option maxHeartbeats 8000000 in
set_option maxRecDepth 100000 in
theorem lampblackref02_Touch.calls (k : Nat) (A0 : Option Addr) (c0 : Nat) (l0 : List Int) (a1 : Int) (a2 : Int) (r : Bool) (w : World) (hr0 : Kd.C (Kd.int .i64) w A0 l0.length l0) (hc0 : l0.length ≤ c0) (h : lampblackref02_Touch.f k l0 a1 a2 = some r) :
    Calls Tryd.prog 25 #[.slice A0 l0.length c0, .int .i64 a1, .int .i64 a2] w fun e w' => e = .returned (.bool r) ∧ Drawn0 w w' := by
  have HR0 := Aside0.mk hr0
  have HC0 := Aside0.mk hc0
  clear hr0 hc0
  have H : ((lampblackref02_Around.f k l0 a1).bind fun t221 => (some ((Go.bits .and .i64 (Go.bits .or .i64 a1 t221) a2) != 0))) = some r := h
  clear h
  replace H := Option.bind_eq_some_iff.mp H
  obtain ⟨t221, A40, H⟩ := H
  replace H : (some ((Go.bits .and .i64 (Go.bits .or .i64 a1 t221) a2) != 0)) = some r := H
  have A4 := Aside0.mk A40
  clear A40
  obtain rfl := Option.some.inj H
  go_enter Tryd.func25, Tryd.ntmps25
  go_wp2_with (first | ((with_reducible refine gate_callee (f := 66) rfl ?_); refine goesL_ (some 10) rfl rfl Tryd.func66 (by kernel_rfl) rfl #[.slice A0 l0.length c0, .int .i64 a1] rfl (by (try simp only [List.map_toArray, List.map_cons, List.map_nil]); first | done | rfl | (simp only [List.length_drop, List.length_take]; rfl)) ?_; (with_reducible refine (lampblackref02_Around.calls k _ _ l0 a1 t221 _ ?side1 ?side2 A4.out).mono ?_); (case side1 => repeat (first | exact HR0.out | (with_reducible refine Kd.C_alloc ?_ _) | (with_reducible refine Kd.C_drewN ?_ _) | (with_reducible refine Kd.C_drew ?_))); (case side2 => exact HC0.out); rintro e w' ⟨rfl, ⟨nd, rfl⟩⟩; refine ⟨_, rfl, ?_⟩))
  go_ret
  exact ⟨by first | rfl | (simp; done) | (simp [*]; done), by repeat (first | exact Drawn0.refl _ | apply Drawn0.step)⟩

end Go.Proofs.YtoffehihicabcaaDoor.X
end
section
-- by ownprint.py (wip/tool), over the kit's print
namespace Go.Proofs.YtoffehihicabcaaDoor.X
open Go.RowKit Go.Proofs.YtoffehihicabcaaDoorW.PrintWords Go.Proofs.YtoffehihicabcaaDoorW.PrintLast Go.Proofs.YtoffehihicabcaaDoorW.PrintMore
attribute [local go_sem] max2_int min2_int max_two min_two max_three min_three max_four min_four
set_option linter.unusedVariables false
set_option linter.unusedSimpArgs false

/-! ### lampblackref02_Valid: function 23 -/
def lampblackref02_Valid.f (k : Nat) (l0 : List Int) : Option (Bool) := (lampblackref01_IsGraph.f k l0 9).bind fun t217 => (some t217)
theorem lampblackref02_Valid.mono : ∀ a0 k, LeO (lampblackref02_Valid.f k a0) (lampblackref02_Valid.f (k + 1) a0) := by
  intro a0 k
  unfold lampblackref02_Valid.f
  repeat' first
      | (with_reducible exact lampblackref01_IsGraph.mono _ _ _)
      | (with_reducible exact LeO.refl _)
      | (with_reducible exact LeO.none _)
      | (with_reducible refine LeO.ite ?_ ?_)
      | (with_reducible refine LeO.bind ?_ (fun _ => ?_))
      | exact lampblackref01_IsGraph.mono _ _ _
      | exact LeO.none _
      | refine LeO.ite ?_ ?_
      | refine LeO.bind ?_ (fun _ => ?_)
set_option maxHeartbeats 8000000 in
set_option maxRecDepth 100000 in
theorem lampblackref02_Valid.calls (k : Nat) (A0 : Option Addr) (c0 : Nat) (l0 : List Int) (r : Bool) (w : World) (hr0 : Kd.C (Kd.int .i64) w A0 l0.length l0) (hc0 : l0.length ≤ c0) (h : lampblackref02_Valid.f k l0 = some r) :
    Calls Tryd.prog 23 #[.slice A0 l0.length c0] w fun e w' => e = .returned (.bool r) ∧ Drawn0 w w' := by
  have HR0 := Aside0.mk hr0
  have HC0 := Aside0.mk hc0
  clear hr0 hc0
  have H : ((lampblackref01_IsGraph.f k l0 9).bind fun t217 => (some t217)) = some r := h
  clear h
  replace H := Option.bind_eq_some_iff.mp H
  obtain ⟨t217, A20, H⟩ := H
  replace H : (some t217) = some r := H
  have A2 := Aside0.mk A20
  clear A20
  obtain rfl := Option.some.inj H
  go_enter Tryd.func23, Tryd.ntmps23
  go_wp2_with (first | ((with_reducible refine gate_callee (f := 65) rfl ?_); refine goesL_ (some 4) rfl rfl Tryd.func65 (by kernel_rfl) rfl #[.slice A0 l0.length c0, .int .i64 9] rfl (by (try simp only [List.map_toArray, List.map_cons, List.map_nil]); first | done | rfl | (simp only [List.length_drop, List.length_take]; rfl)) ?_; (with_reducible refine (lampblackref01_IsGraph.calls k _ _ l0 9 t217 _ ?side1 ?side2 A2.out).mono ?_); (case side1 => repeat (first | exact HR0.out | (with_reducible refine Kd.C_alloc ?_ _) | (with_reducible refine Kd.C_drewN ?_ _) | (with_reducible refine Kd.C_drew ?_))); (case side2 => exact HC0.out); rintro e w' ⟨rfl, ⟨nd, rfl⟩⟩; refine ⟨_, rfl, ?_⟩))
  go_ret
  exact ⟨by first | rfl | (simp; done) | (simp [*]; done), by repeat (first | exact Drawn0.refl _ | apply Drawn0.step)⟩

end Go.Proofs.YtoffehihicabcaaDoor.X
end
section
-- by ownprint.py (wip/tool), over the kit's print
namespace Go.Proofs.YtoffehihicabcaaDoor.X
open Go.RowKit Go.Proofs.YtoffehihicabcaaDoorW.PrintWords Go.Proofs.YtoffehihicabcaaDoorW.PrintLast Go.Proofs.YtoffehihicabcaaDoorW.PrintMore
attribute [local go_sem] max2_int min2_int max_two min_two max_three min_three max_four min_four
set_option linter.unusedVariables false
set_option linter.unusedSimpArgs false

/-! ### lampblackref02_Size: function 35 -/
def lampblackref02_Size.l0 : Nat → Int → Int → Option (Int)
  | 0, _, _ => none
  | k + 1, x0, x3 => if x0 > 0 then (lampblackref02_Size.l0 k (Go.bits .and .i64 x0 (wrap64 (x0 - 1))) (wrap64 (x3 + 1))) else (some x3)
def lampblackref02_Size.f (k : Nat) (a0 : Int) : Option (Int) := lampblackref02_Size.l0 k a0 0
theorem lampblackref02_Size.mono_l : ∀ k, (∀ y0 y1, LeO (lampblackref02_Size.l0 k y0 y1) (lampblackref02_Size.l0 (k + 1) y0 y1))
  | 0 => fun _ _ r h => by simp [lampblackref02_Size.l0] at h
  | k + 1 => by
    have ih0 := lampblackref02_Size.mono_l k
    · intro y0 y1
      unfold lampblackref02_Size.l0
      repeat' first
      | (with_reducible exact ih0 _ _)
      | (with_reducible exact LeO.refl _)
      | (with_reducible exact LeO.none _)
      | (with_reducible refine LeO.ite ?_ ?_)
      | (with_reducible refine LeO.bind ?_ (fun _ => ?_))
      | exact ih0 _ _
      | exact LeO.none _
      | refine LeO.ite ?_ ?_
      | refine LeO.bind ?_ (fun _ => ?_)
theorem lampblackref02_Size.mono : ∀ a0 k, LeO (lampblackref02_Size.f k a0) (lampblackref02_Size.f (k + 1) a0) := by
  intro a0 k
  have ih0 := lampblackref02_Size.mono_l k
  unfold lampblackref02_Size.f
  repeat' first
      | (with_reducible exact ih0 _ _)
      | (with_reducible exact LeO.refl _)
      | (with_reducible exact LeO.none _)
      | (with_reducible refine LeO.ite ?_ ?_)
      | (with_reducible refine LeO.bind ?_ (fun _ => ?_))
      | exact ih0 _ _
      | exact LeO.none _
      | refine LeO.ite ?_ ?_
      | refine LeO.bind ?_ (fun _ => ?_)
set_option maxHeartbeats 8000000 in
set_option maxRecDepth 100000 in
theorem lampblackref02_Size.calls (k : Nat) (a0 : Int) (r : Int) (w : World) (h : lampblackref02_Size.f k a0 = some r) :
    Calls Tryd.prog 35 #[.int .i64 a0] w fun e w' => e = .returned (.int .i64 r) ∧ Drawn0 w w' := by
  have H : (lampblackref02_Size.l0 k a0 0) = some r := h
  clear h
  have H' := Aside0.mk H
  clear H
  go_enter Tryd.func35, Tryd.ntmps35
  go_wp2
  go_loopg [0, 3] k (fun kq v0 v3 w' => ∃ (x0_1 : Int) (x3_1 : Int), v0 = .int .i64 x0_1 ∧ v3 = .int .i64 x3_1 ∧ Aside0 (lampblackref02_Size.l0 kq x0_1 x3_1 = some r) ∧ Aside0 (kq ≤ k) ∧ Drawn0 w w')
  case atStart => exact ⟨(a0), (0), (by first | rfl | (simp; done) | (simp [*]; done)), (by first | rfl | (simp; done) | (simp [*]; done)), H', ⟨Nat.le_refl _⟩, by repeat (first | exact Drawn0.refl _ | apply Drawn0.step)⟩
  case round =>
    clear H'
    obtain ⟨x0_1, x3_1, rfl, rfl, HA, HK1, ⟨m1, rfl⟩⟩ := hrel
    cases gk with
    | zero => exact absurd HA.out (by simp [lampblackref02_Size.l0])
    | succ k1 =>
      have H := HA.out
      clear HA
      simp only [lampblackref02_Size.l0] at H
      by_cases c2 : x0_1 > 0
      · rw [if_pos c2] at H
        have c2b0 : decide (0 < x0_1) = true := decide_eq_true c2
        clear c2
        have H' := Aside0.mk H
        clear H
        go_wp2
        go_roundg k1
        case measure => have := HK1.out; omega
        case rel => exact ⟨(Go.bits .and .i64 x0_1 (wrap64 (x0_1 - 1))), (wrap64 (x3_1 + 1)), (by first | rfl | (simp; done) | (simp [*]; done)), (by first | rfl | (simp; done) | (simp [*]; done)), H', ⟨by have := HK1.out; omega⟩, by repeat (first | exact Drawn0.refl _ | apply Drawn0.step)⟩
      · rw [if_neg c2] at H
        have c2b0 : decide (0 < x0_1) = false := decide_eq_false c2
        clear c2
        obtain rfl := Option.some.inj H
        go_wp2
        go_ret
        exact ⟨by first | rfl | (simp; done) | (simp [*]; done), by repeat (first | exact Drawn0.refl _ | apply Drawn0.step)⟩

end Go.Proofs.YtoffehihicabcaaDoor.X
end
section
-- by ownprint.py (wip/tool), over the kit's print
namespace Go.Proofs.YtoffehihicabcaaDoor.X
open Go.RowKit Go.Proofs.YtoffehihicabcaaDoorW.PrintWords Go.Proofs.YtoffehihicabcaaDoorW.PrintLast Go.Proofs.YtoffehihicabcaaDoorW.PrintMore
attribute [local go_sem] max2_int min2_int max_two min_two max_three min_three max_four min_four
set_option linter.unusedVariables false
set_option linter.unusedSimpArgs false

/-! ### width_Touch: function 22 -/
def width_Touch.f (k : Nat) (l0 : List Int) (a1 : Int) (a2 : Int) : Option (Bool × Int) := (width_read.f k l0).bind fun bt206 => (if bt206.2 = true then ((width_town_set.f bt206.1 a1).bind fun t210 => (if t210 = true then ((width_town_set.f bt206.1 a2).bind fun t211 => (if t211 = true then ((width_town_connected.f k bt206.1 a1).bind fun t212 => (if t212 = true then ((width_town_connected.f k bt206.1 a2).bind fun t213 => (if t213 = true then ((width_town_touch.f k bt206.1 a1 a2).bind fun t214 => (some (t214, 0))) else (some (false, 2)))) else (some (false, 2)))) else (some (false, 2)))) else (some (false, 2)))) else (some (false, 2)))
theorem width_Touch.mono : ∀ a0 a1 a2 k, LeO (width_Touch.f k a0 a1 a2) (width_Touch.f (k + 1) a0 a1 a2) := by
  intro a0 a1 a2 k
  unfold width_Touch.f
  repeat' first
      | (with_reducible exact width_read.mono _ _)
      | (with_reducible exact width_town_connected.mono _ _ _)
      | (with_reducible exact width_town_touch.mono _ _ _ _)
      | (with_reducible exact LeO.refl _)
      | (with_reducible exact LeO.none _)
      | (with_reducible refine LeO.ite ?_ ?_)
      | (with_reducible refine LeO.bind ?_ (fun _ => ?_))
      | exact width_read.mono _ _
      | exact width_town_connected.mono _ _ _
      | exact width_town_touch.mono _ _ _ _
      | exact LeO.none _
      | refine LeO.ite ?_ ?_
      | refine LeO.bind ?_ (fun _ => ?_)
set_option maxHeartbeats 8000000 in
set_option maxRecDepth 100000 in
theorem width_Touch.calls (k : Nat) (A0 : Option Addr) (c0 : Nat) (l0 : List Int) (a1 : Int) (a2 : Int) (r1 : Bool) (r2 : Int) (w : World) (hGL : GL w) (hr0 : Kd.C (Kd.int .i64) w A0 l0.length l0) (hc0 : l0.length ≤ c0) (h : width_Touch.f k l0 a1 a2 = some (r1, r2)) :
    Calls Tryd.prog 22 #[.slice A0 l0.length c0, .int .i64 a1, .int .i64 a2] w fun e w' => e = .returned (.tuple #[.bool r1, .int .i64 r2]) ∧ Below w.heap.size w w' := by
  have HGL := Aside0.mk hGL
  clear hGL
  have HR0 := Aside0.mk hr0
  have HC0 := Aside0.mk hc0
  clear hr0 hc0
  have HB := Aside0.mk (Below.refl w.heap.size w)
  have H : ((width_read.f k l0).bind fun bt206 => (if bt206.2 = true then ((width_town_set.f bt206.1 a1).bind fun t210 => (if t210 = true then ((width_town_set.f bt206.1 a2).bind fun t211 => (if t211 = true then ((width_town_connected.f k bt206.1 a1).bind fun t212 => (if t212 = true then ((width_town_connected.f k bt206.1 a2).bind fun t213 => (if t213 = true then ((width_town_touch.f k bt206.1 a1 a2).bind fun t214 => (some (t214, 0))) else (some (false, 2)))) else (some (false, 2)))) else (some (false, 2)))) else (some (false, 2)))) else (some (false, 2)))) = some (r1, r2) := h
  clear h
  replace H := Option.bind_eq_some_iff.mp H
  obtain ⟨⟨t206, t209⟩, A40, H⟩ := H
  replace H : (if t209 = true then ((width_town_set.f t206 a1).bind fun t210 => (if t210 = true then ((width_town_set.f t206 a2).bind fun t211 => (if t211 = true then ((width_town_connected.f k t206 a1).bind fun t212 => (if t212 = true then ((width_town_connected.f k t206 a2).bind fun t213 => (if t213 = true then ((width_town_touch.f k t206 a1 a2).bind fun t214 => (some (t214, 0))) else (some (false, 2)))) else (some (false, 2)))) else (some (false, 2)))) else (some (false, 2)))) else (some (false, 2))) = some (r1, r2) := H
  have A4 := Aside0.mk A40
  clear A40
  by_cases c5 : t209 = true
  · subst c5
    have H1 : ((width_town_set.f t206 a1).bind fun t210 => (if t210 = true then ((width_town_set.f t206 a2).bind fun t211 => (if t211 = true then ((width_town_connected.f k t206 a1).bind fun t212 => (if t212 = true then ((width_town_connected.f k t206 a2).bind fun t213 => (if t213 = true then ((width_town_touch.f k t206 a1 a2).bind fun t214 => (some (t214, 0))) else (some (false, 2)))) else (some (false, 2)))) else (some (false, 2)))) else (some (false, 2)))) = some (r1, r2) := by rw [if_pos rfl] at H; exact H
    clear H
    have H := H1
    clear H1
    replace H := Option.bind_eq_some_iff.mp H
    obtain ⟨t210, A60, H⟩ := H
    replace H : (if t210 = true then ((width_town_set.f t206 a2).bind fun t211 => (if t211 = true then ((width_town_connected.f k t206 a1).bind fun t212 => (if t212 = true then ((width_town_connected.f k t206 a2).bind fun t213 => (if t213 = true then ((width_town_touch.f k t206 a1 a2).bind fun t214 => (some (t214, 0))) else (some (false, 2)))) else (some (false, 2)))) else (some (false, 2)))) else (some (false, 2))) = some (r1, r2) := H
    have A6 := Aside0.mk A60
    clear A60
    by_cases c7 : t210 = true
    · subst c7
      have H1 : ((width_town_set.f t206 a2).bind fun t211 => (if t211 = true then ((width_town_connected.f k t206 a1).bind fun t212 => (if t212 = true then ((width_town_connected.f k t206 a2).bind fun t213 => (if t213 = true then ((width_town_touch.f k t206 a1 a2).bind fun t214 => (some (t214, 0))) else (some (false, 2)))) else (some (false, 2)))) else (some (false, 2)))) = some (r1, r2) := by rw [if_pos rfl] at H; exact H
      clear H
      have H := H1
      clear H1
      replace H := Option.bind_eq_some_iff.mp H
      obtain ⟨t211, A80, H⟩ := H
      replace H : (if t211 = true then ((width_town_connected.f k t206 a1).bind fun t212 => (if t212 = true then ((width_town_connected.f k t206 a2).bind fun t213 => (if t213 = true then ((width_town_touch.f k t206 a1 a2).bind fun t214 => (some (t214, 0))) else (some (false, 2)))) else (some (false, 2)))) else (some (false, 2))) = some (r1, r2) := H
      have A8 := Aside0.mk A80
      clear A80
      by_cases c9 : t211 = true
      · subst c9
        have H1 : ((width_town_connected.f k t206 a1).bind fun t212 => (if t212 = true then ((width_town_connected.f k t206 a2).bind fun t213 => (if t213 = true then ((width_town_touch.f k t206 a1 a2).bind fun t214 => (some (t214, 0))) else (some (false, 2)))) else (some (false, 2)))) = some (r1, r2) := by rw [if_pos rfl] at H; exact H
        clear H
        have H := H1
        clear H1
        replace H := Option.bind_eq_some_iff.mp H
        obtain ⟨t212, A100, H⟩ := H
        replace H : (if t212 = true then ((width_town_connected.f k t206 a2).bind fun t213 => (if t213 = true then ((width_town_touch.f k t206 a1 a2).bind fun t214 => (some (t214, 0))) else (some (false, 2)))) else (some (false, 2))) = some (r1, r2) := H
        have A10 := Aside0.mk A100
        clear A100
        by_cases c11 : t212 = true
        · subst c11
          have H1 : ((width_town_connected.f k t206 a2).bind fun t213 => (if t213 = true then ((width_town_touch.f k t206 a1 a2).bind fun t214 => (some (t214, 0))) else (some (false, 2)))) = some (r1, r2) := by rw [if_pos rfl] at H; exact H
          clear H
          have H := H1
          clear H1
          replace H := Option.bind_eq_some_iff.mp H
          obtain ⟨t213, A120, H⟩ := H
          replace H : (if t213 = true then ((width_town_touch.f k t206 a1 a2).bind fun t214 => (some (t214, 0))) else (some (false, 2))) = some (r1, r2) := H
          have A12 := Aside0.mk A120
          clear A120
          by_cases c13 : t213 = true
          · subst c13
            have H1 : ((width_town_touch.f k t206 a1 a2).bind fun t214 => (some (t214, 0))) = some (r1, r2) := by rw [if_pos rfl] at H; exact H
            clear H
            have H := H1
            clear H1
            replace H := Option.bind_eq_some_iff.mp H
            obtain ⟨t214, A140, H⟩ := H
            replace H : (some (t214, 0)) = some (r1, r2) := H
            have A14 := Aside0.mk A140
            clear A140
            simp only [Option.some.injEq, Prod.mk.injEq] at H
            obtain ⟨rfl, rfl⟩ := H
            go_enter Tryd.func22, Tryd.ntmps22
            go_wp2_with (first | ((with_reducible refine gate_callee (f := 59) rfl ?_); refine goesL_ (some 12) rfl rfl Tryd.func59 (by kernel_rfl) rfl #[.slice A0 l0.length c0] rfl (by (try simp only [List.map_toArray, List.map_cons, List.map_nil]); first | done | rfl | (simp only [List.length_drop, List.length_take]; rfl)) ?_; (with_reducible refine (width_read.calls k (fun k_ => k_ < w.heap.size) _ _ l0 t206 true _ ?side1 A4.out).mono ?_); (case side1 => exact Kd.V_mk HC0.out (Kd.F_below (Kd.C_F (Kd.heap_int .i64) HR0.out) (by repeat (first | (with_reducible first | exact HB.out | apply below_alloc | apply pw_below_drewN | apply below_drew1) | exact HB.out)))); rintro e w15 ⟨v207, rfl, ho0, hb⟩; refine ⟨_, rfl, ?_⟩; have n0_ := Aside0.mk (Kd.V_lower (Kd.V_mono (ok' := fun k_ => True) ho0 (fun k_ hk_ => trivial)) (below_size (by repeat (first | (with_reducible first | exact HB.out | apply below_alloc | apply pw_below_drewN | apply below_drew1) | exact HB.out)))); have n1_ := Aside0.mk (below_step (by repeat (first | (with_reducible first | exact HB.out | apply below_alloc | apply pw_below_drewN | apply below_drew1) | exact HB.out)) hb); clear HB; have HO208 := n0_; have HB := n1_; clear n0_ n1_; (try clear hb); (try clear hb2); (try clear hk); (try clear hi); (try clear ho0); obtain ⟨Ao16, co16, eo16⟩ := Kd.V_slice HO208.out; subst eo16) | (go_at_call 62; (with_reducible refine (width_town_set.calls _ _ t206 a1 true _ ?side1 ?side2 A6.out).mono ?_); (case side1 => repeat (first | exact (Kd.V_reads' HO208.out).2.2 | (with_reducible refine Kd.C_alloc ?_ _) | (with_reducible refine Kd.C_drewN ?_ _) | (with_reducible refine Kd.C_drew ?_))); (case side2 => exact (Kd.V_reads' HO208.out).2.1); rintro e w' ⟨rfl, ⟨nd, rfl⟩⟩) | (go_at_call 62; (with_reducible refine (width_town_set.calls _ _ t206 a2 true _ ?side1 ?side2 A8.out).mono ?_); (case side1 => repeat (first | exact (Kd.V_reads' HO208.out).2.2 | (with_reducible refine Kd.C_alloc ?_ _) | (with_reducible refine Kd.C_drewN ?_ _) | (with_reducible refine Kd.C_drew ?_))); (case side2 => exact (Kd.V_reads' HO208.out).2.1); rintro e w' ⟨rfl, ⟨nd, rfl⟩⟩) | (go_at_call 63; (with_reducible refine (width_town_connected.calls (hGL := (by repeat (first | (with_reducible exact HGL.out) | (with_reducible exact GL_below HGL.out HB.out) | (with_reducible refine GL_alloc ?_ _) | (with_reducible refine GL_drewN ?_ _) | (with_reducible refine GL_drew ?_)))) k _ _ t206 a1 true _ ?side1 ?side2 A10.out).mono ?_); (case side1 => repeat (first | exact (Kd.V_reads' HO208.out).2.2 | (with_reducible refine Kd.C_alloc ?_ _) | (with_reducible refine Kd.C_drewN ?_ _) | (with_reducible refine Kd.C_drew ?_))); (case side2 => exact (Kd.V_reads' HO208.out).2.1); rintro e w17 ⟨rfl, hb⟩; have n0_ := Aside0.mk (Kd.V_below (by (with_reducible repeat (first | apply Kd.V_alloc | apply Kd.V_drewN | apply Kd.V_drew)); exact HO208.out) hb); have n1_ := Aside0.mk (below_step (by repeat (first | (with_reducible first | exact HB.out | apply below_alloc | apply pw_below_drewN | apply below_drew1) | exact HB.out)) hb); clear HO208; clear HB; have HO208 := n0_; have HB := n1_; clear n0_ n1_; (try clear hb); (try clear hb2); (try clear hk); (try clear hi)) | (go_at_call 63; (with_reducible refine (width_town_connected.calls (hGL := (by repeat (first | (with_reducible exact HGL.out) | (with_reducible exact GL_below HGL.out HB.out) | (with_reducible refine GL_alloc ?_ _) | (with_reducible refine GL_drewN ?_ _) | (with_reducible refine GL_drew ?_)))) k _ _ t206 a2 true _ ?side1 ?side2 A12.out).mono ?_); (case side1 => repeat (first | exact (Kd.V_reads' HO208.out).2.2 | (with_reducible refine Kd.C_alloc ?_ _) | (with_reducible refine Kd.C_drewN ?_ _) | (with_reducible refine Kd.C_drew ?_))); (case side2 => exact (Kd.V_reads' HO208.out).2.1); rintro e w18 ⟨rfl, hb⟩; have n0_ := Aside0.mk (Kd.V_below (by (with_reducible repeat (first | apply Kd.V_alloc | apply Kd.V_drewN | apply Kd.V_drew)); exact HO208.out) hb); have n1_ := Aside0.mk (below_step (by repeat (first | (with_reducible first | exact HB.out | apply below_alloc | apply pw_below_drewN | apply below_drew1) | exact HB.out)) hb); clear HO208; clear HB; have HO208 := n0_; have HB := n1_; clear n0_ n1_; (try clear hb); (try clear hb2); (try clear hk); (try clear hi)) | ((with_reducible refine gate_callee (f := 64) rfl ?_); refine goesL_ (some 44) rfl rfl Tryd.func64 (by kernel_rfl) rfl #[.slice Ao16 t206.length co16, .int .i64 a1, .int .i64 a2] rfl (by (try simp only [List.map_toArray, List.map_cons, List.map_nil]); first | done | rfl | (simp only [List.length_drop, List.length_take]; rfl)) ?_; (with_reducible refine (width_town_touch.calls (hGL := (by repeat (first | (with_reducible exact HGL.out) | (with_reducible exact GL_below HGL.out HB.out) | (with_reducible refine GL_alloc ?_ _) | (with_reducible refine GL_drewN ?_ _) | (with_reducible refine GL_drew ?_)))) k _ _ t206 a1 a2 t214 _ ?side1 ?side2 A14.out).mono ?_); (case side1 => repeat (first | exact (Kd.V_reads' HO208.out).2.2 | (with_reducible refine Kd.C_alloc ?_ _) | (with_reducible refine Kd.C_drewN ?_ _) | (with_reducible refine Kd.C_drew ?_))); (case side2 => exact (Kd.V_reads' HO208.out).2.1); rintro e w19 ⟨rfl, hb⟩; refine ⟨_, rfl, ?_⟩; have n0_ := Aside0.mk (Kd.V_below (by (with_reducible repeat (first | apply Kd.V_alloc | apply Kd.V_drewN | apply Kd.V_drew)); exact HO208.out) hb); have n1_ := Aside0.mk (below_step (by repeat (first | (with_reducible first | exact HB.out | apply below_alloc | apply pw_below_drewN | apply below_drew1) | exact HB.out)) hb); clear HO208; clear HB; have HO208 := n0_; have HB := n1_; clear n0_ n1_; (try clear hb); (try clear hb2); (try clear hk); (try clear hi)))
            go_ret2
            exact ⟨by first | rfl | (simp [errW_none, errW_some] <;> rfl) | (simp [*, errW_none, errW_some] <;> rfl), by repeat (first | (with_reducible first | exact HB.out | apply below_alloc | apply pw_below_drewN | apply below_drew1) | exact HB.out)⟩
          · replace c13 := Bool.eq_false_iff.mpr c13
            subst c13
            have H1 : (some (false, 2)) = some (r1, r2) := by rw [if_neg (show ¬ (false = true) by decide)] at H; exact H
            clear H
            have H := H1
            clear H1
            simp only [Option.some.injEq, Prod.mk.injEq] at H
            obtain ⟨rfl, rfl⟩ := H
            go_enter Tryd.func22, Tryd.ntmps22
            go_wp2_with (first | ((with_reducible refine gate_callee (f := 59) rfl ?_); refine goesL_ (some 12) rfl rfl Tryd.func59 (by kernel_rfl) rfl #[.slice A0 l0.length c0] rfl (by (try simp only [List.map_toArray, List.map_cons, List.map_nil]); first | done | rfl | (simp only [List.length_drop, List.length_take]; rfl)) ?_; (with_reducible refine (width_read.calls k (fun k_ => k_ < w.heap.size) _ _ l0 t206 true _ ?side1 A4.out).mono ?_); (case side1 => exact Kd.V_mk HC0.out (Kd.F_below (Kd.C_F (Kd.heap_int .i64) HR0.out) (by repeat (first | (with_reducible first | exact HB.out | apply below_alloc | apply pw_below_drewN | apply below_drew1) | exact HB.out)))); rintro e w20 ⟨v207, rfl, ho0, hb⟩; refine ⟨_, rfl, ?_⟩; have n0_ := Aside0.mk (Kd.V_lower (Kd.V_mono (ok' := fun k_ => True) ho0 (fun k_ hk_ => trivial)) (below_size (by repeat (first | (with_reducible first | exact HB.out | apply below_alloc | apply pw_below_drewN | apply below_drew1) | exact HB.out)))); have n1_ := Aside0.mk (below_step (by repeat (first | (with_reducible first | exact HB.out | apply below_alloc | apply pw_below_drewN | apply below_drew1) | exact HB.out)) hb); clear HB; have HO208 := n0_; have HB := n1_; clear n0_ n1_; (try clear hb); (try clear hb2); (try clear hk); (try clear hi); (try clear ho0); obtain ⟨Ao21, co21, eo21⟩ := Kd.V_slice HO208.out; subst eo21) | (go_at_call 62; (with_reducible refine (width_town_set.calls _ _ t206 a1 true _ ?side1 ?side2 A6.out).mono ?_); (case side1 => repeat (first | exact (Kd.V_reads' HO208.out).2.2 | (with_reducible refine Kd.C_alloc ?_ _) | (with_reducible refine Kd.C_drewN ?_ _) | (with_reducible refine Kd.C_drew ?_))); (case side2 => exact (Kd.V_reads' HO208.out).2.1); rintro e w' ⟨rfl, ⟨nd, rfl⟩⟩) | (go_at_call 62; (with_reducible refine (width_town_set.calls _ _ t206 a2 true _ ?side1 ?side2 A8.out).mono ?_); (case side1 => repeat (first | exact (Kd.V_reads' HO208.out).2.2 | (with_reducible refine Kd.C_alloc ?_ _) | (with_reducible refine Kd.C_drewN ?_ _) | (with_reducible refine Kd.C_drew ?_))); (case side2 => exact (Kd.V_reads' HO208.out).2.1); rintro e w' ⟨rfl, ⟨nd, rfl⟩⟩) | (go_at_call 63; (with_reducible refine (width_town_connected.calls (hGL := (by repeat (first | (with_reducible exact HGL.out) | (with_reducible exact GL_below HGL.out HB.out) | (with_reducible refine GL_alloc ?_ _) | (with_reducible refine GL_drewN ?_ _) | (with_reducible refine GL_drew ?_)))) k _ _ t206 a1 true _ ?side1 ?side2 A10.out).mono ?_); (case side1 => repeat (first | exact (Kd.V_reads' HO208.out).2.2 | (with_reducible refine Kd.C_alloc ?_ _) | (with_reducible refine Kd.C_drewN ?_ _) | (with_reducible refine Kd.C_drew ?_))); (case side2 => exact (Kd.V_reads' HO208.out).2.1); rintro e w22 ⟨rfl, hb⟩; have n0_ := Aside0.mk (Kd.V_below (by (with_reducible repeat (first | apply Kd.V_alloc | apply Kd.V_drewN | apply Kd.V_drew)); exact HO208.out) hb); have n1_ := Aside0.mk (below_step (by repeat (first | (with_reducible first | exact HB.out | apply below_alloc | apply pw_below_drewN | apply below_drew1) | exact HB.out)) hb); clear HO208; clear HB; have HO208 := n0_; have HB := n1_; clear n0_ n1_; (try clear hb); (try clear hb2); (try clear hk); (try clear hi)) | (go_at_call 63; (with_reducible refine (width_town_connected.calls (hGL := (by repeat (first | (with_reducible exact HGL.out) | (with_reducible exact GL_below HGL.out HB.out) | (with_reducible refine GL_alloc ?_ _) | (with_reducible refine GL_drewN ?_ _) | (with_reducible refine GL_drew ?_)))) k _ _ t206 a2 false _ ?side1 ?side2 A12.out).mono ?_); (case side1 => repeat (first | exact (Kd.V_reads' HO208.out).2.2 | (with_reducible refine Kd.C_alloc ?_ _) | (with_reducible refine Kd.C_drewN ?_ _) | (with_reducible refine Kd.C_drew ?_))); (case side2 => exact (Kd.V_reads' HO208.out).2.1); rintro e w23 ⟨rfl, hb⟩; have n0_ := Aside0.mk (Kd.V_below (by (with_reducible repeat (first | apply Kd.V_alloc | apply Kd.V_drewN | apply Kd.V_drew)); exact HO208.out) hb); have n1_ := Aside0.mk (below_step (by repeat (first | (with_reducible first | exact HB.out | apply below_alloc | apply pw_below_drewN | apply below_drew1) | exact HB.out)) hb); clear HO208; clear HB; have HO208 := n0_; have HB := n1_; clear n0_ n1_; (try clear hb); (try clear hb2); (try clear hk); (try clear hi)))
            go_ret2
            exact ⟨by first | rfl | (simp [errW_none, errW_some] <;> rfl) | (simp [*, errW_none, errW_some] <;> rfl), by repeat (first | (with_reducible first | exact HB.out | apply below_alloc | apply pw_below_drewN | apply below_drew1) | exact HB.out)⟩
        · replace c11 := Bool.eq_false_iff.mpr c11
          subst c11
          have H1 : (some (false, 2)) = some (r1, r2) := by rw [if_neg (show ¬ (false = true) by decide)] at H; exact H
          clear H
          have H := H1
          clear H1
          simp only [Option.some.injEq, Prod.mk.injEq] at H
          obtain ⟨rfl, rfl⟩ := H
          go_enter Tryd.func22, Tryd.ntmps22
          go_wp2_with (first | ((with_reducible refine gate_callee (f := 59) rfl ?_); refine goesL_ (some 12) rfl rfl Tryd.func59 (by kernel_rfl) rfl #[.slice A0 l0.length c0] rfl (by (try simp only [List.map_toArray, List.map_cons, List.map_nil]); first | done | rfl | (simp only [List.length_drop, List.length_take]; rfl)) ?_; (with_reducible refine (width_read.calls k (fun k_ => k_ < w.heap.size) _ _ l0 t206 true _ ?side1 A4.out).mono ?_); (case side1 => exact Kd.V_mk HC0.out (Kd.F_below (Kd.C_F (Kd.heap_int .i64) HR0.out) (by repeat (first | (with_reducible first | exact HB.out | apply below_alloc | apply pw_below_drewN | apply below_drew1) | exact HB.out)))); rintro e w24 ⟨v207, rfl, ho0, hb⟩; refine ⟨_, rfl, ?_⟩; have n0_ := Aside0.mk (Kd.V_lower (Kd.V_mono (ok' := fun k_ => True) ho0 (fun k_ hk_ => trivial)) (below_size (by repeat (first | (with_reducible first | exact HB.out | apply below_alloc | apply pw_below_drewN | apply below_drew1) | exact HB.out)))); have n1_ := Aside0.mk (below_step (by repeat (first | (with_reducible first | exact HB.out | apply below_alloc | apply pw_below_drewN | apply below_drew1) | exact HB.out)) hb); clear HB; have HO208 := n0_; have HB := n1_; clear n0_ n1_; (try clear hb); (try clear hb2); (try clear hk); (try clear hi); (try clear ho0); obtain ⟨Ao25, co25, eo25⟩ := Kd.V_slice HO208.out; subst eo25) | (go_at_call 62; (with_reducible refine (width_town_set.calls _ _ t206 a1 true _ ?side1 ?side2 A6.out).mono ?_); (case side1 => repeat (first | exact (Kd.V_reads' HO208.out).2.2 | (with_reducible refine Kd.C_alloc ?_ _) | (with_reducible refine Kd.C_drewN ?_ _) | (with_reducible refine Kd.C_drew ?_))); (case side2 => exact (Kd.V_reads' HO208.out).2.1); rintro e w' ⟨rfl, ⟨nd, rfl⟩⟩) | (go_at_call 62; (with_reducible refine (width_town_set.calls _ _ t206 a2 true _ ?side1 ?side2 A8.out).mono ?_); (case side1 => repeat (first | exact (Kd.V_reads' HO208.out).2.2 | (with_reducible refine Kd.C_alloc ?_ _) | (with_reducible refine Kd.C_drewN ?_ _) | (with_reducible refine Kd.C_drew ?_))); (case side2 => exact (Kd.V_reads' HO208.out).2.1); rintro e w' ⟨rfl, ⟨nd, rfl⟩⟩) | (go_at_call 63; (with_reducible refine (width_town_connected.calls (hGL := (by repeat (first | (with_reducible exact HGL.out) | (with_reducible exact GL_below HGL.out HB.out) | (with_reducible refine GL_alloc ?_ _) | (with_reducible refine GL_drewN ?_ _) | (with_reducible refine GL_drew ?_)))) k _ _ t206 a1 false _ ?side1 ?side2 A10.out).mono ?_); (case side1 => repeat (first | exact (Kd.V_reads' HO208.out).2.2 | (with_reducible refine Kd.C_alloc ?_ _) | (with_reducible refine Kd.C_drewN ?_ _) | (with_reducible refine Kd.C_drew ?_))); (case side2 => exact (Kd.V_reads' HO208.out).2.1); rintro e w26 ⟨rfl, hb⟩; have n0_ := Aside0.mk (Kd.V_below (by (with_reducible repeat (first | apply Kd.V_alloc | apply Kd.V_drewN | apply Kd.V_drew)); exact HO208.out) hb); have n1_ := Aside0.mk (below_step (by repeat (first | (with_reducible first | exact HB.out | apply below_alloc | apply pw_below_drewN | apply below_drew1) | exact HB.out)) hb); clear HO208; clear HB; have HO208 := n0_; have HB := n1_; clear n0_ n1_; (try clear hb); (try clear hb2); (try clear hk); (try clear hi)))
          go_ret2
          exact ⟨by first | rfl | (simp [errW_none, errW_some] <;> rfl) | (simp [*, errW_none, errW_some] <;> rfl), by repeat (first | (with_reducible first | exact HB.out | apply below_alloc | apply pw_below_drewN | apply below_drew1) | exact HB.out)⟩
      · replace c9 := Bool.eq_false_iff.mpr c9
        subst c9
        have H1 : (some (false, 2)) = some (r1, r2) := by rw [if_neg (show ¬ (false = true) by decide)] at H; exact H
        clear H
        have H := H1
        clear H1
        simp only [Option.some.injEq, Prod.mk.injEq] at H
        obtain ⟨rfl, rfl⟩ := H
        go_enter Tryd.func22, Tryd.ntmps22
        go_wp2_with (first | ((with_reducible refine gate_callee (f := 59) rfl ?_); refine goesL_ (some 12) rfl rfl Tryd.func59 (by kernel_rfl) rfl #[.slice A0 l0.length c0] rfl (by (try simp only [List.map_toArray, List.map_cons, List.map_nil]); first | done | rfl | (simp only [List.length_drop, List.length_take]; rfl)) ?_; (with_reducible refine (width_read.calls k (fun k_ => k_ < w.heap.size) _ _ l0 t206 true _ ?side1 A4.out).mono ?_); (case side1 => exact Kd.V_mk HC0.out (Kd.F_below (Kd.C_F (Kd.heap_int .i64) HR0.out) (by repeat (first | (with_reducible first | exact HB.out | apply below_alloc | apply pw_below_drewN | apply below_drew1) | exact HB.out)))); rintro e w27 ⟨v207, rfl, ho0, hb⟩; refine ⟨_, rfl, ?_⟩; have n0_ := Aside0.mk (Kd.V_lower (Kd.V_mono (ok' := fun k_ => True) ho0 (fun k_ hk_ => trivial)) (below_size (by repeat (first | (with_reducible first | exact HB.out | apply below_alloc | apply pw_below_drewN | apply below_drew1) | exact HB.out)))); have n1_ := Aside0.mk (below_step (by repeat (first | (with_reducible first | exact HB.out | apply below_alloc | apply pw_below_drewN | apply below_drew1) | exact HB.out)) hb); clear HB; have HO208 := n0_; have HB := n1_; clear n0_ n1_; (try clear hb); (try clear hb2); (try clear hk); (try clear hi); (try clear ho0); obtain ⟨Ao28, co28, eo28⟩ := Kd.V_slice HO208.out; subst eo28) | (go_at_call 62; (with_reducible refine (width_town_set.calls _ _ t206 a1 true _ ?side1 ?side2 A6.out).mono ?_); (case side1 => repeat (first | exact (Kd.V_reads' HO208.out).2.2 | (with_reducible refine Kd.C_alloc ?_ _) | (with_reducible refine Kd.C_drewN ?_ _) | (with_reducible refine Kd.C_drew ?_))); (case side2 => exact (Kd.V_reads' HO208.out).2.1); rintro e w' ⟨rfl, ⟨nd, rfl⟩⟩) | (go_at_call 62; (with_reducible refine (width_town_set.calls _ _ t206 a2 false _ ?side1 ?side2 A8.out).mono ?_); (case side1 => repeat (first | exact (Kd.V_reads' HO208.out).2.2 | (with_reducible refine Kd.C_alloc ?_ _) | (with_reducible refine Kd.C_drewN ?_ _) | (with_reducible refine Kd.C_drew ?_))); (case side2 => exact (Kd.V_reads' HO208.out).2.1); rintro e w' ⟨rfl, ⟨nd, rfl⟩⟩))
        go_ret2
        exact ⟨by first | rfl | (simp [errW_none, errW_some] <;> rfl) | (simp [*, errW_none, errW_some] <;> rfl), by repeat (first | (with_reducible first | exact HB.out | apply below_alloc | apply pw_below_drewN | apply below_drew1) | exact HB.out)⟩
    · replace c7 := Bool.eq_false_iff.mpr c7
      subst c7
      have H1 : (some (false, 2)) = some (r1, r2) := by rw [if_neg (show ¬ (false = true) by decide)] at H; exact H
      clear H
      have H := H1
      clear H1
      simp only [Option.some.injEq, Prod.mk.injEq] at H
      obtain ⟨rfl, rfl⟩ := H
      go_enter Tryd.func22, Tryd.ntmps22
      go_wp2_with (first | ((with_reducible refine gate_callee (f := 59) rfl ?_); refine goesL_ (some 12) rfl rfl Tryd.func59 (by kernel_rfl) rfl #[.slice A0 l0.length c0] rfl (by (try simp only [List.map_toArray, List.map_cons, List.map_nil]); first | done | rfl | (simp only [List.length_drop, List.length_take]; rfl)) ?_; (with_reducible refine (width_read.calls k (fun k_ => k_ < w.heap.size) _ _ l0 t206 true _ ?side1 A4.out).mono ?_); (case side1 => exact Kd.V_mk HC0.out (Kd.F_below (Kd.C_F (Kd.heap_int .i64) HR0.out) (by repeat (first | (with_reducible first | exact HB.out | apply below_alloc | apply pw_below_drewN | apply below_drew1) | exact HB.out)))); rintro e w29 ⟨v207, rfl, ho0, hb⟩; refine ⟨_, rfl, ?_⟩; have n0_ := Aside0.mk (Kd.V_lower (Kd.V_mono (ok' := fun k_ => True) ho0 (fun k_ hk_ => trivial)) (below_size (by repeat (first | (with_reducible first | exact HB.out | apply below_alloc | apply pw_below_drewN | apply below_drew1) | exact HB.out)))); have n1_ := Aside0.mk (below_step (by repeat (first | (with_reducible first | exact HB.out | apply below_alloc | apply pw_below_drewN | apply below_drew1) | exact HB.out)) hb); clear HB; have HO208 := n0_; have HB := n1_; clear n0_ n1_; (try clear hb); (try clear hb2); (try clear hk); (try clear hi); (try clear ho0); obtain ⟨Ao30, co30, eo30⟩ := Kd.V_slice HO208.out; subst eo30) | (go_at_call 62; (with_reducible refine (width_town_set.calls _ _ t206 a1 false _ ?side1 ?side2 A6.out).mono ?_); (case side1 => repeat (first | exact (Kd.V_reads' HO208.out).2.2 | (with_reducible refine Kd.C_alloc ?_ _) | (with_reducible refine Kd.C_drewN ?_ _) | (with_reducible refine Kd.C_drew ?_))); (case side2 => exact (Kd.V_reads' HO208.out).2.1); rintro e w' ⟨rfl, ⟨nd, rfl⟩⟩))
      go_ret2
      exact ⟨by first | rfl | (simp [errW_none, errW_some] <;> rfl) | (simp [*, errW_none, errW_some] <;> rfl), by repeat (first | (with_reducible first | exact HB.out | apply below_alloc | apply pw_below_drewN | apply below_drew1) | exact HB.out)⟩
  · replace c5 := Bool.eq_false_iff.mpr c5
    subst c5
    have H1 : (some (false, 2)) = some (r1, r2) := by rw [if_neg (show ¬ (false = true) by decide)] at H; exact H
    clear H
    have H := H1
    clear H1
    simp only [Option.some.injEq, Prod.mk.injEq] at H
    obtain ⟨rfl, rfl⟩ := H
    go_enter Tryd.func22, Tryd.ntmps22
    go_wp2_with (first | ((with_reducible refine gate_callee (f := 59) rfl ?_); refine goesL_ (some 12) rfl rfl Tryd.func59 (by kernel_rfl) rfl #[.slice A0 l0.length c0] rfl (by (try simp only [List.map_toArray, List.map_cons, List.map_nil]); first | done | rfl | (simp only [List.length_drop, List.length_take]; rfl)) ?_; (with_reducible refine (width_read.calls k (fun k_ => k_ < w.heap.size) _ _ l0 t206 false _ ?side1 A4.out).mono ?_); (case side1 => exact Kd.V_mk HC0.out (Kd.F_below (Kd.C_F (Kd.heap_int .i64) HR0.out) (by repeat (first | (with_reducible first | exact HB.out | apply below_alloc | apply pw_below_drewN | apply below_drew1) | exact HB.out)))); rintro e w31 ⟨v207, rfl, ho0, hb⟩; refine ⟨_, rfl, ?_⟩; have n0_ := Aside0.mk (Kd.V_lower (Kd.V_mono (ok' := fun k_ => True) ho0 (fun k_ hk_ => trivial)) (below_size (by repeat (first | (with_reducible first | exact HB.out | apply below_alloc | apply pw_below_drewN | apply below_drew1) | exact HB.out)))); have n1_ := Aside0.mk (below_step (by repeat (first | (with_reducible first | exact HB.out | apply below_alloc | apply pw_below_drewN | apply below_drew1) | exact HB.out)) hb); clear HB; have HO208 := n0_; have HB := n1_; clear n0_ n1_; (try clear hb); (try clear hb2); (try clear hk); (try clear hi); (try clear ho0)))
    go_ret2
    exact ⟨by first | rfl | (simp [errW_none, errW_some] <;> rfl) | (simp [*, errW_none, errW_some] <;> rfl), by repeat (first | (with_reducible first | exact HB.out | apply below_alloc | apply pw_below_drewN | apply below_drew1) | exact HB.out)⟩

end Go.Proofs.YtoffehihicabcaaDoor.X
end
section
/- Connected sets, and whether two sets touch: the program's word and the reference's are one. -/
set_option linter.unusedVariables false
namespace Go.Proofs.YtoffehihicabcaaDoor.X
open Go.RowKit Go.Proofs.YtoffehihicabcaaDoorW.PrintWords Go.Proofs.YtoffehihicabcaaDoorW.PrintLast Go.Proofs.YtoffehihicabcaaDoorW.PrintMore Go.Proofs.YtoffehihicabcaaDoor.T

/-- The least element of a set. -/
def low (a : Nat) : Nat := (els a 9).headD 0
theorem low_neg : ∀ x : Fin 512, 0 < x.val → Go.bits .and .i64 (x.val : Int) (wrap64 (-(x.val : Int))) = ((2 ^ low x.val : Nat) : Int) := by decide +kernel
theorem low_bits : ∀ x : Fin 512, 0 < x.val → x.val.testBit (low x.val) = true ∧ ∀ i : Fin 9, i.val < low x.val → x.val.testBit i.val = false := by decide +kernel
theorem size_all : ∀ x : Fin 512, lampblackref02_Size.f 12 (x.val : Int) = some (pc x.val 9 : Int) := by decide +kernel
theorem size_ev (x : Nat) (hx : x < 512) : Ev (fun k => lampblackref02_Size.f k (x : Int)) ((pc x 9 : Nat) : Int) := Ev.of (lampblackref02_Size.mono _) (size_all ⟨x, hx⟩)

/-- Is a a connected set of nodes? -/
noncomputable def conn (G : List Nat) (a : Int) : Bool := decide (0 < a) && decide (a < ((2 ^ G.length : Nat) : Int)) && decide (conset G (2 ^ low a.toNat) a.toNat = a.toNat)
theorem low_lt {G : List Nat} {a : Nat} (h0 : 0 < a) (h : a < 2 ^ G.length) (hn : G.length ≤ 9) : low a < G.length := bit_lt h (low_bits ⟨a, small G hn h⟩ h0).1

theorem progSet (G : List Nat) (hG : Gr 9 G) (a : Int) : width_town_set.f (gi G) a = some (decide (0 ≤ a) && decide (a < ((2 ^ G.length : Nat) : Int))) := by
  have h2 := Nat.two_pow_pos G.length
  unfold width_town_set.f
  by_cases h : 0 ≤ a
  · rw [if_pos h, all_eq G hG.most]
    simp only [Option.bind_some, h, decide_true, Bool.true_and]
    congr 1
    exact decide_eq_decide.2 (by omega)
  · rw [if_neg h]; simp [h]
theorem progConn (G : List Nat) (hG : Gr 9 G) (a : Nat) (ha : a < 2 ^ G.length) : Ev (fun k => width_town_connected.f k (gi G) (a : Int)) (conn G (a : Int)) := by
  have hn := hG.most
  unfold width_town_connected.f
  by_cases h0 : a = 0
  · subst h0
    exact Ev.if_pos rfl (Ev.some (by simp [conn]))
  · refine Ev.if_neg (by omega) ?_
    have hl := low_lt (G := G) (by omega) ha hn
    have hp : 2 ^ low a < 2 ^ G.length := Nat.pow_lt_pow_right (by omega) hl
    rw [show Go.bits .and .i64 (a : Int) (wrap64 (-(a : Int))) = ((2 ^ low a : Nat) : Int) from low_neg ⟨a, small G hn ha⟩ (by simp; omega)]
    refine Ev.bind (part_ev G hG _ _ hp ha) (Ev.some ?_)
    unfold conn
    rw [Int.toNat_natCast, decide_eq_true (show (0 : Int) < (a : Int) by omega), decide_eq_true (show (a : Int) < ((2 ^ G.length : Nat) : Int) by omega)]
    simp only [Bool.true_and]
    by_cases e : conset G (2 ^ low a) a = a
    · rw [e]; simp
    · rw [decide_eq_false e, beq_eq_false_iff_ne]; omega
theorem refConn_l0 (G : List Nat) (hG : Gr 9 G) (a : Nat) (h0 : 0 < a) (ha : a < 2 ^ G.length) : ∀ d i, i + d = low a → Ev (fun k => lampblackref02_Connected.l0 k (gi G) (a : Int) (i : Int)) (decide (conset G (2 ^ low a) a = a)) := by
  have hn := hG.most
  have hl := low_lt (G := G) h0 ha hn
  have hb := low_bits ⟨a, small G hn ha⟩ h0
  have hbig := big (small G hn ha)
  intro d
  induction d with
  | zero =>
    intro i hi
    obtain rfl : i = low a := by omega
    refine Ev.step (fun k => by rw [lampblackref02_Connected.l0, if_pos (by omega), if_neg (fun h => by have := (bit_zero a _ hbig (by omega)).1 h; rw [hb.1] at this; cases this)]) ?_
    refine Ev.bind (reached_ev 9 G hG (by omega) a (low a) ha hl) (Ev.some ?_)
    by_cases e : conset G (2 ^ low a) a = a
    · rw [e]; simp
    · rw [decide_eq_false e, beq_eq_false_iff_ne]; omega
  | succ d ih =>
    intro i hi
    refine Ev.step (fun k => ?_) (ih (i + 1) (by omega))
    rw [lampblackref02_Connected.l0, if_pos (by omega), if_pos ((bit_zero a i hbig (by omega)).2 (hb.2 ⟨i, by omega⟩ (by simp only []; omega))), wrap_succ i (by omega)]
theorem refConn (G : List Nat) (hG : Gr 9 G) (a : Int) : Ev (fun k => lampblackref02_Connected.f k (gi G) a) (conn G a) := by
  have hn := hG.most
  have h9 : 2 ^ G.length ≤ 2 ^ 9 := Nat.pow_le_pow_right (by omega) hn
  have stop : ∀ k, lampblackref02_Connected.j0 (k + 1) (gi G) a true = some false := fun k => by rw [lampblackref02_Connected.j0, if_pos rfl]
  unfold lampblackref02_Connected.f
  by_cases h0 : a ≤ 0
  · refine Ev.if_pos h0 (Ev.step stop (Ev.some ?_))
    unfold conn
    rw [decide_eq_false (by omega)]; rfl
  · refine Ev.if_neg h0 ?_
    rw [gi_length, s_one _ (by omega)]
    by_cases h1 : a ≥ ((2 ^ G.length : Nat) : Int)
    · rw [decide_eq_true h1]
      refine Ev.step stop (Ev.some ?_)
      unfold conn
      rw [decide_eq_false (show ¬ a < ((2 ^ G.length : Nat) : Int) by omega)]; simp
    · rw [decide_eq_false h1]
      refine Ev.step (fun k => by rw [lampblackref02_Connected.j0, if_neg (by simp)]) ?_
      obtain ⟨b, rfl⟩ := Int.eq_ofNat_of_zero_le (show 0 ≤ a by omega)
      have := refConn_l0 G hG b (by omega) (by omega) (low b) 0 (by omega)
      unfold conn
      rw [decide_eq_true (show (0 : Int) < (b : Int) by omega), decide_eq_true (show (b : Int) < ((2 ^ G.length : Nat) : Int) by omega), Int.toNat_natCast]
      exact this

theorem refAround_l0 (G : List Nat) (hG : Gr 9 G) (s : Nat) (hs : s < 2 ^ G.length) : ∀ d i, i + d = G.length →
    Ev (fun k => lampblackref02_Around.l0 k (gi G) (s : Int) ((around G s i : Nat) : Int) (G.length : Int) (i : Int)) ((Around G s : Nat) : Int) := by
  have hn := hG.most
  have hbig := big (small G hn hs)
  have hlt : ∀ i, around G s i < 2 ^ G.length := fun i => lt_of_bits fun j hj => by
    obtain ⟨x, _, _, h⟩ := (around_bit G s i j).1 hj; exact hG.adj_lt h
  intro d
  induction d with
  | zero =>
    intro i hi
    obtain rfl : i = G.length := by omega
    exact Ev.step (f := fun _ => some ((around G s G.length : Nat) : Int)) (fun k => by rw [lampblackref02_Around.l0, if_neg (by omega)]) (Ev.some rfl)
  | succ d ih =>
    intro i hi
    refine Ev.step (fun k => ?_) (ih (i + 1) (by omega))
    by_cases hb : s.testBit i = true
    · rw [lampblackref02_Around.l0, if_pos (by omega), if_pos (by omega), if_pos ((bit_one s i hbig (by omega)).2 hb), if_pos (by rw [gi_length]; omega), rd_gi,
        b_or _ _ (big (small G hn (hlt i))) (big (small G hn (hG.row i))), wrap_succ i (by omega)]
      simp only [around, hb, if_true]
    · rw [lampblackref02_Around.l0, if_pos (by omega), if_pos (by omega), if_neg (fun h => hb ((bit_one s i hbig (by omega)).1 h)), wrap_succ i (by omega)]
      simp only [around, hb]
      simp
theorem refAround (G : List Nat) (hG : Gr 9 G) (s : Nat) (hs : s < 2 ^ G.length) : Ev (fun k => lampblackref02_Around.f k (gi G) (s : Int)) ((Around G s : Nat) : Int) := by
  have := refAround_l0 G hG s hs G.length 0 (by omega)
  unfold lampblackref02_Around.f
  rw [gi_length]
  exact this

/-- Do two sets touch? -/
def touchB (G : List Nat) (a b : Int) : Bool := (Go.bits .and .i64 (Go.bits .or .i64 a ((Around G a.toNat : Nat) : Int)) b) != 0
theorem progTouch (G : List Nat) (hG : Gr 9 G) (a : Nat) (ha : a < 2 ^ G.length) (b : Int) : Ev (fun k => width_town_touch.f k (gi G) (a : Int) b) (touchB G (a : Int) b) := by
  unfold width_town_touch.f
  exact Ev.bind (around_ev G hG a ha) (Ev.some rfl)
theorem refTouch (G : List Nat) (hG : Gr 9 G) (a : Nat) (ha : a < 2 ^ G.length) (b : Int) : Ev (fun k => lampblackref02_Touch.f k (gi G) (a : Int) b) (touchB G (a : Int) b) := by
  unfold lampblackref02_Touch.f
  exact Ev.bind (refAround G hG a ha) (Ev.some rfl)
theorem conn_lt {G : List Nat} {a : Int} (h : conn G a = true) : ∃ n : Nat, a = n ∧ n < 2 ^ G.length ∧ 0 < n := by
  simp only [conn, Bool.and_eq_true, decide_eq_true_eq] at h
  exact ⟨a.toNat, by omega, by omega, by omega⟩

theorem valid_ev (g : List Int) (hg : g.length < 2 ^ 60) : Ev (fun k => lampblackref02_Valid.f k g) (chk 9 g) := by
  unfold lampblackref02_Valid.f
  exact Ev.bind (isGraph_ev 9 (by omega) g hg) (Ev.some rfl)
/-- Few hands on a beginning; what is valid it hands on whole, and what isn't stays so. -/
theorem few_eq (g : List Int) (hg : g.length < 2 ^ 44) : ∃ h, lampblacklaw02_Few.f g = some h ∧ (chk 9 g = true → h = g) ∧ (chk 9 g = false → chk 9 h = false) ∧ h.length ≤ 13 := by
  have hm : mn (g.length : Int) 13 = ((min g.length 13 : Nat) : Int) := mn_nat g.length 13
  refine ⟨g.take (min g.length 13), ?_, ?_, ?_, ?_⟩
  · unfold lampblacklaw02_Few.f slices_Clone_Graph.f
    simp only [hm, Int.toNat_natCast]
    rw [if_pos (by omega), if_pos (by omega)]
    simp only [Option.bind_some, List.length_nil, List.nil_append]
    rw [if_pos (by rw [List.length_take]; omega)]
    rfl
  · intro h
    simp only [chk, Bool.and_eq_true, decide_eq_true_eq] at h
    exact List.take_of_length_le (by omega)
  · intro h
    by_cases hl : g.length ≤ 13
    · rw [List.take_of_length_le (by omega)]; exact h
    · unfold chk
      have : ¬ (List.take (min g.length 13) g).length ≤ 9 := by rw [List.length_take]; omega
      rw [decide_eq_false this, Bool.and_false, Bool.false_and]
  · rw [List.length_take]; omega
end Go.Proofs.YtoffehihicabcaaDoor.X
end
section
/- WidthParts, without Go and memory: a node or an edge less, or two neighbours joined to one, do not raise Width, and lower it by at most 1. -/
set_option linter.unusedVariables false
namespace Go.Proofs.YtoffehihicabcaaDoor.Pure
open Go.RowKit Go.Proofs.YtoffehihicabcaaDoorW.PrintWords Go.Proofs.YtoffehihicabcaaDoorW.PrintLast Go.Proofs.YtoffehihicabcaaDoorW.PrintMore Go.Proofs.YtoffehihicabcaaDoor.T Go.Proofs.YtoffehihicabcaaDoor.X

theorem without_l0 (G : List Nat) (hG : Gr 9 G) (v : Nat) (hv : v < G.length) : ∀ d i, i + d = G.length →
    Ev (fun k => lampblacklaw02_without.l0 k (v : Int) (gi (delTo G v i)) (gi G) (G.length : Int) (i : Int)) (gi (del G v)) := by
  have hn := hG.most
  have h9 : 2 ^ G.length ≤ 2 ^ 9 := Nat.pow_le_pow_right (by omega) hn
  have hv1 : 2 ^ v < 2 ^ G.length := Nat.pow_lt_pow_right (by omega) hv
  have hvp := Nat.two_pow_pos v
  intro d
  induction d with
  | zero =>
    intro i hi
    obtain rfl : i = G.length := by omega
    exact Ev.step (f := fun _ => some (gi (delTo G v G.length))) (fun k => by rw [lampblacklaw02_without.l0, if_neg (by omega)]) (Ev.some rfl)
  | succ d ih =>
    intro i hi
    have hwi : wrap64 ((i : Int) + 1) = ((i + 1 : Nat) : Int) := wrap_succ i (by omega)
    have next := ih (i + 1) (by omega)
    have hll : (gi (delTo G v i)).length ≤ 9 := by
      have := delTo_length G v i
      rw [gi_length]
      by_cases h : i ≤ v
      · rw [if_pos h] at this; omega
      · rw [if_neg h] at this; omega
    by_cases e : i = v
    · subst e
      refine Ev.step (fun k => by rw [lampblacklaw02_without.l0, if_pos (by omega), if_pos (by omega), if_pos (by rw [gi_length]; omega), if_pos rfl, hwi]) ?_
      simpa only [delTo, if_true] using next
    · have hrow := hG.row i
      have hwv : wrap64 ((v : Int) + 1) = ((v + 1 : Nat) : Int) := wrap_succ v (by omega)
      have hs5 := small G hn hrow
      have hdiv : G.getD i 0 / 2 ^ (v + 1) ≤ G.getD i 0 := Nat.div_le_self _ _
      have hmul : G.getD i 0 / 2 ^ (v + 1) * 2 ^ v < 2 ^ 62 := Nat.lt_of_le_of_lt (Nat.mul_le_mul hdiv (Nat.le_of_lt hv1)) (Nat.lt_of_le_of_lt (Nat.mul_le_mul (Nat.le_of_lt hs5) h9) (by omega))
      have hel : Go.bits .or .i64 (Go.bits .and .i64 ((G.getD i 0 : Nat) : Int) (wrap64 ((shl .i64 1 (v : Int)) - 1))) (shl .i64 (shr .i64 ((G.getD i 0 : Nat) : Int) ((v + 1 : Nat) : Int)) (v : Int)) = ((delbits v (G.getD i 0) : Nat) : Int) := by
        rw [s_one v (by omega), w64_small _ (by omega) (by omega), show (((2 ^ v : Nat) : Int) - 1) = ((2 ^ v - 1 : Nat) : Int) by omega, b_and _ _ (big hs5) (by omega), s_shr _ _ (by omega), s_shl _ _ hmul (by omega),
          b_or _ _ (Nat.lt_of_le_of_lt Nat.and_le_left (big hs5)) hmul]
        rfl
      refine Ev.step (fun k => by rw [lampblacklaw02_without.l0, if_pos (by omega), if_pos (by omega), if_pos (by rw [gi_length]; omega), if_neg (by omega), if_pos (by omega), hwv, if_pos (by omega), if_pos (by omega), rd_gi, hel, hwi]) ?_
      have h2 : gi (delTo G v i) ++ [((delbits v (G.getD i 0) : Nat) : Int)] = gi (delTo G v (i + 1)) := by
        simp only [delTo, if_neg e]; simp [gi]
      rw [h2]
      exact next
theorem without_ev (G : List Nat) (hG : Gr 9 G) (v : Nat) (hv : v < G.length) : Ev (fun k => lampblacklaw02_without.f k (gi G) (v : Int)) (gi (del G v)) := by
  unfold lampblacklaw02_without.f
  rw [gi_length]
  exact without_l0 G hG v hv G.length 0 (by omega)

theorem getD_set2 (W : List Nat) (i j x : Nat) (hi : i < W.length) : (W.set i x).getD j 0 = if j = i then x else W.getD j 0 := getD_set W i j x hi
/-- The last loop: each of the graphs has the width, or one less. -/
theorem parts_l1 (G : List Nat) (W : Nat) (hW : IsWidth G W) (hWs : W ≤ 9) (L : List (List Int)) (hL : ∀ h ∈ L, ∃ H, h = gi H ∧ Less G H) (hl : L.length < 100) : ∀ d i, i + d = L.length →
    Ev (fun k => lampblacklaw02_WidthParts.l1 k (W : Int) L (L.length : Int) (i : Int)) true := by
  intro d
  induction d with
  | zero =>
    intro i hi
    exact Ev.step (fun k => by rw [lampblacklaw02_WidthParts.l1, if_neg (by omega)]) (Ev.bind awake_ev (Ev.some rfl))
  | succ d ih =>
    intro i hi
    have hi' : i < L.length := by omega
    have hwi : wrap64 ((i : Int) + 1) = ((i + 1 : Nat) : Int) := wrap_succ i (by omega)
    obtain ⟨H, hH, h1, h2, h3⟩ := hL _ (List.getElem_mem hi')
    have hr : rd_L1 L (i : Int) = gi H := by
      unfold rd_L1
      rw [Int.toNat_natCast, List.getD_eq_getElem?_getD, List.getElem?_eq_getElem hi', hH]
      rfl
    obtain ⟨W', w1, w2⟩ := Width_ev H h1
    have a1 := width_le (d := 0) hW w1 h2
    have a2 := width_le (d := 1) w1 hW h3
    refine Ev.step (fun k => by rw [lampblacklaw02_WidthParts.l1, if_pos (by omega), if_pos (by omega), if_pos (by omega), hr, hwi]) (Ev.bind w2 (Ev.if_pos rfl (Ev.if_neg (by show ¬ (W' : Int) > (W : Int); omega) (Ev.if_neg ?_ (ih (i + 1) (by omega))))))
    show ¬ (W' : Int) < wrap64 ((W : Int) - 1)
    rw [w64_small _ (by omega) (by omega)]
    omega
theorem parts_j2 (G : List Nat) (W : Nat) (hW : IsWidth G W) (hWs : W ≤ 9) (L : List (List Int)) (hL : ∀ h ∈ L, ∃ H, h = gi H ∧ Less G H) (hl : L.length < 100) : Ev (fun k => lampblacklaw02_WidthParts.j2 k (W : Int) L) true :=
  Ev.step (fun k => by rw [lampblacklaw02_WidthParts.j2]; rfl) (parts_l1 G W hW hWs L hL hl L.length 0 (by omega))

/-- What the joining has come to behind i nodes. -/
def Joined (G : List Nat) (a b i : Nat) (J : List Nat) : Prop :=
  J.length = G.length ∧ (∀ u, J.getD u 0 < 2 ^ G.length) ∧ ∀ u w, Adj J u w ↔ Adj G u w ∨ (w = a ∧ u ≠ a ∧ u < i ∧ Adj G b u) ∨ (u = a ∧ w ≠ a ∧ w < i ∧ Adj G b w)
theorem parts_l0 (G : List Nat) (hG : Gr 9 G) (W a b : Nat) (hW : IsWidth G W) (hWs : W ≤ 9) (hab : Adj G a b) (L : List (List Int)) (hL : ∀ h ∈ L, ∃ H, h = gi H ∧ Less G H) (hl : L.length < 50) (cut : List Int) (hcut : ∃ H, cut = gi H ∧ Less G H) :
    ∀ d i (J : List Nat), i + d = G.length → Joined G a b i J →
      Ev (fun k => lampblacklaw02_WidthParts.l0 k (gi G) (a : Int) (b : Int) (W : Int) L cut (gi J) (G.length : Int) (i : Int)) true := by
  have hn := hG.most
  have ha := hG.adj_lt' hab
  have hb := hG.adj_lt hab
  have hne : a ≠ b := fun e => by subst e; exact hG.adj_irr hab
  have ha1 := Aside0.mk (show 2 ^ a < 2 ^ G.length from Nat.pow_lt_pow_right (by omega) ha)
  intro d
  induction d with
  | zero =>
    intro i J hi hJ
    obtain ⟨j1, j2, j3⟩ := hJ
    obtain rfl : i = G.length := by omega
    have hr := j2 a
    -- the bit of a in its own row isn't there
    have hself : diff (J.getD a 0) (2 ^ a) = J.getD a 0 := eq_of_bits fun q => by
      have := diff_bset (J.getD a 0) (2 ^ a) q
      unfold bset at this
      rw [this]
      refine ⟨fun h => h.1, fun h => ⟨h, fun e => ?_⟩⟩
      obtain rfl := (two_pow_bit a q).1 e
      rcases (j3 q q).1 h with h1 | ⟨_, h2, _⟩ | ⟨_, h2, _⟩
      · exact hG.adj_irr h1
      · exact h2 rfl
      · exact h2 rfl
    have hset : (gi J).set (a : Int).toNat (Go.bits .andNot .i64 (rd (gi J) (a : Int)) (shl .i64 1 (a : Int))) = gi J := by
      rw [rd_gi, s_one a (by omega), b_andNot _ _ (big (small G hn hr)) (big (small G hn ha1.out)), hself, Int.toNat_natCast, gi_set]
      congr 1
      apply List.ext_getElem?
      intro q
      rw [List.getElem?_set]
      by_cases e : a = q
      · subst e
        rw [if_pos rfl, if_pos (by omega), List.getD_eq_getElem?_getD, List.getElem?_eq_getElem (by omega)]
        rfl
      · rw [if_neg e]
    have hJadj : ∀ u w, Adj J u w ↔ Adj G u w ∨ (w = a ∧ u ≠ a ∧ Adj G b u) ∨ (u = a ∧ w ≠ a ∧ Adj G b w) := fun u w => by
      rw [j3]
      constructor
      · rintro (h | ⟨h1, h2, _, h3⟩ | ⟨h1, h2, _, h3⟩)
        · exact .inl h
        · exact .inr (.inl ⟨h1, h2, h3⟩)
        · exact .inr (.inr ⟨h1, h2, h3⟩)
      · rintro (h | ⟨h1, h2, h3⟩ | ⟨h1, h2, h3⟩)
        · exact .inl h
        · exact .inr (.inl ⟨h1, h2, hG.adj_lt h3, h3⟩)
        · exact .inr (.inr ⟨h1, h2, hG.adj_lt h3, h3⟩)
    have hless := less_join hG hab j1 hJadj
    have hlim : ∀ q : List (List Int), q.length ≤ 2 → L.length + q.length < 5864062014805 := fun q hq => by omega
    have hJ9 : Gr 9 J := gr_of (by omega) (by omega) fun u w h => by
      rcases (hJadj u w).1 h with h1 | ⟨h1, h2, h3⟩ | ⟨h1, h2, h3⟩
      · exact ⟨by rw [j1]; exact hG.adj_lt h1, (hJadj w u).2 (.inl (hG.adj_symm h1)), fun e => by subst e; exact hG.adj_irr h1⟩
      · subst h1; exact ⟨by omega, (hJadj _ _).2 (.inr (.inr ⟨rfl, h2, h3⟩)), h2⟩
      · subst h1; exact ⟨by rw [j1]; exact hG.adj_lt h3, (hJadj _ _).2 (.inr (.inl ⟨rfl, h2, h3⟩)), fun e => h2 e.symm⟩
    refine Ev.step (fun k => by rw [lampblacklaw02_WidthParts.l0, if_neg (by omega), if_pos (by omega), if_pos (by rw [gi_length]; omega), hset]) (Ev.bind (without_ev J hJ9 b (by omega)) ?_)
    refine Ev.bind1 (a := [cut, gi (del J b)]) rfl (Ev.if_pos (hlim _ (Nat.le_refl _)) ?_)
    refine parts_j2 G W hW hWs _ (fun h hh => ?_) (by simp; omega)
    rcases List.mem_append.1 hh with hh | hh
    · exact hL h hh
    · rcases List.mem_cons.1 hh with e | hh
      · rw [e]; exact hcut
      · obtain rfl := List.mem_singleton.1 hh
        exact ⟨_, rfl, hless⟩
  | succ d ih =>
    intro i J hi hJ
    obtain ⟨j1, j2, j3⟩ := hJ
    have hin : i < G.length := by omega
    have hwi : wrap64 ((i : Int) + 1) = ((i + 1 : Nat) : Int) := wrap_succ i (by omega)
    have hi1 := Aside0.mk (show 2 ^ i < 2 ^ G.length from Nat.pow_lt_pow_right (by omega) hin)
    by_cases e : i = a
    · subst e
      refine Ev.step (fun k => by rw [lampblacklaw02_WidthParts.l0, if_pos (by omega), if_pos rfl, hwi]) (ih (i + 1) J (by omega) ⟨j1, j2, fun u w => ?_⟩)
      rw [j3]
      constructor
      · rintro (h | ⟨h1, h2, h3, h4⟩ | ⟨h1, h2, h3, h4⟩)
        · exact .inl h
        · exact .inr (.inl ⟨h1, h2, by omega, h4⟩)
        · exact .inr (.inr ⟨h1, h2, by omega, h4⟩)
      · rintro (h | ⟨h1, h2, h3, h4⟩ | ⟨h1, h2, h3, h4⟩)
        · exact .inl h
        · exact .inr (.inl ⟨h1, h2, by omega, h4⟩)
        · exact .inr (.inr ⟨h1, h2, by omega, h4⟩)
    · by_cases hbi : (G.getD b 0).testBit i = true
      · have hbi' : Adj G b i := hbi
        have hl1 : i < J.length := j1 ▸ hin
        have hl2 : a < J.length := j1 ▸ ha
        have hl3 : a < (gi J).length := by rw [gi_length]; exact hl2
        have hl4 : i < (gi J).length := by rw [gi_length]; exact hl1
        have hJ1 : (gi J).set (i : Int).toNat (Go.bits .or .i64 (rd (gi J) (i : Int)) (shl .i64 1 (a : Int))) = gi (J.set i (J.getD i 0 ||| 2 ^ a)) := by
          rw [rd_gi, s_one a (by omega), b_or _ _ (big (small G hn (j2 i))) (big (small G hn ha1.out)), Int.toNat_natCast, gi_set]
        have hrow2 : (J.set i (J.getD i 0 ||| 2 ^ a)).getD a 0 = J.getD a 0 := by rw [getD_set2 _ _ _ _ hl1, if_neg (fun h => e h.symm)]
        have hJ2 : (gi (J.set i (J.getD i 0 ||| 2 ^ a))).set (a : Int).toNat (Go.bits .or .i64 (rd (gi (J.set i (J.getD i 0 ||| 2 ^ a))) (a : Int)) (shl .i64 1 (i : Int))) = gi ((J.set i (J.getD i 0 ||| 2 ^ a)).set a (J.getD a 0 ||| 2 ^ i)) := by
          rw [rd_gi, hrow2, s_one i (by omega), b_or _ _ (big (small G hn (j2 a))) (big (small G hn hi1.out)), Int.toNat_natCast, gi_set]
        have hlen2 : (J.set i (J.getD i 0 ||| 2 ^ a)).length = J.length := by simp
        have hget : ∀ u, ((J.set i (J.getD i 0 ||| 2 ^ a)).set a (J.getD a 0 ||| 2 ^ i)).getD u 0 = if u = a then J.getD a 0 ||| 2 ^ i else if u = i then J.getD i 0 ||| 2 ^ a else J.getD u 0 := fun u => by
          rw [getD_set2 _ _ _ _ (by rw [hlen2]; omega), getD_set2 _ _ _ _ hl1]
        refine Ev.step (f := fun k => lampblacklaw02_WidthParts.l0 k (gi G) (a : Int) (b : Int) (W : Int) L cut (gi ((J.set i (J.getD i 0 ||| 2 ^ a)).set a (J.getD a 0 ||| 2 ^ i))) (G.length : Int) ((i + 1 : Nat) : Int)) (fun k => ?_) (ih (i + 1) _ (by omega) ⟨by simp; omega, fun u => ?_, fun u w => ?_⟩)
        · rw [lampblacklaw02_WidthParts.l0, if_pos (by omega), if_neg (by omega), if_pos (by omega), if_pos (by rw [gi_length]; omega), if_pos (by omega), rd_gi, if_pos ((bit_one _ i (big (small G hn (hG.row b))) (by omega)).2 hbi),
            if_pos (by rw [gi_length]; omega), if_pos (by omega), hJ1]
          simp only [Option.bind_some]
          rw [if_pos (by rw [gi_length]; omega), hJ2, hwi]
        · rw [hget]
          split
          · exact or_lt (j2 a) hi1.out
          · split
            · exact or_lt (j2 i) ha1.out
            · exact j2 u
        · have hA : Adj ((J.set i (J.getD i 0 ||| 2 ^ a)).set a (J.getD a 0 ||| 2 ^ i)) u w ↔ Adj J u w ∨ (u = a ∧ w = i) ∨ (u = i ∧ w = a) := by
            unfold Adj
            rw [hget]
            by_cases h1 : u = a
            · rw [if_pos h1, Nat.testBit_or, Bool.or_eq_true, h1, Nat.testBit_two_pow, decide_eq_true_eq]
              constructor
              · rintro (h | h)
                · exact .inl h
                · exact .inr (.inl ⟨rfl, h.symm⟩)
              · rintro (h | ⟨_, h⟩ | ⟨h, _⟩)
                · exact .inl h
                · exact .inr h.symm
                · exact (e h.symm).elim
            · rw [if_neg h1]
              by_cases h2 : u = i
              · rw [if_pos h2, Nat.testBit_or, Bool.or_eq_true, h2, Nat.testBit_two_pow, decide_eq_true_eq]
                constructor
                · rintro (h | h)
                  · exact .inl h
                  · exact .inr (.inr ⟨rfl, h.symm⟩)
                · rintro (h | ⟨h, _⟩ | ⟨_, h⟩)
                  · exact .inl h
                  · exact (e h).elim
                  · exact .inr h.symm
              · rw [if_neg h2]
                exact ⟨.inl, fun h => by
                  rcases h with h | ⟨h, _⟩ | ⟨h, _⟩
                  · exact h
                  · exact (h1 h).elim
                  · exact (h2 h).elim⟩
          rw [hA, j3]
          constructor
          · rintro ((h | ⟨h1, h2, h3, h4⟩ | ⟨h1, h2, h3, h4⟩) | ⟨h1, h2⟩ | ⟨h1, h2⟩)
            · exact .inl h
            · exact .inr (.inl ⟨h1, h2, by omega, h4⟩)
            · exact .inr (.inr ⟨h1, h2, by omega, h4⟩)
            · exact .inr (.inr ⟨h1, by omega, by omega, h2 ▸ hbi'⟩)
            · exact .inr (.inl ⟨h2, by omega, by omega, h1 ▸ hbi'⟩)
          · rintro (h | ⟨h1, h2, h3, h4⟩ | ⟨h1, h2, h3, h4⟩)
            · exact .inl (.inl h)
            · by_cases q : u = i
              · exact .inr (.inr ⟨q, h1⟩)
              · exact .inl (.inr (.inl ⟨h1, h2, by omega, h4⟩))
            · by_cases q : w = i
              · exact .inr (.inl ⟨h1, q⟩)
              · exact .inl (.inr (.inr ⟨h1, h2, by omega, h4⟩))
      · refine Ev.step (fun k => by rw [lampblacklaw02_WidthParts.l0, if_pos (by omega), if_neg (by omega), if_pos (by omega), if_pos (by rw [gi_length]; omega), if_pos (by omega), rd_gi, if_neg (fun h => hbi ((bit_one _ i (big (small G hn (hG.row b))) (by omega)).1 h)), hwi]) (ih (i + 1) J (by omega) ⟨j1, j2, fun u w => ?_⟩)
        rw [j3]
        constructor
        · rintro (h | ⟨h1, h2, h3, h4⟩ | ⟨h1, h2, h3, h4⟩)
          · exact .inl h
          · exact .inr (.inl ⟨h1, h2, by omega, h4⟩)
          · exact .inr (.inr ⟨h1, h2, by omega, h4⟩)
        · rintro (h | ⟨h1, h2, h3, h4⟩ | ⟨h1, h2, h3, h4⟩)
          · exact .inl h
          · by_cases q : u = i
            · exact (hbi (q ▸ h4)).elim
            · exact .inr (.inl ⟨h1, h2, by omega, h4⟩)
          · by_cases q : w = i
            · exact (hbi (q ▸ h4)).elim
            · exact .inr (.inr ⟨h1, h2, by omega, h4⟩)

/-- 'int(uint(a) % uint(n))' is a node. -/
theorem node_of (a : Int) (n : Nat) (h0 : 0 < n) (hn : n ≤ 9) : ∃ A : Nat, A < n ∧ wrap64 (Int.tmod (IntKind.u64.wrap a) (IntKind.u64.wrap (n : Int))) = (A : Int) := by
  have h1 : 0 ≤ IntKind.u64.wrap a := by rw [IntKind.wrap_u64]; omega
  rw [u64_small (n : Int) (by omega) (by omega), Int.tmod_eq_emod_of_nonneg h1]
  have h2 : 0 ≤ IntKind.u64.wrap a % (n : Int) := Int.emod_nonneg _ (by omega)
  have h3 : IntKind.u64.wrap a % (n : Int) < (n : Int) := Int.emod_lt_of_pos _ (by omega)
  refine ⟨(IntKind.u64.wrap a % (n : Int)).toNat, by omega, ?_⟩
  rw [w64_small _ (by omega) (by omega)]
  omega

theorem parts_yes (G : List Nat) (hG : Gr 9 G) (W : Nat) (hW : IsWidth G W) (hWs : W ≤ 9) (hn2 : 2 ≤ G.length) (hfew : lampblacklaw02_Few.f (gi G) = some (gi G)) (x y : Int) (r : Int) :
    Ev (fun k => lampblacklaw02_WidthParts.j0 k (gi G) x y (W : Int) r false) true := by
  have hn := hG.most
  obtain ⟨a, ha, ea⟩ := node_of x G.length (by omega) hn
  obtain ⟨b, hb, eb⟩ := node_of y G.length (by omega) hn
  have ha1 : 2 ^ a < 2 ^ G.length := Nat.pow_lt_pow_right (by omega) ha
  have hb1 : 2 ^ b < 2 ^ G.length := Nat.pow_lt_pow_right (by omega) hb
  have hz : ¬ IntKind.u64.wrap ((gi G).length : Int) = 0 := by rw [gi_length, u64_small _ (by omega) (by omega)]; omega
  have hD : ∀ h ∈ [gi (del G a)], ∃ H, h = gi H ∧ Less G H := fun h hh => by
    obtain rfl := List.mem_singleton.1 hh
    exact ⟨_, rfl, less_del hG ha hn2⟩
  refine Ev.step (fun k => by rw [lampblacklaw02_WidthParts.j0, if_neg (by simp), if_neg hz]) ?_
  simp only [gi_length, ea, eb]
  refine Ev.bind (without_ev G hG a ha) (Ev.bind1 (a := [gi (del G a)]) rfl ?_)
  refine Ev.if_pos (by omega) (Ev.if_pos (by omega) (Ev.if_pos (by omega) ?_))
  by_cases hab : (G.getD a 0).testBit b = true
  · refine Ev.if_pos (by rw [rd_gi]; exact (bit_one _ b (big (small G hn (hG.row a))) (by omega)).2 hab) ?_
    have hab' : Adj G a b := hab
    have hne : a ≠ b := fun e => by subst e; exact hG.adj_irr hab'
    have hC1 : (gi G).set (a : Int).toNat (Go.bits .andNot .i64 (rd (gi G) (a : Int)) (shl .i64 1 (b : Int))) = gi (G.set a (diff (G.getD a 0) (2 ^ b))) := by
      rw [rd_gi, s_one b (by omega), b_andNot _ _ (big (small G hn (hG.row a))) (big (small G hn hb1)), Int.toNat_natCast, gi_set]
    have hrow2 : (G.set a (diff (G.getD a 0) (2 ^ b))).getD b 0 = G.getD b 0 := by rw [getD_set2 _ _ _ _ ha, if_neg (fun h => hne h.symm)]
    have hC2 : (gi (G.set a (diff (G.getD a 0) (2 ^ b)))).set (b : Int).toNat (Go.bits .andNot .i64 (rd (gi (G.set a (diff (G.getD a 0) (2 ^ b)))) (b : Int)) (shl .i64 1 (a : Int))) = gi ((G.set a (diff (G.getD a 0) (2 ^ b))).set b (diff (G.getD b 0) (2 ^ a))) := by
      rw [rd_gi, hrow2, s_one a (by omega), b_andNot _ _ (big (small G hn (hG.row b))) (big (small G hn ha1)), Int.toNat_natCast, gi_set]
    have hget : ∀ u, ((G.set a (diff (G.getD a 0) (2 ^ b))).set b (diff (G.getD b 0) (2 ^ a))).getD u 0 = if u = b then diff (G.getD b 0) (2 ^ a) else if u = a then diff (G.getD a 0) (2 ^ b) else G.getD u 0 := fun u => by
      rw [getD_set2 _ _ _ _ (by simpa using hb), getD_set2 _ _ _ _ ha]
    have hcut : Less G ((G.set a (diff (G.getD a 0) (2 ^ b))).set b (diff (G.getD b 0) (2 ^ a))) := less_cut hG ha hn2 (by simp) fun u w => by
      unfold Adj
      rw [hget]
      by_cases h1 : u = b
      · rw [if_pos h1]
        show bset _ w ↔ _
        rw [diff_bset, two_pow_bit, h1]
        exact ⟨fun ⟨h, h'⟩ => ⟨h, fun e => hne e.1.symm, fun e => h' e.2⟩, fun ⟨h, _, h'⟩ => ⟨h, fun e => h' ⟨rfl, e⟩⟩⟩
      · rw [if_neg h1]
        by_cases h2 : u = a
        · rw [if_pos h2]
          show bset _ w ↔ _
          rw [diff_bset, two_pow_bit, h2]
          exact ⟨fun ⟨h, h'⟩ => ⟨h, fun e => h' e.2, fun e => hne e.1⟩, fun ⟨h, h', _⟩ => ⟨h, fun e => h' ⟨rfl, e⟩⟩⟩
        · rw [if_neg h2]
          exact ⟨fun h => ⟨h, fun e => h2 e.1, fun e => h1 e.1⟩, fun h => h.1⟩
    refine Ev.bind1 hfew (Ev.bind1 hfew (Ev.if_pos (by rw [gi_length]; omega) ?_))
    refine Ev.bind1 (a := gi (G.set a (diff (G.getD a 0) (2 ^ b)))) (by rw [hC1]) (Ev.if_pos (by rw [gi_length]; omega) ?_)
    simp only [hC2, gi_length]
    refine parts_l0 G hG W a b hW hWs hab' _ hD (by simp) _ ⟨_, rfl, hcut⟩ G.length 0 G (by omega) ⟨rfl, hG.row, fun u w => ⟨.inl, fun h => ?_⟩⟩
    rcases h with h | ⟨_, _, h, _⟩ | ⟨_, _, h, _⟩
    · exact h
    · omega
    · omega
  · refine Ev.if_neg (fun h => hab (by rw [rd_gi] at h; exact (bit_one _ b (big (small G hn (hG.row a))) (by omega)).1 h)) ?_
    exact parts_j2 G W hW hWs _ hD (by simp)

theorem WidthParts : ∀ (l0 : List Int) (a1 a2 : Int), l0.length ≤ maxLen → l0.length * 8 ≤ 140737488351232 → (∀ x ∈ l0, (Lit.int .i64 x).wf = true) → (Lit.int .i64 a1).wf = true → (Lit.int .i64 a2).wf = true → ∃ k, lampblacklaw02_WidthParts.f k l0 a1 a2 = some true := by
  intro g x y _ hl _ _ _
  apply Ev.rounds
  obtain ⟨h, e, e1, e2, e3⟩ := few_eq g (by omega)
  unfold lampblacklaw02_WidthParts.f
  refine Ev.bind1 e ?_
  have stop : ∀ w (c : Int), c = 0 ∨ c = 2 → Ev (fun k => lampblacklaw02_WidthParts.j0 k g x y w c true) true := fun w c hc => by
    refine Ev.step (fun k => by rw [lampblacklaw02_WidthParts.j0, if_pos rfl]) ?_
    rcases hc with hc | hc
    · exact Ev.if_pos hc (Ev.bind awake_ev (Ev.some rfl))
    · exact Ev.if_neg (by omega) (Ev.if_pos hc (Ev.bind awake_ev (Ev.some rfl)))
  by_cases hc : chk 9 g = true
  · obtain ⟨G, rfl, hG⟩ := (chk_iff 9 (by omega) _).1 hc
    have e' := e
    rw [e1 hc] at e' ⊢
    obtain ⟨W, hW, hWe⟩ := Width_ev G hG
    have hWs : W ≤ 9 := by
      obtain ⟨W', h1, h2⟩ := width_exists hG
      have := hG.most
      rw [hW.uniq h1]; omega
    refine Ev.bind hWe (Ev.if_pos rfl ?_)
    by_cases hn2 : 2 ≤ G.length
    · rw [decide_eq_false (show ¬ ((gi G).length : Int) < 2 by rw [gi_length]; omega)]
      exact parts_yes G hG W hW hWs hn2 e' x y 0
    · rw [decide_eq_true (show ((gi G).length : Int) < 2 by rw [gi_length]; omega)]
      exact stop _ 0 (.inl rfl)
  · have hc' : chk 9 g = false := by simpa using hc
    exact Ev.bind (Width_bad h (by omega) (e2 hc')) (Ev.if_neg (by simp) (stop _ 2 (.inr rfl)))
end Go.Proofs.YtoffehihicabcaaDoor.Pure
end
