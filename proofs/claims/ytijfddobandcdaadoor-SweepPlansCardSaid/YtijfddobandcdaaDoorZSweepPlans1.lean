/- Part 1 of what SweepPlans rests on: contracts of the functions that it reaches, and what they compute, in plain words. -/
import Derived.Test.YtijfddobandcdaaDoorZSweepPlans0
import Derived.WalkSpells
import Derived.Maps.AppendAt
import Derived.Maps.OwnIn
section
-- by ownprint.py (wip/tool), over the kit's print
namespace Go.Proofs.YtijfddobandcdaaDoor.X
open Go.RowKit Go.Proofs.YtijfddobandcdaaDoorW.PrintWords Go.Proofs.YtijfddobandcdaaDoorW.PrintLast Go.Proofs.YtijfddobandcdaaDoorW.PrintMore
attribute [local go_sem] max2_int min2_int max_two min_two max_three min_three max_four min_four
set_option linter.unusedVariables false
set_option linter.unusedSimpArgs false

/-! ### lampblackref03_Border: function 59 -/
def lampblackref03_Border.l0 : Nat → List Int → Int → Int → Int → Int → Option (Int)
  | 0, _, _, _, _, _ => none
  | k + 1, x0, x1, x5, x8, x9 => if x9 < x8 then (if 0 ≤ x9 then (if (Go.bits .and .i64 (shr .i64 x1 x9) 1) = 1 then (if x9 < (x0.length : Int) then (if (Go.bits .andNot .i64 (rd x0 x9) x1) = 0 then (lampblackref03_Border.l0 k x0 x1 x5 x8 (wrap64 (x9 + 1))) else (lampblackref03_Border.l0 k x0 x1 (Go.bits .or .i64 x5 (shl .i64 1 x9)) x8 (wrap64 (x9 + 1)))) else (none)) else (lampblackref03_Border.l0 k x0 x1 x5 x8 (wrap64 (x9 + 1)))) else (none)) else (some x5)
def lampblackref03_Border.f (k : Nat) (l0 : List Int) (a1 : Int) : Option (Int) := lampblackref03_Border.l0 k l0 a1 0 (l0.length : Int) 0
set_option maxHeartbeats 8000000 in
set_option maxRecDepth 100000 in
theorem lampblackref03_Border.calls (k : Nat) (A0 : Option Addr) (c0 : Nat) (l0 : List Int) (a1 : Int) (r : Int) (w : World) (hr0 : Kd.C (Kd.int .i64) w A0 l0.length l0) (hc0 : l0.length ≤ c0) (h : lampblackref03_Border.f k l0 a1 = some r) :
    Calls Tryd.prog 59 #[.slice A0 l0.length c0, .int .i64 a1] w fun e w' => e = .returned (.int .i64 r) ∧ Drawn0 w w' := by
  have HR0 := Aside0.mk hr0
  have HC0 := Aside0.mk hc0
  clear hr0 hc0
  have H : (lampblackref03_Border.l0 k l0 a1 0 (l0.length : Int) 0) = some r := h
  clear h
  have H' := Aside0.mk H
  clear H
  go_enter Tryd.func59, Tryd.ntmps59
  go_wp2
  go_loopg [5, 9] k (fun kq v5 v9 w' => ∃ (x5_1 : Int) (x9_1 : Int), v5 = .int .i64 x5_1 ∧ v9 = .int .i64 x9_1 ∧ Aside0 (lampblackref03_Border.l0 kq l0 a1 x5_1 (l0.length : Int) x9_1 = some r) ∧ Aside0 (kq ≤ k) ∧ Drawn0 w w')
  case atStart => exact ⟨(0), (0), (by first | rfl | (simp; done) | (simp [*]; done)), (by first | rfl | (simp; done) | (simp [*]; done)), H', ⟨Nat.le_refl _⟩, by repeat (first | exact Drawn0.refl _ | apply Drawn0.step)⟩
  case round =>
    clear H'
    try clear p2
    obtain ⟨x5_1, x9_1, rfl, rfl, HA, HK1, ⟨m1, rfl⟩⟩ := hrel
    cases gk with
    | zero => exact absurd HA.out (by simp [lampblackref03_Border.l0])
    | succ k1 =>
      have H := HA.out
      clear HA
      simp only [lampblackref03_Border.l0] at H
      by_cases c3 : x9_1 < (l0.length : Int)
      · rw [if_pos c3] at H
        have c3b0 : decide (x9_1 < (l0.length : Int)) = true := decide_eq_true c3
        clear c3
        by_cases c4 : 0 ≤ x9_1
        · rw [if_pos c4] at H
          have c4b0 := eq_true c4
          have c4b1 : decide (0 ≤ x9_1) = true := decide_eq_true c4
          clear c4
          obtain ⟨ji5, hji5⟩ : ∃ j_ : Int, (shr .i64 a1 x9_1) = j_ := ⟨_, rfl⟩
          replace H : (if (Go.bits .and .i64 (ji5) 1) = 1 then (if x9_1 < (l0.length : Int) then (if (Go.bits .andNot .i64 (rd l0 x9_1) a1) = 0 then (lampblackref03_Border.l0 k1 l0 a1 x5_1 (l0.length : Int) (wrap64 (x9_1 + 1))) else (lampblackref03_Border.l0 k1 l0 a1 (Go.bits .or .i64 x5_1 (shl .i64 1 x9_1)) (l0.length : Int) (wrap64 (x9_1 + 1)))) else (none)) else (lampblackref03_Border.l0 k1 l0 a1 x5_1 (l0.length : Int) (wrap64 (x9_1 + 1)))) = some r := by first | (rw [hji5] at H; exact H) | (simp only [hji5] at H ⊢; exact H)
          have hji5_ : (a1 / 2 ^ min x9_1.toNat 64) = ji5 := hji5
          have hji5z : x9_1 ≤ 64 → (a1 / 2 ^ x9_1.toNat) = ji5 := shr_small hji5
          by_cases c6 : (Go.bits .and .i64 (ji5) 1) = 1
          · rw [if_pos c6] at H
            have c6b0 : ((Go.bits .and .i64 (ji5) 1) == 1) = true := beq_iff_eq.mpr c6
            have c6b1 : ((Go.bits .and .i64 (ji5) 1) != 1) = false := bne_eq_false_iff_eq.mpr c6
            clear c6
            by_cases c7 : x9_1 < (l0.length : Int)
            · rw [if_pos c7] at H
              have c7b0 : decide (x9_1 < (l0.length : Int)) = true := decide_eq_true c7
              clear c7
              by_cases c8 : (Go.bits .andNot .i64 (rd l0 x9_1) a1) = 0
              · rw [if_pos c8] at H
                have c8b0 : ((Go.bits .andNot .i64 (rd l0 x9_1) a1) == 0) = true := beq_iff_eq.mpr c8
                have c8b1 : ((Go.bits .andNot .i64 (rd l0 x9_1) a1) != 0) = false := bne_eq_false_iff_eq.mpr c8
                clear c8
                have H' := Aside0.mk H
                clear H
                have p136 : 0 ≤ (x9_1 : Int) := of_decide_eq_true (by first | (with_reducible assumption) | assumption)
                have q136 : x9_1 < (l0.length : Int) := of_decide_eq_true (by first | (with_reducible assumption) | assumption)
                obtain ⟨ad136, e136, hx136_0⟩ := Kd.at_int HR0.out x9_1 p136 q136
                cases e136
                replace p136 := eq_true p136
                replace q136 := eq_true q136
                go_wp2
                go_roundg k1
                case measure => have := HK1.out; omega
                case rel => exact ⟨(x5_1), (wrap64 (x9_1 + 1)), (by first | rfl | (simp; done) | (simp [*]; done)), (by first | rfl | (simp; done) | (simp [*]; done)), H', ⟨by have := HK1.out; omega⟩, by repeat (first | exact Drawn0.refl _ | apply Drawn0.step)⟩
              · rw [if_neg c8] at H
                have c8b0 : ((Go.bits .andNot .i64 (rd l0 x9_1) a1) == 0) = false := beq_eq_false_iff_ne.mpr c8
                have c8b1 : ((Go.bits .andNot .i64 (rd l0 x9_1) a1) != 0) = true := bne_iff_ne.mpr c8
                have c9b0 := eq_true (of_decide_eq_true (by first | (with_reducible assumption) | assumption) : 0 ≤ x9_1)
                obtain ⟨ji10, hji10⟩ : ∃ j_ : Int, (shl .i64 1 x9_1) = j_ := ⟨_, rfl⟩
                replace H : (lampblackref03_Border.l0 k1 l0 a1 (Go.bits .or .i64 x5_1 (ji10)) (l0.length : Int) (wrap64 (x9_1 + 1))) = some r := by first | (rw [hji10] at H; exact H) | (simp only [hji10] at H ⊢; exact H)
                have hji10_ : (IntKind.i64.wrap (1 * 2 ^ min x9_1.toNat 64)) = ji10 := hji10
                have hji10z : x9_1 ≤ 64 → (IntKind.i64.wrap (1 * 2 ^ x9_1.toNat)) = ji10 := shl_small hji10
                have hji10u : (IntKind.i64.wrap (2 ^ min x9_1.toNat 64)) = ji10 := by have h_ := hji10_; rw [Int.one_mul] at h_; exact h_
                have hji10v : x9_1 ≤ 64 → (IntKind.i64.wrap (2 ^ x9_1.toNat)) = ji10 := fun hle_ => by have h_ := hji10z hle_; rw [Int.one_mul] at h_; exact h_
                have hji10y : (wrap64 (1 * 2 ^ min x9_1.toNat 64)) = ji10 := (i64_w _).symm.trans hji10_
                have hji10x : x9_1 ≤ 64 → (wrap64 (1 * 2 ^ x9_1.toNat)) = ji10 := fun h_ => (i64_w _).symm.trans (hji10z h_)
                have H' := Aside0.mk H
                clear H
                have p136 : 0 ≤ (x9_1 : Int) := of_decide_eq_true (by first | (with_reducible assumption) | assumption)
                have q136 : x9_1 < (l0.length : Int) := of_decide_eq_true (by first | (with_reducible assumption) | assumption)
                obtain ⟨ad136, e136, hx136_0⟩ := Kd.at_int HR0.out x9_1 p136 q136
                cases e136
                replace p136 := eq_true p136
                replace q136 := eq_true q136
                go_wp2
                go_roundg k1
                case measure => have := HK1.out; omega
                case rel => exact ⟨(Go.bits .or .i64 x5_1 (ji10)), (wrap64 (x9_1 + 1)), (by first | rfl | (simp; done) | (simp only [← hji10] <;> (first | rfl | simp)) | (simp [*]; done)), (by first | rfl | (simp; done) | (simp [*]; done)), H', ⟨by have := HK1.out; omega⟩, by repeat (first | exact Drawn0.refl _ | apply Drawn0.step)⟩
            · rw [if_neg c7] at H
              exact absurd H (by simp)
          · rw [if_neg c6] at H
            have c6b0 : ((Go.bits .and .i64 (ji5) 1) == 1) = false := beq_eq_false_iff_ne.mpr c6
            have c6b1 : ((Go.bits .and .i64 (ji5) 1) != 1) = true := bne_iff_ne.mpr c6
            have H' := Aside0.mk H
            clear H
            go_wp2
            go_roundg k1
            case measure => have := HK1.out; omega
            case rel => exact ⟨(x5_1), (wrap64 (x9_1 + 1)), (by first | rfl | (simp; done) | (simp [*]; done)), (by first | rfl | (simp; done) | (simp [*]; done)), H', ⟨by have := HK1.out; omega⟩, by repeat (first | exact Drawn0.refl _ | apply Drawn0.step)⟩
        · rw [if_neg c4] at H
          exact absurd H (by simp)
      · rw [if_neg c3] at H
        have c3b0 : decide (x9_1 < (l0.length : Int)) = false := decide_eq_false c3
        clear c3
        obtain rfl := Option.some.inj H
        go_wp2
        go_ret
        exact ⟨by first | rfl | (simp; done) | (simp [*]; done), by repeat (first | exact Drawn0.refl _ | apply Drawn0.step)⟩

end Go.Proofs.YtijfddobandcdaaDoor.X
end
section
-- by ownprint.py (wip/tool), over the kit's print
namespace Go.Proofs.YtijfddobandcdaaDoor.X
open Go.RowKit Go.Proofs.YtijfddobandcdaaDoorW.PrintWords Go.Proofs.YtijfddobandcdaaDoorW.PrintLast Go.Proofs.YtijfddobandcdaaDoorW.PrintMore
attribute [local go_sem] max2_int min2_int max_two min_two max_three min_three max_four min_four
set_option linter.unusedVariables false
set_option linter.unusedSimpArgs false

/-! ### lampblackref03_Breadth: function 31 -/
def lampblackref03_Breadth.l0 : Nat → List Int → Int → Int → List Int → Int → Int → Option (Int)
  | 0, _, _, _, _, _, _ => none
  | k + 1, x0, x5, x6, x9, x10, x11 => if x11 < x10 then (if 0 ≤ x11 then (if x11 < (x9.length : Int) then (if 0 ≤ (rd x9 x11) then ((lampblackref03_Border.f k x0 (Go.bits .or .i64 x6 (shl .i64 1 (rd x9 x11)))).bind fun t138 => ((lampblackref02_Size.f k t138).bind fun t139 => (lampblackref03_Breadth.l0 k x0 (mx x5 t139) (Go.bits .or .i64 x6 (shl .i64 1 (rd x9 x11))) x9 x10 (wrap64 (x11 + 1))))) else (none)) else (none)) else (none)) else (some x5)
def lampblackref03_Breadth.f (k : Nat) (l0 : List Int) (l1 : List Int) : Option (Int) := lampblackref03_Breadth.l0 k l0 0 0 l1 (l1.length : Int) 0
set_option maxHeartbeats 8000000 in
set_option maxRecDepth 100000 in
theorem lampblackref03_Breadth.calls (k : Nat) (A0 : Option Addr) (c0 : Nat) (l0 : List Int) (A1 : Option Addr) (c1 : Nat) (l1 : List Int) (r : Int) (w : World) (hr0 : Kd.C (Kd.int .i64) w A0 l0.length l0) (hc0 : l0.length ≤ c0) (hr1 : Kd.C (Kd.int .i64) w A1 l1.length l1) (hc1 : l1.length ≤ c1) (h : lampblackref03_Breadth.f k l0 l1 = some r) :
    Calls Tryd.prog 31 #[.slice A0 l0.length c0, .slice A1 l1.length c1] w fun e w' => e = .returned (.int .i64 r) ∧ Below w.heap.size w w' := by
  have HR0 := Aside0.mk hr0
  have HC0 := Aside0.mk hc0
  clear hr0 hc0
  have HR1 := Aside0.mk hr1
  have HC1 := Aside0.mk hc1
  clear hr1 hc1
  have HB := Aside0.mk (Below.refl w.heap.size w)
  have H : (lampblackref03_Breadth.l0 k l0 0 0 l1 (l1.length : Int) 0) = some r := h
  clear h
  have H' := Aside0.mk H
  clear H
  go_enter Tryd.func31, Tryd.ntmps31
  go_wp2
  go_loopg [5, 6, 11] k (fun kq v5 v6 v11 w' => ∃ (x5_1 : Int) (x6_1 : Int) (x11_1 : Int), v5 = .int .i64 x5_1 ∧ v6 = .int .i64 x6_1 ∧ v11 = .int .i64 x11_1 ∧ Aside0 (lampblackref03_Breadth.l0 kq l0 x5_1 x6_1 l1 (l1.length : Int) x11_1 = some r) ∧ Aside0 (kq ≤ k) ∧ Aside0 (Below w.heap.size w w'))
  case atStart => exact ⟨(0), (0), (0), (by first | rfl | (simp; done) | (simp [*]; done)), (by first | rfl | (simp; done) | (simp [*]; done)), (by first | rfl | (simp; done) | (simp [*]; done)), H', ⟨Nat.le_refl _⟩, ⟨by repeat (first | (with_reducible first | exact HB.out | apply below_alloc | apply pw_below_drewN | apply below_drew1) | exact HB.out)⟩⟩
  case round =>
    clear H'
    try clear c1
    try clear p2
    obtain ⟨x5_1, x6_1, x11_1, rfl, rfl, rfl, HA, HK1, HB⟩ := hrel
    cases gk with
    | zero => exact absurd HA.out (by simp [lampblackref03_Breadth.l0])
    | succ k1 =>
      have H := HA.out
      clear HA
      simp only [lampblackref03_Breadth.l0] at H
      by_cases c3 : x11_1 < (l1.length : Int)
      · rw [if_pos c3] at H
        have c3b0 : decide (x11_1 < (l1.length : Int)) = true := decide_eq_true c3
        clear c3
        by_cases c4 : 0 ≤ x11_1
        · rw [if_pos c4] at H
          have c4b0 : decide (0 ≤ x11_1) = true := decide_eq_true c4
          clear c4
          by_cases c5 : x11_1 < (l1.length : Int)
          · rw [if_pos c5] at H
            have c5b0 : decide (x11_1 < (l1.length : Int)) = true := decide_eq_true c5
            clear c5
            by_cases c6 : 0 ≤ (rd l1 x11_1)
            · rw [if_pos c6] at H
              have c6b0 := eq_true c6
              have c6b1 : decide (0 ≤ (rd l1 x11_1)) = true := decide_eq_true c6
              clear c6
              obtain ⟨ji7, hji7⟩ : ∃ j_ : Int, (shl .i64 1 (rd l1 x11_1)) = j_ := ⟨_, rfl⟩
              replace H : ((lampblackref03_Border.f k1 l0 (Go.bits .or .i64 x6_1 (ji7))).bind fun t138 => ((lampblackref02_Size.f k1 t138).bind fun t139 => (lampblackref03_Breadth.l0 k1 l0 (mx x5_1 t139) (Go.bits .or .i64 x6_1 (ji7)) l1 (l1.length : Int) (wrap64 (x11_1 + 1))))) = some r := by first | (rw [hji7] at H; exact H) | (simp only [hji7] at H ⊢; exact H)
              have hji7_ : (IntKind.i64.wrap (1 * 2 ^ min (rd l1 x11_1).toNat 64)) = ji7 := hji7
              have hji7z : (rd l1 x11_1) ≤ 64 → (IntKind.i64.wrap (1 * 2 ^ (rd l1 x11_1).toNat)) = ji7 := shl_small hji7
              have hji7u : (IntKind.i64.wrap (2 ^ min (rd l1 x11_1).toNat 64)) = ji7 := by have h_ := hji7_; rw [Int.one_mul] at h_; exact h_
              have hji7v : (rd l1 x11_1) ≤ 64 → (IntKind.i64.wrap (2 ^ (rd l1 x11_1).toNat)) = ji7 := fun hle_ => by have h_ := hji7z hle_; rw [Int.one_mul] at h_; exact h_
              have hji7y : (wrap64 (1 * 2 ^ min (rd l1 x11_1).toNat 64)) = ji7 := (i64_w _).symm.trans hji7_
              have hji7x : (rd l1 x11_1) ≤ 64 → (wrap64 (1 * 2 ^ (rd l1 x11_1).toNat)) = ji7 := fun h_ => (i64_w _).symm.trans (hji7z h_)
              replace H := Option.bind_eq_some_iff.mp H
              obtain ⟨t138, A80, H⟩ := H
              replace H : ((lampblackref02_Size.f k1 t138).bind fun t139 => (lampblackref03_Breadth.l0 k1 l0 (mx x5_1 t139) (Go.bits .or .i64 x6_1 (ji7)) l1 (l1.length : Int) (wrap64 (x11_1 + 1)))) = some r := H
              have A8 := Aside0.mk A80
              clear A80
              replace H := Option.bind_eq_some_iff.mp H
              obtain ⟨t139, A90, H⟩ := H
              replace H : (lampblackref03_Breadth.l0 k1 l0 (mx x5_1 t139) (Go.bits .or .i64 x6_1 (ji7)) l1 (l1.length : Int) (wrap64 (x11_1 + 1))) = some r := H
              have A9 := Aside0.mk A90
              clear A90
              obtain ⟨ji10, hji10⟩ : ∃ j_ : Int, (mx x5_1 t139) = j_ := ⟨_, rfl⟩
              replace H : (lampblackref03_Breadth.l0 k1 l0 ji10 (Go.bits .or .i64 x6_1 (ji7)) l1 (l1.length : Int) (wrap64 (x11_1 + 1))) = some r := by first | (rw [hji10] at H; exact H) | (simp only [hji10] at H ⊢; exact H)
              (try rw [hji10] at A8)
              (try rw [hji10] at A9)
              have hji10_ : (if x5_1 < t139 then t139 else x5_1) = ji10 := hji10
              have H' := Aside0.mk H
              clear H
              have p137 : 0 ≤ (x11_1 : Int) := of_decide_eq_true (by first | (with_reducible assumption) | assumption)
              have q137 : x11_1 < (l1.length : Int) := of_decide_eq_true (by first | (with_reducible assumption) | assumption)
              obtain ⟨ad137, e137, hx137_0⟩ := Kd.at_int HR1.out x11_1 p137 q137
              cases e137
              replace hx137_0 := (HB.out.cell (World.block_lt_of_cell? w _ hx137_0)).trans hx137_0
              replace p137 := eq_true p137
              replace q137 := eq_true q137
              go_wp2_with (first | ((with_reducible refine gate_callee (f := 59) rfl ?_); refine goesL_ (some 22) rfl rfl Tryd.func59 (by kernel_rfl) rfl #[.slice A0 l0.length c0, .int .i64 (Go.bits .or .i64 x6_1 (ji7))] rfl (by (try simp only [List.map_toArray, List.map_cons, List.map_nil]); first | done | (simp only [hji7]; rfl) | rfl | (simp only [List.length_drop, List.length_take]; rfl)) ?_; (with_reducible refine (lampblackref03_Border.calls k1 _ _ l0 (Go.bits .or .i64 x6_1 (ji7)) t138 _ ?side1 ?side2 A8.out).mono ?_); (case side1 => repeat (first | exact (Kd.C_below HR0.out HB.out) | (with_reducible refine Kd.C_alloc ?_ _) | (with_reducible refine Kd.C_drewN ?_ _) | (with_reducible refine Kd.C_drew ?_))); (case side2 => exact HC0.out); rintro e w' ⟨rfl, ⟨nd, rfl⟩⟩; refine ⟨_, rfl, ?_⟩) | ((with_reducible refine gate_callee (f := 53) rfl ?_); refine goesL_ (some 23) rfl rfl Tryd.func53 (by kernel_rfl) rfl #[.int .i64 t138] rfl (by (try simp only [List.map_toArray, List.map_cons, List.map_nil]); first | done | rfl | (simp only [List.length_drop, List.length_take]; rfl)) ?_; (with_reducible refine (lampblackref02_Size.calls k1 t138 t139 _ A9.out).mono ?_); rintro e w' ⟨rfl, ⟨nd, rfl⟩⟩; refine ⟨_, rfl, ?_⟩))
              go_roundg k1
              case measure => have := HK1.out; omega
              case rel => exact ⟨(ji10), (Go.bits .or .i64 x6_1 (ji7)), (wrap64 (x11_1 + 1)), (by first | rfl | (simp; done) | (simp only [← hji10] <;> (first | rfl | simp)) | (simp [*]; done)), (by first | rfl | (simp; done) | (simp only [← hji7] <;> (first | rfl | simp)) | (simp [*]; done)), (by first | rfl | (simp; done) | (simp [*]; done)), H', ⟨by have := HK1.out; omega⟩, ⟨by repeat (first | (with_reducible first | exact HB.out | apply below_alloc | apply pw_below_drewN | apply below_drew1) | exact HB.out)⟩⟩
            · rw [if_neg c6] at H
              exact absurd H (by simp)
          · rw [if_neg c5] at H
            exact absurd H (by simp)
        · rw [if_neg c4] at H
          exact absurd H (by simp)
      · rw [if_neg c3] at H
        have c3b0 : decide (x11_1 < (l1.length : Int)) = false := decide_eq_false c3
        clear c3
        obtain rfl := Option.some.inj H
        go_wp2
        go_ret
        exact ⟨by first | rfl | (simp [errW_none, errW_some] <;> rfl) | (simp [*, errW_none, errW_some] <;> rfl), by repeat (first | (with_reducible first | exact HB.out | apply below_alloc | apply pw_below_drewN | apply below_drew1) | exact HB.out)⟩

end Go.Proofs.YtijfddobandcdaaDoor.X
end
section
/- lampblackref03.Layout, by hand: the first of all orders with the least breadth. -/
namespace Go.Proofs.YtijfddobandcdaaDoor.X
open Go.RowKit Go.Proofs.YtijfddobandcdaaDoorW.PrintWords Go.Proofs.YtijfddobandcdaaDoorW.PrintLast Go.Proofs.YtijfddobandcdaaDoorW.PrintMore Go.Proofs.YtijfddobandcdaaDoor.T
attribute [local go_sem] max2_int min2_int max_two min_two max_three min_three max_four min_four
set_option linter.unusedVariables false
set_option linter.unusedSimpArgs false

def bestOf (k : Nat) (g : List Int) : List (List Int) → List Int → Int → Option (List Int × Int)
  | [], best, least => some (best, least)
  | l :: Ls, best, least => (lampblackref03_Breadth.f k g l).bind fun b => if b < least then bestOf k g Ls l b else bestOf k g Ls best least
def lampblackref03_Layout.f (k : Nat) (l0 : List Int) : Option (List Int × Int) := if l0.length ≤ 7 then bestOf k l0 (layF l0.length l0.length []) [] 99 else none
theorem ownsRow_form {W : World} {base : Nat} {e : TypeId} {size : Nat} {v : Value} {k : Nat} {xs : List Value} (h : W.ownsRow base e size v k xs) : ∃ A cap, v = .slice A k cap := by
  rcases h.2 with ⟨rfl, rfl⟩ | ⟨g, cap, cur, rfl, _⟩
  · exact ⟨none, 0, rfl⟩
  · exact ⟨_, cap, rfl⟩
theorem C_of_row {W : World} {base : Nat} {A : Option Addr} {cap : Nat} {l : List Int} (h : W.ownsRow base 3 1 (.slice A l.length cap) l.length (l.map (Value.int .i64))) : l.length ≤ cap ∧ Kd.C (Kd.int .i64) W A l.length l :=
  (Kd.R_reads' (Kd.R_of_own (ok := fun _ => True) h (fun _ _ => trivial))).2

set_option maxHeartbeats 2000000 in
set_option maxRecDepth 100000 in
theorem lampblackref03_Layout.calls (k : Nat) (A0 : Option Addr) (c0 : Nat) (l0 : List Int) (r1 : List Int) (r2 : Int) (w : World) (hr0 : Kd.C (Kd.int .i64) w A0 l0.length l0) (hc0 : l0.length ≤ c0) (h : lampblackref03_Layout.f k l0 = some (r1, r2)) :
    Calls Tryd.prog 28 #[.slice A0 l0.length c0] w fun e w' => ∃ v0_ : Value, e = .returned (.tuple #[v0_, .int .i64 r2]) ∧ Kd.R (Kd.int .i64) 3 w' w.heap.size (fun _ => True) v0_ r1 ∧ Below w.heap.size w w' := by
  unfold lampblackref03_Layout.f at h
  by_cases hn : l0.length ≤ 7
  · rw [if_pos hn] at h
    have HF := Aside0.mk h
    have HR := Aside0.mk hr0
    clear h hr0
    have hcall := layouts_calls l0.length hn l0.length [] none 0 w.heap.size w (by simp) (Nat.le_refl _) (World.ownsRow_nil _ _ _ _)
    obtain ⟨x0, hx0⟩ := layF_mem l0.length l0.length [] (by simp)
    obtain ⟨m, hm⟩ : ∃ m, (layF l0.length l0.length []).length = m + 1 := ⟨(layF l0.length l0.length []).length - 1, by have := List.length_pos_of_mem hx0; omega⟩
    have hml := Nat.le_trans (layF_length l0.length l0.length []) (layF_small l0.length l0.length hn hn)
    generalize layF l0.length l0.length [] = Ls at HF hcall hm hml
    have h77 : (7 : Nat) ^ 7 = 823543 := by rfl
    rw [hm, h77] at hml
    have HM := Aside0.mk hml
    have HL := Aside0.mk hm
    clear hml hm h77 hx0 x0
    go_enter Tryd.func28, Tryd.ntmps28
    go_wp2_with (go_at_call 58; refine hcall.mono ?_; rintro e w2 ⟨v, rows, rfl, ho, hR, hB2⟩; rw [HL.out] at ho; obtain ⟨g2, cap2, rfl⟩ := ownsRow_succ ho)
    go_loopg [4, 5, 13] (m + 1) (fun kq v4 v5 v13 w' => ∃ (i : Nat) (best : List Int) (least : Int), v13 = .int .i64 (i : Int) ∧ i + kq = m + 1 ∧ v5 = .int .i64 least ∧ w'.ownsRow w.heap.size 3 1 v4 best.length (best.map (Value.int .i64)) ∧ Aside0 (bestOf k l0 (Ls.drop i) best least = some (r1, r2)) ∧ Below w2.heap.size w2 w')
    case atStart => exact ⟨0, [], 99, rfl, by omega, rfl, World.ownsRow_nil _ _ _ _, ⟨by rw [List.drop_zero]; exact HF.out⟩, Below.refl _ _⟩
    case round =>
      obtain ⟨i, best, least, rfl, hi, rfl, hob, HF2, hBw⟩ := hrel
      by_cases him : i < m + 1
      · have hi1 : ((i : Int) < ((m : Int) + 1)) = True := eq_true (by omega)
        have hi2 : decide ((i : Int) < ((m : Int) + 1)) = true := decide_eq_true (by omega)
        have hi3 : ((i : Int) < ((m + 1 : Nat) : Int)) = True := eq_true (by omega)
        have hi4 : decide ((i : Int) < ((m + 1 : Nat) : Int)) = true := decide_eq_true (by omega)
        have hil : i < Ls.length := by rw [HL.out]; exact him
        obtain ⟨v, hv, hov⟩ := hR.2 i Ls[i] (List.getElem?_eq_getElem hil)
        obtain ⟨A, cp, rfl⟩ := ownsRow_form hov
        have hcell := (hBw.cell (World.block_lt_of_cell? w2 _ (ownsRow_cells ho i _ hv))).trans (ownsRow_cells ho i _ hv)
        rw [Addr.add_lit, Nat.zero_add] at hcell
        have hov2 := ownsRow_below hov hBw
        obtain ⟨hcp, hC⟩ := C_of_row hov2
        have hC0 : Kd.C (Kd.int .i64) wr A0 l0.length l0 := Kd.C_below HR.out (below_step hB2 hBw)
        have HF3 := HF2.out
        rw [List.drop_eq_getElem_cons hil] at HF3
        simp only [bestOf] at HF3
        obtain ⟨b, hb, HF3⟩ := Option.bind_eq_some_iff.mp HF3
        have HFN := Aside0.mk HF3
        have HWI := Aside0.mk (show wrap64 ((i : Int) + 1) = ((i + 1 : Nat) : Int) from wrap_succ i (by have := HM.out; omega))
        clear HF3
        have hbc := lampblackref03_Breadth.calls k A0 c0 l0 A cp Ls[i] b wr hC0 hc0 hC hcp hb
        generalize Ls[i] = li at *
        by_cases hlt : b < least
        · have hl1 : decide (b < least) = true := decide_eq_true hlt
          go_wp2_with (go_at_call 31; refine hbc.mono ?_; rintro e w3 ⟨rfl, hb3⟩)
          have HF4 := HFN.out
          rw [if_pos (by omega)] at HF4
          go_roundg (m + 1 - (i + 1))
          case measure => omega
          case rel =>
            refine ⟨i + 1, li, b, ?_, by omega, rfl, ?_, ⟨HF4⟩, ?_⟩
            · first | rw [HWI.out] | exact congrArg (Value.int IntKind.i64) (by omega)
            · exact ownsRow_below hov2 hb3
            · exact below_step hBw hb3
        · have hl1 : decide (b < least) = false := decide_eq_false hlt
          go_wp2_with (go_at_call 31; refine hbc.mono ?_; rintro e w3 ⟨rfl, hb3⟩)
          have HF4 := HFN.out
          rw [if_neg (by omega)] at HF4
          go_roundg (m + 1 - (i + 1))
          case measure => omega
          case rel =>
            refine ⟨i + 1, best, least, ?_, by omega, rfl, ?_, ⟨HF4⟩, ?_⟩
            · first | rw [HWI.out] | exact congrArg (Value.int IntKind.i64) (by omega)
            · exact ownsRow_below hob hb3
            · exact below_step hBw hb3
      · have hi1 : ((i : Int) < ((m : Int) + 1)) = False := eq_false (by omega)
        have hi2 : decide ((i : Int) < ((m : Int) + 1)) = false := decide_eq_false (by omega)
        have hi3 : ((i : Int) < ((m + 1 : Nat) : Int)) = False := eq_false (by omega)
        have hi4 : decide ((i : Int) < ((m + 1 : Nat) : Int)) = false := decide_eq_false (by omega)
        have HF3 := HF2.out
        rw [List.drop_eq_nil_of_le (by rw [HL.out]; omega)] at HF3
        simp only [bestOf, Option.some.injEq, Prod.mk.injEq] at HF3
        obtain ⟨rfl, rfl⟩ := HF3
        go_wp2
        go_ret2
        exact ⟨_, rfl, Kd.R_of_own hob (fun _ _ => trivial), below_step hB2 hBw⟩
  · rw [if_neg hn] at h
    cases h
end Go.Proofs.YtijfddobandcdaaDoor.X
end
section
-- by ownprint.py (wip/tool), over the kit's print
namespace Go.Proofs.YtijfddobandcdaaDoor.X
open Go.RowKit Go.Proofs.YtijfddobandcdaaDoorW.PrintWords Go.Proofs.YtijfddobandcdaaDoorW.PrintLast Go.Proofs.YtijfddobandcdaaDoorW.PrintMore
attribute [local go_sem] max2_int min2_int max_two min_two max_three min_three max_four min_four
set_option linter.unusedVariables false
set_option linter.unusedSimpArgs false

/-! ### lampblackref03_PathWidth: function 21 -/
def lampblackref03_PathWidth.f (k : Nat) (l0 : List Int) : Option (Int) := (lampblackref03_Layout.f k l0).bind fun bt140 => (some bt140.2)
set_option maxHeartbeats 8000000 in
set_option maxRecDepth 100000 in
theorem lampblackref03_PathWidth.calls (k : Nat) (A0 : Option Addr) (c0 : Nat) (l0 : List Int) (r : Int) (w : World) (hr0 : Kd.C (Kd.int .i64) w A0 l0.length l0) (hc0 : l0.length ≤ c0) (h : lampblackref03_PathWidth.f k l0 = some r) :
    Calls Tryd.prog 21 #[.slice A0 l0.length c0] w fun e w' => e = .returned (.int .i64 r) ∧ Below w.heap.size w w' := by
  have HR0 := Aside0.mk hr0
  have HC0 := Aside0.mk hc0
  clear hr0 hc0
  have HB := Aside0.mk (Below.refl w.heap.size w)
  have H : ((lampblackref03_Layout.f k l0).bind fun bt140 => (some bt140.2)) = some r := h
  clear h
  replace H := Option.bind_eq_some_iff.mp H
  obtain ⟨⟨t140, t141⟩, A20, H⟩ := H
  replace H : (some t141) = some r := H
  have A2 := Aside0.mk A20
  clear A20
  obtain rfl := Option.some.inj H
  go_enter Tryd.func21, Tryd.ntmps21
  go_wp2_with (first | ((with_reducible refine gate_callee (f := 28) rfl ?_); refine goesL_ (some 7) rfl rfl Tryd.func28 (by kernel_rfl) rfl #[.slice A0 l0.length c0] rfl (by (try simp only [List.map_toArray, List.map_cons, List.map_nil]); first | done | rfl | (simp only [List.length_drop, List.length_take]; rfl)) ?_; (with_reducible refine (lampblackref03_Layout.calls k _ _ l0 t140 t141 _ ?side1 ?side2 A2.out).mono ?_); (case side1 => repeat (first | exact HR0.out | (with_reducible refine Kd.C_alloc ?_ _) | (with_reducible refine Kd.C_drewN ?_ _) | (with_reducible refine Kd.C_drew ?_))); (case side2 => exact HC0.out); rintro e w3 ⟨v142, rfl, ho0, hb⟩; refine ⟨_, rfl, ?_⟩; have n0_ := Aside0.mk (Kd.R_lower ho0 (below_size (by repeat (first | (with_reducible first | exact HB.out | apply below_alloc | apply pw_below_drewN | apply below_drew1) | exact HB.out)))); have n1_ := Aside0.mk (below_step (by repeat (first | (with_reducible first | exact HB.out | apply below_alloc | apply pw_below_drewN | apply below_drew1) | exact HB.out)) hb); clear HB; have HO143 := n0_; have HB := n1_; clear n0_ n1_; (try clear hb); (try clear hb2); (try clear hk); (try clear hi); (try clear ho0)))
  go_ret
  exact ⟨by first | rfl | (simp [errW_none, errW_some] <;> rfl) | (simp [*, errW_none, errW_some] <;> rfl), by repeat (first | (with_reducible first | exact HB.out | apply below_alloc | apply pw_below_drewN | apply below_drew1) | exact HB.out)⟩

end Go.Proofs.YtijfddobandcdaaDoor.X
end
section
-- by ownprint.py (wip/tool), over the kit's print
namespace Go.Proofs.YtijfddobandcdaaDoor.X
open Go.RowKit Go.Proofs.YtijfddobandcdaaDoorW.PrintWords Go.Proofs.YtijfddobandcdaaDoorW.PrintLast Go.Proofs.YtijfddobandcdaaDoorW.PrintMore
attribute [local go_sem] max2_int min2_int max_two min_two max_three min_three max_four min_four
set_option linter.unusedVariables false
set_option linter.unusedSimpArgs false

/-! ### lampblackref01_IsGraph: function 48 -/
mutual
def lampblackref01_IsGraph.l0 : Nat → List Int → Int → List Int → Int → Int → Option (Bool)
  | 0, _, _, _, _, _ => none
  | k + 1, x0, x1, x8, x9, x10 => if x10 < x9 then (if 0 ≤ x10 then (if x10 < (x8.length : Int) then (if (x0.length : Int) > x1 then (lampblackref01_IsGraph.j1 k x0 x1 x10 (rd x8 x10) x8 x9 x10 true) else (if (rd x8 x10) < 0 then (lampblackref01_IsGraph.j1 k x0 x1 x10 (rd x8 x10) x8 x9 x10 true) else (if (rd x8 x10) ≥ (shl .i64 1 (x0.length : Int)) then (lampblackref01_IsGraph.j1 k x0 x1 x10 (rd x8 x10) x8 x9 x10 true) else (lampblackref01_IsGraph.j1 k x0 x1 x10 (rd x8 x10) x8 x9 x10 ((Go.bits .and .i64 (shr .i64 (rd x8 x10) x10) 1) == 1))))) else (none)) else (none)) else (if (x0.length : Int) ≥ 1 then (some (decide ((x0.length : Int) ≤ x1))) else (some false))
def lampblackref01_IsGraph.j1 : Nat → List Int → Int → Int → Int → List Int → Int → Int → Bool → Option (Bool)
  | 0, _, _, _, _, _, _, _, _ => none
  | k + 1, x0, x1, x5, x6, x8, x9, x10, x36 => if x36 = true then (some false) else (lampblackref01_IsGraph.l1 k x0 x1 x5 x6 x8 x9 x10 (x0.length : Int) 0)
def lampblackref01_IsGraph.l1 : Nat → List Int → Int → Int → Int → List Int → Int → Int → Int → Int → Option (Bool)
  | 0, _, _, _, _, _, _, _, _, _ => none
  | k + 1, x0, x1, x5, x6, x8, x9, x10, x38, x39 => if x39 < x38 then (if 0 ≤ x39 then (if x39 < (x0.length : Int) then (if 0 ≤ x5 then (if (Go.bits .and .i64 (shr .i64 x6 x39) 1) = (Go.bits .and .i64 (shr .i64 (rd x0 x39) x5) 1) then (lampblackref01_IsGraph.l1 k x0 x1 x5 x6 x8 x9 x10 x38 (wrap64 (x39 + 1))) else (some false)) else (none)) else (none)) else (none)) else (lampblackref01_IsGraph.l0 k x0 x1 x8 x9 (wrap64 (x10 + 1)))
end
def lampblackref01_IsGraph.f (k : Nat) (l0 : List Int) (a1 : Int) : Option (Bool) := lampblackref01_IsGraph.l0 k l0 a1 l0 (l0.length : Int) 0
set_option maxHeartbeats 8000000 in
set_option maxRecDepth 100000 in
theorem lampblackref01_IsGraph.calls (k : Nat) (A0 : Option Addr) (c0 : Nat) (l0 : List Int) (a1 : Int) (r : Bool) (w : World) (hr0 : Kd.C (Kd.int .i64) w A0 l0.length l0) (hc0 : l0.length ≤ c0) (h : lampblackref01_IsGraph.f k l0 a1 = some r) :
    Calls Tryd.prog 48 #[.slice A0 l0.length c0, .int .i64 a1] w fun e w' => e = .returned (.bool r) ∧ Drawn0 w w' := by
  have HR0 := Aside0.mk hr0
  have HC0 := Aside0.mk hc0
  clear hr0 hc0
  have H : (lampblackref01_IsGraph.l0 k l0 a1 l0 (l0.length : Int) 0) = some r := h
  clear h
  have H' := Aside0.mk H
  clear H
  go_enter Tryd.func48, Tryd.ntmps48
  go_wp2
  repeat (go_quiet (fail); try go_wp2)
  go_loopg [10] k (fun kq v10 w' => ∃ (x10_1 : Int), v10 = .int .i64 x10_1 ∧ Aside0 (lampblackref01_IsGraph.l0 kq l0 a1 l0 (l0.length : Int) x10_1 = some r) ∧ Aside0 (kq ≤ k) ∧ Drawn0 w w')
  case atStart => exact ⟨(0), (by first | rfl | (simp; done) | (simp [*]; done)), H', ⟨Nat.le_refl _⟩, by repeat (first | exact Drawn0.refl _ | apply Drawn0.step)⟩
  case round =>
    clear H'
    try clear p2
    obtain ⟨x10_1, rfl, HA, HK1, ⟨m1, rfl⟩⟩ := hrel
    cases gk with
    | zero => exact absurd HA.out (by simp [lampblackref01_IsGraph.l0])
    | succ k1 =>
      have H := HA.out
      clear HA
      simp only [lampblackref01_IsGraph.l0] at H
      by_cases c3 : x10_1 < (l0.length : Int)
      · rw [if_pos c3] at H
        have c3b0 : decide (x10_1 < (l0.length : Int)) = true := decide_eq_true c3
        clear c3
        by_cases c4 : 0 ≤ x10_1
        · rw [if_pos c4] at H
          have c4b0 : decide (0 ≤ x10_1) = true := decide_eq_true c4
          clear c4
          by_cases c5 : x10_1 < (l0.length : Int)
          · rw [if_pos c5] at H
            have c5b0 : decide (x10_1 < (l0.length : Int)) = true := decide_eq_true c5
            clear c5
            have HC6 := Aside0.mk H
            clear H
            have p128 : 0 ≤ (x10_1 : Int) := of_decide_eq_true (by first | (with_reducible assumption) | assumption)
            have q128 : x10_1 < (l0.length : Int) := of_decide_eq_true (by first | (with_reducible assumption) | assumption)
            obtain ⟨ad128, e128, hx128_0⟩ := Kd.at_int HR0.out x10_1 p128 q128
            cases e128
            replace p128 := eq_true p128
            replace q128 := eq_true q128
            go_upto_region 4 with (fail)
            repeat (go_quiet (fail); go_upto_region 4 with (fail))
            go_cut [36] (fun v36 wc => ∃ (kq : Nat) (x36_5 : Bool), v36 = .bool x36_5 ∧ Aside0 (lampblackref01_IsGraph.j1 kq l0 a1 x10_1 (rd l0 x10_1) l0 (l0.length : Int) x10_1 x36_5 = some r) ∧ Aside0 (kq ≤ k1) ∧ Drawn0 w wc)
            case first =>
              have H := HC6.out
              clear HC6
              by_cases c7 : (l0.length : Int) > a1
              · rw [if_pos c7] at H
                have c7b0 : decide (a1 < (l0.length : Int)) = true := decide_eq_true c7
                clear c7
                (first | rw [c7b0] | (simp only [i64_w, i32_w]; rw [c7b0]) | skip)
                have H' := Aside0.mk H
                clear H
                go_wp2
                repeat (go_quiet (fail); try go_wp2)
                go_meet
                case rel => exact ⟨_, (true), (by first | rfl | (simp; done) | (simp [*]; done)), H', ⟨by have := HK1.out; first | omega | exact Nat.le_refl _⟩, by repeat (first | exact Drawn0.refl _ | apply Drawn0.step)⟩
              · rw [if_neg c7] at H
                have c7b0 : decide (a1 < (l0.length : Int)) = false := decide_eq_false c7
                clear c7
                (first | rw [c7b0] | (simp only [i64_w, i32_w]; rw [c7b0]) | skip)
                by_cases c8 : (rd l0 x10_1) < 0
                · rw [if_pos c8] at H
                  have c8b0 : decide ((rd l0 x10_1) < 0) = true := decide_eq_true c8
                  clear c8
                  have H' := Aside0.mk H
                  clear H
                  go_wp2
                  repeat (go_quiet (fail); try go_wp2)
                  go_meet
                  case rel => exact ⟨_, (true), (by first | rfl | (simp; done) | (simp [*]; done)), H', ⟨by have := HK1.out; first | omega | exact Nat.le_refl _⟩, by repeat (first | exact Drawn0.refl _ | apply Drawn0.step)⟩
                · rw [if_neg c8] at H
                  have c8b0 : decide ((rd l0 x10_1) < 0) = false := decide_eq_false c8
                  clear c8
                  obtain ⟨ji9, hji9⟩ : ∃ j_ : Int, (shl .i64 1 (l0.length : Int)) = j_ := ⟨_, rfl⟩
                  replace H : (if (rd l0 x10_1) ≥ (ji9) then (lampblackref01_IsGraph.j1 k1 l0 a1 x10_1 (rd l0 x10_1) l0 (l0.length : Int) x10_1 true) else (lampblackref01_IsGraph.j1 k1 l0 a1 x10_1 (rd l0 x10_1) l0 (l0.length : Int) x10_1 ((Go.bits .and .i64 (shr .i64 (rd l0 x10_1) x10_1) 1) == 1))) = some r := by first | (rw [hji9] at H; exact H) | (simp only [hji9] at H ⊢; exact H)
                  have hji9_ : (IntKind.i64.wrap (1 * 2 ^ min (l0.length : Int).toNat 64)) = ji9 := hji9
                  have hji9z : (l0.length : Int) ≤ 64 → (IntKind.i64.wrap (1 * 2 ^ (l0.length : Int).toNat)) = ji9 := shl_small hji9
                  have hji9p : (IntKind.i64.wrap (1 * 2 ^ min l0.length 64)) = ji9 := hji9_
                  have hji9q : (l0.length : Int) ≤ 64 → (IntKind.i64.wrap (1 * 2 ^ l0.length)) = ji9 := hji9z
                  have hji9r : (IntKind.i64.wrap (2 ^ min l0.length 64)) = ji9 := by have h_ := hji9p; rw [Int.one_mul] at h_; exact h_
                  have hji9s : (l0.length : Int) ≤ 64 → (IntKind.i64.wrap (2 ^ l0.length)) = ji9 := fun hle_ => by have h_ := hji9q hle_; rw [Int.one_mul] at h_; exact h_
                  have hji9u : (IntKind.i64.wrap (2 ^ min (l0.length : Int).toNat 64)) = ji9 := by have h_ := hji9_; rw [Int.one_mul] at h_; exact h_
                  have hji9v : (l0.length : Int) ≤ 64 → (IntKind.i64.wrap (2 ^ (l0.length : Int).toNat)) = ji9 := fun hle_ => by have h_ := hji9z hle_; rw [Int.one_mul] at h_; exact h_
                  have hji9y : (wrap64 (1 * 2 ^ min (l0.length : Int).toNat 64)) = ji9 := (i64_w _).symm.trans hji9_
                  have hji9x : (l0.length : Int) ≤ 64 → (wrap64 (1 * 2 ^ (l0.length : Int).toNat)) = ji9 := fun h_ => (i64_w _).symm.trans (hji9z h_)
                  by_cases c10 : (rd l0 x10_1) ≥ (ji9)
                  · rw [if_pos c10] at H
                    have c10b0 : decide ((ji9) ≤ (rd l0 x10_1)) = true := decide_eq_true c10
                    clear c10
                    have H' := Aside0.mk H
                    clear H
                    go_wp2
                    repeat (go_quiet (fail); try go_wp2)
                    go_meet
                    case rel => exact ⟨_, (true), (by first | rfl | (simp; done) | (simp [*]; done)), H', ⟨by have := HK1.out; first | omega | exact Nat.le_refl _⟩, by repeat (first | exact Drawn0.refl _ | apply Drawn0.step)⟩
                  · rw [if_neg c10] at H
                    have c10b0 : decide ((ji9) ≤ (rd l0 x10_1)) = false := decide_eq_false c10
                    clear c10
                    have c11b0 := eq_true (of_decide_eq_true (by first | (with_reducible assumption) | assumption) : 0 ≤ x10_1)
                    obtain ⟨ji12, hji12⟩ : ∃ j_ : Int, (shr .i64 (rd l0 x10_1) x10_1) = j_ := ⟨_, rfl⟩
                    replace H : (lampblackref01_IsGraph.j1 k1 l0 a1 x10_1 (rd l0 x10_1) l0 (l0.length : Int) x10_1 ((Go.bits .and .i64 (ji12) 1) == 1)) = some r := by first | (rw [hji12] at H; exact H) | (simp only [hji12] at H ⊢; exact H)
                    have hji12_ : ((rd l0 x10_1) / 2 ^ min x10_1.toNat 64) = ji12 := hji12
                    have hji12z : x10_1 ≤ 64 → ((rd l0 x10_1) / 2 ^ x10_1.toNat) = ji12 := shr_small hji12
                    have H' := Aside0.mk H
                    clear H
                    go_wp2
                    repeat (go_quiet (fail); try go_wp2)
                    go_meet
                    case rel => exact ⟨_, (((Go.bits .and .i64 (ji12) 1) == 1)), (by first | rfl | (simp; done) | (simp only [← hji12] <;> (first | rfl | simp)) | (simp [*]; done)), H', ⟨by have := HK1.out; first | omega | exact Nat.le_refl _⟩, by repeat (first | exact Drawn0.refl _ | apply Drawn0.step)⟩
            case rest =>
              clear HC6
              try clear c1
              try clear p1
              try clear q1
              try clear hx1
              try clear p2
              try clear c3
              try clear c3b0
              try clear c4
              try clear c4b0
              try clear c5
              try clear c5b0
              try clear p6
              try clear c7
              try clear c7b0
              try clear c8
              try clear c8b0
              try clear c10
              try clear c10b0
              try clear c11
              try clear c11b0
              try clear p12
              try clear q12
              try clear hx12
              try clear hx128_0
              try clear p128
              try clear p2
              try clear q128
              obtain ⟨kq, x36_5, rfl, HA, HJ5, ⟨mc5, rfl⟩⟩ := hcut
              cases kq with
              | zero => exact absurd HA.out (by simp [lampblackref01_IsGraph.j1])
              | succ kj5 =>
                have H := HA.out
                clear HA
                simp only [lampblackref01_IsGraph.j1] at H
                by_cases c13 : x36_5 = true
                · subst c13
                  have H1 : (some false) = some r := by rw [if_pos rfl] at H; exact H
                  clear H
                  have H := H1
                  clear H1
                  obtain rfl := Option.some.inj H
                  go_wp2
                  repeat (go_quiet (fail); try go_wp2)
                  go_ret
                  exact ⟨by first | rfl | (simp; done) | (simp [*]; done), by repeat (first | exact Drawn0.refl _ | apply Drawn0.step)⟩
                · replace c13 := Bool.eq_false_iff.mpr c13
                  subst c13
                  have H1 : (lampblackref01_IsGraph.l1 kj5 l0 a1 x10_1 (rd l0 x10_1) l0 (l0.length : Int) x10_1 (l0.length : Int) 0) = some r := by rw [if_neg (show ¬ (false = true) by decide)] at H; exact H
                  clear H
                  have H := H1
                  clear H1
                  have H' := Aside0.mk H
                  clear H
                  go_wp2
                  repeat (go_quiet (fail); try go_wp2)
                  go_loopg [39] kj5 (fun kq v39 w' => ∃ (x39_3 : Int), v39 = .int .i64 x39_3 ∧ Aside0 (lampblackref01_IsGraph.l1 kq l0 a1 x10_1 (rd l0 x10_1) l0 (l0.length : Int) x10_1 (l0.length : Int) x39_3 = some r) ∧ Aside0 (kq ≤ kj5) ∧ Drawn0 w w')
                  case atStart => exact ⟨(0), (by first | rfl | (simp; done) | (simp [*]; done)), H', ⟨Nat.le_refl _⟩, by repeat (first | exact Drawn0.refl _ | apply Drawn0.step)⟩
                  case round =>
                    clear H'
                    try clear c1
                    try clear p1
                    try clear q1
                    try clear hx1
                    try clear p2
                    try clear c3
                    try clear c3b0
                    try clear c4
                    try clear c4b0
                    try clear c5
                    try clear c5b0
                    try clear p6
                    try clear c7
                    try clear c7b0
                    try clear c8
                    try clear c8b0
                    try clear c10
                    try clear c10b0
                    try clear c11
                    try clear c11b0
                    try clear p12
                    try clear q12
                    try clear hx12
                    try clear c13
                    try clear hx128_0
                    try clear p1
                    try clear p12
                    try clear p128
                    try clear p2
                    try clear p6
                    try clear q1
                    try clear q12
                    try clear q128
                    obtain ⟨x39_3, rfl, HA, HK3, ⟨m3, rfl⟩⟩ := hrel
                    cases gk with
                    | zero => exact absurd HA.out (by simp [lampblackref01_IsGraph.l1])
                    | succ k3 =>
                      have H := HA.out
                      clear HA
                      simp only [lampblackref01_IsGraph.l1] at H
                      by_cases c14 : x39_3 < (l0.length : Int)
                      · rw [if_pos c14] at H
                        have c14b0 : decide (x39_3 < (l0.length : Int)) = true := decide_eq_true c14
                        clear c14
                        by_cases c15 : 0 ≤ x39_3
                        · rw [if_pos c15] at H
                          have c15b0 := eq_true c15
                          have c15b1 : decide (0 ≤ x39_3) = true := decide_eq_true c15
                          clear c15
                          obtain ⟨ji16, hji16⟩ : ∃ j_ : Int, (shr .i64 (rd l0 x10_1) x39_3) = j_ := ⟨_, rfl⟩
                          replace H : (if x39_3 < (l0.length : Int) then (if 0 ≤ x10_1 then (if (Go.bits .and .i64 (ji16) 1) = (Go.bits .and .i64 (shr .i64 (rd l0 x39_3) x10_1) 1) then (lampblackref01_IsGraph.l1 k3 l0 a1 x10_1 (rd l0 x10_1) l0 (l0.length : Int) x10_1 (l0.length : Int) (wrap64 (x39_3 + 1))) else (some false)) else (none)) else (none)) = some r := by first | (rw [hji16] at H; exact H) | (simp only [hji16] at H ⊢; exact H)
                          have hji16_ : ((rd l0 x10_1) / 2 ^ min x39_3.toNat 64) = ji16 := hji16
                          have hji16z : x39_3 ≤ 64 → ((rd l0 x10_1) / 2 ^ x39_3.toNat) = ji16 := shr_small hji16
                          by_cases c17 : x39_3 < (l0.length : Int)
                          · rw [if_pos c17] at H
                            have c17b0 : decide (x39_3 < (l0.length : Int)) = true := decide_eq_true c17
                            clear c17
                            by_cases c18 : 0 ≤ x10_1
                            · rw [if_pos c18] at H
                              have c18b0 := eq_true c18
                              have c18b1 : decide (0 ≤ x10_1) = true := decide_eq_true c18
                              clear c18
                              obtain ⟨ji19, hji19⟩ : ∃ j_ : Int, (shr .i64 (rd l0 x39_3) x10_1) = j_ := ⟨_, rfl⟩
                              replace H : (if (Go.bits .and .i64 (ji16) 1) = (Go.bits .and .i64 (ji19) 1) then (lampblackref01_IsGraph.l1 k3 l0 a1 x10_1 (rd l0 x10_1) l0 (l0.length : Int) x10_1 (l0.length : Int) (wrap64 (x39_3 + 1))) else (some false)) = some r := by first | (rw [hji19] at H; exact H) | (simp only [hji19] at H ⊢; exact H)
                              have hji19_ : ((rd l0 x39_3) / 2 ^ min x10_1.toNat 64) = ji19 := hji19
                              have hji19z : x10_1 ≤ 64 → ((rd l0 x39_3) / 2 ^ x10_1.toNat) = ji19 := shr_small hji19
                              by_cases c20 : (Go.bits .and .i64 (ji16) 1) = (Go.bits .and .i64 (ji19) 1)
                              · rw [if_pos c20] at H
                                have c20b0 : ((Go.bits .and .i64 (ji16) 1) == (Go.bits .and .i64 (ji19) 1)) = true := beq_iff_eq.mpr c20
                                have c20b1 : ((Go.bits .and .i64 (ji16) 1) != (Go.bits .and .i64 (ji19) 1)) = false := bne_eq_false_iff_eq.mpr c20
                                clear c20
                                have H' := Aside0.mk H
                                clear H
                                have p129 : 0 ≤ (x39_3 : Int) := of_decide_eq_true (by first | (with_reducible assumption) | assumption)
                                have q129 : x39_3 < (l0.length : Int) := of_decide_eq_true (by first | (with_reducible assumption) | assumption)
                                obtain ⟨ad129, e129, hx129_0⟩ := Kd.at_int HR0.out x39_3 p129 q129
                                obtain rfl : ad128 = ad129 := (by injection e129)
                                replace p129 := eq_true p129
                                replace q129 := eq_true q129
                                go_wp2
                                repeat (go_quiet (fail); try go_wp2)
                                go_roundg k3
                                case measure => have := HK1.out; have := HJ5.out; have := HK3.out; omega
                                case rel => exact ⟨(wrap64 (x39_3 + 1)), (by first | rfl | (simp; done) | (simp [*]; done)), H', ⟨by have := HK1.out; have := HJ5.out; have := HK3.out; omega⟩, by repeat (first | exact Drawn0.refl _ | apply Drawn0.step)⟩
                              · rw [if_neg c20] at H
                                have c20b0 : ((Go.bits .and .i64 (ji16) 1) == (Go.bits .and .i64 (ji19) 1)) = false := beq_eq_false_iff_ne.mpr c20
                                have c20b1 : ((Go.bits .and .i64 (ji16) 1) != (Go.bits .and .i64 (ji19) 1)) = true := bne_iff_ne.mpr c20
                                obtain rfl := Option.some.inj H
                                have p129 : 0 ≤ (x39_3 : Int) := of_decide_eq_true (by first | (with_reducible assumption) | assumption)
                                have q129 : x39_3 < (l0.length : Int) := of_decide_eq_true (by first | (with_reducible assumption) | assumption)
                                obtain ⟨ad129, e129, hx129_0⟩ := Kd.at_int HR0.out x39_3 p129 q129
                                obtain rfl : ad128 = ad129 := (by injection e129)
                                replace p129 := eq_true p129
                                replace q129 := eq_true q129
                                go_wp2
                                repeat (go_quiet (fail); try go_wp2)
                                go_ret
                                exact ⟨by first | rfl | (simp; done) | (simp only [← hji16, ← hji19] <;> (first | rfl | simp)) | (simp [*]; done), by repeat (first | exact Drawn0.refl _ | apply Drawn0.step)⟩
                            · rw [if_neg c18] at H
                              exact absurd H (by simp)
                          · rw [if_neg c17] at H
                            exact absurd H (by simp)
                        · rw [if_neg c15] at H
                          exact absurd H (by simp)
                      · rw [if_neg c14] at H
                        have c14b0 : decide (x39_3 < (l0.length : Int)) = false := decide_eq_false c14
                        clear c14
                        have H' := Aside0.mk H
                        clear H
                        go_wp2
                        repeat (go_quiet (fail); try go_wp2)
                        go_roundg k3
                        case measure => have := HK1.out; have := HJ5.out; have := HK3.out; omega
                        case rel => exact ⟨(wrap64 (x10_1 + 1)), (by first | rfl | (simp; done) | (simp [*]; done)), H', ⟨by have := HK1.out; have := HJ5.out; have := HK3.out; omega⟩, by repeat (first | exact Drawn0.refl _ | apply Drawn0.step)⟩
          · rw [if_neg c5] at H
            exact absurd H (by simp)
        · rw [if_neg c4] at H
          exact absurd H (by simp)
      · rw [if_neg c3] at H
        have c3b0 : decide (x10_1 < (l0.length : Int)) = false := decide_eq_false c3
        clear c3
        by_cases c21 : (l0.length : Int) ≥ 1
        · rw [if_pos c21] at H
          have c21b0 : decide (1 ≤ (l0.length : Int)) = true := decide_eq_true c21
          have c21b1 : decide (1 ≤ l0.length) = true := decide_eq_true (by omega)
          clear c21
          obtain rfl := Option.some.inj H
          go_wp2
          repeat (go_quiet (fail); try go_wp2)
          go_ret
          exact ⟨by first | rfl | (simp; done) | (simp [*]; done), by repeat (first | exact Drawn0.refl _ | apply Drawn0.step)⟩
        · rw [if_neg c21] at H
          have c21b0 : decide (1 ≤ (l0.length : Int)) = false := decide_eq_false c21
          have c21b1 : decide (1 ≤ l0.length) = false := decide_eq_false (by omega)
          clear c21
          obtain rfl := Option.some.inj H
          go_wp2
          repeat (go_quiet (fail); try go_wp2)
          go_ret
          exact ⟨by first | rfl | (simp; done) | (simp [*]; done), by repeat (first | exact Drawn0.refl _ | apply Drawn0.step)⟩

end Go.Proofs.YtijfddobandcdaaDoor.X
end
section
-- by ownprint.py (wip/tool), over the kit's print
namespace Go.Proofs.YtijfddobandcdaaDoor.X
open Go.RowKit Go.Proofs.YtijfddobandcdaaDoorW.PrintWords Go.Proofs.YtijfddobandcdaaDoorW.PrintLast Go.Proofs.YtijfddobandcdaaDoorW.PrintMore
attribute [local go_sem] max2_int min2_int max_two min_two max_three min_three max_four min_four
set_option linter.unusedVariables false
set_option linter.unusedSimpArgs false

/-! ### lampblackref03_Valid: function 19 -/
def lampblackref03_Valid.f (k : Nat) (l0 : List Int) : Option (Bool) := (lampblackref01_IsGraph.f k l0 7).bind fun t130 => (some t130)
set_option maxHeartbeats 8000000 in
set_option maxRecDepth 100000 in
theorem lampblackref03_Valid.calls (k : Nat) (A0 : Option Addr) (c0 : Nat) (l0 : List Int) (r : Bool) (w : World) (hr0 : Kd.C (Kd.int .i64) w A0 l0.length l0) (hc0 : l0.length ≤ c0) (h : lampblackref03_Valid.f k l0 = some r) :
    Calls Tryd.prog 19 #[.slice A0 l0.length c0] w fun e w' => e = .returned (.bool r) ∧ Drawn0 w w' := by
  have HR0 := Aside0.mk hr0
  have HC0 := Aside0.mk hc0
  clear hr0 hc0
  have H : ((lampblackref01_IsGraph.f k l0 7).bind fun t130 => (some t130)) = some r := h
  clear h
  replace H := Option.bind_eq_some_iff.mp H
  obtain ⟨t130, A20, H⟩ := H
  replace H : (some t130) = some r := H
  have A2 := Aside0.mk A20
  clear A20
  obtain rfl := Option.some.inj H
  go_enter Tryd.func19, Tryd.ntmps19
  go_wp2_with (first | ((with_reducible refine gate_callee (f := 48) rfl ?_); refine goesL_ (some 4) rfl rfl Tryd.func48 (by kernel_rfl) rfl #[.slice A0 l0.length c0, .int .i64 7] rfl (by (try simp only [List.map_toArray, List.map_cons, List.map_nil]); first | done | rfl | (simp only [List.length_drop, List.length_take]; rfl)) ?_; (with_reducible refine (lampblackref01_IsGraph.calls k _ _ l0 7 t130 _ ?side1 ?side2 A2.out).mono ?_); (case side1 => repeat (first | exact HR0.out | (with_reducible refine Kd.C_alloc ?_ _) | (with_reducible refine Kd.C_drewN ?_ _) | (with_reducible refine Kd.C_drew ?_))); (case side2 => exact HC0.out); rintro e w' ⟨rfl, ⟨nd, rfl⟩⟩; refine ⟨_, rfl, ?_⟩))
  go_ret
  exact ⟨by first | rfl | (simp; done) | (simp [*]; done), by repeat (first | exact Drawn0.refl _ | apply Drawn0.step)⟩

end Go.Proofs.YtijfddobandcdaaDoor.X
end
section
/- lampblackref03.smoky and Play, by hand: a plan played street by street. -/
namespace Go.Proofs.YtijfddobandcdaaDoor.X
open Go.RowKit Go.Proofs.YtijfddobandcdaaDoorW.PrintWords Go.Proofs.YtijfddobandcdaaDoorW.PrintLast Go.Proofs.YtijfddobandcdaaDoorW.PrintMore Go.Proofs.YtijfddobandcdaaDoor.T
attribute [local go_sem] max2_int min2_int max_two min_two max_three min_three max_four min_four
set_option linter.unusedVariables false
set_option linter.unusedSimpArgs false

/-- A bit of a set, in the walk's spellings. -/
theorem bitJ (a y : Nat) (ha : a < 2 ^ 62) (hy : y < 62) : ∃ J : Int, ((a : Int) / 2 ^ min y 64) = J ∧ ((a : Int) / 2 ^ y) = J ∧ shr .i64 (a : Int) (y : Int) = J ∧ (Go.bits .and .i64 J 1 == 1) = a.testBit y ∧ (Go.bits .and .i64 J 1 == 0) = !a.testBit y := by
  have e := s_shr a y hy
  refine ⟨_, rfl, ?_, ?_, ?_, ?_⟩
  · rw [Nat.min_eq_left (by omega)]
  · rw [e, Nat.min_eq_left (by omega)]; simp
  · rw [show ((a : Int) / 2 ^ min y 64) = shr .i64 (a : Int) (y : Int) by rw [e, Nat.min_eq_left (by omega)]; simp, bit_at a y ha hy]
    cases a.testBit y <;> rfl
  · rw [show ((a : Int) / 2 ^ min y 64) = shr .i64 (a : Int) (y : Int) by rw [e, Nat.min_eq_left (by omega)]; simp, bit_at a y ha hy]
    cases a.testBit y <;> rfl

theorem shJ (v : Nat) (hv : v < 62) : ∃ J : Int, (wrap64 (2 ^ v) = J ∧ wrap64 (2 ^ min v 64) = J ∧ shl .i64 1 (v : Int) = J) ∧ J = ((2 ^ v : Nat) : Int) := by
  have e := s_one v hv
  have h : (2 : Nat) ^ v < 2 ^ 62 := Nat.pow_lt_pow_right (by omega) hv
  have h2 : wrap64 (2 ^ v) = ((2 ^ v : Nat) : Int) := by
    rw [show ((2 : Int) ^ v) = ((2 ^ v : Nat) : Int) by simp]
    generalize 2 ^ v = x at *
    exact w64_small _ (by omega) (by omega)
  exact ⟨_, ⟨h2, by rw [Nat.min_eq_left (by omega)]; exact h2, e⟩, rfl⟩
/-- Block g holds the 64 marks. -/
def BRow (W : World) (g : Nat) (C : List Bool) : Prop := W.heap[g]? = some (.cells (C.map Value.bool).toArray 81 (0, 0))
theorem BRow.lt {W : World} {g : Nat} {C : List Bool} (h : BRow W g C) : g < W.heap.size := (Array.getElem?_eq_some_iff.1 h).1
theorem BRow.cell {W : World} {g : Nat} {C : List Bool} (h : BRow W g C) (i : Nat) (hi : i < C.length) : W.cell? ⟨g, i, none⟩ = some (.bool (C.getD i false)) := by
  unfold World.cell?
  rw [show W.heap[(⟨g, i, none⟩ : Addr).block]? = _ from h]
  simp only [Option.isSome_none, Bool.false_eq_true, if_false]
  simp [List.getElem?_eq_getElem hi]
theorem BRow.frozen {W : World} {g : Nat} {C : List Bool} (h : BRow W g C) (i : Nat) : W.frozen? ⟨g, i, none⟩ = false := by
  unfold World.frozen?
  rw [show W.heap[(⟨g, i, none⟩ : Addr).block]? = _ from h]
  simp
theorem BRow.below {W V : World} {g : Nat} {C : List Bool} (h : BRow W g C) (hb : Below W.heap.size W V) : BRow V g C := (hb.block g h.lt).trans h
theorem BRow.other {W : World} {g : Nat} {C : List Bool} (h : BRow W g C) {p : Addr} (hne : g ≠ p.block) (u : Value) : BRow (W.setCell p u) g C := (Below.heap_setCell W p u g hne).trans h
theorem BRow.set {W : World} {g : Nat} {C : List Bool} (h : BRow W g C) (i : Nat) (v : Bool) : BRow (W.setCell ⟨g, i, none⟩ (.bool v)) g (C.set i v) := by
  obtain ⟨hlt, hk⟩ := Array.getElem?_eq_some_iff.1 h
  show (W.heap.modify g _)[g]? = _
  rw [Array.getElem?_eq_getElem (by rw [Array.size_modify]; exact hlt), Array.getElem_modify_self, hk]
  simp [List.map_set]

/-- Smoke comes from x, looking from y on. -/
def smk (G : List Nat) (C : List Bool) (gd x : Nat) : Nat → Nat → Bool
  | 0, _ => false
  | d + 1, y => if (G.getD x 0).testBit y && !C.getD (x * 8 + y) false then !gd.testBit x else smk G C gd x d (y + 1)

set_option maxHeartbeats 4000000 in
theorem smoky_calls (A0 : Option Addr) (c0 : Nat) (G : List Nat) (hG : Gr 7 G) (C : List Bool) (hC : C.length = 64) (b gd x : Nat) (R : Bool) (w : World) (hr0 : Kd.C (Kd.int .i64) w A0 (gi G).length (gi G)) (hb : BRow w b C) (hx : x < G.length) (hgd : gd < 128) (hR : smk G C gd x G.length 0 = R) :
    Calls Tryd.prog 54 #[.slice A0 G.length c0, .pointer (some ⟨b, 0, none⟩), .int .i64 gd, .int .i64 x] w fun e w' => e = .returned (.bool R) ∧ w' = w := by
  have hn := hG.most
  obtain ⟨ad, e0, hgx⟩ := Kd.at_int hr0 (x : Int) (by omega) (by rw [gi_length]; omega)
  subst e0
  rw [rd_gi, Int.toNat_natCast] at hgx
  have hrl := hG.row x
  have h27 : 2 ^ G.length ≤ 2 ^ 7 := Nat.pow_le_pow_right (by omega) hn
  obtain ⟨row, hrow⟩ : ∃ r, G.getD x 0 = r := ⟨_, rfl⟩
  rw [hrow] at hgx hrl
  have hrw : row < 128 := by omega
  have HB := Aside0.mk hb
  have HROW := Aside0.mk hrow
  have HR := Aside0.mk hR
  have HC := Aside0.mk hC
  clear hr0 hb hrow hR hrl h27 hG hC
  go_enter Tryd.func54, Tryd.ntmps54
  go_wp2
  go_loopg [12] G.length (fun kq v12 w' => ∃ y : Nat, v12 = .int .i64 (y : Int) ∧ y + kq = G.length ∧ Aside0 (smk G C gd x kq y = R) ∧ w' = w)
  case atStart => exact ⟨0, rfl, by omega, HR, rfl⟩
  case round =>
    obtain ⟨y, rfl, hy, HS, rfl⟩ := hrel
    clear HR
    by_cases hyn : y < G.length
    · have hi1 : ((y : Int) < (G.length : Int)) = True := eq_true (by omega)
      have hi2 : decide ((y : Int) < (G.length : Int)) = true := decide_eq_true (by omega)
      cases gk with
      | zero => omega
      | succ gk =>
      have hs := HS.out
      simp only [smk, HROW.out] at hs
      clear HS
      obtain ⟨J, hJ1, hJ2, hJ3, hJ4, hJ5⟩ := bitJ row y (by omega) (by omega)
      have HWY := Aside0.mk (wrap_succ y (by omega))
      cases hbt : row.testBit y
      · rw [hbt] at hJ4 hJ5 hs
        have HS := Aside0.mk hs
        clear hs hJ3 hbt
        go_wp2
        go_roundg gk
        case measure => omega
        case rel => exact ⟨y + 1, by go_num, by omega, ⟨by simpa using HS.out⟩, rfl⟩
      · rw [hbt] at hJ4 hJ5 hs
        clear hJ3 hbt
        have hcell := HB.out.cell (x * 8 + y) (by have := HC.out; omega)
        cases hcl : C.getD (x * 8 + y) false
        · rw [hcl] at hcell hs
          obtain ⟨J2, hK1, hK2, hK3, hK4, hK5⟩ := bitJ gd x (by omega) (by omega)
          clear hK3 hcl
          obtain rfl : (!gd.testBit x) = R := by simpa using hs
          clear hs
          cases hbg : gd.testBit x
          all_goals
            rw [hbg] at hK4 hK5
            have HBG := Aside0.mk hbg
            clear hbg
            go_wp2
            go_ret
            exact ⟨by rw [HBG.out]; rfl, rfl⟩
        · rw [hcl] at hcell hs
          have HS := Aside0.mk hs
          clear hs hcl
          go_wp2
          go_roundg gk
          case measure => omega
          case rel => exact ⟨y + 1, by go_num, by omega, ⟨by simpa using HS.out⟩, rfl⟩
    · have hi1 : ((y : Int) < (G.length : Int)) = False := eq_false (by omega)
      have hi2 : decide ((y : Int) < (G.length : Int)) = false := decide_eq_false (by omega)
      obtain rfl : gk = 0 := by omega
      obtain rfl : false = R := HS.out
      go_wp2
      go_ret
      exact ⟨rfl, rfl⟩

theorem b_xor (a b : Nat) (ha : a < 2 ^ 62) (hb : b < 2 ^ 62) : Go.bits .xor .i64 (a : Int) (b : Int) = ((a ^^^ b : Nat) : Int) := by
  have hx : a ^^^ b < 2 ^ 62 := Nat.xor_lt_two_pow ha hb
  show IntKind.i64.wrap ((BitVec.ofInt 64 (a : Int) ^^^ BitVec.ofInt 64 (b : Int)).toNat : Int) = _
  rw [BitVec.toNat_xor, u64_low a ha, u64_low b hb]
  exact i64_small _ (by omega) (by omega)
/-- Where a plan stands: who stands where, how many at most, where somebody stood, whether smoke came back, and which streets are clear. -/
structure PS where
  gd : Nat
  most : Nat
  had : Nat
  bk : Bool
  C : List Bool
/-- Streets with guards at both ends become clear. -/
def row1 (G : List Nat) (gd x : Nat) : Nat → Nat → List Bool → List Bool
  | 0, _, C => C
  | d + 1, y, C => row1 G gd x d (y + 1) (if (G.getD x 0).testBit y && gd.testBit x && gd.testBit y then C.set (x * 8 + y) true else C)
def all1 (G : List Nat) (gd : Nat) : Nat → Nat → List Bool → List Bool
  | 0, _, C => C
  | d + 1, x, C => all1 G gd d (x + 1) (row1 G gd x G.length 0 C)
/-- Smoke comes into a street of x. -/
def row2 (G : List Nat) (gd x : Nat) : Nat → Nat → List Bool × Bool → List Bool × Bool
  | 0, _, C => C
  | d + 1, y, C => row2 G gd x d (y + 1) (if (G.getD x 0).testBit y && C.1.getD (x * 8 + y) false && (smk G C.1 gd x G.length 0 || smk G C.1 gd y G.length 0) then ((C.1.set (x * 8 + y) false).set (y * 8 + x) false, true) else C)
def all2 (G : List Nat) (gd : Nat) : Nat → Nat → List Bool × Bool → List Bool × Bool
  | 0, _, C => C
  | d + 1, x, C => all2 G gd d (x + 1) (row2 G gd x G.length 0 C)
def iter2 (G : List Nat) (gd : Nat) : Nat → List Bool × Bool → List Bool × Bool
  | 0, C => C
  | d + 1, C => iter2 G gd d (all2 G gd G.length 0 C)
def stepP (G : List Nat) (s : PS) (v : Nat) : PS :=
  ⟨s.gd ^^^ 2 ^ v, max s.most (pc (s.gd ^^^ 2 ^ v) 9), s.had ||| (s.gd ^^^ 2 ^ v), (iter2 G (s.gd ^^^ 2 ^ v) 64 (all1 G (s.gd ^^^ 2 ^ v) G.length 0 s.C, s.bk)).2, (iter2 G (s.gd ^^^ 2 ^ v) 64 (all1 G (s.gd ^^^ 2 ^ v) G.length 0 s.C, s.bk)).1⟩
def playTo (G : List Nat) : List S70 → PS → Option PS
  | [], s => some s
  | a :: l, s => if a.f1 < 0 then none else if (G.length : Int) ≤ a.f1 then none else if s.gd.testBit a.f1.toNat == a.f0 then none else playTo G l (stepP G s a.f1.toNat)
/-- All streets of x are clear. -/
def row3 (G : List Nat) (C : List Bool) (x : Nat) : Nat → Nat → Bool
  | 0, _ => true
  | d + 1, y => if (G.getD x 0).testBit y && !C.getD (x * 8 + y) false then false else row3 G C x d (y + 1)
def all3 (G : List Nat) (C : List Bool) : Nat → Nat → Bool
  | 0, _ => true
  | d + 1, x => row3 G C x G.length 0 && all3 G C d (x + 1)
def finP (G : List Nat) : Option PS → Int × Bool × Bool
  | none => (0, false, false)
  | some s => if all3 G s.C G.length 0 then if s.had = 2 ^ G.length - 1 then ((s.most : Int), s.bk, true) else (0, false, false) else (0, false, false)
def p0 : PS := ⟨0, 0, 0, false, List.replicate 64 false⟩
def refPlay (G : List Nat) (l : List S70) : Int × Bool × Bool := if 100 < l.length then (0, false, false) else finP G (playTo G l p0)
def lampblackref03_Play.f (g : List Int) (l : List S70) : Option (Int × Bool × Bool) := if chk 7 g = true then some (refPlay (g.map Int.toNat) l) else none
theorem gi_toNat (G : List Nat) : (gi G).map Int.toNat = G := by
  unfold gi
  rw [List.map_map]
  conv => rhs; rw [← List.map_id G]
  exact List.map_congr_left fun x _ => by simp
theorem size_all' : ∀ x : Fin 128, lampblackref02_Size.f 12 (x.val : Int) = some (pc x.val 9 : Int) := by decide +kernel

theorem size7 (g : Nat) (h : g < 128) : lampblackref02_Size.f 12 (g : Int) = some (pc g 9 : Int) := size_all' ⟨g, h⟩
theorem big7 {x n : Nat} (h : x < 2 ^ n) (hn : 2 ^ n ≤ 128) : x < 2 ^ 62 := Nat.lt_of_lt_of_le h (Nat.le_trans hn (by decide))
theorem row1_len (G : List Nat) (gd x : Nat) : ∀ d y C, (row1 G gd x d y C).length = C.length
  | 0, _, _ => rfl
  | d + 1, y, C => by
    rw [row1, row1_len G gd x d]
    split <;> simp
set_option maxHeartbeats 8000000 in
set_option maxRecDepth 100000 in
theorem lampblackref03_Play.calls (A0 : Option Addr) (c0 : Nat) (l0 : List Int) (A1 : Option Addr) (c1 : Nat) (l1 : List S70) (r1 : Int) (r2 : Bool) (r3 : Bool) (w : World) (hr0 : Kd.C (Kd.int .i64) w A0 l0.length l0) (hc0 : l0.length ≤ c0) (hr1 : Kd.C k70 w A1 l1.length l1) (hc1 : l1.length ≤ c1) (h : lampblackref03_Play.f l0 l1 = some (r1, r2, r3)) :
    Calls Tryd.prog 24 #[.slice A0 l0.length c0, .slice A1 l1.length c1] w fun e w' => e = .returned (.tuple #[.int .i64 r1, .bool r2, .bool r3]) ∧ Below w.heap.size w w' := by
  unfold lampblackref03_Play.f at h
  by_cases hchk : chk 7 l0 = true
  · rw [if_pos hchk] at h
    obtain ⟨G, rfl, hG⟩ := (chk_iff 7 (by omega) _).1 hchk
    rw [gi_toNat] at h
    have hn := hG.most
    have h1 := hG.pos
    rw [gi_length] at hc0
    rw [gi_length]
    have HG := Aside0.mk hG
    have H := Aside0.mk (Option.some.inj h)
    have HR := Aside0.mk hr0
    have HR1 := Aside0.mk hr1
    clear h hchk hr0 hr1 hG
    by_cases hl : l1.length ≤ 100
    · have hl2 : decide ((l1.length : Int) > 100) = false := decide_eq_false (by omega)
      have hl3 : ((l1.length : Int) > 100) = False := eq_false (by omega)
      go_enter Tryd.func24, Tryd.ntmps24
      go_wp2
      obtain ⟨RES, hRES⟩ : ∃ R, playTo G l1 p0 = R := ⟨_, rfl⟩
      have HRES : Aside0 (playTo G (l1.drop 0) p0 = RES) := ⟨hRES⟩
      have HEND : Aside0 (finP G RES = (r1, r2, r3)) := ⟨by
        have := H.out
        unfold refPlay at this
        rwa [if_neg (by omega), hRES] at this⟩
      clear H hRES
      have HN7 : Aside0 (2 ^ G.length ≤ 128) := ⟨Nat.pow_le_pow_right (n := 2) (by omega) hn⟩
      have HW0 : Aside0 (BRow (w.alloc (.cells (List.replicate 64 (Value.bool false)).toArray 81)) w.heap.size (List.replicate 64 false)) := ⟨heap_alloc_new w _⟩
      have HBw : Aside0 (Below w.heap.size w (w.alloc (.cells (List.replicate 64 (Value.bool false)).toArray 81))) := ⟨below_alloc (Below.refl _ _) _⟩
      go_loopg [8, 9, 10, 11, 25] l1.length (fun kq v8 v9 v10 v11 v25 w' => ∃ (i : Nat) (s : PS) (M : Int), v8 = .int .i64 (s.gd : Int) ∧ v9 = .int .i64 M ∧ v10 = .int .i64 (s.had : Int) ∧ v11 = .bool s.bk ∧ v25 = .int .i64 (i : Int) ∧ i + kq = l1.length ∧ Aside0 (M = (s.most : Int)) ∧ Aside0 (playTo G (l1.drop i) s = RES) ∧ Aside0 (s.gd < 2 ^ G.length ∧ s.had < 2 ^ G.length ∧ s.C.length = 64 ∧ BRow w' w.heap.size s.C) ∧ Aside0 (Below w.heap.size w w'))
      case atStart =>
        exact ⟨0, p0, 0, rfl, rfl, rfl, rfl, rfl, by omega, ⟨rfl⟩, HRES, ⟨Nat.two_pow_pos _, Nat.two_pow_pos _, by simp [p0], HW0.out⟩, HBw⟩
      case round =>
        clear HRES HW0 HBw
        obtain ⟨i, s, M, rfl, rfl, rfl, rfl, rfl, hi, HM, HP, HS, HBw⟩ := hrel
        by_cases hil : i < l1.length
        · have hi1 : ((i : Int) < (l1.length : Int)) = True := eq_true (by omega)
          have hi2 : decide ((i : Int) < (l1.length : Int)) = true := decide_eq_true (by omega)
          cases gk with
          | zero => omega
          | succ gi =>
          obtain ⟨ad, e1, hc0, hc1⟩ := at_T70 HR1.out (i : Int) (by omega) (by omega)
          subst e1
          have hp := HP.out
          rw [List.drop_eq_getElem_cons hil] at hp
          have hra : rd_T70 l1 (i : Int) = l1[i] := by unfold rd_T70; rw [Int.toNat_natCast, List.getD_eq_getElem?_getD, List.getElem?_eq_getElem hil]; rfl
          rw [hra, Int.toNat_natCast] at hc0 hc1
          replace hc0 := (HBw.out.cell (World.block_lt_of_cell? w _ hc0)).trans hc0
          replace hc1 := (HBw.out.cell (World.block_lt_of_cell? w _ hc1)).trans hc1
          simp only [playTo] at hp
          generalize l1[i] = a at *
          obtain ⟨pl, nd⟩ := a
          clear HP hra
          dsimp only at hp hc0 hc1
          go_wp2_with (first | ((with_reducible refine gate_dst (N := 13) rfl ?_); refine box_event ?hg (N := 13) ?hd (cs := #[.bool false, .int .i64 0]) (t := 70) ?hr ?_; (case hd => rfl); (case hg => rfl); (case hr => first | (go_simp; done) | (go_simp; rfl)); intro ga hga w7 hbox hb7; have HGA := Aside0.mk (show wr.heap.size ≤ ga by rw [hga]; exact Nat.le_refl _); clear hga; have hz0 : w7.cell? ⟨ga, 0, none⟩ = some (.bool false) := (blk_cell hbox 0).trans rfl; have hz1 : w7.cell? ⟨ga, 1, none⟩ = some (.int .i64 0) := (blk_cell hbox 1).trans rfl; have hf0 := blk_frozen hbox 0; have hf1 := blk_frozen hbox 1; have HBOX := Aside0.mk hbox; have HB7 := Aside0.mk hb7; clear hbox hb7))
          obtain ⟨hgd, hhad, hC64, hrow⟩ := HS.out
          have hbw := HBw.out.size
          have hblt := hrow.lt
          have hc80 : ((w7.setCell ⟨ga, 0, none⟩ (.bool pl)).setCell ⟨ga, 1, none⟩ (.int .i64 nd)).cell? ⟨ga, 0, none⟩ = some (.bool pl) := (blk_cell (blk_set (blk_set HBOX.out 0 (.bool pl)) 1 (.int .i64 nd)) 0).trans rfl
          have hc81 : ((w7.setCell ⟨ga, 0, none⟩ (.bool pl)).setCell ⟨ga, 1, none⟩ (.int .i64 nd)).cell? ⟨ga, 1, none⟩ = some (.int .i64 nd) := (blk_cell (blk_set (blk_set HBOX.out 0 (.bool pl)) 1 (.int .i64 nd)) 1).trans rfl
          have hrow8 : Aside0 (BRow ((w7.setCell ⟨ga, 0, none⟩ (.bool pl)).setCell ⟨ga, 1, none⟩ (.int .i64 nd )) w.heap.size s.C) := ⟨((hrow.below HB7.out).other (by have := HGA.out; simp; omega) _).other (by have := HGA.out; simp; omega) _⟩
          have hB8 : Aside0 (Below w.heap.size w ((w7.setCell ⟨ga, 0, none⟩ (.bool pl)).setCell ⟨ga, 1, none⟩ (.int .i64 nd))) := ⟨below_set (below_set (below_step HBw.out HB7.out) (by have := HGA.out; omega)) (by have := HGA.out; omega)⟩
          generalize (w7.setCell ⟨ga, 0, none⟩ (.bool pl)).setCell ⟨ga, 1, none⟩ (.int .i64 nd) = w8 at *
          clear HBOX HB7 hc0 hc1 hz0 hz1 hf0 hf1 hrow HBw
          by_cases hneg : nd < 0
          · rw [if_pos hneg] at hp
            have hd1 : decide (nd < 0) = true := decide_eq_true hneg
            have HP := Aside0.mk hp
            clear hp
            go_quiet (fail)
            go_wp2
            go_ret3
            have hq := HEND.out
            rw [← HP.out] at hq
            simp only [finP, Prod.mk.injEq] at hq
            obtain ⟨rfl, rfl, rfl⟩ := hq
            exact ⟨rfl, pw_below_drewN hB8.out _⟩
          · rw [if_neg hneg] at hp
            have hd1 : decide (nd < 0) = false := decide_eq_false hneg
            by_cases hge : (G.length : Int) ≤ nd
            · rw [if_pos hge] at hp
              have hd2 : decide (nd ≥ (G.length : Int)) = true := decide_eq_true hge
              have hd3 : decide ((G.length : Int) ≤ nd) = true := decide_eq_true hge
              have HP := Aside0.mk hp
              clear hp
              go_quiet (fail)
              go_wp2
              go_ret3
              have hq := HEND.out
              rw [← HP.out] at hq
              simp only [finP, Prod.mk.injEq] at hq
              obtain ⟨rfl, rfl, rfl⟩ := hq
              exact ⟨rfl, pw_below_drewN hB8.out _⟩
            · rw [if_neg hge] at hp
              have hd2 : decide (nd ≥ (G.length : Int)) = false := decide_eq_false hge
              have hd3 : decide ((G.length : Int) ≤ nd) = false := decide_eq_false hge
              obtain ⟨v, rfl⟩ := Int.eq_ofNat_of_zero_le (show 0 ≤ nd by omega)
              rw [Int.toNat_natCast] at hp
              have hvn : v < G.length := by omega
              have hgd7 : s.gd < 128 := Nat.lt_of_lt_of_le hgd HN7.out
              obtain ⟨J, hJ1, hJ2, hJ3, hJ4, hJ5⟩ := bitJ s.gd v (by omega) (by omega)
              clear hneg hge
              by_cases heq : (s.gd.testBit v == pl) = true
              · rw [if_pos heq] at hp
                have HP := Aside0.mk hp
                clear hp hJ3 hJ5
                generalize s.gd.testBit v = bt at *
                go_quiet (fail)
                go_wp2
                go_ret3
                have hq := HEND.out
                rw [← HP.out] at hq
                simp only [finP, Prod.mk.injEq] at hq
                obtain ⟨rfl, rfl, rfl⟩ := hq
                exact ⟨rfl, pw_below_drewN hB8.out _⟩
              · rw [if_neg heq] at hp
                have HP := Aside0.mk hp
                clear hp hJ3 hJ5
                generalize s.gd.testBit v = bt at *
                replace heq : (bt == pl) = false := by simpa using heq
                obtain ⟨J3, ⟨hS1, hS2, hS3⟩, hS4⟩ := shJ v (by omega)
                have hpv : 2 ^ v < 2 ^ G.length := Nat.pow_lt_pow_right (by omega) hvn
                have hg2 : s.gd ^^^ 2 ^ v < 2 ^ G.length := Nat.xor_lt_two_pow hgd hpv
                have hxo := b_xor s.gd (2 ^ v) (big7 hgd HN7.out) (big7 hpv HN7.out)
                rw [← hS4] at hxo
                obtain ⟨g2, hg2e⟩ : ∃ g2, s.gd ^^^ 2 ^ v = g2 := ⟨_, rfl⟩
                rw [hg2e] at hxo hg2
                have hor := b_or s.had g2 (big7 hhad HN7.out) (big7 hg2 HN7.out)
                obtain ⟨h2, hh2e⟩ : ∃ h2, s.had ||| g2 = h2 := ⟨_, rfl⟩
                rw [hh2e] at hor
                have HH2 : Aside0 (h2 < 2 ^ G.length) := ⟨by rw [← hh2e]; exact Nat.or_lt_two_pow hhad hg2⟩
                have hg27 : g2 < 128 := Nat.lt_of_lt_of_le hg2 HN7.out
                have HSZ := Aside0.mk (size7 g2 hg27)
                have HG2 := Aside0.mk hg2e
                have HH2E := Aside0.mk hh2e
                have HG2L := Aside0.mk hg2
                have HEQ := Aside0.mk heq
                clear hg2e hh2e hS3 hS4 hpv hg2 hhad hgd
                obtain ⟨pq, hpq⟩ : ∃ pq, pc g2 9 = pq := ⟨_, rfl⟩
                have HPQ := Aside0.mk hpq
                rw [hpq] at HSZ
                obtain ⟨M2, hmx⟩ : ∃ M2 : Int, (if M < (pq : Int) then (pq : Int) else M) = M2 := ⟨_, rfl⟩
                have HMX := Aside0.mk hmx
                clear hpq
                go_quiet (fail)
                go_wp2_with (go_at_call 53; refine (lampblackref02_Size.calls 12 _ _ _ HSZ.out).mono ?_; rintro e w' ⟨rfl, m, rfl⟩)
                have hrow9 : Aside0 (BRow (w8.drewN (nq + m)) w.heap.size s.C) := ⟨hrow8.out⟩
                have hB9 : Aside0 (Below w.heap.size w (w8.drewN (nq + m))) := ⟨pw_below_drewN hB8.out _⟩
                generalize w8.drewN (nq + m) = w9 at *
                clear hrow8 hB8 hc80 hc81
                obtain ⟨C1, hC1⟩ : ∃ C1, all1 G g2 G.length 0 s.C = C1 := ⟨_, rfl⟩
                have HC1 := Aside0.mk hC1
                have HC64 := Aside0.mk hC64
                clear hC1 hC64
                go_loopg [64] G.length (fun kq v64 w' => ∃ (x : Nat) (C : List Bool), v64 = .int .i64 (x : Int) ∧ x + kq = G.length ∧ Aside0 (all1 G g2 kq x C = C1 ∧ C.length = 64 ∧ BRow w' w.heap.size C) ∧ Aside0 (Below w.heap.size w w'))
                case atStart => exact ⟨0, s.C, rfl, by omega, ⟨HC1.out, HC64.out, hrow9.out⟩, hB9⟩
                case round =>
                  clear hrow9 hB9
                  obtain ⟨x, C, rfl, hx, HX, HBx⟩ := hrel
                  by_cases hxn : x < G.length
                  · have hj1 : ((x : Int) < (G.length : Int)) = True := eq_true (by omega)
                    have hj2 : decide ((x : Int) < (G.length : Int)) = true := decide_eq_true (by omega)
                    cases gk with
                    | zero => omega
                    | succ gx =>
                    have hx1 := HX.out.1
                    simp only [all1] at hx1
                    obtain ⟨C2, hC2⟩ : ∃ C2, row1 G g2 x G.length 0 C = C2 := ⟨_, rfl⟩
                    have HX1 : Aside0 (all1 G g2 gx (x + 1) C2 = C1) := ⟨by rw [← hC2]; exact hx1⟩
                    have HC2 := Aside0.mk hC2
                    clear hC2 hx1
                    go_wp2
                    go_loopg [69] G.length (fun kq v69 w' => ∃ (y : Nat) (Cy : List Bool), v69 = .int .i64 (y : Int) ∧ y + kq = G.length ∧ Aside0 (row1 G g2 x kq y Cy = C2 ∧ Cy.length = 64 ∧ BRow w' w.heap.size Cy) ∧ Aside0 (Below w.heap.size w w'))
                    case atStart => exact ⟨0, C, rfl, by omega, ⟨HC2.out, HX.out.2.1, HX.out.2.2⟩, HBx⟩
                    case round =>
                      clear HC2 HX HBx
                      obtain ⟨y, Cy, rfl, hy, HY, HBy⟩ := hrel
                      by_cases hyn : y < G.length
                      · have hk1 : ((y : Int) < (G.length : Int)) = True := eq_true (by omega)
                        have hk2 : decide ((y : Int) < (G.length : Int)) = true := decide_eq_true (by omega)
                        cases gk with
                        | zero => omega
                        | succ gy =>
                        obtain ⟨hy1, hy2, hy3⟩ := HY.out
                        simp only [row1] at hy1
                        obtain ⟨adg, e0, hgx⟩ := Kd.at_int (Kd.C_below HR.out HBy.out) (x : Int) (by omega) (by rw [gi_length]; omega)
                        subst e0
                        rw [rd_gi, Int.toNat_natCast] at hgx
                        obtain ⟨row, hrow⟩ : ∃ r, G.getD x 0 = r := ⟨_, rfl⟩
                        have hrl := HG.out.row x
                        rw [hrow] at hgx hrl hy1
                        have hrw : row < 128 := Nat.lt_of_lt_of_le hrl HN7.out
                        clear hrow hrl
                        obtain ⟨J1, hA1, hA2, hA3, hA4, hA5⟩ := bitJ row y (by omega) (by omega)
                        clear hA3 hA5
                        have hcell := hy3.cell (x * 8 + y) (by omega)
                        have hfr := hy3.frozen (x * 8 + y)
                        have HY3 := Aside0.mk hy3
                        clear hy3 HY
                        obtain ⟨J2, hB1, hB2, hB3, hB4, hB5⟩ := bitJ g2 x (by omega) (by omega)
                        obtain ⟨J4, hD1, hD2, hD3, hD4, hD5⟩ := bitJ g2 y (by omega) (by omega)
                        clear hB3 hB5 hD3 hD5
                        generalize row.testBit y = q1 at *
                        generalize g2.testBit x = q2 at *
                        generalize g2.testBit y = q3 at *
                        cases q1
                        · have HY1 := Aside0.mk hy1
                          clear hy1
                          go_wp2
                          go_roundg gy
                          case measure => omega
                          case rel => exact ⟨y + 1, Cy, by go_num, by omega, ⟨by simpa using HY1.out, hy2, HY3.out⟩, HBy⟩
                        · cases q2
                          · have HY1 := Aside0.mk hy1
                            clear hy1
                            go_wp2
                            go_roundg gy
                            case measure => omega
                            case rel => exact ⟨y + 1, Cy, by go_num, by omega, ⟨by simpa using HY1.out, hy2, HY3.out⟩, HBy⟩
                          · cases q3
                            · have HY1 := Aside0.mk hy1
                              clear hy1
                              go_wp2
                              go_roundg gy
                              case measure => omega
                              case rel => exact ⟨y + 1, Cy, by go_num, by omega, ⟨by simpa using HY1.out, hy2, HY3.out⟩, HBy⟩
                            · have HY1 := Aside0.mk hy1
                              clear hy1
                              go_wp2
                              go_roundg gy
                              case measure => omega
                              case rel => exact ⟨y + 1, Cy.set (x * 8 + y) true, by go_num, by omega, ⟨by simpa using HY1.out, by simpa using hy2, HY3.out.set _ _⟩, ⟨below_set HBy.out (Nat.le_refl _)⟩⟩
                      · have hk1 : ((y : Int) < (G.length : Int)) = False := eq_false (by omega)
                        have hk2 : decide ((y : Int) < (G.length : Int)) = false := decide_eq_false (by omega)
                        obtain rfl : gk = 0 := by omega
                        obtain ⟨hy1, hy2, hy3⟩ := HY.out
                        simp only [row1] at hy1
                        subst hy1
                        have HY3 := Aside0.mk hy3
                        clear HY hy3
                        go_wp2
                        go_roundg gx
                        case measure => omega
                        case rel => exact ⟨x + 1, Cy, by go_num, by omega, ⟨HX1.out, hy2, HY3.out⟩, HBy⟩
                  · have hj1 : ((x : Int) < (G.length : Int)) = False := eq_false (by omega)
                    have hj2 : decide ((x : Int) < (G.length : Int)) = false := decide_eq_false (by omega)
                    obtain rfl : gk = 0 := by omega
                    obtain ⟨hx1, hx2, hx3⟩ := HX.out
                    simp only [all1] at hx1
                    subst hx1
                    have HX3 := Aside0.mk hx3
                    have HX2 := Aside0.mk hx2
                    clear HX hx2 hx3
                    go_wp2
                    clear hj1 hj2 hxn
                    obtain ⟨T2, hT2⟩ : ∃ T, iter2 G g2 64 (C, s.bk) = T := ⟨_, rfl⟩
                    have HT2 := Aside0.mk hT2
                    clear hT2
                    go_loopg [11, 101] 64 (fun kq v11 v101 w' => ∃ (j : Nat) (Cj : List Bool) (bj : Bool), v11 = .bool bj ∧ v101 = .int .i64 (j : Int) ∧ j + kq = 64 ∧ Aside0 (iter2 G g2 kq (Cj, bj) = T2 ∧ Cj.length = 64 ∧ BRow w' w.heap.size Cj) ∧ Aside0 (Below w.heap.size w w'))
                    case atStart => exact ⟨0, C, s.bk, rfl, rfl, by omega, ⟨HT2.out, HX2.out, HX3.out⟩, HBx⟩
                    case round =>
                      clear HX3 HBx
                      obtain ⟨j, Cj, bj, rfl, rfl, hj, HJ, HBj⟩ := hrel
                      by_cases hjn : j < 64
                      · have hj1 : ((j : Int) < 64) = True := eq_true (by omega)
                        have hj2 : decide ((j : Int) < 64) = true := decide_eq_true (by omega)
                        cases gk with
                        | zero => omega
                        | succ gj =>
                        have hj3 := HJ.out.1
                        simp only [iter2] at hj3
                        obtain ⟨TJ, hTJ⟩ : ∃ T, all2 G g2 G.length 0 (Cj, bj) = T := ⟨_, rfl⟩
                        have HJ1 : Aside0 (iter2 G g2 gj TJ = T2) := ⟨by rw [← hTJ]; exact hj3⟩
                        have HTJ := Aside0.mk hTJ
                        clear hTJ hj3
                        go_wp2
                        go_loopg [11, 105] G.length (fun kq v11 v105 w' => ∃ (x : Nat) (Cx : List Bool) (bx : Bool), v11 = .bool bx ∧ v105 = .int .i64 (x : Int) ∧ x + kq = G.length ∧ Aside0 (all2 G g2 kq x (Cx, bx) = TJ ∧ Cx.length = 64 ∧ BRow w' w.heap.size Cx) ∧ Aside0 (Below w.heap.size w w'))
                        case atStart => exact ⟨0, Cj, bj, rfl, rfl, by omega, ⟨HTJ.out, HJ.out.2.1, HJ.out.2.2⟩, HBj⟩
                        case round =>
                          clear HTJ HJ HBj
                          obtain ⟨x, Cx, bx, rfl, rfl, hx, HX, HBx⟩ := hrel
                          by_cases hxn : x < G.length
                          · have hl1 : ((x : Int) < (G.length : Int)) = True := eq_true (by omega)
                            have hl2 : decide ((x : Int) < (G.length : Int)) = true := decide_eq_true (by omega)
                            cases gk with
                            | zero => omega
                            | succ gx =>
                            have hx1 := HX.out.1
                            simp only [all2] at hx1
                            obtain ⟨TX, hTX⟩ : ∃ T, row2 G g2 x G.length 0 (Cx, bx) = T := ⟨_, rfl⟩
                            have HX1 : Aside0 (all2 G g2 gx (x + 1) TX = TJ) := ⟨by rw [← hTX]; exact hx1⟩
                            have HTX := Aside0.mk hTX
                            clear hTX hx1
                            go_wp2
                            go_loopg [11, 110] G.length (fun kq v11 v110 w' => ∃ (y : Nat) (Cy : List Bool) (by' : Bool), v11 = .bool by' ∧ v110 = .int .i64 (y : Int) ∧ y + kq = G.length ∧ Aside0 (row2 G g2 x kq y (Cy, by') = TX ∧ Cy.length = 64 ∧ BRow w' w.heap.size Cy) ∧ Aside0 (Below w.heap.size w w'))
                            case atStart => exact ⟨0, Cx, bx, rfl, rfl, by omega, ⟨HTX.out, HX.out.2.1, HX.out.2.2⟩, HBx⟩
                            case round =>
                              clear HTX HX HBx
                              obtain ⟨y, Cy, by', rfl, rfl, hy, HY, HBy⟩ := hrel
                              by_cases hyn : y < G.length
                              · have hk1 : ((y : Int) < (G.length : Int)) = True := eq_true (by omega)
                                have hk2 : decide ((y : Int) < (G.length : Int)) = true := decide_eq_true (by omega)
                                cases gk with
                                | zero => omega
                                | succ gy =>
                                obtain ⟨hy1, hy2, hy3⟩ := HY.out
                                simp only [row2] at hy1
                                have hsec : (wr.setCell ⟨w.heap.size, x * 8 + y, none⟩ (.bool false)).cell? ⟨w.heap.size, y * 8 + x, none⟩ = some (.bool ((Cy.set (x * 8 + y) false).getD (y * 8 + x) false)) := (hy3.set (x * 8 + y) false).cell (y * 8 + x) (by simp; omega)
                                have hsef : (wr.setCell ⟨w.heap.size, x * 8 + y, none⟩ (.bool false)).frozen? ⟨w.heap.size, y * 8 + x, none⟩ = false := (hy3.set (x * 8 + y) false).frozen (y * 8 + x)
                                have HRy := Aside0.mk (Kd.C_below HR.out HBy.out)
                                obtain ⟨adg, e0, hgx⟩ := Kd.at_int (Kd.C_below HR.out HBy.out) (x : Int) (by omega) (by rw [gi_length]; omega)
                                subst e0
                                rw [rd_gi, Int.toNat_natCast] at hgx
                                obtain ⟨row, hrow⟩ : ∃ r, G.getD x 0 = r := ⟨_, rfl⟩
                                have hrl := HG.out.row x
                                rw [hrow] at hgx hrl hy1
                                have hrw : row < 128 := Nat.lt_of_lt_of_le hrl HN7.out
                                clear hrow hrl
                                obtain ⟨J1, hA1, hA2, hA3, hA4, hA5⟩ := bitJ row y (by omega) (by omega)
                                clear hA3 hA5
                                have hcell := hy3.cell (x * 8 + y) (by omega)
                                have hfr := hy3.frozen (x * 8 + y)
                                have HY3 := Aside0.mk hy3
                                clear hy3 HY
                                generalize row.testBit y = q1 at *
                                cases q1
                                · clear hsec hsef
                                  have HY1 := Aside0.mk hy1
                                  clear hy1
                                  go_wp2
                                  go_roundg gy
                                  case measure => omega
                                  case rel => exact ⟨y + 1, Cy, by', rfl, by go_num, by omega, ⟨by simpa using HY1.out, hy2, HY3.out⟩, HBy⟩
                                · cases hcl : Cy.getD (x * 8 + y) false
                                  · rw [hcl] at hy1 hcell
                                    clear hsec hsef
                                    have HY1 := Aside0.mk hy1
                                    clear hy1
                                    go_wp2
                                    go_roundg gy
                                    case measure => omega
                                    case rel => exact ⟨y + 1, Cy, by', rfl, by go_num, by omega, ⟨by simpa using HY1.out, hy2, HY3.out⟩, HBy⟩
                                  · rw [hcl] at hy1 hcell
                                    clear hcl
                                    obtain ⟨s1, hs1⟩ : ∃ r, smk G Cy g2 x G.length 0 = r := ⟨_, rfl⟩
                                    obtain ⟨s2, hs2⟩ : ∃ r, smk G Cy g2 y G.length 0 = r := ⟨_, rfl⟩
                                    rw [hs1, hs2] at hy1
                                    have HS1 := Aside0.mk hs1
                                    have HS2 := Aside0.mk hs2
                                    have HY1 := Aside0.mk hy1
                                    clear hs1 hs2 hy1
                                    cases s1
                                    · cases s2
                                      · go_wp2_with (go_at_call 54; (first | (with_reducible refine (smoky_calls _ _ G HG.out Cy hy2 _ _ x _ _ HRy.out HY3.out hxn hg27 HS1.out).mono ?_) | (with_reducible refine (smoky_calls _ _ G HG.out Cy hy2 _ _ y _ _ HRy.out HY3.out hyn hg27 HS2.out).mono ?_)); rintro e w' ⟨rfl, rfl⟩)
                                        go_roundg gy
                                        case measure => omega
                                        case rel => exact ⟨y + 1, Cy, by', rfl, by go_num, by omega, ⟨by simpa using HY1.out, hy2, HY3.out⟩, HBy⟩
                                      · go_wp2_with (go_at_call 54; (first | (with_reducible refine (smoky_calls _ _ G HG.out Cy hy2 _ _ x _ _ HRy.out HY3.out hxn hg27 HS1.out).mono ?_) | (with_reducible refine (smoky_calls _ _ G HG.out Cy hy2 _ _ y _ _ HRy.out HY3.out hyn hg27 HS2.out).mono ?_)); rintro e w' ⟨rfl, rfl⟩)
                                        go_roundg gy
                                        case measure => omega
                                        case rel => exact ⟨y + 1, (Cy.set (x * 8 + y) false).set (y * 8 + x) false, true, rfl, by go_num, by omega, ⟨by simpa using HY1.out, by simpa using hy2, (HY3.out.set _ _).set _ _⟩, ⟨below_set (below_set HBy.out (Nat.le_refl _)) (Nat.le_refl _)⟩⟩
                                    · go_wp2_with (go_at_call 54; (first | (with_reducible refine (smoky_calls _ _ G HG.out Cy hy2 _ _ x _ _ HRy.out HY3.out hxn hg27 HS1.out).mono ?_) | (with_reducible refine (smoky_calls _ _ G HG.out Cy hy2 _ _ y _ _ HRy.out HY3.out hyn hg27 HS2.out).mono ?_)); rintro e w' ⟨rfl, rfl⟩)
                                      go_roundg gy
                                      case measure => omega
                                      case rel => exact ⟨y + 1, (Cy.set (x * 8 + y) false).set (y * 8 + x) false, true, rfl, by go_num, by omega, ⟨by simpa using HY1.out, by simpa using hy2, (HY3.out.set _ _).set _ _⟩, ⟨below_set (below_set HBy.out (Nat.le_refl _)) (Nat.le_refl _)⟩⟩
                              · have hk1 : ((y : Int) < (G.length : Int)) = False := eq_false (by omega)
                                have hk2 : decide ((y : Int) < (G.length : Int)) = false := decide_eq_false (by omega)
                                obtain rfl : gk = 0 := by omega
                                obtain ⟨hy1, hy2, hy3⟩ := HY.out
                                simp only [row2] at hy1
                                subst hy1
                                have HY3 := Aside0.mk hy3
                                clear HY hy3
                                go_wp2
                                go_roundg gx
                                case measure => omega
                                case rel => exact ⟨x + 1, Cy, by', rfl, by go_num, by omega, ⟨HX1.out, hy2, HY3.out⟩, HBy⟩
                          · have hl1 : ((x : Int) < (G.length : Int)) = False := eq_false (by omega)
                            have hl2 : decide ((x : Int) < (G.length : Int)) = false := decide_eq_false (by omega)
                            obtain rfl : gk = 0 := by omega
                            obtain ⟨hx1, hx2, hx3⟩ := HX.out
                            simp only [all2] at hx1
                            subst hx1
                            have HX3 := Aside0.mk hx3
                            clear HX hx3
                            go_wp2
                            go_roundg gj
                            case measure => omega
                            case rel => exact ⟨j + 1, Cx, bx, rfl, by go_num, by omega, ⟨HJ1.out, hx2, HX3.out⟩, HBx⟩
                      · have hj1 : ((j : Int) < 64) = False := eq_false (by omega)
                        have hj2 : decide ((j : Int) < 64) = false := decide_eq_false (by omega)
                        obtain rfl : gk = 0 := by omega
                        obtain ⟨hj3, hj4, hj5⟩ := HJ.out
                        simp only [iter2] at hj3
                        have HJ5 := Aside0.mk hj5
                        have HJ3 := Aside0.mk hj3
                        clear HJ hj5 hj3
                        go_wp2
                        go_roundg gi
                        case measure => omega
                        case rel =>
                          refine ⟨i + 1, ⟨g2, max s.most pq, h2, bj, Cj⟩, M2, rfl, rfl, rfl, rfl, by go_num, by omega, ⟨?_⟩, ⟨?_⟩, ⟨HG2L.out, HH2.out, hj4, HJ5.out⟩, HBj⟩
                          · show M2 = ((max s.most pq : Nat) : Int)
                            have hM := HM.out
                            rw [← HMX.out, hM]
                            split <;> omega
                          · have := HP.out
                            rw [show stepP G s v = ⟨g2, max s.most pq, h2, bj, Cj⟩ by
                              unfold stepP
                              rw [HG2.out, HPQ.out, HH2E.out, HC1.out, HT2.out, ← HJ3.out]] at this
                            exact this
        · have hi1 : ((i : Int) < (l1.length : Int)) = False := eq_false (by omega)
          have hi2 : decide ((i : Int) < (l1.length : Int)) = false := decide_eq_false (by omega)
          have hp := HP.out
          rw [List.drop_eq_nil_of_le (by omega)] at hp
          simp only [playTo] at hp
          subst hp
          obtain ⟨hgd, hhad, hC64, hrow⟩ := HS.out
          have HROW := Aside0.mk hrow
          have HHAD := Aside0.mk hhad
          clear hrow hgd hhad
          go_wp2
          obtain ⟨Rb, hRb⟩ : ∃ r, all3 G s.C G.length 0 = r := ⟨_, rfl⟩
          have HRb := Aside0.mk hRb
          have HALLR := Aside0.mk hRb
          have HN0 : Aside0 (Rb = false → r1 = 0 ∧ r2 = false ∧ r3 = false) := ⟨fun e => by
            have := HEND.out
            simp only [finP, hRb, e, Bool.false_eq_true, if_false, Prod.mk.injEq] at this
            exact ⟨this.1.symm, this.2.1.symm, this.2.2.symm⟩⟩
          clear hRb
          go_loopg [157] G.length (fun kq v157 w' => ∃ (x : Nat), v157 = .int .i64 (x : Int) ∧ x + kq = G.length ∧ Aside0 (all3 G s.C kq x = Rb) ∧ w' = wr)
          case atStart => exact ⟨0, rfl, by omega, HRb, rfl⟩
          case round =>
            clear HRb
            obtain ⟨x, rfl, hx, HX, rfl⟩ := hrel
            by_cases hxn : x < G.length
            · have hj1 : ((x : Int) < (G.length : Int)) = True := eq_true (by omega)
              have hj2 : decide ((x : Int) < (G.length : Int)) = true := decide_eq_true (by omega)
              cases gk with
              | zero => omega
              | succ gx =>
              have hx1 := HX.out
              simp only [all3] at hx1
              have HX1 := Aside0.mk hx1
              clear hx1 HX
              go_wp2
              go_loopg [162] G.length (fun kq v162 w' => ∃ (y : Nat), v162 = .int .i64 (y : Int) ∧ y + kq = G.length ∧ Aside0 ((row3 G s.C x kq y && all3 G s.C gx (x + 1)) = Rb) ∧ w' = wr)
              case atStart => exact ⟨0, rfl, by omega, HX1, rfl⟩
              case round =>
                clear HX1
                obtain ⟨y, rfl, hy, HY, rfl⟩ := hrel
                by_cases hyn : y < G.length
                · have hk1 : ((y : Int) < (G.length : Int)) = True := eq_true (by omega)
                  have hk2 : decide ((y : Int) < (G.length : Int)) = true := decide_eq_true (by omega)
                  cases gk with
                  | zero => omega
                  | succ gy =>
                  have hy1 := HY.out
                  simp only [row3] at hy1
                  obtain ⟨adg, e0, hgx⟩ := Kd.at_int (Kd.C_below HR.out HBw.out) (x : Int) (by omega) (by rw [gi_length]; omega)
                  subst e0
                  rw [rd_gi, Int.toNat_natCast] at hgx
                  obtain ⟨row, hrow2⟩ : ∃ r, G.getD x 0 = r := ⟨_, rfl⟩
                  have hrl := HG.out.row x
                  rw [hrow2] at hgx hrl hy1
                  have hrw : row < 128 := Nat.lt_of_lt_of_le hrl HN7.out
                  clear hrow2 hrl
                  obtain ⟨J1, hA1, hA2, hA3, hA4, hA5⟩ := bitJ row y (by omega) (by omega)
                  clear hA3 hA5
                  have hcell := HROW.out.cell (x * 8 + y) (by omega)
                  generalize row.testBit y = q1 at *
                  cases q1
                  · have HY1 := Aside0.mk hy1
                    clear hy1
                    go_wp2
                    go_roundg gy
                    case measure => omega
                    case rel => exact ⟨y + 1, by go_num, by omega, ⟨by simpa using HY1.out⟩, rfl⟩
                  · cases hcl : s.C.getD (x * 8 + y) false
                    · rw [hcl] at hy1 hcell
                      obtain rfl : false = Rb := by simpa using hy1
                      clear hy1 hcl
                      go_wp2
                      go_ret3
                      obtain ⟨rfl, rfl, rfl⟩ := HN0.out trivial
                      exact ⟨rfl, HBw.out⟩
                    · rw [hcl] at hy1 hcell
                      have HY1 := Aside0.mk hy1
                      clear hy1 hcl
                      go_wp2
                      go_roundg gy
                      case measure => omega
                      case rel => exact ⟨y + 1, by go_num, by omega, ⟨by simpa using HY1.out⟩, rfl⟩
                · have hk1 : ((y : Int) < (G.length : Int)) = False := eq_false (by omega)
                  have hk2 : decide ((y : Int) < (G.length : Int)) = false := decide_eq_false (by omega)
                  obtain rfl : gk = 0 := by omega
                  have hy1 := HY.out
                  simp only [row3, Bool.true_and] at hy1
                  have HY1 := Aside0.mk hy1
                  clear hy1 HY
                  go_wp2
                  go_roundg gx
                  case measure => omega
                  case rel => exact ⟨x + 1, by go_num, by omega, HY1, rfl⟩
            · have hj1 : ((x : Int) < (G.length : Int)) = False := eq_false (by omega)
              have hj2 : decide ((x : Int) < (G.length : Int)) = false := decide_eq_false (by omega)
              obtain rfl : gk = 0 := by omega
              have hx1 := HX.out
              simp only [all3] at hx1
              subst hx1
              have HALL : Aside0 (all3 G s.C G.length 0 = true) := HALLR
              obtain ⟨P, hP⟩ : ∃ P, 2 ^ G.length = P := ⟨_, rfl⟩
              have hP1 : 1 ≤ P := by rw [← hP]; exact Nat.two_pow_pos _
              have hP2 : P ≤ 128 := by rw [← hP]; exact HN7.out
              have hh2 : s.had < P := by rw [← hP]; exact HHAD.out
              have HPE := Aside0.mk hP
              clear hP hj1 hxn
              obtain ⟨J3, ⟨hS1, hS2, hS3⟩, hS4⟩ := shJ G.length (by omega)
              rw [HPE.out] at hS4
              have HS1 := Aside0.mk hS1
              have HS2 := Aside0.mk hS2
              clear hS1 hS2 hS3
              have hK : wrap64 (J3 - 1) = (P : Int) - 1 := by rw [w64_small _ (by omega) (by omega)]; omega
              obtain ⟨K, hKK⟩ : ∃ K : Int, (P : Int) - 1 = K := ⟨_, rfl⟩
              rw [hKK] at hK
              by_cases hful : s.had = P - 1
              · have hq0 : (s.had : Int) = K := by omega
                have hq1 : ((s.had : Int) == K) = true := beq_iff_eq.mpr hq0
                have hq2 : ((s.had : Int) != K) = false := bne_eq_false_iff_eq.mpr hq0
                clear hq0
                have HF := Aside0.mk hful
                clear hful hh2 hP1 hP2 hS4 hKK
                have hS1 := HS1.out
                have hS2 := HS2.out
                go_wp2
                go_ret3
                have hfin := HEND.out
                simp only [finP, HALL.out, HF.out, HPE.out, if_true, Prod.mk.injEq] at hfin
                obtain ⟨rfl, rfl, rfl⟩ := hfin
                exact ⟨by rw [HM.out]; rfl, HBw.out⟩
              · have hq0 : ¬ (s.had : Int) = K := by omega
                have hq1 : ((s.had : Int) == K) = false := beq_eq_false_iff_ne.mpr hq0
                have hq2 : ((s.had : Int) != K) = true := bne_iff_ne.mpr hq0
                clear hq0
                have HF := Aside0.mk hful
                clear hful hh2 hP1 hP2 hS4 hKK
                have hS1 := HS1.out
                have hS2 := HS2.out
                go_wp2
                go_ret3
                have hfin := HEND.out
                have hne : ¬ s.had = 2 ^ G.length - 1 := by rw [HPE.out]; exact HF.out
                simp only [finP, HALL.out, if_true] at hfin
                rw [if_neg hne] at hfin
                simp only [Prod.mk.injEq] at hfin
                obtain ⟨rfl, rfl, rfl⟩ := hfin
                exact ⟨rfl, HBw.out⟩
    · have hl2 : decide ((l1.length : Int) > 100) = true := decide_eq_true (by omega)
      have hl3 : ((l1.length : Int) > 100) = True := eq_true (by omega)
      have hq := H.out
      unfold refPlay at hq
      rw [if_pos (by omega)] at hq
      simp only [Prod.mk.injEq] at hq
      obtain ⟨rfl, rfl, rfl⟩ := hq
      go_enter Tryd.func24, Tryd.ntmps24
      go_wp2
      go_ret3
      exact ⟨rfl, below_alloc (Below.refl _ _) _⟩
  · rw [if_neg hchk] at h
    cases h
end Go.Proofs.YtijfddobandcdaaDoor.X
end
section
-- by ownprint.py (wip/tool), over the kit's print
namespace Go.Proofs.YtijfddobandcdaaDoor.X
open Go.RowKit Go.Proofs.YtijfddobandcdaaDoorW.PrintWords Go.Proofs.YtijfddobandcdaaDoorW.PrintLast Go.Proofs.YtijfddobandcdaaDoorW.PrintMore
attribute [local go_sem] max2_int min2_int max_two min_two max_three min_three max_four min_four
set_option linter.unusedVariables false
set_option linter.unusedSimpArgs false

/-! ### slices_Clone_int_int: function 57 -/
def slices_Clone_int_int.f (l0 : List Int) : Option (List Int) := (some (([] : List Int) : List Int)).bind fun y187 => (if y187.length + l0.length < 17592186044416 then (some (y187 ++ l0)) else (none))
set_option maxHeartbeats 8000000 in
set_option maxRecDepth 100000 in
theorem slices_Clone_int_int.calls_some (a0 : Addr) (c0 : Nat) (l0 : List Int) (r : List Int) (w : World) (hr0 : Kd.C (Kd.int .i64) w (some a0) l0.length l0) (hc0 : l0.length ≤ c0) (h : slices_Clone_int_int.f l0 = some r) :
    Calls Tryd.prog 57 #[.slice (some a0) l0.length c0] w fun e w' => ∃ v0_ : Value, e = .returned (v0_) ∧ Kd.R (Kd.int .i64) 3 w' w.heap.size (fun _ => True) v0_ r ∧ Below w.heap.size w w' := by
  have HR0 := Aside0.mk hr0
  have HC0 := Aside0.mk hc0
  clear hr0 hc0
  have HB := Aside0.mk (Below.refl w.heap.size w)
  have H : ((some (([] : List Int) : List Int)).bind fun y187 => (if y187.length + l0.length < 17592186044416 then (some (y187 ++ l0)) else (none))) = some r := h
  clear h
  obtain ⟨y187, hy187⟩ : ∃ y_ : List Int, y_ = (([] : List Int)) := ⟨_, rfl⟩
  replace H : (if y187.length + l0.length < 17592186044416 then (some (y187 ++ l0)) else (none)) = some r := by first | (rw [hy187]; with_reducible exact H) | (have H2_ := (Option.bind_some _ _).symm.trans H; rw [hy187]; with_reducible exact H2_) | (have H2_ := (Option.bind_some _ _).symm.trans H; with_reducible exact H2_) | with_reducible exact H | (rw [hy187]; exact H) | exact H
  have Ny187 := Aside0.mk hy187
  clear hy187
  by_cases c2 : y187.length + l0.length < 17592186044416
  · rw [if_pos c2] at H
    have LMc2 := Aside0.mk c2
    clear c2
    obtain ⟨y190, hy190⟩ : ∃ y_ : List Int, y_ = (y187 ++ l0) := ⟨_, rfl⟩
    replace H : (some y190) = some r := by first | (rw [hy190]; with_reducible exact H) | (have H2_ := (Option.bind_some _ _).symm.trans H; rw [hy190]; with_reducible exact H2_) | (have H2_ := (Option.bind_some _ _).symm.trans H; with_reducible exact H2_) | with_reducible exact H | (rw [hy190]; exact H) | exact H
    have Ny190 := Aside0.mk hy190
    clear hy190
    obtain rfl := Option.some.inj H
    have heq_ := fun (w : World) => Lib.run_eql_slice_nil (P := Tryd.prog) w 22 3 (some a0) l0.length c0 0 0 Tryd.underlying22
    go_enter Tryd.func57, Tryd.ntmps57
    go_wp2_with (first | ((with_reducible refine gate_dst (N := 5) rfl ?_); refine Kd.R_lit (Kd.int .i64) _ 3 ?hg (N := 5) ?hd (xs := ([] : List Int)) (inner := []) (ok := fun _ => True) (okp := fun _ => True) ?hr ?hp (fun _ hk => hk) trivial (Below.refl _ _) (Nat.le_refl _) (by simp) ?_; (case hd => rfl); (case hg => rfl); (case hr => first | (go_simp; done) | (go_simp; rfl)); (case hp => exact (Reps.none _ _)); intro v188 w3 ho4 hb hg_ hnew_; clear hg_ hnew_; (first | rw [← Ny187.out] at ho4 | (simp only [Int.reduceToNat] at ho4; rw [← Ny187.out] at ho4)); have n0_ := Aside0.mk (Kd.R_lower ho4 (below_size (by repeat (first | (with_reducible first | exact HB.out | apply below_alloc | apply pw_below_drewN | apply below_drew1) | exact HB.out)))); have n1_ := Aside0.mk (below_step (by repeat (first | (with_reducible first | exact HB.out | apply below_alloc | apply pw_below_drewN | apply below_drew1) | exact HB.out)) hb); clear HB; have HO189 := n0_; have HB := n1_; clear n0_ n1_; clear hb ho4) | ((with_reducible refine gate_builtin (b := .append) (xs := #[.tmp 5, .tmp 6]) rfl ?_); at_builtin; refine Kd.R_append_rows (Kd.int .i64) (w0 := w) w.heap.size rfl (.tmp 5) (.tmp 6) 22 3 (.int .i64 0) 8 rfl Tryd.underlying22 info3 rfl (by decide) (by omega) v188 y187 l0 _ _ _ (fun _ => True) (fun _ => False) rfl rfl ?aO ?aR (fun _ _ h => h) (fun _ h => h.elim) ?aF ?aB ?aS ?aL ?_; (case aR => repeat (first | exact (Kd.C_below HR0.out HB.out) | (with_reducible refine Kd.C_alloc ?_ _) | (with_reducible refine Kd.C_drewN ?_ _) | (with_reducible refine Kd.C_drew ?_))); (case aB => exact (by repeat (first | (with_reducible first | exact HB.out | apply below_alloc | apply pw_below_drewN | apply below_drew1) | exact HB.out))); (case aF => exact (fun _ _ => trivial)); (case aO => exact (by (with_reducible repeat (first | apply Kd.R_alloc | apply Kd.R_drewN | apply Kd.R_drew)); exact HO189.out)); (case aS => exact (below_size (by repeat (first | (with_reducible first | exact HB.out | apply below_alloc | apply pw_below_drewN | apply below_drew1) | exact HB.out)))); (case aL => have := LMc2.out; omega); intro v191 w5 ho hb hg hat; rw [← Ny190.out] at ho; have n0_ := Aside0.mk (hb); have n1_ := Aside0.mk (ho); clear HB; clear HO189; have HB := n0_; have HO192 := n1_; clear n0_ n1_; clear ho hb hg hat))
    go_ret
    exact ⟨_, by first | rfl | (simp [errW_none, errW_some] <;> rfl) | (simp [*, errW_none, errW_some] <;> rfl), by (with_reducible repeat (first | apply Kd.R_alloc | apply Kd.R_drewN | apply Kd.R_drew)); exact HO192.out, by repeat (first | (with_reducible first | exact HB.out | apply below_alloc | apply pw_below_drewN | apply below_drew1) | exact HB.out)⟩
  · rw [if_neg c2] at H
    exact absurd H (by simp)

theorem slices_Clone_int_int.calls (A0 : Option Addr) (c0 : Nat) (l0 : List Int) (r : List Int) (w : World) (hr0 : Kd.C (Kd.int .i64) w A0 l0.length l0) (hc0 : l0.length ≤ c0) (h : slices_Clone_int_int.f l0 = some r) :
    Calls Tryd.prog 57 #[.slice A0 l0.length c0] w fun e w' => ∃ v0_ : Value, e = .returned (v0_) ∧ Kd.R (Kd.int .i64) 3 w' w.heap.size (fun _ => True) v0_ r ∧ Below w.heap.size w w' := by
  cases A0 with
  | some a0 => exact slices_Clone_int_int.calls_some a0 c0 l0 r w hr0 hc0 h
  | none =>
    have hl : l0 = [] := by
      rcases Nat.eq_zero_or_pos l0.length with h0 | h0
      · exact List.length_eq_zero_iff.mp h0
      · obtain ⟨ad, he, _⟩ := hr0.2.2 h0
        cases he
    subst hl
    obtain rfl : [] = r := by simpa [slices_Clone_int_int.f] using h
    clear h hr0 hc0
    have heq_ := fun (w : World) => Lib.run_eql_slice_nil (P := Tryd.prog) w 22 3 none 0 c0 0 0 Tryd.underlying22
    go_enter Tryd.func57, Tryd.ntmps57
    go_wp2
    go_ret
    exact ⟨_, rfl, Kd.R_nil _ _ _ _ _, Below.refl _ _⟩

end Go.Proofs.YtijfddobandcdaaDoor.X
end
section
/- sweep.follow, by hand: the plan of bags. -/
namespace Go.Proofs.YtijfddobandcdaaDoor.X
open Go.RowKit Go.Shelf Go.Proofs.YtijfddobandcdaaDoorW.PrintWords Go.Proofs.YtijfddobandcdaaDoorW.PrintLast Go.Proofs.YtijfddobandcdaaDoorW.PrintMore Go.Proofs.YtijfddobandcdaaDoor.T
attribute [local go_sem] Oper.semAt_some
set_option linter.unusedVariables false
set_option linter.unusedSimpArgs false

/-- The nodes of a set, each as an act of one kind, behind what there is. -/
def folTo (b : Bool) : Nat → Nat → List S85 → Option (List S85)
  | 0, _, _ => none
  | k + 1, z, xs => if z = 0 then some xs else folTo b k (rest z) (xs ++ [⟨b, ((Lib.ctz 64 z : Nat) : Int)⟩])
def folAll : List Int → Nat → List S85 → Option (List S85)
  | [], _, out => some out
  | b :: B, now, out => if 0 ≤ b ∧ b < 2 ^ 62 then (folTo false 64 (diff now b.toNat) out).bind fun o1 => (folTo true 64 (diff b.toNat now) o1).bind fun o2 => if o2.length ≤ 60000 then folAll B b.toNat o2 else none else none
def sweep_follow.f (l0 : List Int) : Option (List S85) := if l0.length ≤ 1000 then folAll (l0 ++ [0]) 0 [] else none
theorem folTo_len (b : Bool) : ∀ (k z : Nat) (xs t : List S85), folTo b k z xs = some t → xs.length ≤ t.length
  | 0, _, _, _, h => by cases h
  | k + 1, z, xs, t, h => by
    simp only [folTo] at h
    by_cases h0 : z = 0
    · rw [if_pos h0] at h
      rw [Option.some.inj h]
      exact Nat.le_refl _
    · rw [if_neg h0] at h
      have := folTo_len b k _ _ _ h
      simp at this
      omega
/-- An act as its cells. -/
def encP (p : S85) (c : List Value) : Prop := c = [.bool p.f0, .int .i64 p.f1]

/-- Where the loop over the bags stands. H: the heap's size where it began. -/
structure FI (w : World) (l0 : List Int) (r : List S85) (H g cp : Nat) (W : World) (i now : Nat) (xs : List S85) (v : Value) (inner : List Value) (ds : List Deferred) : Prop where
  below : Below w.heap.size w W
  o : Boxed W w.heap.size 35 v
  own : W.ownsRow H 85 2 v xs.length inner
  reps : Reps encP 2 xs inner
  row : W.ownsRow w.heap.size 3 1 (.slice (some ⟨g, 0, none⟩) (l0.length + 1) cp) (l0.length + 1) ((l0 ++ [0]).map (Value.int .i64))
  go : folAll ((l0 ++ [0]).drop i) now xs = some r
  now62 : now < 2 ^ 62
  hg : w.heap.size < g ∧ g < H
  top : H ≤ W.heap.size
  marks : Marks w.heap.size W.heap.size ds W
/-- Between two rounds of a range: z is left. c: the iterator's variable. -/
structure FK (w : World) (l0 : List Int) (H g cp c : Nat) (b : Bool) (tgt : List S85) (ds : List Deferred) (z : Nat) (V : World) (xs : List S85) (v : Value) (inner : List Value) : Prop where
  go : ∃ k, folTo b k z xs = some tgt
  below : Below w.heap.size w V
  o : Boxed V w.heap.size 35 v
  own : V.ownsRow H 85 2 v xs.length inner
  reps : Reps encP 2 xs inner
  row : V.ownsRow w.heap.size 3 1 (.slice (some ⟨g, 0, none⟩) (l0.length + 1) cp) (l0.length + 1) ((l0 ++ [0]).map (Value.int .i64))
  apart : ∀ b, v.ownBlock = some b → b ≠ c
  marks : Marks w.heap.size c ds V
  top : c < V.heap.size
theorem infoP : (Tryd.prog.info? 85).map (fun i => (i.zero, i.size, i.bytes)) = some (some (.agg #[(.bool false), (.int .i64 0)]), 2, 16) := by kernel_rfl

theorem cells_new (W : World) (cs : List Value) (e : TypeId) (j : Nat) (u : Value) (hu : cs[j]? = some u) : (W.alloc (.cells cs.toArray e)).cell? ((⟨W.heap.size, 0, none⟩ : Addr).add j) = some u := by
  rw [Addr.add_lit, Nat.zero_add]
  unfold World.cell?
  rw [show (W.alloc (.cells cs.toArray e)).heap[(⟨W.heap.size, j, none⟩ : Addr).block]? = _ from World.alloc_heap_new W _]
  simpa using hu
/-- What is left stays as it is when the book-keeping turns. -/
theorem FK.books {w : World} {l0 : List Int} {H g cp c : Nat} {b : Bool} {tgt : List S85} {ds : List Deferred} {z B : Nat} {V V2 : World} {xs : List S85} {v : Value} {inner : List Value} {row : Option Nat} (h : FK w l0 H g cp c b tgt ds z V xs v inner) (hw : w.heap.size < g) (hgH : g < H) (hHc : H ≤ c) (hcB : c < B) (hg : V.grownBy V2 row) (hbk : Books B c V row) : FK w l0 H g cp c b tgt ds z V2 xs v inner := by
  have ne : ∀ b, b < c → some b ≠ row := fun b hb e => by
    rcases hbk b e.symm with h | ⟨h, _⟩
    · omega
    · omega
  refine ⟨h.go, h.below.grown hg h.below.size (fun k e => ?_), h.o.kept hg (ne _ (by omega)), own_kept h.own hg (fun b hb e => ?_), h.reps, own_kept h.row hg (fun b hb => ?_), h.apart, h.marks.low (fun D hD => hg.block D (by have := h.top; omega) (ne D hD)), Nat.lt_of_lt_of_le h.top hg.size⟩
  · rcases hbk k e with h | ⟨h, _⟩
    · omega
    · omega
  · rcases hbk b e.symm with h2 | ⟨_, o2, ho2, hc2⟩
    · exact h.apart b hb h2
    · rw [own_cell h.own b hb o2 ho2] at hc2
      cases hc2
  · obtain rfl : g = b := by simpa [Value.ownBlock] using hb
    exact ne g (by omega)
/-- A round: the node has been appended. -/
theorem FK.appended {w : World} {l0 : List Int} {H g cp c : Nat} {b : Bool} {tgt : List S85} {ds : List Deferred} {z z2 k : Nat} {V w5 : World} {xs : List S85} {v : Value} {inner : List Value} {y : Int} {g2 cp2 : Nat} (h : FK w l0 H g cp c b tgt ds z V xs v inner) (hw : w.heap.size < g) (hgH : g < H) (hHc : H ≤ c)
    (hgo : folTo b k z2 (xs ++ [⟨b, y⟩]) = some tgt) (hown : w5.ownsRow H 85 2 (.slice (some ⟨g2, 0, none⟩) (xs.length + 1) cp2) (xs.length + 1) (inner ++ [.bool b, .int .i64 y])) (hg : (V.alloc (.cells #[.bool b, .int .i64 y] 85)).grownBy w5 v.ownBlock) (hat : (Value.slice (some ⟨g2, 0, none⟩) (xs.length + 1) cp2).ownBlock = v.ownBlock ∨ (Value.slice (some ⟨g2, 0, none⟩) (xs.length + 1) cp2).ownBlock = some (V.alloc (.cells #[.bool b, .int .i64 y] 85)).heap.size) :
    KeepsOthers V (w5.setCell ⟨w.heap.size, 0, none⟩ (.slice (some ⟨g2, 0, none⟩) (xs.length + 1) cp2)) ∧ (w5.setCell ⟨w.heap.size, 0, none⟩ (.slice (some ⟨g2, 0, none⟩) (xs.length + 1) cp2)).heap[c]? = V.heap[c]? ∧
    FK w l0 H g cp c b tgt ds z2 (w5.setCell ⟨w.heap.size, 0, none⟩ (.slice (some ⟨g2, 0, none⟩) (xs.length + 1) cp2)) (xs ++ [⟨b, y⟩]) (.slice (some ⟨g2, 0, none⟩) (xs.length + 1) cp2) (inner ++ [.bool b, .int .i64 y]) := by
  have htop := h.top
  have hvH : ∀ b, v.ownBlock = some b → H ≤ b := own_base h.own
  have hvl : ∀ b, v.ownBlock = some b → b < V.heap.size := own_lt h.own
  obtain ⟨hv1, hv2, _, hk2, hb2⟩ := h.o.appended (by decide) (ownsRow_mono h.own (show w.heap.size ≤ H by omega)) (by omega) (Nat.le_refl _) (ownsRow_mono hown (show w.heap.size ≤ H by omega)) hg
  have hg2 : g2 ≠ c ∧ g2 ≠ w.heap.size := by
    rcases hat with e | e
    · have e1 : v.ownBlock = some g2 := e.symm
      have := hvH g2 e1
      exact ⟨h.apart g2 e1, by omega⟩
    · have e1 : g2 = V.heap.size + 1 := by simpa [Value.ownBlock] using e
      exact ⟨by omega, by omega⟩
  refine ⟨hk2, ?_, ⟨k, hgo⟩, h.below.trans hb2, hv2, ?_, h.reps.snoc rfl rfl, ?_, fun b hb => ?_, h.marks.others hk2, Nat.lt_of_lt_of_le h.top hk2.size⟩
  · exact (Below.heap_setCell w5 ⟨w.heap.size, 0, none⟩ _ c (by simp; omega)).trans ((hg.block c (by simp; omega) (fun e => h.apart c e.symm rfl)).trans (Below.heap_alloc _ _ _ htop))
  · rw [List.length_append]
    exact own_kept hown (grownBy_set _ ⟨w.heap.size, 0, none⟩ _) (fun b hb e => by cases e; exact hg2.2 (by simpa [Value.ownBlock] using hb))
  · refine own_kept (own_kept (h.row.alloc _) hg (fun b hb e => ?_)) (grownBy_set _ ⟨w.heap.size, 0, none⟩ _) (fun b hb e => ?_)
    · obtain rfl : g = b := by simpa [Value.ownBlock] using hb
      have := hvH g e.symm
      omega
    · obtain rfl : g = b := by simpa [Value.ownBlock] using hb
      have e2 : g = w.heap.size := Option.some.inj e
      omega
  · obtain rfl : g2 = b := by simpa [Value.ownBlock] using hb
    exact hg2.1

set_option maxHeartbeats 4000000 in
set_option maxRecDepth 100000 in
theorem sweep_follow.calls (A0 : Option Addr) (c0 : Nat) (l0 : List Int) (r : List S85) (w : World) (hGL : GL w) (hr0 : Kd.C (Kd.int .i64) w A0 l0.length l0) (hc0 : l0.length ≤ c0) (h : sweep_follow.f l0 = some r) :
    Calls Tryd.prog 51 #[.slice A0 l0.length c0] w fun e w' => ∃ v, e = .returned v ∧ Kd.R k85 85 w' w.heap.size (fun _ => True) v r ∧ Below w.heap.size w w' := by
  unfold sweep_follow.f at h
  by_cases hlen : l0.length ≤ 1000
  · rw [if_pos hlen] at h
    have HF := Aside0.mk h
    have HR := Aside0.mk hr0
    clear h hr0
    obtain ⟨i0, hi0, hz0, hz1, hz2⟩ := info_parts info3
    obtain ⟨i8, hi8, hy0, hy1, hy2⟩ := info_parts infoP
    refine (callsIn_wide (n := 4)).1 ?_
    refine callsIn_of_wp_marks Tryd.func51 rfl trivial ?_ rfl
    simp only [Tryd.ntmps51, List.size_toArray, List.length_cons, List.length_nil, Nat.reduceAdd, Nat.reduceSub, Array.replicate_succ, Array.replicate_zero, List.push_toArray, List.append_toArray, List.nil_append, List.cons_append]
    have hcl : slices_Clone_int_int.f l0 = some l0 := by
      unfold slices_Clone_int_int.f
      simp only [Option.bind_some, List.length_nil, List.nil_append]
      rw [if_pos (by omega)]
    have HCL := Aside0.mk hcl
    clear hcl
    gi_wp2_with (first
      | (refine ⟨trivial, ?_⟩; refine (callsIn_wide.2 (slices_Clone_int_int.calls _ _ l0 l0 _ ?side1 ?side2 HCL.out)).mono ?_; (case side1 => repeat (first | exact HR.out | (with_reducible refine Kd.C_alloc ?_ _) | (with_reducible refine Kd.C_drewN ?_ _) | (with_reducible refine Kd.C_drew ?_))); (case side2 => exact hc0); rintro e w2 ⟨v, rfl, hO, hB⟩; (have hown : w2.ownsRow (w.heap.size + 1) 3 1 v l0.length (l0.map (Value.int .i64)) := (by have := Kd.own_of_R hO; simp only [World.size_alloc, encs] at this; exact this); have hBz := hB.size))
      | (gi_at_builtin; (refine wpListIn_append_own_at _ rfl _ _ 22 rfl (w.heap.size + 1) 3 i0 (.int .i64 0) 1 8 Tryd.underlying22 hi0 hz0 hz1 hz2 rfl (by decide) v l0.length (l0.map (Value.int .i64)) rfl (hown.alloc _) ⟨w2.heap.size, 0, none⟩ 1 1 [.int .i64 0] rfl rfl (cell_one_new _ _ _) (by simp [Value.oneCell']) (by unfold maxLen; omega) (by omega) (by simp at hBz; simp; omega) ?_; intro v1 w3 hown1 hg1 _ hat; obtain ⟨g, cp, rfl⟩ := ownsRow_succ hown1)))
    have hgb : w.heap.size + 1 ≤ g := own_base hown1 g rfl
    have hgl := own_lt hown1 g rfl
    have hg1z := hg1.size
    simp only [World.size_alloc] at hBz hg1z
    have hB2 : Below w.heap.size w w2 := (below_alloc (Below.refl w.heap.size w) (.cells #[.slice none 0 0] 35)).trans (hB.mono (by simp))
    have hvb : ∀ b, v.ownBlock = some b → w.heap.size < b := fun b hb => by have := own_base hown b hb; omega
    have hB3 : Below w.heap.size w w3 := (below_alloc hB2 _).grown hg1 (by simp; omega) (fun k e => by have := hvb k e; omega)
    have hbox : Boxed w3 w.heap.size 35 (.slice none 0 0) := by
      have b1 : Boxed (w.alloc (.cells #[.slice none 0 0] 35)) w.heap.size 35 (.slice none 0 0) := Boxed.new w 35 _
      have b2 : Boxed w2 w.heap.size 35 (.slice none 0 0) := (hB.block _ (by simp)).trans b1
      exact (b2.alloc _).kept hg1 (fun e => by have := hvb _ e.symm; omega)
    have hrow : w3.ownsRow w.heap.size 3 1 (.slice (some ⟨g, 0, none⟩) (l0.length + 1) cp) (l0.length + 1) ((l0 ++ [0]).map (Value.int .i64)) := by
      rw [List.map_append]
      exact ownsRow_mono hown1 (by omega)
    obtain ⟨H, hH⟩ : ∃ H, w3.heap.size = H := ⟨_, rfl⟩
    rw [hH] at hgl
    obtain ⟨Inv, hInv⟩ : ∃ Inv : Act → World → Prop, Inv = (fun a W => ∃ (u1 u2 u5 u9 u10 u11 u6 u7 u8 u15 u16 u17 u18 u19 u20 u21 u22 u23 u24 u25 u26 u27 u28 u29 u30 u31 u32 u33 u34 u35 u36 u37 u38 u39 u40 : Value) (ds : List Deferred) (i now : Nat) (xs : List S85) (v : Value) (inner : List Value), a = { tmps := #[.slice A0 l0.length c0, u1, u2, .pointer (some ⟨w.heap.size, 0, none⟩), .int .i64 (now : Int), u5, u6, u7, u8, u9, u10, u11, .slice (some ⟨g, 0, none⟩) (l0.length + 1) cp, .int .i64 ((l0.length : Int) + 1), .int .i64 (i : Int), u15, u16, u17, u18, u19, u20, u21, u22, u23, u24, u25, u26, u27, u28, u29, u30, u31, u32, u33, u34, u35, u36, u37, u38, u39, u40], defers := ds } ∧ FI w l0 r H g cp W i now xs v inner ds) := ⟨_, rfl⟩
    obtain ⟨Me, hMe⟩ : ∃ Me : Act → World → Nat, Me = (fun a _ => match a.tmps.getD 14 undef with | .int _ z => (l0.length + 1) - z.toNat | _ => 0) := ⟨_, rfl⟩
    have HInv := Aside0.mk hInv
    have HMe := Aside0.mk hMe
    clear hInv hMe
    refine wpIn_loop Inv Me ?_ ?_
    · rw [HInv.out]
      iterate 35 apply Exists.intro
      refine ⟨[], 0, 0, [], .slice none 0 0, [], rfl, hB3, hbox, World.ownsRow_nil _ _ _ _, Reps.none _ _, hrow, by rw [List.drop_zero]; exact HF.out, by decide, ⟨by omega, hgl⟩, by omega, trivial⟩
    · intro a W hIa
      rw [HInv.out] at hIa
      obtain ⟨u1, u2, u5, u9, u10, u11, u6, u7, u8, u15, u16, u17, u18, u19, u20, u21, u22, u23, u24, u25, u26, u27, u28, u29, u30, u31, u32, u33, u34, u35, u36, u37, u38, u39, u40, ds, i, now, xs, v', inner, rfl, hJ⟩ := hIa
      clear hg1 hown1 hown hO hB hat hbox hrow hB2 hvb
      by_cases hil : i < l0.length + 1
      · have hi1 : ((i : Int) < ((l0.length : Int) + 1)) = True := eq_true (by omega)
        have hi2 : decide ((i : Int) < ((l0.length : Int) + 1)) = true := decide_eq_true (by omega)
        have hil2 : i < (l0 ++ [0]).length := by simp; omega
        have hgo := hJ.go
        rw [List.drop_eq_getElem_cons hil2] at hgo
        simp only [folAll] at hgo
        obtain ⟨bb, hbb⟩ : ∃ bb : Int, (l0 ++ [0])[i]'hil2 = bb := ⟨_, rfl⟩
        rw [hbb] at hgo
        by_cases hb : 0 ≤ bb ∧ bb < 2 ^ 62
        · rw [if_pos hb] at hgo
          obtain ⟨b, hbe⟩ := Int.eq_ofNat_of_zero_le hb.1
          have hb62 : b < 2 ^ 62 := by omega
          have hcell : W.cell? ⟨g, i, none⟩ = some (.int .i64 (b : Int)) := by
            have := ownsRow_cells hJ.row i (.int .i64 (b : Int)) (by rw [List.getElem?_map, List.getElem?_eq_getElem hil2, hbb, hbe]; rfl)
            rwa [Addr.add_lit, Nat.zero_add] at this
          rw [hbe, Int.toNat_natCast] at hgo
          obtain ⟨o1, ho1, hgo⟩ := Option.bind_eq_some_iff.mp hgo
          obtain ⟨o2, ho2, hgo⟩ := Option.bind_eq_some_iff.mp hgo
          by_cases hlim : o2.length ≤ 60000
          · rw [if_pos hlim] at hgo
            have hn62 := hJ.now62
            have HO1 := Aside0.mk ho1
            have HO2 := Aside0.mk ho2
            have HGO := Aside0.mk hgo
            have HLIM := Aside0.mk hlim
            clear ho1 ho2 hgo hb hbb hlim
            gi_wp2_with (refine ⟨trivial, ?_⟩; refine (callsIn_wide.2 (sweep_nodes.calls _ _)).mono ?_; rintro e w' ⟨rfl, rfl⟩)
            rw [b_andNot now b hn62 hb62]
            have hl12 := folTo_len true 64 _ _ _ HO2.out
            have HLEN := Aside0.mk (show o1.length ≤ 60000 from Nat.le_trans hl12 HLIM.out)
            clear hl12
            have hgg := hJ.hg
            have htp := hJ.top
            have hwz := hJ.below.size
            have hd1 : diff now b < 2 ^ 62 := Nat.lt_of_le_of_lt (diff_le _ _) hn62
            refine range_nodes (by omega) (c := W.heap.size) rfl w hGL (by omega) (diff now b) hd1 ?_ (fun z V => ∃ xs v inner, FK w l0 H g cp W.heap.size false o1 ds z V xs v inner) (fun _ _ => False) (fun z V h => by obtain ⟨_, _, _, h⟩ := h; exact h.below) ?_ (fun _ _ _ _ h _ _ => h) ?_ (fun x => { tmps := #[.slice A0 l0.length c0, u1, u2, .pointer (some ⟨w.heap.size, 0, none⟩), .int .i64 (now : Int), u5, .int .i64 (b : Int), .int .i64 x, u8, u9, u10, u11, .slice (some ⟨g, 0, none⟩) (l0.length + 1) cp, .int .i64 ((l0.length : Int) + 1), .int .i64 (i : Int), .bool true, .pointer (some ⟨g, i, none⟩), .int .i64 (b : Int), .int .i64 (now : Int), .int .i64 (b : Int), .int .i64 ((diff now b : Nat) : Int), .func (.func 91) #[] #[.pointer (some ⟨W.heap.size, 0, none⟩)], .int .i64 x, u23, u24, u25, u26, u27, u28, u29, u30, u31, u32, u33, u34, u35, u36, u37, u38, u39, u40], defers := [] }) ?_ ?_ ?_ (fun _ _ _ _ h _ => h.elim)
            · simpa using Boxed.new W 3 (.int .i64 ((diff now b : Nat) : Int))
            · rintro z V V2 row ⟨xs, v, inner, hK⟩ hg' hbk
              exact ⟨xs, v, inner, hK.books hgg.1 hgg.2 htp (by simp) hg' hbk⟩
            · exact ⟨xs, v', inner, ⟨64, HO1.out⟩, below_alloc hJ.below _, hJ.o.alloc _, hJ.own.alloc _, hJ.reps, hJ.row.alloc _, fun b hb => Nat.ne_of_lt (own_lt hJ.own b hb), hJ.marks.low (fun D hD => Below.heap_alloc _ _ _ hD), by simp⟩
            · intro l x V K hK
              gi_wp2
              exact hK
            · rintro l z V ⟨xs, v, inner, hK⟩ hz hz2
              obtain ⟨k, hgk⟩ := hK.go
              cases k with
              | zero => cases hgk
              | succ k =>
                simp only [folTo] at hgk
                rw [if_neg (by omega)] at hgk
                have hlx := folTo_len false k _ _ _ hgk
                simp only [List.length_append, List.length_singleton] at hlx
                have HGK := Aside0.mk hgk
                have hoc := hK.o.cell
                have hof := hK.o.frozen
                have hln := HLEN.out
                have hHle : w.heap.size ≤ H := by omega
                have htop := hK.top
                generalize Lib.ctz 64 z = y at *
                clear hgk
                gi_wp2_with (gi_at_builtin; go_loud (refine wpListIn_append_own_at _ rfl _ _ 35 rfl H 85 i8 (.agg #[(.bool false), (.int .i64 0)]) 2 16 Tryd.underlying35 hi8 hy0 hy1 hy2 rfl (by decide) v xs.length inner rfl (hK.own.alloc _) ⟨V.heap.size, 0, none⟩ 1 1 [.bool false, .int .i64 (y : Int)] rfl rfl (cells_new V [.bool false, .int .i64 (y : Int)] 85) (by simp [Value.oneCell']) (by unfold maxLen; omega) (by omega) (by simp; omega) ?_; intro v2 w5 hown' hgrow _ hat; obtain ⟨g2, cp2, rfl⟩ := ownsRow_succ hown'; have hv1 := (hK.o.appended (by decide) (ownsRow_mono hK.own hHle) (by omega) (Nat.le_refl _) (ownsRow_mono hown' hHle) hgrow).1; have hc1 := hv1.cell; have hf1 := hv1.frozen))
                obtain ⟨q1, q2, q3⟩ := hK.appended hgg.1 hgg.2 htp HGK.out hown' hgrow hat
                exact ⟨q1, q2, _, _, _, q3⟩
            · rintro D V hD ⟨xs, v, inner, hK⟩ hDf
              obtain ⟨k, hgk⟩ := hK.go
              cases k with
              | zero => cases hgk
              | succ k =>
              simp only [folTo, if_pos] at hgk
              obtain rfl := Option.some.inj hgk
              clear hgk
              simp only [World.size_alloc] at hD
              have htopV := hK.top
              have hDl := (Array.getElem?_eq_some_iff.1 hDf).1
              have hbz := hK.below.size
              gi_wp2_with (refine ⟨trivial, ?_⟩; refine (callsIn_wide.2 (sweep_nodes.calls _ _)).mono ?_; rintro e w' ⟨rfl, rfl⟩)
              rw [b_andNot b now hb62 hn62]
              have hd2 : diff b now < 2 ^ 62 := Nat.lt_of_le_of_lt (diff_le _ _) hb62
              refine range_nodes (by omega) (c := V.heap.size) rfl w hGL (by omega) (diff b now) hd2 ?_ (fun z V3 => ∃ xs3 v3 inner3, FK w l0 H g cp V.heap.size true o2 ({ target := .collected D, args := #[] } :: ds) z V3 xs3 v3 inner3) (fun _ _ => False) (fun z V h => by obtain ⟨_, _, _, h⟩ := h; exact h.below) ?_ (fun _ _ _ _ h _ _ => h) ?_ (fun x => { tmps := #[.slice A0 l0.length c0, u1, u2, .pointer (some ⟨w.heap.size, 0, none⟩), .int .i64 (now : Int), u5, .int .i64 (b : Int), u7, .int .i64 x, u9, u10, u11, .slice (some ⟨g, 0, none⟩) (l0.length + 1) cp, .int .i64 ((l0.length : Int) + 1), .int .i64 (i : Int), .bool true, .pointer (some ⟨g, i, none⟩), .int .i64 (b : Int), .int .i64 (now : Int), .int .i64 (b : Int), .int .i64 ((diff now b : Nat) : Int), .func (.func 91) #[] #[.pointer (some ⟨W.heap.size, 0, none⟩)], u22, u23, u24, u25, u26, u27, .int .i64 (b : Int), .int .i64 (now : Int), .int .i64 ((diff b now : Nat) : Int), .func (.func 91) #[] #[.pointer (some ⟨V.heap.size, 0, none⟩)], .int .i64 x, u33, u34, u35, u36, u37, u38, u39, u40], defers := [] }) ?_ ?_ ?_ (fun _ _ _ _ h _ => h.elim)
              · simpa using Boxed.new V 3 (.int .i64 ((diff b now : Nat) : Int))
              · rintro z V3 V4 row ⟨xs3, v3, inner3, hK3⟩ hg' hbk
                exact ⟨xs3, v3, inner3, hK3.books hgg.1 hgg.2 (by omega) (by simp) hg' hbk⟩
              · exact ⟨xs, v, inner, ⟨64, HO2.out⟩, below_alloc hK.below _, hK.o.alloc _, hK.own.alloc _, hK.reps, hK.row.alloc _, fun b hb => Nat.ne_of_lt (own_lt hK.own b hb), ⟨D, rfl, by omega, hDl, (Below.heap_alloc _ _ _ hDl).trans hDf, (hK.marks.low (fun E hE => Below.heap_alloc _ _ _ (by omega))).mono (by omega)⟩, by simp⟩
              · intro l x V3 K hK'
                gi_wp2
                exact hK'
              · rintro l z V3 ⟨xs3, v3, inner3, hK3⟩ hz hz2
                obtain ⟨k, hgk⟩ := hK3.go
                cases k with
                | zero => cases hgk
                | succ k =>
                  simp only [folTo] at hgk
                  rw [if_neg (by omega)] at hgk
                  have hlx := folTo_len true k _ _ _ hgk
                  simp only [List.length_append, List.length_singleton] at hlx
                  have HGK := Aside0.mk hgk
                  have hoc := hK3.o.cell
                  have hof := hK3.o.frozen
                  have hln := HLIM.out
                  have hHle : w.heap.size ≤ H := by omega
                  have htop := hK3.top
                  generalize Lib.ctz 64 z = y at *
                  clear hgk
                  gi_wp2_with (gi_at_builtin; go_loud (refine wpListIn_append_own_at _ rfl _ _ 35 rfl H 85 i8 (.agg #[(.bool false), (.int .i64 0)]) 2 16 Tryd.underlying35 hi8 hy0 hy1 hy2 rfl (by decide) v3 xs3.length inner3 rfl (hK3.own.alloc _) ⟨V3.heap.size, 0, none⟩ 1 1 [.bool true, .int .i64 (y : Int)] rfl rfl (cells_new V3 [.bool true, .int .i64 (y : Int)] 85) (by simp [Value.oneCell']) (by unfold maxLen; omega) (by omega) (by simp; omega) ?_; intro v2 w5 hown' hgrow _ hat; obtain ⟨g2, cp2, rfl⟩ := ownsRow_succ hown'; have hv1 := (hK3.o.appended (by decide) (ownsRow_mono hK3.own hHle) (by omega) (Nat.le_refl _) (ownsRow_mono hown' hHle) hgrow).1; have hc1 := hv1.cell; have hf1 := hv1.frozen))
                  obtain ⟨q1, q2, q3⟩ := hK3.appended hgg.1 hgg.2 (show H ≤ V.heap.size by omega) HGK.out hown' hgrow hat
                  exact ⟨q1, q2, _, _, _, q3⟩
              · rintro D2 V3 hD2 ⟨xs3, v3, inner3, hK3⟩ hDf2
                obtain ⟨k3, hgk3⟩ := hK3.go
                cases k3 with
                | zero => cases hgk3
                | succ k3 =>
                simp only [folTo, if_pos] at hgk3
                obtain rfl := Option.some.inj hgk3
                simp only [World.size_alloc] at hD2
                have htop3 := hK3.top
                have hDl2 := (Array.getElem?_eq_some_iff.1 hDf2).1
                gi_wp2
                refine ⟨?_, ?_⟩
                · rw [HInv.out]
                  iterate 35 apply Exists.intro
                  exact ⟨_, i + 1, b, xs3, v3, inner3, rfl, hK3.below, hK3.o, hK3.own, hK3.reps, hK3.row, HGO.out, hb62, hgg, by omega, ⟨D2, rfl, by omega, hDl2, hDf2, hK3.marks.mono (by omega)⟩⟩
                · rw [HMe.out]
                  show (l0.length + 1) - (((i + 1 : Nat) : Int)).toNat < (l0.length + 1) - ((i : Int)).toNat
                  rw [Int.toNat_natCast, Int.toNat_natCast]
                  omega
          · rw [if_neg hlim] at hgo
            cases hgo
        · rw [if_neg hb] at hgo
          cases hgo
      · have hi1 : ((i : Int) < ((l0.length : Int) + 1)) = False := eq_false (by omega)
        have hi2 : decide ((i : Int) < ((l0.length : Int) + 1)) = false := decide_eq_false (by omega)
        have hgo := hJ.go
        rw [List.drop_eq_nil_of_le (by simp; omega)] at hgo
        simp only [folAll, Option.some.injEq] at hgo
        subst hgo
        have hoc := hJ.o.cell
        gi_wp2
        refine marks_leave (B := w.heap.size) ds W.heap.size W hJ.below.size hJ.marks (fun V2 hb hc => ?_)
        refine ⟨_, results_tmp rfl _ _ _, v', rfl, ⟨fun _ _ => trivial, inner, owns_cells hJ.own hc (by have := hJ.hg; omega), hJ.reps.imp_ (fun p c h => by rw [show c = _ from h]; exact k85_mkM _ _ _ p)⟩, hJ.below.trans hb⟩
  · rw [if_neg hlen] at h
    cases h
end Go.Proofs.YtijfddobandcdaaDoor.X
end
section
-- by ownprint.py (wip/tool), over the kit's print
namespace Go.Proofs.YtijfddobandcdaaDoor.X
open Go.RowKit Go.Proofs.YtijfddobandcdaaDoorW.PrintWords Go.Proofs.YtijfddobandcdaaDoorW.PrintLast Go.Proofs.YtijfddobandcdaaDoorW.PrintMore
attribute [local go_sem] max2_int min2_int max_two min_two max_three min_three max_four min_four
set_option linter.unusedVariables false
set_option linter.unusedSimpArgs false

/-! ### sweep_town_bags: function 52 -/
def sweep_town_bags.l0 : Nat → List Int → List Int → Int → List Int → Int → Int → Option (List Int)
  | 0, _, _, _, _, _, _ => none
  | k + 1, x0, x5, x6, x9, x10, x11 => if x11 < x10 then (if 0 ≤ x11 then (if x11 < (x9.length : Int) then ((sweep_town_border.f x0 x6).bind fun t194 => (if 0 ≤ (rd x9 x11) then (if x5.length < 17592186044416 then (sweep_town_bags.l0 k x0 (x5 ++ [Go.bits .or .i64 t194 (shl .i64 1 (rd x9 x11))]) (Go.bits .or .i64 x6 (shl .i64 1 (rd x9 x11))) x9 x10 (wrap64 (x11 + 1))) else (none)) else (none))) else (none)) else (none)) else (some x5)
def sweep_town_bags.f (k : Nat) (l0 : List Int) (l1 : List Int) : Option (List Int) := sweep_town_bags.l0 k l0 ([] : List Int) 0 l1 (l1.length : Int) 0
def sweep_town_bags.T6 : Bool × List (List Nat × List Nat) := (true, [([], []), ([], []), ([], []), ([1, 2], [1, 2]), ([], []), ([4], [4]), ([3, 5], [3, 5]), ([6], [6]), ([0, 7, 3], [0, 7]), ([8, 8, 0, 1, 2, 3, 4, 5, 6, 7, 8], [0, 8])])
def sweep_town_bags.B6 : List Nat := [0, 0, 0, 6, 0, 16, 62, 126, 255, 511]
theorem sweep_town_bags.tab6 : rtab .any (opsOf Tryd.f52 6) = sweep_town_bags.T6 := by kernel_rfl
theorem sweep_town_bags.bits6 : waitsOk sweep_town_bags.T6.2 sweep_town_bags.B6 = true := by kernel_rfl
set_option maxHeartbeats 8000000 in
set_option maxRecDepth 100000 in
theorem sweep_town_bags.calls (k : Nat) (A0 : Option Addr) (c0 : Nat) (l0 : List Int) (A1 : Option Addr) (c1 : Nat) (l1 : List Int) (r : List Int) (w : World) (hGL : GL w) (hr0 : Kd.C (Kd.int .i64) w A0 l0.length l0) (hc0 : l0.length ≤ c0) (hr1 : Kd.C (Kd.int .i64) w A1 l1.length l1) (hc1 : l1.length ≤ c1) (h : sweep_town_bags.f k l0 l1 = some r) :
    Calls Tryd.prog 52 #[.slice A0 l0.length c0, .slice A1 l1.length c1] w fun e w' => ∃ v0_ : Value, e = .returned (v0_) ∧ Kd.R (Kd.int .i64) 3 w' w.heap.size (fun _ => True) v0_ r ∧ Below w.heap.size w w' := by
  have HGL := Aside0.mk hGL
  clear hGL
  have HR0 := Aside0.mk hr0
  have HC0 := Aside0.mk hc0
  clear hr0 hc0
  have HR1 := Aside0.mk hr1
  have HC1 := Aside0.mk hc1
  clear hr1 hc1
  have HB := Aside0.mk (Below.refl w.heap.size w)
  have H : (sweep_town_bags.l0 k l0 ([] : List Int) 0 l1 (l1.length : Int) 0) = some r := h
  clear h
  have H' := Aside0.mk H
  clear H
  go_enter Tryd.func52, Tryd.ntmps52
  go_wp2
  go_loopg [5, 6, 11] k (fun kq v5 v6 v11 w' => ∃ (x5_1 : List Int) (x6_1 : Int) (x11_1 : Int), v6 = .int .i64 x6_1 ∧ v11 = .int .i64 x11_1 ∧ Aside0 (sweep_town_bags.l0 kq l0 x5_1 x6_1 l1 (l1.length : Int) x11_1 = some r) ∧ Aside0 (kq ≤ k) ∧ Aside0 (Kd.R (Kd.int .i64) 3 w' w.heap.size (fun _ => True) v5 x5_1) ∧ Aside0 (Below w.heap.size w w'))
  case atStart => exact ⟨(([] : List Int)), (0), (0), (by first | rfl | (simp; done) | (simp [*]; done)), (by first | rfl | (simp; done) | (simp [*]; done)), H', ⟨Nat.le_refl _⟩, ⟨by first | exact Kd.R_nil _ _ _ _ _ | exact Kd.N_nil _ _ _ _ _ | exact Kd.V_nil _ _ _ _ _ | exact Kd.Q_nil _ _ _ _ _ | exact Kd.S_nil _ _ _ _ _⟩, ⟨by repeat (first | (with_reducible first | exact HB.out | apply below_alloc | apply pw_below_drewN | apply below_drew1) | exact HB.out)⟩⟩
  case round =>
    clear H'
    try clear c1
    try clear p2
    obtain ⟨x5_1, x6_1, x11_1, rfl, rfl, HA, HK1, HO_5, HB⟩ := hrel
    cases gk with
    | zero => exact absurd HA.out (by simp [sweep_town_bags.l0])
    | succ k1 =>
      have H := HA.out
      clear HA
      simp only [sweep_town_bags.l0] at H
      by_cases c3 : x11_1 < (l1.length : Int)
      · rw [if_pos c3] at H
        have c3b0 : decide (x11_1 < (l1.length : Int)) = true := decide_eq_true c3
        clear c3
        by_cases c4 : 0 ≤ x11_1
        · rw [if_pos c4] at H
          have c4b0 : decide (0 ≤ x11_1) = true := decide_eq_true c4
          clear c4
          by_cases c5 : x11_1 < (l1.length : Int)
          · rw [if_pos c5] at H
            have c5b0 : decide (x11_1 < (l1.length : Int)) = true := decide_eq_true c5
            clear c5
            replace H := Option.bind_eq_some_iff.mp H
            obtain ⟨t194, A60, H⟩ := H
            replace H : (if 0 ≤ (rd l1 x11_1) then (if x5_1.length < 17592186044416 then (sweep_town_bags.l0 k1 l0 (x5_1 ++ [Go.bits .or .i64 t194 (shl .i64 1 (rd l1 x11_1))]) (Go.bits .or .i64 x6_1 (shl .i64 1 (rd l1 x11_1))) l1 (l1.length : Int) (wrap64 (x11_1 + 1))) else (none)) else (none)) = some r := H
            have A6 := Aside0.mk A60
            clear A60
            by_cases c7 : 0 ≤ (rd l1 x11_1)
            · rw [if_pos c7] at H
              have c7b0 := eq_true c7
              have c7b1 : decide (0 ≤ (rd l1 x11_1)) = true := decide_eq_true c7
              clear c7
              obtain ⟨ji8, hji8⟩ : ∃ j_ : Int, (shl .i64 1 (rd l1 x11_1)) = j_ := ⟨_, rfl⟩
              replace H : (if x5_1.length < 17592186044416 then (sweep_town_bags.l0 k1 l0 (x5_1 ++ [Go.bits .or .i64 t194 (ji8)]) (Go.bits .or .i64 x6_1 (ji8)) l1 (l1.length : Int) (wrap64 (x11_1 + 1))) else (none)) = some r := by first | (rw [hji8] at H; exact H) | (simp only [hji8] at H ⊢; exact H)
              (try rw [hji8] at A6)
              have hji8_ : (IntKind.i64.wrap (1 * 2 ^ min (rd l1 x11_1).toNat 64)) = ji8 := hji8
              have hji8z : (rd l1 x11_1) ≤ 64 → (IntKind.i64.wrap (1 * 2 ^ (rd l1 x11_1).toNat)) = ji8 := shl_small hji8
              have hji8u : (IntKind.i64.wrap (2 ^ min (rd l1 x11_1).toNat 64)) = ji8 := by have h_ := hji8_; rw [Int.one_mul] at h_; exact h_
              have hji8v : (rd l1 x11_1) ≤ 64 → (IntKind.i64.wrap (2 ^ (rd l1 x11_1).toNat)) = ji8 := fun hle_ => by have h_ := hji8z hle_; rw [Int.one_mul] at h_; exact h_
              have hji8y : (wrap64 (1 * 2 ^ min (rd l1 x11_1).toNat 64)) = ji8 := (i64_w _).symm.trans hji8_
              have hji8x : (rd l1 x11_1) ≤ 64 → (wrap64 (1 * 2 ^ (rd l1 x11_1).toNat)) = ji8 := fun h_ => (i64_w _).symm.trans (hji8z h_)
              by_cases c9 : x5_1.length < 17592186044416
              · rw [if_pos c9] at H
                have LMc9 := Aside0.mk c9
                clear c9
                obtain ⟨y195, hy195⟩ : ∃ y_ : List Int, y_ = (x5_1 ++ [Go.bits .or .i64 t194 (ji8)]) := ⟨_, rfl⟩
                replace H : (sweep_town_bags.l0 k1 l0 y195 (Go.bits .or .i64 x6_1 (ji8)) l1 (l1.length : Int) (wrap64 (x11_1 + 1))) = some r := by first | (rw [hy195]; with_reducible exact H) | (have H2_ := (Option.bind_some _ _).symm.trans H; rw [hy195]; with_reducible exact H2_) | (have H2_ := (Option.bind_some _ _).symm.trans H; with_reducible exact H2_) | with_reducible exact H | (rw [hy195]; exact H) | exact H
                have Ny195 := Aside0.mk hy195
                clear hy195
                have c10b0 := eq_true (of_decide_eq_true (by first | (with_reducible assumption) | assumption) : 0 ≤ (rd l1 x11_1))
                have H' := Aside0.mk H
                clear H
                have p193 : 0 ≤ (x11_1 : Int) := of_decide_eq_true (by first | (with_reducible assumption) | assumption)
                have q193 : x11_1 < (l1.length : Int) := of_decide_eq_true (by first | (with_reducible assumption) | assumption)
                obtain ⟨ad193, e193, hx193_0⟩ := Kd.at_int HR1.out x11_1 p193 q193
                cases e193
                replace hx193_0 := (HB.out.cell (World.block_lt_of_cell? w _ hx193_0)).trans hx193_0
                replace p193 := eq_true p193
                replace q193 := eq_true q193
                try go_wp2
                have n0_ := Aside0.mk (Kd.R_drew HO_5.out)
                have n1_ := Aside0.mk (below_drew1 HB.out)
                clear HO_5
                clear HB
                have HO_5 := n0_
                have HB := n1_
                clear n0_ n1_
                refine start_ (n := 10) (S := fun w' => True) (ds := []) #[false, false, false, false, false, false, false, false, false, false] (by kernel_rfl) rfl rfl trivial (fun hHeld => ?_); refine with_tabW sweep_town_bags.tab6 sweep_town_bags.bits6 (fun HT_ HW_ => ?_)
                generalize wr.drew = w11 at HO_5 HB hHeld ⊢
                refine pure_ (i := 0) (N := some 15) (v := ?_) (a' := ?_) #[true, false, false, false, false, false, false, false, false, false] rfl rfl (any_of HT_.out (by kernel_rfl)) (fun _ _ _ h => h) (Or.inl ⟨by rfl, ?_⟩) ?_ ?_
                rotate_left
                · intro w'
                  go_simp
                  with_reducible rfl
                rotate_left
                · simp only [Act.put, List.setIfInBounds_toArray, List.set_cons_zero, List.set_cons_succ, i64_w, i32_w]
                  rfl
                refine pure_ (i := 1) (N := some 16) (v := ?_) (a' := ?_) #[true, true, false, false, false, false, false, false, false, false] rfl rfl (any_of HT_.out (by kernel_rfl)) (fun _ _ _ h => h) (Or.inl ⟨by rfl, ?_⟩) ?_ ?_
                rotate_left
                · intro w'
                  go_simp
                  with_reducible rfl
                rotate_left
                · simp only [Act.put, List.setIfInBounds_toArray, List.set_cons_zero, List.set_cons_succ, i64_w, i32_w]
                  rfl
                refine pure_ (i := 2) (N := some 17) (v := ?_) (a' := ?_) #[true, true, true, false, false, false, false, false, false, false] rfl rfl (any_of HT_.out (by kernel_rfl)) (fun _ _ _ h => h) (Or.inl ⟨by rfl, ?_⟩) ?_ ?_
                rotate_left
                · intro w'
                  go_simp
                  with_reducible rfl
                rotate_left
                · simp only [Act.put, List.setIfInBounds_toArray, List.set_cons_zero, List.set_cons_succ, i64_w, i32_w]
                  rfl
                refine pure_ (i := 4) (N := some 19) (v := ?_) (a' := ?_) #[true, true, true, false, true, false, false, false, false, false] rfl rfl (any_of HT_.out (by kernel_rfl)) (fun _ _ _ h => h) (Or.inl ⟨by rfl, ?_⟩) ?_ ?_
                rotate_left
                · intro w'
                  go_simp
                  with_reducible rfl
                rotate_left
                · simp only [Act.put, List.setIfInBounds_toArray, List.set_cons_zero, List.set_cons_succ, i64_w, i32_w]
                  rfl
                refine pure_ (i := 5) (N := some 20) (v := ?_) (a' := ?_) #[true, true, true, false, true, true, false, false, false, false] rfl rfl (any_of HT_.out (by kernel_rfl)) (fun _ _ _ h => h) (Or.inl ⟨by rfl, ?_⟩) ?_ ?_
                rotate_left
                · intro w'
                  go_simp
                  with_reducible rfl
                rotate_left
                · simp only [Act.put, List.setIfInBounds_toArray, List.set_cons_zero, List.set_cons_succ, i64_w, i32_w]
                  rfl
                refine one_ (i := 3) (N := some 18) #[true, true, true, true, true, true, false, false, false, false] rfl rfl (one_of HT_.out (by kernel_rfl)) (by decide) (fun K hK => ?_)
                refine goes_ Tryd.func73 (by kernel_rfl) rfl #[.slice A0 l0.length c0, .int .i64 x6_1] (by rfl) rfl rfl (by (try simp only [List.map_toArray, List.map_cons, List.map_nil]); first | done | rfl | (simp only [List.length_drop, List.length_take]; rfl)) ?_
                with_reducible refine (sweep_town_border.calls (hGL := (by repeat (first | (with_reducible exact HGL.out) | (with_reducible exact GL_below HGL.out HB.out) | (with_reducible refine GL_alloc ?_ _) | (with_reducible refine GL_drewN ?_ _) | (with_reducible refine GL_drew ?_)))) _ _ l0 x6_1 t194 _ ?side1 ?side2 A6.out).mono ?_
                (case side1 => repeat (first | exact (Kd.C_below HR0.out HB.out) | (with_reducible refine Kd.C_alloc ?_ _) | (with_reducible refine Kd.C_drewN ?_ _) | (with_reducible refine Kd.C_drew ?_)))
                (case side2 => exact HC0.out)
                rintro e w12 ⟨rfl, hb⟩
                refine ⟨_, rfl, ?_⟩
                have n0_ := Aside0.mk (Kd.R_below (by (with_reducible repeat (first | apply Kd.R_alloc | apply Kd.R_drewN | apply Kd.R_drew)); exact HO_5.out) hb)
                have n1_ := Aside0.mk (below_step (by repeat (first | (with_reducible first | exact HB.out | apply below_alloc | apply pw_below_drewN | apply below_drew1) | exact HB.out)) hb)
                clear HO_5
                clear HB
                have HO_5 := n0_
                have HB := n1_
                clear n0_ n1_
                (try clear hb)
                (try clear hb2)
                (try clear hk)
                (try clear hi)
                refine hK.out _ _ trivial (fun hHeld => ?_)
                clear hK K
                refine norm_ (a' := ?_) ?_ ?_
                rotate_left
                · show Act.put _ (some 18) _ = _
                  simp only [Act.put, List.setIfInBounds_toArray, List.set_cons_zero, List.set_cons_succ, i64_w, i32_w]
                  rfl
                refine pure_ (i := 6) (N := some 21) (v := ?_) (a' := ?_) #[true, true, true, true, true, true, true, false, false, false] rfl rfl (any_of HT_.out (by kernel_rfl)) (fun _ _ _ h => h) (Or.inl ⟨by rfl, ?_⟩) ?_ ?_
                rotate_left
                · intro w'
                  go_simp
                  with_reducible rfl
                rotate_left
                · simp only [Act.put, List.setIfInBounds_toArray, List.set_cons_zero, List.set_cons_succ, i64_w, i32_w]
                  rfl
                refine one_ (i := 7) (N := some 22) #[true, true, true, true, true, true, true, true, false, false] rfl rfl (one_of HT_.out (by kernel_rfl)) (by decide) (fun K hK => ?_)
                refine value_ (w1 := ?_) (v := ?_) (by rfl) rfl ?_ ?_
                rotate_left 2
                · go_simp
                  constructor
                  · rfl
                  · rfl
                refine hK.out _ _ trivial (fun hHeld => ?_)
                clear hK K
                refine norm_ (a' := ?_) ?_ ?_
                rotate_left
                · show Act.put _ (some 22) _ = _
                  simp only [Act.put, List.setIfInBounds_toArray, List.set_cons_zero, List.set_cons_succ, i64_w, i32_w]
                  rfl
                refine one_ (i := 8) (N := some 23) #[true, true, true, true, true, true, true, true, true, false] rfl rfl (one_of HT_.out (by kernel_rfl)) (by decide) (fun K hK => ?_)
                refine Kd.R_append_step (Kd.int .i64) (w0 := w) w.heap.size (by rfl) (.tmp 15) (.tmp 22) 22 3 (.int .i64 0) 8 rfl Tryd.underlying22 info3 rfl (by decide) (by omega) u5 x5_1 (Go.bits .or .i64 t194 (ji8)) [.int .i64 (Go.bits .or .i64 t194 (ji8))] (fun _ => True) (fun _ => False) rfl rfl ?aP (fun _ hk => hk.elim) ?aF ?aO ?aB ?aS ?aL ?_
                (case aP => exact rfl)
                (case aB => exact (by repeat (first | (with_reducible first | exact HB.out | apply below_alloc | apply pw_below_drewN | apply below_drew1) | exact HB.out)))
                (case aF => exact (fun _ _ => trivial))
                (case aO => exact (by (with_reducible repeat (first | apply Kd.R_alloc | apply Kd.R_drewN | apply Kd.R_drew)); exact HO_5.out))
                (case aS => exact (below_size (by repeat (first | (with_reducible first | exact HB.out | apply below_alloc | apply pw_below_drewN | apply below_drew1) | exact HB.out))))
                (case aL => have := LMc9.out; omega)
                intro v196 w13 ho hb hg hat
                rw [← Ny195.out] at ho
                have n0_ := Aside0.mk (hb)
                have n1_ := Aside0.mk (ho)
                clear HB
                clear HO_5
                have HB := n0_
                have HO197 := n1_
                clear n0_ n1_
                clear ho hb hg hat
                refine hK.out _ _ trivial (fun hHeld => ?_)
                clear hK K
                refine norm_ (a' := ?_) ?_ ?_
                rotate_left
                · show Act.put _ (some 23) _ = _
                  simp only [Act.put, List.setIfInBounds_toArray, List.set_cons_zero, List.set_cons_succ, i64_w, i32_w]
                  rfl
                refine pure_ (i := 9) (N := some 5) (v := ?_) (a' := ?_) #[true, true, true, true, true, true, true, true, true, true] rfl rfl (any_of HT_.out (by kernel_rfl)) (fun _ _ _ h => h) (Or.inl ⟨by rfl, ?_⟩) ?_ ?_
                rotate_left
                · intro w'
                  go_simp
                  with_reducible rfl
                rotate_left
                · simp only [Act.put, List.setIfInBounds_toArray, List.set_cons_zero, List.set_cons_succ, i64_w, i32_w]
                  rfl
                refine done_ (done_of HT_.out (by kernel_rfl)) ?_
                try go_wp2
                go_roundg k1
                case measure => have := HK1.out; omega
                case rel => exact ⟨(y195), (Go.bits .or .i64 x6_1 (ji8)), (wrap64 (x11_1 + 1)), (by first | rfl | (simp; done) | (simp only [← hji8] <;> (first | rfl | simp)) | (simp [*]; done)), (by first | rfl | (simp; done) | (simp [*]; done)), H', ⟨by have := HK1.out; omega⟩, ⟨by (with_reducible repeat (first | apply Kd.R_alloc | apply Kd.R_drewN | apply Kd.R_drew)); exact HO197.out⟩, ⟨by repeat (first | (with_reducible first | exact HB.out | apply below_alloc | apply pw_below_drewN | apply below_drew1) | exact HB.out)⟩⟩
              · rw [if_neg c9] at H
                exact absurd H (by simp)
            · rw [if_neg c7] at H
              exact absurd H (by simp)
          · rw [if_neg c5] at H
            exact absurd H (by simp)
        · rw [if_neg c4] at H
          exact absurd H (by simp)
      · rw [if_neg c3] at H
        have c3b0 : decide (x11_1 < (l1.length : Int)) = false := decide_eq_false c3
        clear c3
        obtain rfl := Option.some.inj H
        go_wp2
        go_ret
        exact ⟨_, by first | rfl | (simp [errW_none, errW_some] <;> rfl) | (simp [*, errW_none, errW_some] <;> rfl), by (with_reducible repeat (first | apply Kd.R_alloc | apply Kd.R_drewN | apply Kd.R_drew)); exact HO_5.out, by repeat (first | (with_reducible first | exact HB.out | apply below_alloc | apply pw_below_drewN | apply below_drew1) | exact HB.out)⟩

end Go.Proofs.YtijfddobandcdaaDoor.X
end
section
-- by ownprint.py (wip/tool), over the kit's print
namespace Go.Proofs.YtijfddobandcdaaDoor.X
open Go.RowKit Go.Proofs.YtijfddobandcdaaDoorW.PrintWords Go.Proofs.YtijfddobandcdaaDoorW.PrintLast Go.Proofs.YtijfddobandcdaaDoorW.PrintMore
attribute [local go_sem] max2_int min2_int max_two min_two max_three min_three max_four min_four
set_option linter.unusedVariables false
set_option linter.unusedSimpArgs false

/-! ### sweep_Plan: function 23 -/
def sweep_Plan.f (k : Nat) (l0 : List Int) : Option ((List (S85)) × Int) := (sweep_read.f k l0).bind fun bt198 => (if bt198.2 = true then ((sweep_town_layout.f bt198.1).bind fun bt202 => ((sweep_town_bags.f k bt198.1 bt202.1).bind fun t206 => ((sweep_follow.f t206).bind fun t209 => (some (t209, 0))))) else (some (([] : List (S85)), 2)))
set_option maxHeartbeats 8000000 in
set_option maxRecDepth 100000 in
theorem sweep_Plan.calls (k : Nat) (A0 : Option Addr) (c0 : Nat) (l0 : List Int) (r1 : List (S85)) (r2 : Int) (w : World) (hGL : GL w) (hr0 : Kd.C (Kd.int .i64) w A0 l0.length l0) (hc0 : l0.length ≤ c0) (h : sweep_Plan.f k l0 = some (r1, r2)) :
    Calls Tryd.prog 23 #[.slice A0 l0.length c0] w fun e w' => ∃ v0_ : Value, e = .returned (.tuple #[v0_, .int .i64 r2]) ∧ Kd.R k85 85 w' w.heap.size (fun _ => True) v0_ r1 ∧ Below w.heap.size w w' := by
  have HGL := Aside0.mk hGL
  clear hGL
  have HR0 := Aside0.mk hr0
  have HC0 := Aside0.mk hc0
  clear hr0 hc0
  have HB := Aside0.mk (Below.refl w.heap.size w)
  have H : ((sweep_read.f k l0).bind fun bt198 => (if bt198.2 = true then ((sweep_town_layout.f bt198.1).bind fun bt202 => ((sweep_town_bags.f k bt198.1 bt202.1).bind fun t206 => ((sweep_follow.f t206).bind fun t209 => (some (t209, 0))))) else (some (([] : List (S85)), 2)))) = some (r1, r2) := h
  clear h
  replace H := Option.bind_eq_some_iff.mp H
  obtain ⟨⟨t198, t201⟩, A20, H⟩ := H
  replace H : (if t201 = true then ((sweep_town_layout.f t198).bind fun bt202 => ((sweep_town_bags.f k t198 bt202.1).bind fun t206 => ((sweep_follow.f t206).bind fun t209 => (some (t209, 0))))) else (some (([] : List (S85)), 2))) = some (r1, r2) := H
  have A2 := Aside0.mk A20
  clear A20
  by_cases c3 : t201 = true
  · subst c3
    have H1 : ((sweep_town_layout.f t198).bind fun bt202 => ((sweep_town_bags.f k t198 bt202.1).bind fun t206 => ((sweep_follow.f t206).bind fun t209 => (some (t209, 0))))) = some (r1, r2) := by rw [if_pos rfl] at H; exact H
    clear H
    have H := H1
    clear H1
    replace H := Option.bind_eq_some_iff.mp H
    obtain ⟨⟨t202, t203⟩, A40, H⟩ := H
    replace H : ((sweep_town_bags.f k t198 t202).bind fun t206 => ((sweep_follow.f t206).bind fun t209 => (some (t209, 0)))) = some (r1, r2) := H
    have A4 := Aside0.mk A40
    clear A40
    replace H := Option.bind_eq_some_iff.mp H
    obtain ⟨t206, A50, H⟩ := H
    replace H : ((sweep_follow.f t206).bind fun t209 => (some (t209, 0))) = some (r1, r2) := H
    have A5 := Aside0.mk A50
    clear A50
    replace H := Option.bind_eq_some_iff.mp H
    obtain ⟨t209, A60, H⟩ := H
    replace H : (some (t209, 0)) = some (r1, r2) := H
    have A6 := Aside0.mk A60
    clear A60
    simp only [Option.some.injEq, Prod.mk.injEq] at H
    obtain ⟨rfl, rfl⟩ := H
    go_enter Tryd.func23, Tryd.ntmps23
    go_wp2_with (first | ((with_reducible refine gate_callee (f := 49) rfl ?_); refine goesL_ (some 10) rfl rfl Tryd.func49 (by kernel_rfl) rfl #[.slice A0 l0.length c0] rfl (by (try simp only [List.map_toArray, List.map_cons, List.map_nil]); first | done | rfl | (simp only [List.length_drop, List.length_take]; rfl)) ?_; (with_reducible refine (sweep_read.calls k (fun k_ => k_ < w.heap.size) _ _ l0 t198 true _ ?side1 A2.out).mono ?_); (case side1 => exact Kd.V_mk HC0.out (Kd.F_below (Kd.C_F (Kd.heap_int .i64) HR0.out) (by repeat (first | (with_reducible first | exact HB.out | apply below_alloc | apply pw_below_drewN | apply below_drew1) | exact HB.out)))); rintro e w7 ⟨v199, rfl, ho0, hb⟩; refine ⟨_, rfl, ?_⟩; have n0_ := Aside0.mk (Kd.V_lower (Kd.V_mono (ok' := fun k_ => True) ho0 (fun k_ hk_ => trivial)) (below_size (by repeat (first | (with_reducible first | exact HB.out | apply below_alloc | apply pw_below_drewN | apply below_drew1) | exact HB.out)))); have n1_ := Aside0.mk (below_step (by repeat (first | (with_reducible first | exact HB.out | apply below_alloc | apply pw_below_drewN | apply below_drew1) | exact HB.out)) hb); clear HB; have HO200 := n0_; have HB := n1_; clear n0_ n1_; (try clear hb); (try clear hb2); (try clear hk); (try clear hi); (try clear ho0); obtain ⟨Ao8, co8, eo8⟩ := Kd.V_slice HO200.out; subst eo8) | ((with_reducible refine gate_callee (f := 50) rfl ?_); refine goesL_ (some 17) rfl rfl Tryd.func50 (by kernel_rfl) rfl #[.slice Ao8 t198.length co8] rfl (by (try simp only [List.map_toArray, List.map_cons, List.map_nil]); first | done | rfl | (simp only [List.length_drop, List.length_take]; rfl)) ?_; (with_reducible refine (sweep_town_layout.calls (hGL := (by repeat (first | (with_reducible exact HGL.out) | (with_reducible exact GL_below HGL.out HB.out) | (with_reducible refine GL_alloc ?_ _) | (with_reducible refine GL_drewN ?_ _) | (with_reducible refine GL_drew ?_)))) _ _ t198 t202 t203 _ ?side1 ?side2 A4.out).mono ?_); (case side1 => repeat (first | exact (Kd.V_reads' HO200.out).2.2 | (with_reducible refine Kd.C_alloc ?_ _) | (with_reducible refine Kd.C_drewN ?_ _) | (with_reducible refine Kd.C_drew ?_))); (case side2 => exact (Kd.V_reads' HO200.out).2.1); rintro e w9 ⟨v204, rfl, ho0, hb⟩; refine ⟨_, rfl, ?_⟩; have n0_ := Aside0.mk (Kd.V_elder' (by (with_reducible repeat (first | apply Kd.V_alloc | apply Kd.V_drewN | apply Kd.V_drew)); exact HO200.out) (Kd.R_base ho0) hb); have n1_ := Aside0.mk (Kd.R_lower ho0 (below_size (by repeat (first | (with_reducible first | exact HB.out | apply below_alloc | apply pw_below_drewN | apply below_drew1) | exact HB.out)))); have n2_ := Aside0.mk (below_step (by repeat (first | (with_reducible first | exact HB.out | apply below_alloc | apply pw_below_drewN | apply below_drew1) | exact HB.out)) hb); clear HO200; clear HB; have HO200 := n0_; have HO205 := n1_; have HB := n2_; clear n0_ n1_ n2_; (try clear hb); (try clear hb2); (try clear hk); (try clear hi); (try clear ho0); obtain ⟨Ao10, co10, eo10⟩ := Kd.R_slice HO205.out; subst eo10) | ((with_reducible refine gate_callee (f := 52) rfl ?_); refine goesL_ (some 22) rfl rfl Tryd.func52 (by kernel_rfl) rfl #[.slice Ao8 t198.length co8, .slice Ao10 t202.length co10] rfl (by (try simp only [List.map_toArray, List.map_cons, List.map_nil]); first | done | rfl | (simp only [List.length_drop, List.length_take]; rfl)) ?_; (with_reducible refine (sweep_town_bags.calls (hGL := (by repeat (first | (with_reducible exact HGL.out) | (with_reducible exact GL_below HGL.out HB.out) | (with_reducible refine GL_alloc ?_ _) | (with_reducible refine GL_drewN ?_ _) | (with_reducible refine GL_drew ?_)))) k _ _ t198 _ _ t202 t206 _ ?side1 ?side2 ?side3 ?side4 A5.out).mono ?_); (case side1 => repeat (first | exact (Kd.V_reads' HO200.out).2.2 | (with_reducible refine Kd.C_alloc ?_ _) | (with_reducible refine Kd.C_drewN ?_ _) | (with_reducible refine Kd.C_drew ?_))); (case side2 => exact (Kd.V_reads' HO200.out).2.1); (case side3 => repeat (first | exact (Kd.R_reads' HO205.out).2.2 | (with_reducible refine Kd.C_alloc ?_ _) | (with_reducible refine Kd.C_drewN ?_ _) | (with_reducible refine Kd.C_drew ?_))); (case side4 => exact (Kd.R_reads' HO205.out).2.1); rintro e w11 ⟨v207, rfl, ho0, hb⟩; refine ⟨_, rfl, ?_⟩; have n0_ := Aside0.mk (Kd.V_elder' (by (with_reducible repeat (first | apply Kd.V_alloc | apply Kd.V_drewN | apply Kd.V_drew)); exact HO200.out) (Kd.R_base ho0) hb); have n1_ := Aside0.mk (Kd.R_elder' (by (with_reducible repeat (first | apply Kd.R_alloc | apply Kd.R_drewN | apply Kd.R_drew)); exact HO205.out) (Kd.R_base ho0) hb); have n2_ := Aside0.mk (Kd.R_lower (Kd.R_new' ho0 (Kd.R_lt (by (with_reducible repeat (first | apply Kd.R_alloc | apply Kd.R_drewN | apply Kd.R_drew)); exact HO205.out))) (below_size (by repeat (first | (with_reducible first | exact HB.out | apply below_alloc | apply pw_below_drewN | apply below_drew1) | exact HB.out)))); have n3_ := Aside0.mk (below_step (by repeat (first | (with_reducible first | exact HB.out | apply below_alloc | apply pw_below_drewN | apply below_drew1) | exact HB.out)) hb); clear HO200; clear HO205; clear HB; have HO200 := n0_; have HO205 := n1_; have HO208 := n2_; have HB := n3_; clear n0_ n1_ n2_ n3_; (try clear hb); (try clear hb2); (try clear hk); (try clear hi); (try clear ho0); obtain ⟨Ao12, co12, eo12⟩ := Kd.R_slice HO208.out; subst eo12) | ((with_reducible refine gate_callee (f := 51) rfl ?_); refine goesL_ (some 23) rfl rfl Tryd.func51 (by kernel_rfl) rfl #[.slice Ao12 t206.length co12] rfl (by (try simp only [List.map_toArray, List.map_cons, List.map_nil]); first | done | rfl | (simp only [List.length_drop, List.length_take]; rfl)) ?_; (with_reducible refine (sweep_follow.calls (hGL := (by repeat (first | (with_reducible exact HGL.out) | (with_reducible exact GL_below HGL.out HB.out) | (with_reducible refine GL_alloc ?_ _) | (with_reducible refine GL_drewN ?_ _) | (with_reducible refine GL_drew ?_)))) _ _ t206 t209 _ ?side1 ?side2 A6.out).mono ?_); (case side1 => repeat (first | exact (Kd.R_reads' HO208.out).2.2 | (with_reducible refine Kd.C_alloc ?_ _) | (with_reducible refine Kd.C_drewN ?_ _) | (with_reducible refine Kd.C_drew ?_))); (case side2 => exact (Kd.R_reads' HO208.out).2.1); rintro e w13 ⟨v210, rfl, ho0, hb⟩; refine ⟨_, rfl, ?_⟩; have n0_ := Aside0.mk (Kd.V_elder' (by (with_reducible repeat (first | apply Kd.V_alloc | apply Kd.V_drewN | apply Kd.V_drew)); exact HO200.out) (Kd.R_base ho0) hb); have n1_ := Aside0.mk (Kd.R_below (by (with_reducible repeat (first | apply Kd.R_alloc | apply Kd.R_drewN | apply Kd.R_drew)); exact HO205.out) hb); have n2_ := Aside0.mk (Kd.R_below (by (with_reducible repeat (first | apply Kd.R_alloc | apply Kd.R_drewN | apply Kd.R_drew)); exact HO208.out) hb); have n3_ := Aside0.mk (Kd.R_lower ho0 (below_size (by repeat (first | (with_reducible first | exact HB.out | apply below_alloc | apply pw_below_drewN | apply below_drew1) | exact HB.out)))); have n4_ := Aside0.mk (below_step (by repeat (first | (with_reducible first | exact HB.out | apply below_alloc | apply pw_below_drewN | apply below_drew1) | exact HB.out)) hb); clear HO200; clear HO205; clear HO208; clear HB; have HO200 := n0_; have HO205 := n1_; have HO208 := n2_; have HO211 := n3_; have HB := n4_; clear n0_ n1_ n2_ n3_ n4_; (try clear hb); (try clear hb2); (try clear hk); (try clear hi); (try clear ho0)))
    go_ret2
    exact ⟨_, by first | rfl | (simp [errW_none, errW_some] <;> rfl) | (simp [*, errW_none, errW_some] <;> rfl), by (with_reducible repeat (first | apply Kd.R_alloc | apply Kd.R_drewN | apply Kd.R_drew)); exact HO211.out, by repeat (first | (with_reducible first | exact HB.out | apply below_alloc | apply pw_below_drewN | apply below_drew1) | exact HB.out)⟩
  · replace c3 := Bool.eq_false_iff.mpr c3
    subst c3
    have H1 : (some (([] : List (S85)), 2)) = some (r1, r2) := by rw [if_neg (show ¬ (false = true) by decide)] at H; exact H
    clear H
    have H := H1
    clear H1
    simp only [Option.some.injEq, Prod.mk.injEq] at H
    obtain ⟨rfl, rfl⟩ := H
    go_enter Tryd.func23, Tryd.ntmps23
    go_wp2_with (first | ((with_reducible refine gate_callee (f := 49) rfl ?_); refine goesL_ (some 10) rfl rfl Tryd.func49 (by kernel_rfl) rfl #[.slice A0 l0.length c0] rfl (by (try simp only [List.map_toArray, List.map_cons, List.map_nil]); first | done | rfl | (simp only [List.length_drop, List.length_take]; rfl)) ?_; (with_reducible refine (sweep_read.calls k (fun k_ => k_ < w.heap.size) _ _ l0 t198 false _ ?side1 A2.out).mono ?_); (case side1 => exact Kd.V_mk HC0.out (Kd.F_below (Kd.C_F (Kd.heap_int .i64) HR0.out) (by repeat (first | (with_reducible first | exact HB.out | apply below_alloc | apply pw_below_drewN | apply below_drew1) | exact HB.out)))); rintro e w14 ⟨v199, rfl, ho0, hb⟩; refine ⟨_, rfl, ?_⟩; have n0_ := Aside0.mk (Kd.V_lower (Kd.V_mono (ok' := fun k_ => True) ho0 (fun k_ hk_ => trivial)) (below_size (by repeat (first | (with_reducible first | exact HB.out | apply below_alloc | apply pw_below_drewN | apply below_drew1) | exact HB.out)))); have n1_ := Aside0.mk (below_step (by repeat (first | (with_reducible first | exact HB.out | apply below_alloc | apply pw_below_drewN | apply below_drew1) | exact HB.out)) hb); clear HB; have HO200 := n0_; have HB := n1_; clear n0_ n1_; (try clear hb); (try clear hb2); (try clear hk); (try clear hi); (try clear ho0)))
    go_ret2
    exact ⟨_, by first | rfl | (simp [errW_none, errW_some] <;> rfl) | (simp [*, errW_none, errW_some] <;> rfl), by first | exact Kd.R_nil _ _ _ _ _ | exact Kd.N_nil _ _ _ _ _ | exact Kd.V_nil _ _ _ _ _ | exact Kd.Q_nil _ _ _ _ _ | exact Kd.S_nil _ _ _ _ _, by repeat (first | (with_reducible first | exact HB.out | apply below_alloc | apply pw_below_drewN | apply below_drew1) | exact HB.out)⟩

end Go.Proofs.YtijfddobandcdaaDoor.X
end
section
-- by ownprint.py (wip/tool), over the kit's print
namespace Go.Proofs.YtijfddobandcdaaDoor.X
open Go.RowKit Go.Proofs.YtijfddobandcdaaDoorW.PrintWords Go.Proofs.YtijfddobandcdaaDoorW.PrintLast Go.Proofs.YtijfddobandcdaaDoorW.PrintMore
attribute [local go_sem] max2_int min2_int max_two min_two max_three min_three max_four min_four
set_option linter.unusedVariables false
set_option linter.unusedSimpArgs false

/-! ### lampblacklaw03_SweepPlans: function 5 -/
def lampblacklaw03_SweepPlans.f (k : Nat) (l0 : List Int) : Option (Bool) := (lampblacklaw03_Few.f l0).bind fun t217 => ((sweep_Plan.f k t217).bind fun bt220 => ((lampblackref03_Valid.f k l0).bind fun t224 => (if t224 = true then ((lampblacklaw03_own.f k bt220.1).bind fun t226 => ((lampblackref03_Play.f l0 t226).bind fun bt229 => (if bt220.2 = 0 then (if bt229.2.2 = true then (if bt229.2.1 = true then (some false) else ((lampblackref03_PathWidth.f k l0).bind fun t232 => (if bt229.1 = (wrap64 (t232 + 1)) then ((lampblacklaw03_awake.f k).bind fun t233 => (some t233)) else (some false)))) else (some false)) else (some false)))) else (if (bt220.1.length : Int) = 0 then (if bt220.2 = 2 then ((lampblacklaw03_awake.f k).bind fun t225 => (some t225)) else (some false)) else (some false)))))
set_option maxHeartbeats 8000000 in
set_option maxRecDepth 100000 in
theorem lampblacklaw03_SweepPlans.calls (k : Nat) (A0 : Option Addr) (c0 : Nat) (l0 : List Int) (r : Bool) (w : World) (hGL : GL w) (hr0 : Kd.C (Kd.int .i64) w A0 l0.length l0) (hc0 : l0.length ≤ c0) (h : lampblacklaw03_SweepPlans.f k l0 = some r) :
    Calls Tryd.prog 5 #[.slice A0 l0.length c0] w fun e w' => e = .returned (.bool r) ∧ Below w.heap.size w w' := by
  have HGL := Aside0.mk hGL
  clear hGL
  have HR0 := Aside0.mk hr0
  have HC0 := Aside0.mk hc0
  clear hr0 hc0
  have HB := Aside0.mk (Below.refl w.heap.size w)
  have H : ((lampblacklaw03_Few.f l0).bind fun t217 => ((sweep_Plan.f k t217).bind fun bt220 => ((lampblackref03_Valid.f k l0).bind fun t224 => (if t224 = true then ((lampblacklaw03_own.f k bt220.1).bind fun t226 => ((lampblackref03_Play.f l0 t226).bind fun bt229 => (if bt220.2 = 0 then (if bt229.2.2 = true then (if bt229.2.1 = true then (some false) else ((lampblackref03_PathWidth.f k l0).bind fun t232 => (if bt229.1 = (wrap64 (t232 + 1)) then ((lampblacklaw03_awake.f k).bind fun t233 => (some t233)) else (some false)))) else (some false)) else (some false)))) else (if (bt220.1.length : Int) = 0 then (if bt220.2 = 2 then ((lampblacklaw03_awake.f k).bind fun t225 => (some t225)) else (some false)) else (some false)))))) = some r := h
  clear h
  replace H := Option.bind_eq_some_iff.mp H
  obtain ⟨t217, A20, H⟩ := H
  replace H : ((sweep_Plan.f k t217).bind fun bt220 => ((lampblackref03_Valid.f k l0).bind fun t224 => (if t224 = true then ((lampblacklaw03_own.f k bt220.1).bind fun t226 => ((lampblackref03_Play.f l0 t226).bind fun bt229 => (if bt220.2 = 0 then (if bt229.2.2 = true then (if bt229.2.1 = true then (some false) else ((lampblackref03_PathWidth.f k l0).bind fun t232 => (if bt229.1 = (wrap64 (t232 + 1)) then ((lampblacklaw03_awake.f k).bind fun t233 => (some t233)) else (some false)))) else (some false)) else (some false)))) else (if (bt220.1.length : Int) = 0 then (if bt220.2 = 2 then ((lampblacklaw03_awake.f k).bind fun t225 => (some t225)) else (some false)) else (some false))))) = some r := H
  have A2 := Aside0.mk A20
  clear A20
  replace H := Option.bind_eq_some_iff.mp H
  obtain ⟨⟨t220, t221⟩, A30, H⟩ := H
  replace H : ((lampblackref03_Valid.f k l0).bind fun t224 => (if t224 = true then ((lampblacklaw03_own.f k t220).bind fun t226 => ((lampblackref03_Play.f l0 t226).bind fun bt229 => (if t221 = 0 then (if bt229.2.2 = true then (if bt229.2.1 = true then (some false) else ((lampblackref03_PathWidth.f k l0).bind fun t232 => (if bt229.1 = (wrap64 (t232 + 1)) then ((lampblacklaw03_awake.f k).bind fun t233 => (some t233)) else (some false)))) else (some false)) else (some false)))) else (if (t220.length : Int) = 0 then (if t221 = 2 then ((lampblacklaw03_awake.f k).bind fun t225 => (some t225)) else (some false)) else (some false)))) = some r := H
  have A3 := Aside0.mk A30
  clear A30
  replace H := Option.bind_eq_some_iff.mp H
  obtain ⟨t224, A40, H⟩ := H
  replace H : (if t224 = true then ((lampblacklaw03_own.f k t220).bind fun t226 => ((lampblackref03_Play.f l0 t226).bind fun bt229 => (if t221 = 0 then (if bt229.2.2 = true then (if bt229.2.1 = true then (some false) else ((lampblackref03_PathWidth.f k l0).bind fun t232 => (if bt229.1 = (wrap64 (t232 + 1)) then ((lampblacklaw03_awake.f k).bind fun t233 => (some t233)) else (some false)))) else (some false)) else (some false)))) else (if (t220.length : Int) = 0 then (if t221 = 2 then ((lampblacklaw03_awake.f k).bind fun t225 => (some t225)) else (some false)) else (some false))) = some r := H
  have A4 := Aside0.mk A40
  clear A40
  by_cases c5 : t224 = true
  · subst c5
    have H1 : ((lampblacklaw03_own.f k t220).bind fun t226 => ((lampblackref03_Play.f l0 t226).bind fun bt229 => (if t221 = 0 then (if bt229.2.2 = true then (if bt229.2.1 = true then (some false) else ((lampblackref03_PathWidth.f k l0).bind fun t232 => (if bt229.1 = (wrap64 (t232 + 1)) then ((lampblacklaw03_awake.f k).bind fun t233 => (some t233)) else (some false)))) else (some false)) else (some false)))) = some r := by rw [if_pos rfl] at H; exact H
    clear H
    have H := H1
    clear H1
    replace H := Option.bind_eq_some_iff.mp H
    obtain ⟨t226, A60, H⟩ := H
    replace H : ((lampblackref03_Play.f l0 t226).bind fun bt229 => (if t221 = 0 then (if bt229.2.2 = true then (if bt229.2.1 = true then (some false) else ((lampblackref03_PathWidth.f k l0).bind fun t232 => (if bt229.1 = (wrap64 (t232 + 1)) then ((lampblacklaw03_awake.f k).bind fun t233 => (some t233)) else (some false)))) else (some false)) else (some false))) = some r := H
    have A6 := Aside0.mk A60
    clear A60
    replace H := Option.bind_eq_some_iff.mp H
    obtain ⟨⟨t229, t230, t231⟩, A70, H⟩ := H
    replace H : (if t221 = 0 then (if t231 = true then (if t230 = true then (some false) else ((lampblackref03_PathWidth.f k l0).bind fun t232 => (if t229 = (wrap64 (t232 + 1)) then ((lampblacklaw03_awake.f k).bind fun t233 => (some t233)) else (some false)))) else (some false)) else (some false)) = some r := H
    have A7 := Aside0.mk A70
    clear A70
    by_cases c8 : t221 = 0
    · rw [if_pos c8] at H
      have c8b0 : (t221 == 0) = true := beq_iff_eq.mpr c8
      have c8b1 : (t221 != 0) = false := bne_eq_false_iff_eq.mpr c8
      clear c8
      by_cases c9 : t231 = true
      · subst c9
        have H1 : (if t230 = true then (some false) else ((lampblackref03_PathWidth.f k l0).bind fun t232 => (if t229 = (wrap64 (t232 + 1)) then ((lampblacklaw03_awake.f k).bind fun t233 => (some t233)) else (some false)))) = some r := by rw [if_pos rfl] at H; exact H
        clear H
        have H := H1
        clear H1
        by_cases c10 : t230 = true
        · subst c10
          have H1 : (some false) = some r := by rw [if_pos rfl] at H; exact H
          clear H
          have H := H1
          clear H1
          obtain rfl := Option.some.inj H
          go_enter Tryd.func5, Tryd.ntmps5
          go_wp2_with (first | ((with_reducible refine gate_callee (f := 18) rfl ?_); refine goesL_ (some 10) rfl rfl Tryd.func18 (by kernel_rfl) rfl #[.slice A0 l0.length c0] rfl (by (try simp only [List.map_toArray, List.map_cons, List.map_nil]); first | done | rfl | (simp only [List.length_drop, List.length_take]; rfl)) ?_; (with_reducible refine (lampblacklaw03_Few.calls _ _ l0 t217 _ ?side1 ?side2 A2.out).mono ?_); (case side1 => repeat (first | exact HR0.out | (with_reducible refine Kd.C_alloc ?_ _) | (with_reducible refine Kd.C_drewN ?_ _) | (with_reducible refine Kd.C_drew ?_))); (case side2 => exact HC0.out); rintro e w11 ⟨v218, rfl, ho0, hb⟩; refine ⟨_, rfl, ?_⟩; have n0_ := Aside0.mk (Kd.R_lower ho0 (below_size (by repeat (first | (with_reducible first | exact HB.out | apply below_alloc | apply pw_below_drewN | apply below_drew1) | exact HB.out)))); have n1_ := Aside0.mk (below_step (by repeat (first | (with_reducible first | exact HB.out | apply below_alloc | apply pw_below_drewN | apply below_drew1) | exact HB.out)) hb); clear HB; have HO219 := n0_; have HB := n1_; clear n0_ n1_; (try clear hb); (try clear hb2); (try clear hk); (try clear hi); (try clear ho0); obtain ⟨Ao12, co12, eo12⟩ := Kd.R_slice HO219.out; subst eo12) | ((with_reducible refine gate_callee (f := 23) rfl ?_); refine goesL_ (some 11) rfl rfl Tryd.func23 (by kernel_rfl) rfl #[.slice Ao12 t217.length co12] rfl (by (try simp only [List.map_toArray, List.map_cons, List.map_nil]); first | done | rfl | (simp only [List.length_drop, List.length_take]; rfl)) ?_; (with_reducible refine (sweep_Plan.calls (hGL := (by repeat (first | (with_reducible exact HGL.out) | (with_reducible exact GL_below HGL.out HB.out) | (with_reducible refine GL_alloc ?_ _) | (with_reducible refine GL_drewN ?_ _) | (with_reducible refine GL_drew ?_)))) k _ _ t217 t220 t221 _ ?side1 ?side2 A3.out).mono ?_); (case side1 => repeat (first | exact (Kd.R_reads' HO219.out).2.2 | (with_reducible refine Kd.C_alloc ?_ _) | (with_reducible refine Kd.C_drewN ?_ _) | (with_reducible refine Kd.C_drew ?_))); (case side2 => exact (Kd.R_reads' HO219.out).2.1); rintro e w13 ⟨v222, rfl, ho0, hb⟩; refine ⟨_, rfl, ?_⟩; have n0_ := Aside0.mk (Kd.R_below (by (with_reducible repeat (first | apply Kd.R_alloc | apply Kd.R_drewN | apply Kd.R_drew)); exact HO219.out) hb); have n1_ := Aside0.mk (Kd.R_lower ho0 (below_size (by repeat (first | (with_reducible first | exact HB.out | apply below_alloc | apply pw_below_drewN | apply below_drew1) | exact HB.out)))); have n2_ := Aside0.mk (below_step (by repeat (first | (with_reducible first | exact HB.out | apply below_alloc | apply pw_below_drewN | apply below_drew1) | exact HB.out)) hb); clear HO219; clear HB; have HO219 := n0_; have HO223 := n1_; have HB := n2_; clear n0_ n1_ n2_; (try clear hb); (try clear hb2); (try clear hk); (try clear hi); (try clear ho0)) | ((with_reducible refine gate_callee (f := 19) rfl ?_); refine goesL_ (some 15) rfl rfl Tryd.func19 (by kernel_rfl) rfl #[.slice A0 l0.length c0] rfl (by (try simp only [List.map_toArray, List.map_cons, List.map_nil]); first | done | rfl | (simp only [List.length_drop, List.length_take]; rfl)) ?_; (with_reducible refine (lampblackref03_Valid.calls k _ _ l0 true _ ?side1 ?side2 A4.out).mono ?_); (case side1 => repeat (first | exact (Kd.C_below HR0.out HB.out) | (with_reducible refine Kd.C_alloc ?_ _) | (with_reducible refine Kd.C_drewN ?_ _) | (with_reducible refine Kd.C_drew ?_))); (case side2 => exact HC0.out); rintro e w' ⟨rfl, ⟨nd, rfl⟩⟩; refine ⟨_, rfl, ?_⟩; obtain ⟨Ao14, co14, eo14⟩ := Kd.R_slice HO223.out; subst eo14) | ((with_reducible refine gate_callee (f := 25) rfl ?_); refine goesL_ (some 30) rfl rfl Tryd.func25 (by kernel_rfl) rfl #[.slice Ao14 t220.length co14] rfl (by (try simp only [List.map_toArray, List.map_cons, List.map_nil]); first | done | rfl | (simp only [List.length_drop, List.length_take]; rfl)) ?_; (with_reducible refine (lampblacklaw03_own.calls k _ _ t220 t226 _ ?side1 ?side2 A6.out).mono ?_); (case side1 => repeat (first | exact (Kd.R_reads' HO223.out).2.2 | (with_reducible refine Kd.C_alloc ?_ _) | (with_reducible refine Kd.C_drewN ?_ _) | (with_reducible refine Kd.C_drew ?_))); (case side2 => exact (Kd.R_reads' HO223.out).2.1); rintro e w15 ⟨v227, rfl, ho0, hb⟩; refine ⟨_, rfl, ?_⟩; have n0_ := Aside0.mk (Kd.R_below (by (with_reducible repeat (first | apply Kd.R_alloc | apply Kd.R_drewN | apply Kd.R_drew)); exact HO219.out) hb); have n1_ := Aside0.mk (Kd.R_below (by (with_reducible repeat (first | apply Kd.R_alloc | apply Kd.R_drewN | apply Kd.R_drew)); exact HO223.out) hb); have n2_ := Aside0.mk (Kd.R_lower ho0 (below_size (by repeat (first | (with_reducible first | exact HB.out | apply below_alloc | apply pw_below_drewN | apply below_drew1) | exact HB.out)))); have n3_ := Aside0.mk (below_step (by repeat (first | (with_reducible first | exact HB.out | apply below_alloc | apply pw_below_drewN | apply below_drew1) | exact HB.out)) hb); clear HO219; clear HO223; clear HB; have HO219 := n0_; have HO223 := n1_; have HO228 := n2_; have HB := n3_; clear n0_ n1_ n2_ n3_; (try clear hb); (try clear hb2); (try clear hk); (try clear hi); (try clear ho0); obtain ⟨Ao16, co16, eo16⟩ := Kd.R_slice HO228.out; subst eo16) | ((with_reducible refine gate_callee (f := 24) rfl ?_); refine goesL_ (some 31) rfl rfl Tryd.func24 (by kernel_rfl) rfl #[.slice A0 l0.length c0, .slice Ao16 t226.length co16] rfl (by (try simp only [List.map_toArray, List.map_cons, List.map_nil]); first | done | rfl | (simp only [List.length_drop, List.length_take]; rfl)) ?_; (with_reducible refine (lampblackref03_Play.calls _ _ l0 _ _ t226 t229 true true _ ?side1 ?side2 ?side3 ?side4 A7.out).mono ?_); (case side1 => repeat (first | exact (Kd.C_below HR0.out HB.out) | (with_reducible refine Kd.C_alloc ?_ _) | (with_reducible refine Kd.C_drewN ?_ _) | (with_reducible refine Kd.C_drew ?_))); (case side2 => exact HC0.out); (case side3 => repeat (first | exact (Kd.R_reads' HO228.out).2.2 | (with_reducible refine Kd.C_alloc ?_ _) | (with_reducible refine Kd.C_drewN ?_ _) | (with_reducible refine Kd.C_drew ?_))); (case side4 => exact (Kd.R_reads' HO228.out).2.1); rintro e w17 ⟨rfl, hb⟩; refine ⟨_, rfl, ?_⟩; have n0_ := Aside0.mk (Kd.R_below (by (with_reducible repeat (first | apply Kd.R_alloc | apply Kd.R_drewN | apply Kd.R_drew)); exact HO219.out) hb); have n1_ := Aside0.mk (Kd.R_below (by (with_reducible repeat (first | apply Kd.R_alloc | apply Kd.R_drewN | apply Kd.R_drew)); exact HO223.out) hb); have n2_ := Aside0.mk (Kd.R_below (by (with_reducible repeat (first | apply Kd.R_alloc | apply Kd.R_drewN | apply Kd.R_drew)); exact HO228.out) hb); have n3_ := Aside0.mk (below_step (by repeat (first | (with_reducible first | exact HB.out | apply below_alloc | apply pw_below_drewN | apply below_drew1) | exact HB.out)) hb); clear HO219; clear HO223; clear HO228; clear HB; have HO219 := n0_; have HO223 := n1_; have HO228 := n2_; have HB := n3_; clear n0_ n1_ n2_ n3_; (try clear hb); (try clear hb2); (try clear hk); (try clear hi)))
          go_ret
          exact ⟨by first | rfl | (simp [errW_none, errW_some] <;> rfl) | (simp [*, errW_none, errW_some] <;> rfl), by repeat (first | (with_reducible first | exact HB.out | apply below_alloc | apply pw_below_drewN | apply below_drew1) | exact HB.out)⟩
        · replace c10 := Bool.eq_false_iff.mpr c10
          subst c10
          have H1 : ((lampblackref03_PathWidth.f k l0).bind fun t232 => (if t229 = (wrap64 (t232 + 1)) then ((lampblacklaw03_awake.f k).bind fun t233 => (some t233)) else (some false))) = some r := by rw [if_neg (show ¬ (false = true) by decide)] at H; exact H
          clear H
          have H := H1
          clear H1
          replace H := Option.bind_eq_some_iff.mp H
          obtain ⟨t232, A180, H⟩ := H
          replace H : (if t229 = (wrap64 (t232 + 1)) then ((lampblacklaw03_awake.f k).bind fun t233 => (some t233)) else (some false)) = some r := H
          have A18 := Aside0.mk A180
          clear A180
          by_cases c19 : t229 = (wrap64 (t232 + 1))
          · rw [if_pos c19] at H
            have c19b0 : (t229 == (wrap64 (t232 + 1))) = true := beq_iff_eq.mpr c19
            have c19b1 : (t229 != (wrap64 (t232 + 1))) = false := bne_eq_false_iff_eq.mpr c19
            clear c19
            replace H := Option.bind_eq_some_iff.mp H
            obtain ⟨t233, A200, H⟩ := H
            replace H : (some t233) = some r := H
            have A20 := Aside0.mk A200
            clear A200
            obtain rfl := Option.some.inj H
            go_enter Tryd.func5, Tryd.ntmps5
            go_wp2_with (first | ((with_reducible refine gate_callee (f := 18) rfl ?_); refine goesL_ (some 10) rfl rfl Tryd.func18 (by kernel_rfl) rfl #[.slice A0 l0.length c0] rfl (by (try simp only [List.map_toArray, List.map_cons, List.map_nil]); first | done | rfl | (simp only [List.length_drop, List.length_take]; rfl)) ?_; (with_reducible refine (lampblacklaw03_Few.calls _ _ l0 t217 _ ?side1 ?side2 A2.out).mono ?_); (case side1 => repeat (first | exact HR0.out | (with_reducible refine Kd.C_alloc ?_ _) | (with_reducible refine Kd.C_drewN ?_ _) | (with_reducible refine Kd.C_drew ?_))); (case side2 => exact HC0.out); rintro e w21 ⟨v218, rfl, ho0, hb⟩; refine ⟨_, rfl, ?_⟩; have n0_ := Aside0.mk (Kd.R_lower ho0 (below_size (by repeat (first | (with_reducible first | exact HB.out | apply below_alloc | apply pw_below_drewN | apply below_drew1) | exact HB.out)))); have n1_ := Aside0.mk (below_step (by repeat (first | (with_reducible first | exact HB.out | apply below_alloc | apply pw_below_drewN | apply below_drew1) | exact HB.out)) hb); clear HB; have HO219 := n0_; have HB := n1_; clear n0_ n1_; (try clear hb); (try clear hb2); (try clear hk); (try clear hi); (try clear ho0); obtain ⟨Ao22, co22, eo22⟩ := Kd.R_slice HO219.out; subst eo22) | ((with_reducible refine gate_callee (f := 23) rfl ?_); refine goesL_ (some 11) rfl rfl Tryd.func23 (by kernel_rfl) rfl #[.slice Ao22 t217.length co22] rfl (by (try simp only [List.map_toArray, List.map_cons, List.map_nil]); first | done | rfl | (simp only [List.length_drop, List.length_take]; rfl)) ?_; (with_reducible refine (sweep_Plan.calls (hGL := (by repeat (first | (with_reducible exact HGL.out) | (with_reducible exact GL_below HGL.out HB.out) | (with_reducible refine GL_alloc ?_ _) | (with_reducible refine GL_drewN ?_ _) | (with_reducible refine GL_drew ?_)))) k _ _ t217 t220 t221 _ ?side1 ?side2 A3.out).mono ?_); (case side1 => repeat (first | exact (Kd.R_reads' HO219.out).2.2 | (with_reducible refine Kd.C_alloc ?_ _) | (with_reducible refine Kd.C_drewN ?_ _) | (with_reducible refine Kd.C_drew ?_))); (case side2 => exact (Kd.R_reads' HO219.out).2.1); rintro e w23 ⟨v222, rfl, ho0, hb⟩; refine ⟨_, rfl, ?_⟩; have n0_ := Aside0.mk (Kd.R_below (by (with_reducible repeat (first | apply Kd.R_alloc | apply Kd.R_drewN | apply Kd.R_drew)); exact HO219.out) hb); have n1_ := Aside0.mk (Kd.R_lower ho0 (below_size (by repeat (first | (with_reducible first | exact HB.out | apply below_alloc | apply pw_below_drewN | apply below_drew1) | exact HB.out)))); have n2_ := Aside0.mk (below_step (by repeat (first | (with_reducible first | exact HB.out | apply below_alloc | apply pw_below_drewN | apply below_drew1) | exact HB.out)) hb); clear HO219; clear HB; have HO219 := n0_; have HO223 := n1_; have HB := n2_; clear n0_ n1_ n2_; (try clear hb); (try clear hb2); (try clear hk); (try clear hi); (try clear ho0)) | ((with_reducible refine gate_callee (f := 19) rfl ?_); refine goesL_ (some 15) rfl rfl Tryd.func19 (by kernel_rfl) rfl #[.slice A0 l0.length c0] rfl (by (try simp only [List.map_toArray, List.map_cons, List.map_nil]); first | done | rfl | (simp only [List.length_drop, List.length_take]; rfl)) ?_; (with_reducible refine (lampblackref03_Valid.calls k _ _ l0 true _ ?side1 ?side2 A4.out).mono ?_); (case side1 => repeat (first | exact (Kd.C_below HR0.out HB.out) | (with_reducible refine Kd.C_alloc ?_ _) | (with_reducible refine Kd.C_drewN ?_ _) | (with_reducible refine Kd.C_drew ?_))); (case side2 => exact HC0.out); rintro e w' ⟨rfl, ⟨nd, rfl⟩⟩; refine ⟨_, rfl, ?_⟩; obtain ⟨Ao24, co24, eo24⟩ := Kd.R_slice HO223.out; subst eo24) | ((with_reducible refine gate_callee (f := 25) rfl ?_); refine goesL_ (some 30) rfl rfl Tryd.func25 (by kernel_rfl) rfl #[.slice Ao24 t220.length co24] rfl (by (try simp only [List.map_toArray, List.map_cons, List.map_nil]); first | done | rfl | (simp only [List.length_drop, List.length_take]; rfl)) ?_; (with_reducible refine (lampblacklaw03_own.calls k _ _ t220 t226 _ ?side1 ?side2 A6.out).mono ?_); (case side1 => repeat (first | exact (Kd.R_reads' HO223.out).2.2 | (with_reducible refine Kd.C_alloc ?_ _) | (with_reducible refine Kd.C_drewN ?_ _) | (with_reducible refine Kd.C_drew ?_))); (case side2 => exact (Kd.R_reads' HO223.out).2.1); rintro e w25 ⟨v227, rfl, ho0, hb⟩; refine ⟨_, rfl, ?_⟩; have n0_ := Aside0.mk (Kd.R_below (by (with_reducible repeat (first | apply Kd.R_alloc | apply Kd.R_drewN | apply Kd.R_drew)); exact HO219.out) hb); have n1_ := Aside0.mk (Kd.R_below (by (with_reducible repeat (first | apply Kd.R_alloc | apply Kd.R_drewN | apply Kd.R_drew)); exact HO223.out) hb); have n2_ := Aside0.mk (Kd.R_lower ho0 (below_size (by repeat (first | (with_reducible first | exact HB.out | apply below_alloc | apply pw_below_drewN | apply below_drew1) | exact HB.out)))); have n3_ := Aside0.mk (below_step (by repeat (first | (with_reducible first | exact HB.out | apply below_alloc | apply pw_below_drewN | apply below_drew1) | exact HB.out)) hb); clear HO219; clear HO223; clear HB; have HO219 := n0_; have HO223 := n1_; have HO228 := n2_; have HB := n3_; clear n0_ n1_ n2_ n3_; (try clear hb); (try clear hb2); (try clear hk); (try clear hi); (try clear ho0); obtain ⟨Ao26, co26, eo26⟩ := Kd.R_slice HO228.out; subst eo26) | ((with_reducible refine gate_callee (f := 24) rfl ?_); refine goesL_ (some 31) rfl rfl Tryd.func24 (by kernel_rfl) rfl #[.slice A0 l0.length c0, .slice Ao26 t226.length co26] rfl (by (try simp only [List.map_toArray, List.map_cons, List.map_nil]); first | done | rfl | (simp only [List.length_drop, List.length_take]; rfl)) ?_; (with_reducible refine (lampblackref03_Play.calls _ _ l0 _ _ t226 t229 false true _ ?side1 ?side2 ?side3 ?side4 A7.out).mono ?_); (case side1 => repeat (first | exact (Kd.C_below HR0.out HB.out) | (with_reducible refine Kd.C_alloc ?_ _) | (with_reducible refine Kd.C_drewN ?_ _) | (with_reducible refine Kd.C_drew ?_))); (case side2 => exact HC0.out); (case side3 => repeat (first | exact (Kd.R_reads' HO228.out).2.2 | (with_reducible refine Kd.C_alloc ?_ _) | (with_reducible refine Kd.C_drewN ?_ _) | (with_reducible refine Kd.C_drew ?_))); (case side4 => exact (Kd.R_reads' HO228.out).2.1); rintro e w27 ⟨rfl, hb⟩; refine ⟨_, rfl, ?_⟩; have n0_ := Aside0.mk (Kd.R_below (by (with_reducible repeat (first | apply Kd.R_alloc | apply Kd.R_drewN | apply Kd.R_drew)); exact HO219.out) hb); have n1_ := Aside0.mk (Kd.R_below (by (with_reducible repeat (first | apply Kd.R_alloc | apply Kd.R_drewN | apply Kd.R_drew)); exact HO223.out) hb); have n2_ := Aside0.mk (Kd.R_below (by (with_reducible repeat (first | apply Kd.R_alloc | apply Kd.R_drewN | apply Kd.R_drew)); exact HO228.out) hb); have n3_ := Aside0.mk (below_step (by repeat (first | (with_reducible first | exact HB.out | apply below_alloc | apply pw_below_drewN | apply below_drew1) | exact HB.out)) hb); clear HO219; clear HO223; clear HO228; clear HB; have HO219 := n0_; have HO223 := n1_; have HO228 := n2_; have HB := n3_; clear n0_ n1_ n2_ n3_; (try clear hb); (try clear hb2); (try clear hk); (try clear hi)) | (go_at_call 21; (with_reducible refine (lampblackref03_PathWidth.calls k _ _ l0 t232 _ ?side1 ?side2 A18.out).mono ?_); (case side1 => repeat (first | exact (Kd.C_below HR0.out HB.out) | (with_reducible refine Kd.C_alloc ?_ _) | (with_reducible refine Kd.C_drewN ?_ _) | (with_reducible refine Kd.C_drew ?_))); (case side2 => exact HC0.out); rintro e w28 ⟨rfl, hb⟩; have n0_ := Aside0.mk (Kd.R_below (by (with_reducible repeat (first | apply Kd.R_alloc | apply Kd.R_drewN | apply Kd.R_drew)); exact HO219.out) hb); have n1_ := Aside0.mk (Kd.R_below (by (with_reducible repeat (first | apply Kd.R_alloc | apply Kd.R_drewN | apply Kd.R_drew)); exact HO223.out) hb); have n2_ := Aside0.mk (Kd.R_below (by (with_reducible repeat (first | apply Kd.R_alloc | apply Kd.R_drewN | apply Kd.R_drew)); exact HO228.out) hb); have n3_ := Aside0.mk (below_step (by repeat (first | (with_reducible first | exact HB.out | apply below_alloc | apply pw_below_drewN | apply below_drew1) | exact HB.out)) hb); clear HO219; clear HO223; clear HO228; clear HB; have HO219 := n0_; have HO223 := n1_; have HO228 := n2_; have HB := n3_; clear n0_ n1_ n2_ n3_; (try clear hb); (try clear hb2); (try clear hk); (try clear hi)) | (go_at_call 20; (with_reducible refine (lampblacklaw03_awake.calls (hGL := (by repeat (first | (with_reducible exact HGL.out) | (with_reducible exact GL_below HGL.out HB.out) | (with_reducible refine GL_alloc ?_ _) | (with_reducible refine GL_drewN ?_ _) | (with_reducible refine GL_drew ?_)))) k  t233 _ A20.out).mono ?_); rintro e w29 ⟨rfl, hb⟩; have n0_ := Aside0.mk (Kd.R_below (by (with_reducible repeat (first | apply Kd.R_alloc | apply Kd.R_drewN | apply Kd.R_drew)); exact HO219.out) hb); have n1_ := Aside0.mk (Kd.R_below (by (with_reducible repeat (first | apply Kd.R_alloc | apply Kd.R_drewN | apply Kd.R_drew)); exact HO223.out) hb); have n2_ := Aside0.mk (Kd.R_below (by (with_reducible repeat (first | apply Kd.R_alloc | apply Kd.R_drewN | apply Kd.R_drew)); exact HO228.out) hb); have n3_ := Aside0.mk (below_step (by repeat (first | (with_reducible first | exact HB.out | apply below_alloc | apply pw_below_drewN | apply below_drew1) | exact HB.out)) hb); clear HO219; clear HO223; clear HO228; clear HB; have HO219 := n0_; have HO223 := n1_; have HO228 := n2_; have HB := n3_; clear n0_ n1_ n2_ n3_; (try clear hb); (try clear hb2); (try clear hk); (try clear hi)))
            go_ret
            exact ⟨by first | rfl | (simp [errW_none, errW_some] <;> rfl) | (simp [*, errW_none, errW_some] <;> rfl), by repeat (first | (with_reducible first | exact HB.out | apply below_alloc | apply pw_below_drewN | apply below_drew1) | exact HB.out)⟩
          · rw [if_neg c19] at H
            have c19b0 : (t229 == (wrap64 (t232 + 1))) = false := beq_eq_false_iff_ne.mpr c19
            have c19b1 : (t229 != (wrap64 (t232 + 1))) = true := bne_iff_ne.mpr c19
            obtain rfl := Option.some.inj H
            go_enter Tryd.func5, Tryd.ntmps5
            go_wp2_with (first | ((with_reducible refine gate_callee (f := 18) rfl ?_); refine goesL_ (some 10) rfl rfl Tryd.func18 (by kernel_rfl) rfl #[.slice A0 l0.length c0] rfl (by (try simp only [List.map_toArray, List.map_cons, List.map_nil]); first | done | rfl | (simp only [List.length_drop, List.length_take]; rfl)) ?_; (with_reducible refine (lampblacklaw03_Few.calls _ _ l0 t217 _ ?side1 ?side2 A2.out).mono ?_); (case side1 => repeat (first | exact HR0.out | (with_reducible refine Kd.C_alloc ?_ _) | (with_reducible refine Kd.C_drewN ?_ _) | (with_reducible refine Kd.C_drew ?_))); (case side2 => exact HC0.out); rintro e w30 ⟨v218, rfl, ho0, hb⟩; refine ⟨_, rfl, ?_⟩; have n0_ := Aside0.mk (Kd.R_lower ho0 (below_size (by repeat (first | (with_reducible first | exact HB.out | apply below_alloc | apply pw_below_drewN | apply below_drew1) | exact HB.out)))); have n1_ := Aside0.mk (below_step (by repeat (first | (with_reducible first | exact HB.out | apply below_alloc | apply pw_below_drewN | apply below_drew1) | exact HB.out)) hb); clear HB; have HO219 := n0_; have HB := n1_; clear n0_ n1_; (try clear hb); (try clear hb2); (try clear hk); (try clear hi); (try clear ho0); obtain ⟨Ao31, co31, eo31⟩ := Kd.R_slice HO219.out; subst eo31) | ((with_reducible refine gate_callee (f := 23) rfl ?_); refine goesL_ (some 11) rfl rfl Tryd.func23 (by kernel_rfl) rfl #[.slice Ao31 t217.length co31] rfl (by (try simp only [List.map_toArray, List.map_cons, List.map_nil]); first | done | rfl | (simp only [List.length_drop, List.length_take]; rfl)) ?_; (with_reducible refine (sweep_Plan.calls (hGL := (by repeat (first | (with_reducible exact HGL.out) | (with_reducible exact GL_below HGL.out HB.out) | (with_reducible refine GL_alloc ?_ _) | (with_reducible refine GL_drewN ?_ _) | (with_reducible refine GL_drew ?_)))) k _ _ t217 t220 t221 _ ?side1 ?side2 A3.out).mono ?_); (case side1 => repeat (first | exact (Kd.R_reads' HO219.out).2.2 | (with_reducible refine Kd.C_alloc ?_ _) | (with_reducible refine Kd.C_drewN ?_ _) | (with_reducible refine Kd.C_drew ?_))); (case side2 => exact (Kd.R_reads' HO219.out).2.1); rintro e w32 ⟨v222, rfl, ho0, hb⟩; refine ⟨_, rfl, ?_⟩; have n0_ := Aside0.mk (Kd.R_below (by (with_reducible repeat (first | apply Kd.R_alloc | apply Kd.R_drewN | apply Kd.R_drew)); exact HO219.out) hb); have n1_ := Aside0.mk (Kd.R_lower ho0 (below_size (by repeat (first | (with_reducible first | exact HB.out | apply below_alloc | apply pw_below_drewN | apply below_drew1) | exact HB.out)))); have n2_ := Aside0.mk (below_step (by repeat (first | (with_reducible first | exact HB.out | apply below_alloc | apply pw_below_drewN | apply below_drew1) | exact HB.out)) hb); clear HO219; clear HB; have HO219 := n0_; have HO223 := n1_; have HB := n2_; clear n0_ n1_ n2_; (try clear hb); (try clear hb2); (try clear hk); (try clear hi); (try clear ho0)) | ((with_reducible refine gate_callee (f := 19) rfl ?_); refine goesL_ (some 15) rfl rfl Tryd.func19 (by kernel_rfl) rfl #[.slice A0 l0.length c0] rfl (by (try simp only [List.map_toArray, List.map_cons, List.map_nil]); first | done | rfl | (simp only [List.length_drop, List.length_take]; rfl)) ?_; (with_reducible refine (lampblackref03_Valid.calls k _ _ l0 true _ ?side1 ?side2 A4.out).mono ?_); (case side1 => repeat (first | exact (Kd.C_below HR0.out HB.out) | (with_reducible refine Kd.C_alloc ?_ _) | (with_reducible refine Kd.C_drewN ?_ _) | (with_reducible refine Kd.C_drew ?_))); (case side2 => exact HC0.out); rintro e w' ⟨rfl, ⟨nd, rfl⟩⟩; refine ⟨_, rfl, ?_⟩; obtain ⟨Ao33, co33, eo33⟩ := Kd.R_slice HO223.out; subst eo33) | ((with_reducible refine gate_callee (f := 25) rfl ?_); refine goesL_ (some 30) rfl rfl Tryd.func25 (by kernel_rfl) rfl #[.slice Ao33 t220.length co33] rfl (by (try simp only [List.map_toArray, List.map_cons, List.map_nil]); first | done | rfl | (simp only [List.length_drop, List.length_take]; rfl)) ?_; (with_reducible refine (lampblacklaw03_own.calls k _ _ t220 t226 _ ?side1 ?side2 A6.out).mono ?_); (case side1 => repeat (first | exact (Kd.R_reads' HO223.out).2.2 | (with_reducible refine Kd.C_alloc ?_ _) | (with_reducible refine Kd.C_drewN ?_ _) | (with_reducible refine Kd.C_drew ?_))); (case side2 => exact (Kd.R_reads' HO223.out).2.1); rintro e w34 ⟨v227, rfl, ho0, hb⟩; refine ⟨_, rfl, ?_⟩; have n0_ := Aside0.mk (Kd.R_below (by (with_reducible repeat (first | apply Kd.R_alloc | apply Kd.R_drewN | apply Kd.R_drew)); exact HO219.out) hb); have n1_ := Aside0.mk (Kd.R_below (by (with_reducible repeat (first | apply Kd.R_alloc | apply Kd.R_drewN | apply Kd.R_drew)); exact HO223.out) hb); have n2_ := Aside0.mk (Kd.R_lower ho0 (below_size (by repeat (first | (with_reducible first | exact HB.out | apply below_alloc | apply pw_below_drewN | apply below_drew1) | exact HB.out)))); have n3_ := Aside0.mk (below_step (by repeat (first | (with_reducible first | exact HB.out | apply below_alloc | apply pw_below_drewN | apply below_drew1) | exact HB.out)) hb); clear HO219; clear HO223; clear HB; have HO219 := n0_; have HO223 := n1_; have HO228 := n2_; have HB := n3_; clear n0_ n1_ n2_ n3_; (try clear hb); (try clear hb2); (try clear hk); (try clear hi); (try clear ho0); obtain ⟨Ao35, co35, eo35⟩ := Kd.R_slice HO228.out; subst eo35) | ((with_reducible refine gate_callee (f := 24) rfl ?_); refine goesL_ (some 31) rfl rfl Tryd.func24 (by kernel_rfl) rfl #[.slice A0 l0.length c0, .slice Ao35 t226.length co35] rfl (by (try simp only [List.map_toArray, List.map_cons, List.map_nil]); first | done | rfl | (simp only [List.length_drop, List.length_take]; rfl)) ?_; (with_reducible refine (lampblackref03_Play.calls _ _ l0 _ _ t226 t229 false true _ ?side1 ?side2 ?side3 ?side4 A7.out).mono ?_); (case side1 => repeat (first | exact (Kd.C_below HR0.out HB.out) | (with_reducible refine Kd.C_alloc ?_ _) | (with_reducible refine Kd.C_drewN ?_ _) | (with_reducible refine Kd.C_drew ?_))); (case side2 => exact HC0.out); (case side3 => repeat (first | exact (Kd.R_reads' HO228.out).2.2 | (with_reducible refine Kd.C_alloc ?_ _) | (with_reducible refine Kd.C_drewN ?_ _) | (with_reducible refine Kd.C_drew ?_))); (case side4 => exact (Kd.R_reads' HO228.out).2.1); rintro e w36 ⟨rfl, hb⟩; refine ⟨_, rfl, ?_⟩; have n0_ := Aside0.mk (Kd.R_below (by (with_reducible repeat (first | apply Kd.R_alloc | apply Kd.R_drewN | apply Kd.R_drew)); exact HO219.out) hb); have n1_ := Aside0.mk (Kd.R_below (by (with_reducible repeat (first | apply Kd.R_alloc | apply Kd.R_drewN | apply Kd.R_drew)); exact HO223.out) hb); have n2_ := Aside0.mk (Kd.R_below (by (with_reducible repeat (first | apply Kd.R_alloc | apply Kd.R_drewN | apply Kd.R_drew)); exact HO228.out) hb); have n3_ := Aside0.mk (below_step (by repeat (first | (with_reducible first | exact HB.out | apply below_alloc | apply pw_below_drewN | apply below_drew1) | exact HB.out)) hb); clear HO219; clear HO223; clear HO228; clear HB; have HO219 := n0_; have HO223 := n1_; have HO228 := n2_; have HB := n3_; clear n0_ n1_ n2_ n3_; (try clear hb); (try clear hb2); (try clear hk); (try clear hi)) | (go_at_call 21; (with_reducible refine (lampblackref03_PathWidth.calls k _ _ l0 t232 _ ?side1 ?side2 A18.out).mono ?_); (case side1 => repeat (first | exact (Kd.C_below HR0.out HB.out) | (with_reducible refine Kd.C_alloc ?_ _) | (with_reducible refine Kd.C_drewN ?_ _) | (with_reducible refine Kd.C_drew ?_))); (case side2 => exact HC0.out); rintro e w37 ⟨rfl, hb⟩; have n0_ := Aside0.mk (Kd.R_below (by (with_reducible repeat (first | apply Kd.R_alloc | apply Kd.R_drewN | apply Kd.R_drew)); exact HO219.out) hb); have n1_ := Aside0.mk (Kd.R_below (by (with_reducible repeat (first | apply Kd.R_alloc | apply Kd.R_drewN | apply Kd.R_drew)); exact HO223.out) hb); have n2_ := Aside0.mk (Kd.R_below (by (with_reducible repeat (first | apply Kd.R_alloc | apply Kd.R_drewN | apply Kd.R_drew)); exact HO228.out) hb); have n3_ := Aside0.mk (below_step (by repeat (first | (with_reducible first | exact HB.out | apply below_alloc | apply pw_below_drewN | apply below_drew1) | exact HB.out)) hb); clear HO219; clear HO223; clear HO228; clear HB; have HO219 := n0_; have HO223 := n1_; have HO228 := n2_; have HB := n3_; clear n0_ n1_ n2_ n3_; (try clear hb); (try clear hb2); (try clear hk); (try clear hi)))
            go_ret
            exact ⟨by first | rfl | (simp [errW_none, errW_some] <;> rfl) | (simp [*, errW_none, errW_some] <;> rfl), by repeat (first | (with_reducible first | exact HB.out | apply below_alloc | apply pw_below_drewN | apply below_drew1) | exact HB.out)⟩
      · replace c9 := Bool.eq_false_iff.mpr c9
        subst c9
        have H1 : (some false) = some r := by rw [if_neg (show ¬ (false = true) by decide)] at H; exact H
        clear H
        have H := H1
        clear H1
        obtain rfl := Option.some.inj H
        go_enter Tryd.func5, Tryd.ntmps5
        go_wp2_with (first | ((with_reducible refine gate_callee (f := 18) rfl ?_); refine goesL_ (some 10) rfl rfl Tryd.func18 (by kernel_rfl) rfl #[.slice A0 l0.length c0] rfl (by (try simp only [List.map_toArray, List.map_cons, List.map_nil]); first | done | rfl | (simp only [List.length_drop, List.length_take]; rfl)) ?_; (with_reducible refine (lampblacklaw03_Few.calls _ _ l0 t217 _ ?side1 ?side2 A2.out).mono ?_); (case side1 => repeat (first | exact HR0.out | (with_reducible refine Kd.C_alloc ?_ _) | (with_reducible refine Kd.C_drewN ?_ _) | (with_reducible refine Kd.C_drew ?_))); (case side2 => exact HC0.out); rintro e w38 ⟨v218, rfl, ho0, hb⟩; refine ⟨_, rfl, ?_⟩; have n0_ := Aside0.mk (Kd.R_lower ho0 (below_size (by repeat (first | (with_reducible first | exact HB.out | apply below_alloc | apply pw_below_drewN | apply below_drew1) | exact HB.out)))); have n1_ := Aside0.mk (below_step (by repeat (first | (with_reducible first | exact HB.out | apply below_alloc | apply pw_below_drewN | apply below_drew1) | exact HB.out)) hb); clear HB; have HO219 := n0_; have HB := n1_; clear n0_ n1_; (try clear hb); (try clear hb2); (try clear hk); (try clear hi); (try clear ho0); obtain ⟨Ao39, co39, eo39⟩ := Kd.R_slice HO219.out; subst eo39) | ((with_reducible refine gate_callee (f := 23) rfl ?_); refine goesL_ (some 11) rfl rfl Tryd.func23 (by kernel_rfl) rfl #[.slice Ao39 t217.length co39] rfl (by (try simp only [List.map_toArray, List.map_cons, List.map_nil]); first | done | rfl | (simp only [List.length_drop, List.length_take]; rfl)) ?_; (with_reducible refine (sweep_Plan.calls (hGL := (by repeat (first | (with_reducible exact HGL.out) | (with_reducible exact GL_below HGL.out HB.out) | (with_reducible refine GL_alloc ?_ _) | (with_reducible refine GL_drewN ?_ _) | (with_reducible refine GL_drew ?_)))) k _ _ t217 t220 t221 _ ?side1 ?side2 A3.out).mono ?_); (case side1 => repeat (first | exact (Kd.R_reads' HO219.out).2.2 | (with_reducible refine Kd.C_alloc ?_ _) | (with_reducible refine Kd.C_drewN ?_ _) | (with_reducible refine Kd.C_drew ?_))); (case side2 => exact (Kd.R_reads' HO219.out).2.1); rintro e w40 ⟨v222, rfl, ho0, hb⟩; refine ⟨_, rfl, ?_⟩; have n0_ := Aside0.mk (Kd.R_below (by (with_reducible repeat (first | apply Kd.R_alloc | apply Kd.R_drewN | apply Kd.R_drew)); exact HO219.out) hb); have n1_ := Aside0.mk (Kd.R_lower ho0 (below_size (by repeat (first | (with_reducible first | exact HB.out | apply below_alloc | apply pw_below_drewN | apply below_drew1) | exact HB.out)))); have n2_ := Aside0.mk (below_step (by repeat (first | (with_reducible first | exact HB.out | apply below_alloc | apply pw_below_drewN | apply below_drew1) | exact HB.out)) hb); clear HO219; clear HB; have HO219 := n0_; have HO223 := n1_; have HB := n2_; clear n0_ n1_ n2_; (try clear hb); (try clear hb2); (try clear hk); (try clear hi); (try clear ho0)) | ((with_reducible refine gate_callee (f := 19) rfl ?_); refine goesL_ (some 15) rfl rfl Tryd.func19 (by kernel_rfl) rfl #[.slice A0 l0.length c0] rfl (by (try simp only [List.map_toArray, List.map_cons, List.map_nil]); first | done | rfl | (simp only [List.length_drop, List.length_take]; rfl)) ?_; (with_reducible refine (lampblackref03_Valid.calls k _ _ l0 true _ ?side1 ?side2 A4.out).mono ?_); (case side1 => repeat (first | exact (Kd.C_below HR0.out HB.out) | (with_reducible refine Kd.C_alloc ?_ _) | (with_reducible refine Kd.C_drewN ?_ _) | (with_reducible refine Kd.C_drew ?_))); (case side2 => exact HC0.out); rintro e w' ⟨rfl, ⟨nd, rfl⟩⟩; refine ⟨_, rfl, ?_⟩; obtain ⟨Ao41, co41, eo41⟩ := Kd.R_slice HO223.out; subst eo41) | ((with_reducible refine gate_callee (f := 25) rfl ?_); refine goesL_ (some 30) rfl rfl Tryd.func25 (by kernel_rfl) rfl #[.slice Ao41 t220.length co41] rfl (by (try simp only [List.map_toArray, List.map_cons, List.map_nil]); first | done | rfl | (simp only [List.length_drop, List.length_take]; rfl)) ?_; (with_reducible refine (lampblacklaw03_own.calls k _ _ t220 t226 _ ?side1 ?side2 A6.out).mono ?_); (case side1 => repeat (first | exact (Kd.R_reads' HO223.out).2.2 | (with_reducible refine Kd.C_alloc ?_ _) | (with_reducible refine Kd.C_drewN ?_ _) | (with_reducible refine Kd.C_drew ?_))); (case side2 => exact (Kd.R_reads' HO223.out).2.1); rintro e w42 ⟨v227, rfl, ho0, hb⟩; refine ⟨_, rfl, ?_⟩; have n0_ := Aside0.mk (Kd.R_below (by (with_reducible repeat (first | apply Kd.R_alloc | apply Kd.R_drewN | apply Kd.R_drew)); exact HO219.out) hb); have n1_ := Aside0.mk (Kd.R_below (by (with_reducible repeat (first | apply Kd.R_alloc | apply Kd.R_drewN | apply Kd.R_drew)); exact HO223.out) hb); have n2_ := Aside0.mk (Kd.R_lower ho0 (below_size (by repeat (first | (with_reducible first | exact HB.out | apply below_alloc | apply pw_below_drewN | apply below_drew1) | exact HB.out)))); have n3_ := Aside0.mk (below_step (by repeat (first | (with_reducible first | exact HB.out | apply below_alloc | apply pw_below_drewN | apply below_drew1) | exact HB.out)) hb); clear HO219; clear HO223; clear HB; have HO219 := n0_; have HO223 := n1_; have HO228 := n2_; have HB := n3_; clear n0_ n1_ n2_ n3_; (try clear hb); (try clear hb2); (try clear hk); (try clear hi); (try clear ho0); obtain ⟨Ao43, co43, eo43⟩ := Kd.R_slice HO228.out; subst eo43) | ((with_reducible refine gate_callee (f := 24) rfl ?_); refine goesL_ (some 31) rfl rfl Tryd.func24 (by kernel_rfl) rfl #[.slice A0 l0.length c0, .slice Ao43 t226.length co43] rfl (by (try simp only [List.map_toArray, List.map_cons, List.map_nil]); first | done | rfl | (simp only [List.length_drop, List.length_take]; rfl)) ?_; (with_reducible refine (lampblackref03_Play.calls _ _ l0 _ _ t226 t229 t230 false _ ?side1 ?side2 ?side3 ?side4 A7.out).mono ?_); (case side1 => repeat (first | exact (Kd.C_below HR0.out HB.out) | (with_reducible refine Kd.C_alloc ?_ _) | (with_reducible refine Kd.C_drewN ?_ _) | (with_reducible refine Kd.C_drew ?_))); (case side2 => exact HC0.out); (case side3 => repeat (first | exact (Kd.R_reads' HO228.out).2.2 | (with_reducible refine Kd.C_alloc ?_ _) | (with_reducible refine Kd.C_drewN ?_ _) | (with_reducible refine Kd.C_drew ?_))); (case side4 => exact (Kd.R_reads' HO228.out).2.1); rintro e w44 ⟨rfl, hb⟩; refine ⟨_, rfl, ?_⟩; have n0_ := Aside0.mk (Kd.R_below (by (with_reducible repeat (first | apply Kd.R_alloc | apply Kd.R_drewN | apply Kd.R_drew)); exact HO219.out) hb); have n1_ := Aside0.mk (Kd.R_below (by (with_reducible repeat (first | apply Kd.R_alloc | apply Kd.R_drewN | apply Kd.R_drew)); exact HO223.out) hb); have n2_ := Aside0.mk (Kd.R_below (by (with_reducible repeat (first | apply Kd.R_alloc | apply Kd.R_drewN | apply Kd.R_drew)); exact HO228.out) hb); have n3_ := Aside0.mk (below_step (by repeat (first | (with_reducible first | exact HB.out | apply below_alloc | apply pw_below_drewN | apply below_drew1) | exact HB.out)) hb); clear HO219; clear HO223; clear HO228; clear HB; have HO219 := n0_; have HO223 := n1_; have HO228 := n2_; have HB := n3_; clear n0_ n1_ n2_ n3_; (try clear hb); (try clear hb2); (try clear hk); (try clear hi)))
        go_ret
        exact ⟨by first | rfl | (simp [errW_none, errW_some] <;> rfl) | (simp [*, errW_none, errW_some] <;> rfl), by repeat (first | (with_reducible first | exact HB.out | apply below_alloc | apply pw_below_drewN | apply below_drew1) | exact HB.out)⟩
    · rw [if_neg c8] at H
      have c8b0 : (t221 == 0) = false := beq_eq_false_iff_ne.mpr c8
      have c8b1 : (t221 != 0) = true := bne_iff_ne.mpr c8
      obtain rfl := Option.some.inj H
      go_enter Tryd.func5, Tryd.ntmps5
      go_wp2_with (first | ((with_reducible refine gate_callee (f := 18) rfl ?_); refine goesL_ (some 10) rfl rfl Tryd.func18 (by kernel_rfl) rfl #[.slice A0 l0.length c0] rfl (by (try simp only [List.map_toArray, List.map_cons, List.map_nil]); first | done | rfl | (simp only [List.length_drop, List.length_take]; rfl)) ?_; (with_reducible refine (lampblacklaw03_Few.calls _ _ l0 t217 _ ?side1 ?side2 A2.out).mono ?_); (case side1 => repeat (first | exact HR0.out | (with_reducible refine Kd.C_alloc ?_ _) | (with_reducible refine Kd.C_drewN ?_ _) | (with_reducible refine Kd.C_drew ?_))); (case side2 => exact HC0.out); rintro e w45 ⟨v218, rfl, ho0, hb⟩; refine ⟨_, rfl, ?_⟩; have n0_ := Aside0.mk (Kd.R_lower ho0 (below_size (by repeat (first | (with_reducible first | exact HB.out | apply below_alloc | apply pw_below_drewN | apply below_drew1) | exact HB.out)))); have n1_ := Aside0.mk (below_step (by repeat (first | (with_reducible first | exact HB.out | apply below_alloc | apply pw_below_drewN | apply below_drew1) | exact HB.out)) hb); clear HB; have HO219 := n0_; have HB := n1_; clear n0_ n1_; (try clear hb); (try clear hb2); (try clear hk); (try clear hi); (try clear ho0); obtain ⟨Ao46, co46, eo46⟩ := Kd.R_slice HO219.out; subst eo46) | ((with_reducible refine gate_callee (f := 23) rfl ?_); refine goesL_ (some 11) rfl rfl Tryd.func23 (by kernel_rfl) rfl #[.slice Ao46 t217.length co46] rfl (by (try simp only [List.map_toArray, List.map_cons, List.map_nil]); first | done | rfl | (simp only [List.length_drop, List.length_take]; rfl)) ?_; (with_reducible refine (sweep_Plan.calls (hGL := (by repeat (first | (with_reducible exact HGL.out) | (with_reducible exact GL_below HGL.out HB.out) | (with_reducible refine GL_alloc ?_ _) | (with_reducible refine GL_drewN ?_ _) | (with_reducible refine GL_drew ?_)))) k _ _ t217 t220 t221 _ ?side1 ?side2 A3.out).mono ?_); (case side1 => repeat (first | exact (Kd.R_reads' HO219.out).2.2 | (with_reducible refine Kd.C_alloc ?_ _) | (with_reducible refine Kd.C_drewN ?_ _) | (with_reducible refine Kd.C_drew ?_))); (case side2 => exact (Kd.R_reads' HO219.out).2.1); rintro e w47 ⟨v222, rfl, ho0, hb⟩; refine ⟨_, rfl, ?_⟩; have n0_ := Aside0.mk (Kd.R_below (by (with_reducible repeat (first | apply Kd.R_alloc | apply Kd.R_drewN | apply Kd.R_drew)); exact HO219.out) hb); have n1_ := Aside0.mk (Kd.R_lower ho0 (below_size (by repeat (first | (with_reducible first | exact HB.out | apply below_alloc | apply pw_below_drewN | apply below_drew1) | exact HB.out)))); have n2_ := Aside0.mk (below_step (by repeat (first | (with_reducible first | exact HB.out | apply below_alloc | apply pw_below_drewN | apply below_drew1) | exact HB.out)) hb); clear HO219; clear HB; have HO219 := n0_; have HO223 := n1_; have HB := n2_; clear n0_ n1_ n2_; (try clear hb); (try clear hb2); (try clear hk); (try clear hi); (try clear ho0)) | ((with_reducible refine gate_callee (f := 19) rfl ?_); refine goesL_ (some 15) rfl rfl Tryd.func19 (by kernel_rfl) rfl #[.slice A0 l0.length c0] rfl (by (try simp only [List.map_toArray, List.map_cons, List.map_nil]); first | done | rfl | (simp only [List.length_drop, List.length_take]; rfl)) ?_; (with_reducible refine (lampblackref03_Valid.calls k _ _ l0 true _ ?side1 ?side2 A4.out).mono ?_); (case side1 => repeat (first | exact (Kd.C_below HR0.out HB.out) | (with_reducible refine Kd.C_alloc ?_ _) | (with_reducible refine Kd.C_drewN ?_ _) | (with_reducible refine Kd.C_drew ?_))); (case side2 => exact HC0.out); rintro e w' ⟨rfl, ⟨nd, rfl⟩⟩; refine ⟨_, rfl, ?_⟩; obtain ⟨Ao48, co48, eo48⟩ := Kd.R_slice HO223.out; subst eo48) | ((with_reducible refine gate_callee (f := 25) rfl ?_); refine goesL_ (some 30) rfl rfl Tryd.func25 (by kernel_rfl) rfl #[.slice Ao48 t220.length co48] rfl (by (try simp only [List.map_toArray, List.map_cons, List.map_nil]); first | done | rfl | (simp only [List.length_drop, List.length_take]; rfl)) ?_; (with_reducible refine (lampblacklaw03_own.calls k _ _ t220 t226 _ ?side1 ?side2 A6.out).mono ?_); (case side1 => repeat (first | exact (Kd.R_reads' HO223.out).2.2 | (with_reducible refine Kd.C_alloc ?_ _) | (with_reducible refine Kd.C_drewN ?_ _) | (with_reducible refine Kd.C_drew ?_))); (case side2 => exact (Kd.R_reads' HO223.out).2.1); rintro e w49 ⟨v227, rfl, ho0, hb⟩; refine ⟨_, rfl, ?_⟩; have n0_ := Aside0.mk (Kd.R_below (by (with_reducible repeat (first | apply Kd.R_alloc | apply Kd.R_drewN | apply Kd.R_drew)); exact HO219.out) hb); have n1_ := Aside0.mk (Kd.R_below (by (with_reducible repeat (first | apply Kd.R_alloc | apply Kd.R_drewN | apply Kd.R_drew)); exact HO223.out) hb); have n2_ := Aside0.mk (Kd.R_lower ho0 (below_size (by repeat (first | (with_reducible first | exact HB.out | apply below_alloc | apply pw_below_drewN | apply below_drew1) | exact HB.out)))); have n3_ := Aside0.mk (below_step (by repeat (first | (with_reducible first | exact HB.out | apply below_alloc | apply pw_below_drewN | apply below_drew1) | exact HB.out)) hb); clear HO219; clear HO223; clear HB; have HO219 := n0_; have HO223 := n1_; have HO228 := n2_; have HB := n3_; clear n0_ n1_ n2_ n3_; (try clear hb); (try clear hb2); (try clear hk); (try clear hi); (try clear ho0); obtain ⟨Ao50, co50, eo50⟩ := Kd.R_slice HO228.out; subst eo50) | ((with_reducible refine gate_callee (f := 24) rfl ?_); refine goesL_ (some 31) rfl rfl Tryd.func24 (by kernel_rfl) rfl #[.slice A0 l0.length c0, .slice Ao50 t226.length co50] rfl (by (try simp only [List.map_toArray, List.map_cons, List.map_nil]); first | done | rfl | (simp only [List.length_drop, List.length_take]; rfl)) ?_; (with_reducible refine (lampblackref03_Play.calls _ _ l0 _ _ t226 t229 t230 t231 _ ?side1 ?side2 ?side3 ?side4 A7.out).mono ?_); (case side1 => repeat (first | exact (Kd.C_below HR0.out HB.out) | (with_reducible refine Kd.C_alloc ?_ _) | (with_reducible refine Kd.C_drewN ?_ _) | (with_reducible refine Kd.C_drew ?_))); (case side2 => exact HC0.out); (case side3 => repeat (first | exact (Kd.R_reads' HO228.out).2.2 | (with_reducible refine Kd.C_alloc ?_ _) | (with_reducible refine Kd.C_drewN ?_ _) | (with_reducible refine Kd.C_drew ?_))); (case side4 => exact (Kd.R_reads' HO228.out).2.1); rintro e w51 ⟨rfl, hb⟩; refine ⟨_, rfl, ?_⟩; have n0_ := Aside0.mk (Kd.R_below (by (with_reducible repeat (first | apply Kd.R_alloc | apply Kd.R_drewN | apply Kd.R_drew)); exact HO219.out) hb); have n1_ := Aside0.mk (Kd.R_below (by (with_reducible repeat (first | apply Kd.R_alloc | apply Kd.R_drewN | apply Kd.R_drew)); exact HO223.out) hb); have n2_ := Aside0.mk (Kd.R_below (by (with_reducible repeat (first | apply Kd.R_alloc | apply Kd.R_drewN | apply Kd.R_drew)); exact HO228.out) hb); have n3_ := Aside0.mk (below_step (by repeat (first | (with_reducible first | exact HB.out | apply below_alloc | apply pw_below_drewN | apply below_drew1) | exact HB.out)) hb); clear HO219; clear HO223; clear HO228; clear HB; have HO219 := n0_; have HO223 := n1_; have HO228 := n2_; have HB := n3_; clear n0_ n1_ n2_ n3_; (try clear hb); (try clear hb2); (try clear hk); (try clear hi)))
      go_ret
      exact ⟨by first | rfl | (simp [errW_none, errW_some] <;> rfl) | (simp [*, errW_none, errW_some] <;> rfl), by repeat (first | (with_reducible first | exact HB.out | apply below_alloc | apply pw_below_drewN | apply below_drew1) | exact HB.out)⟩
  · replace c5 := Bool.eq_false_iff.mpr c5
    subst c5
    have H1 : (if (t220.length : Int) = 0 then (if t221 = 2 then ((lampblacklaw03_awake.f k).bind fun t225 => (some t225)) else (some false)) else (some false)) = some r := by rw [if_neg (show ¬ (false = true) by decide)] at H; exact H
    clear H
    have H := H1
    clear H1
    by_cases c52 : (t220.length : Int) = 0
    · rw [if_pos c52] at H
      have c52b0 : ((t220.length : Int) == 0) = true := beq_iff_eq.mpr c52
      have c52b1 : ((t220.length : Int) != 0) = false := bne_eq_false_iff_eq.mpr c52
      clear c52
      by_cases c53 : t221 = 2
      · rw [if_pos c53] at H
        have c53b0 : (t221 == 2) = true := beq_iff_eq.mpr c53
        have c53b1 : (t221 != 2) = false := bne_eq_false_iff_eq.mpr c53
        clear c53
        replace H := Option.bind_eq_some_iff.mp H
        obtain ⟨t225, A540, H⟩ := H
        replace H : (some t225) = some r := H
        have A54 := Aside0.mk A540
        clear A540
        obtain rfl := Option.some.inj H
        go_enter Tryd.func5, Tryd.ntmps5
        go_wp2_with (first | ((with_reducible refine gate_callee (f := 18) rfl ?_); refine goesL_ (some 10) rfl rfl Tryd.func18 (by kernel_rfl) rfl #[.slice A0 l0.length c0] rfl (by (try simp only [List.map_toArray, List.map_cons, List.map_nil]); first | done | rfl | (simp only [List.length_drop, List.length_take]; rfl)) ?_; (with_reducible refine (lampblacklaw03_Few.calls _ _ l0 t217 _ ?side1 ?side2 A2.out).mono ?_); (case side1 => repeat (first | exact HR0.out | (with_reducible refine Kd.C_alloc ?_ _) | (with_reducible refine Kd.C_drewN ?_ _) | (with_reducible refine Kd.C_drew ?_))); (case side2 => exact HC0.out); rintro e w55 ⟨v218, rfl, ho0, hb⟩; refine ⟨_, rfl, ?_⟩; have n0_ := Aside0.mk (Kd.R_lower ho0 (below_size (by repeat (first | (with_reducible first | exact HB.out | apply below_alloc | apply pw_below_drewN | apply below_drew1) | exact HB.out)))); have n1_ := Aside0.mk (below_step (by repeat (first | (with_reducible first | exact HB.out | apply below_alloc | apply pw_below_drewN | apply below_drew1) | exact HB.out)) hb); clear HB; have HO219 := n0_; have HB := n1_; clear n0_ n1_; (try clear hb); (try clear hb2); (try clear hk); (try clear hi); (try clear ho0); obtain ⟨Ao56, co56, eo56⟩ := Kd.R_slice HO219.out; subst eo56) | ((with_reducible refine gate_callee (f := 23) rfl ?_); refine goesL_ (some 11) rfl rfl Tryd.func23 (by kernel_rfl) rfl #[.slice Ao56 t217.length co56] rfl (by (try simp only [List.map_toArray, List.map_cons, List.map_nil]); first | done | rfl | (simp only [List.length_drop, List.length_take]; rfl)) ?_; (with_reducible refine (sweep_Plan.calls (hGL := (by repeat (first | (with_reducible exact HGL.out) | (with_reducible exact GL_below HGL.out HB.out) | (with_reducible refine GL_alloc ?_ _) | (with_reducible refine GL_drewN ?_ _) | (with_reducible refine GL_drew ?_)))) k _ _ t217 t220 t221 _ ?side1 ?side2 A3.out).mono ?_); (case side1 => repeat (first | exact (Kd.R_reads' HO219.out).2.2 | (with_reducible refine Kd.C_alloc ?_ _) | (with_reducible refine Kd.C_drewN ?_ _) | (with_reducible refine Kd.C_drew ?_))); (case side2 => exact (Kd.R_reads' HO219.out).2.1); rintro e w57 ⟨v222, rfl, ho0, hb⟩; refine ⟨_, rfl, ?_⟩; have n0_ := Aside0.mk (Kd.R_below (by (with_reducible repeat (first | apply Kd.R_alloc | apply Kd.R_drewN | apply Kd.R_drew)); exact HO219.out) hb); have n1_ := Aside0.mk (Kd.R_lower ho0 (below_size (by repeat (first | (with_reducible first | exact HB.out | apply below_alloc | apply pw_below_drewN | apply below_drew1) | exact HB.out)))); have n2_ := Aside0.mk (below_step (by repeat (first | (with_reducible first | exact HB.out | apply below_alloc | apply pw_below_drewN | apply below_drew1) | exact HB.out)) hb); clear HO219; clear HB; have HO219 := n0_; have HO223 := n1_; have HB := n2_; clear n0_ n1_ n2_; (try clear hb); (try clear hb2); (try clear hk); (try clear hi); (try clear ho0)) | ((with_reducible refine gate_callee (f := 19) rfl ?_); refine goesL_ (some 15) rfl rfl Tryd.func19 (by kernel_rfl) rfl #[.slice A0 l0.length c0] rfl (by (try simp only [List.map_toArray, List.map_cons, List.map_nil]); first | done | rfl | (simp only [List.length_drop, List.length_take]; rfl)) ?_; (with_reducible refine (lampblackref03_Valid.calls k _ _ l0 false _ ?side1 ?side2 A4.out).mono ?_); (case side1 => repeat (first | exact (Kd.C_below HR0.out HB.out) | (with_reducible refine Kd.C_alloc ?_ _) | (with_reducible refine Kd.C_drewN ?_ _) | (with_reducible refine Kd.C_drew ?_))); (case side2 => exact HC0.out); rintro e w' ⟨rfl, ⟨nd, rfl⟩⟩; refine ⟨_, rfl, ?_⟩; obtain ⟨Ao58, co58, eo58⟩ := Kd.R_slice HO223.out; subst eo58) | (go_at_call 20; (with_reducible refine (lampblacklaw03_awake.calls (hGL := (by repeat (first | (with_reducible exact HGL.out) | (with_reducible exact GL_below HGL.out HB.out) | (with_reducible refine GL_alloc ?_ _) | (with_reducible refine GL_drewN ?_ _) | (with_reducible refine GL_drew ?_)))) k  t225 _ A54.out).mono ?_); rintro e w59 ⟨rfl, hb⟩; have n0_ := Aside0.mk (Kd.R_below (by (with_reducible repeat (first | apply Kd.R_alloc | apply Kd.R_drewN | apply Kd.R_drew)); exact HO219.out) hb); have n1_ := Aside0.mk (Kd.R_below (by (with_reducible repeat (first | apply Kd.R_alloc | apply Kd.R_drewN | apply Kd.R_drew)); exact HO223.out) hb); have n2_ := Aside0.mk (below_step (by repeat (first | (with_reducible first | exact HB.out | apply below_alloc | apply pw_below_drewN | apply below_drew1) | exact HB.out)) hb); clear HO219; clear HO223; clear HB; have HO219 := n0_; have HO223 := n1_; have HB := n2_; clear n0_ n1_ n2_; (try clear hb); (try clear hb2); (try clear hk); (try clear hi)))
        go_ret
        exact ⟨by first | rfl | (simp [errW_none, errW_some] <;> rfl) | (simp [*, errW_none, errW_some] <;> rfl), by repeat (first | (with_reducible first | exact HB.out | apply below_alloc | apply pw_below_drewN | apply below_drew1) | exact HB.out)⟩
      · rw [if_neg c53] at H
        have c53b0 : (t221 == 2) = false := beq_eq_false_iff_ne.mpr c53
        have c53b1 : (t221 != 2) = true := bne_iff_ne.mpr c53
        obtain rfl := Option.some.inj H
        go_enter Tryd.func5, Tryd.ntmps5
        go_wp2_with (first | ((with_reducible refine gate_callee (f := 18) rfl ?_); refine goesL_ (some 10) rfl rfl Tryd.func18 (by kernel_rfl) rfl #[.slice A0 l0.length c0] rfl (by (try simp only [List.map_toArray, List.map_cons, List.map_nil]); first | done | rfl | (simp only [List.length_drop, List.length_take]; rfl)) ?_; (with_reducible refine (lampblacklaw03_Few.calls _ _ l0 t217 _ ?side1 ?side2 A2.out).mono ?_); (case side1 => repeat (first | exact HR0.out | (with_reducible refine Kd.C_alloc ?_ _) | (with_reducible refine Kd.C_drewN ?_ _) | (with_reducible refine Kd.C_drew ?_))); (case side2 => exact HC0.out); rintro e w60 ⟨v218, rfl, ho0, hb⟩; refine ⟨_, rfl, ?_⟩; have n0_ := Aside0.mk (Kd.R_lower ho0 (below_size (by repeat (first | (with_reducible first | exact HB.out | apply below_alloc | apply pw_below_drewN | apply below_drew1) | exact HB.out)))); have n1_ := Aside0.mk (below_step (by repeat (first | (with_reducible first | exact HB.out | apply below_alloc | apply pw_below_drewN | apply below_drew1) | exact HB.out)) hb); clear HB; have HO219 := n0_; have HB := n1_; clear n0_ n1_; (try clear hb); (try clear hb2); (try clear hk); (try clear hi); (try clear ho0); obtain ⟨Ao61, co61, eo61⟩ := Kd.R_slice HO219.out; subst eo61) | ((with_reducible refine gate_callee (f := 23) rfl ?_); refine goesL_ (some 11) rfl rfl Tryd.func23 (by kernel_rfl) rfl #[.slice Ao61 t217.length co61] rfl (by (try simp only [List.map_toArray, List.map_cons, List.map_nil]); first | done | rfl | (simp only [List.length_drop, List.length_take]; rfl)) ?_; (with_reducible refine (sweep_Plan.calls (hGL := (by repeat (first | (with_reducible exact HGL.out) | (with_reducible exact GL_below HGL.out HB.out) | (with_reducible refine GL_alloc ?_ _) | (with_reducible refine GL_drewN ?_ _) | (with_reducible refine GL_drew ?_)))) k _ _ t217 t220 t221 _ ?side1 ?side2 A3.out).mono ?_); (case side1 => repeat (first | exact (Kd.R_reads' HO219.out).2.2 | (with_reducible refine Kd.C_alloc ?_ _) | (with_reducible refine Kd.C_drewN ?_ _) | (with_reducible refine Kd.C_drew ?_))); (case side2 => exact (Kd.R_reads' HO219.out).2.1); rintro e w62 ⟨v222, rfl, ho0, hb⟩; refine ⟨_, rfl, ?_⟩; have n0_ := Aside0.mk (Kd.R_below (by (with_reducible repeat (first | apply Kd.R_alloc | apply Kd.R_drewN | apply Kd.R_drew)); exact HO219.out) hb); have n1_ := Aside0.mk (Kd.R_lower ho0 (below_size (by repeat (first | (with_reducible first | exact HB.out | apply below_alloc | apply pw_below_drewN | apply below_drew1) | exact HB.out)))); have n2_ := Aside0.mk (below_step (by repeat (first | (with_reducible first | exact HB.out | apply below_alloc | apply pw_below_drewN | apply below_drew1) | exact HB.out)) hb); clear HO219; clear HB; have HO219 := n0_; have HO223 := n1_; have HB := n2_; clear n0_ n1_ n2_; (try clear hb); (try clear hb2); (try clear hk); (try clear hi); (try clear ho0)) | ((with_reducible refine gate_callee (f := 19) rfl ?_); refine goesL_ (some 15) rfl rfl Tryd.func19 (by kernel_rfl) rfl #[.slice A0 l0.length c0] rfl (by (try simp only [List.map_toArray, List.map_cons, List.map_nil]); first | done | rfl | (simp only [List.length_drop, List.length_take]; rfl)) ?_; (with_reducible refine (lampblackref03_Valid.calls k _ _ l0 false _ ?side1 ?side2 A4.out).mono ?_); (case side1 => repeat (first | exact (Kd.C_below HR0.out HB.out) | (with_reducible refine Kd.C_alloc ?_ _) | (with_reducible refine Kd.C_drewN ?_ _) | (with_reducible refine Kd.C_drew ?_))); (case side2 => exact HC0.out); rintro e w' ⟨rfl, ⟨nd, rfl⟩⟩; refine ⟨_, rfl, ?_⟩; obtain ⟨Ao63, co63, eo63⟩ := Kd.R_slice HO223.out; subst eo63))
        go_ret
        exact ⟨by first | rfl | (simp [errW_none, errW_some] <;> rfl) | (simp [*, errW_none, errW_some] <;> rfl), by repeat (first | (with_reducible first | exact HB.out | apply below_alloc | apply pw_below_drewN | apply below_drew1) | exact HB.out)⟩
    · rw [if_neg c52] at H
      have c52b0 : ((t220.length : Int) == 0) = false := beq_eq_false_iff_ne.mpr c52
      have c52b1 : ((t220.length : Int) != 0) = true := bne_iff_ne.mpr c52
      have c52b2 : ¬ (t220 = []) := fun h_ => c52 (by rw [h_]; rfl)
      obtain rfl := Option.some.inj H
      go_enter Tryd.func5, Tryd.ntmps5
      go_wp2_with (first | ((with_reducible refine gate_callee (f := 18) rfl ?_); refine goesL_ (some 10) rfl rfl Tryd.func18 (by kernel_rfl) rfl #[.slice A0 l0.length c0] rfl (by (try simp only [List.map_toArray, List.map_cons, List.map_nil]); first | done | rfl | (simp only [List.length_drop, List.length_take]; rfl)) ?_; (with_reducible refine (lampblacklaw03_Few.calls _ _ l0 t217 _ ?side1 ?side2 A2.out).mono ?_); (case side1 => repeat (first | exact HR0.out | (with_reducible refine Kd.C_alloc ?_ _) | (with_reducible refine Kd.C_drewN ?_ _) | (with_reducible refine Kd.C_drew ?_))); (case side2 => exact HC0.out); rintro e w64 ⟨v218, rfl, ho0, hb⟩; refine ⟨_, rfl, ?_⟩; have n0_ := Aside0.mk (Kd.R_lower ho0 (below_size (by repeat (first | (with_reducible first | exact HB.out | apply below_alloc | apply pw_below_drewN | apply below_drew1) | exact HB.out)))); have n1_ := Aside0.mk (below_step (by repeat (first | (with_reducible first | exact HB.out | apply below_alloc | apply pw_below_drewN | apply below_drew1) | exact HB.out)) hb); clear HB; have HO219 := n0_; have HB := n1_; clear n0_ n1_; (try clear hb); (try clear hb2); (try clear hk); (try clear hi); (try clear ho0); obtain ⟨Ao65, co65, eo65⟩ := Kd.R_slice HO219.out; subst eo65) | ((with_reducible refine gate_callee (f := 23) rfl ?_); refine goesL_ (some 11) rfl rfl Tryd.func23 (by kernel_rfl) rfl #[.slice Ao65 t217.length co65] rfl (by (try simp only [List.map_toArray, List.map_cons, List.map_nil]); first | done | rfl | (simp only [List.length_drop, List.length_take]; rfl)) ?_; (with_reducible refine (sweep_Plan.calls (hGL := (by repeat (first | (with_reducible exact HGL.out) | (with_reducible exact GL_below HGL.out HB.out) | (with_reducible refine GL_alloc ?_ _) | (with_reducible refine GL_drewN ?_ _) | (with_reducible refine GL_drew ?_)))) k _ _ t217 t220 t221 _ ?side1 ?side2 A3.out).mono ?_); (case side1 => repeat (first | exact (Kd.R_reads' HO219.out).2.2 | (with_reducible refine Kd.C_alloc ?_ _) | (with_reducible refine Kd.C_drewN ?_ _) | (with_reducible refine Kd.C_drew ?_))); (case side2 => exact (Kd.R_reads' HO219.out).2.1); rintro e w66 ⟨v222, rfl, ho0, hb⟩; refine ⟨_, rfl, ?_⟩; have n0_ := Aside0.mk (Kd.R_below (by (with_reducible repeat (first | apply Kd.R_alloc | apply Kd.R_drewN | apply Kd.R_drew)); exact HO219.out) hb); have n1_ := Aside0.mk (Kd.R_lower ho0 (below_size (by repeat (first | (with_reducible first | exact HB.out | apply below_alloc | apply pw_below_drewN | apply below_drew1) | exact HB.out)))); have n2_ := Aside0.mk (below_step (by repeat (first | (with_reducible first | exact HB.out | apply below_alloc | apply pw_below_drewN | apply below_drew1) | exact HB.out)) hb); clear HO219; clear HB; have HO219 := n0_; have HO223 := n1_; have HB := n2_; clear n0_ n1_ n2_; (try clear hb); (try clear hb2); (try clear hk); (try clear hi); (try clear ho0)) | ((with_reducible refine gate_callee (f := 19) rfl ?_); refine goesL_ (some 15) rfl rfl Tryd.func19 (by kernel_rfl) rfl #[.slice A0 l0.length c0] rfl (by (try simp only [List.map_toArray, List.map_cons, List.map_nil]); first | done | rfl | (simp only [List.length_drop, List.length_take]; rfl)) ?_; (with_reducible refine (lampblackref03_Valid.calls k _ _ l0 false _ ?side1 ?side2 A4.out).mono ?_); (case side1 => repeat (first | exact (Kd.C_below HR0.out HB.out) | (with_reducible refine Kd.C_alloc ?_ _) | (with_reducible refine Kd.C_drewN ?_ _) | (with_reducible refine Kd.C_drew ?_))); (case side2 => exact HC0.out); rintro e w' ⟨rfl, ⟨nd, rfl⟩⟩; refine ⟨_, rfl, ?_⟩; obtain ⟨Ao67, co67, eo67⟩ := Kd.R_slice HO223.out; subst eo67))
      go_ret
      exact ⟨by first | rfl | (simp [errW_none, errW_some] <;> rfl) | (simp [*, errW_none, errW_some] <;> rfl), by repeat (first | (with_reducible first | exact HB.out | apply below_alloc | apply pw_below_drewN | apply below_drew1) | exact HB.out)⟩

end Go.Proofs.YtijfddobandcdaaDoor.X
end
section
/- A node less, an edge less, two neighbours made one: what becomes of a graph, and of its width. -/
set_option linter.unusedVariables false
namespace Go.Proofs.YtijfddobandcdaaDoor.T
open Go.RowKit Go.Proofs.YtijfddobandcdaaDoorW.PrintWords Go.Proofs.YtijfddobandcdaaDoorW.PrintLast Go.Proofs.YtijfddobandcdaaDoorW.PrintMore

def down (v u : Nat) : Nat := if u < v then u else u - 1
end Go.Proofs.YtijfddobandcdaaDoor.T
end
section
/- Layouts of a town: the border of a set, what can come behind a set with borders of at most k nodes; a node less, an edge less. -/
set_option linter.unusedVariables false
namespace Go.Proofs.YtijfddobandcdaaDoor.T
open Go.RowKit Go.Proofs.YtijfddobandcdaaDoorW.PrintWords Go.Proofs.YtijfddobandcdaaDoorW.PrintLast Go.Proofs.YtijfddobandcdaaDoorW.PrintMore

/-- The border of a set: those of its nodes that have a neighbour outside. -/
noncomputable def bor (G : List Nat) (S : Nat) : Nat := ofSet (fun j => bset S j ∧ ∃ u, Adj G j u ∧ ¬ bset S u) G.length
theorem bor_bit {m : Nat} {G : List Nat} (hG : Gr m G) (S j : Nat) : bset (bor G S) j ↔ bset S j ∧ ∃ u, Adj G j u ∧ ¬ bset S u := by
  unfold bor
  rw [ofSet_bit]
  exact ⟨fun h => h.2, fun h => ⟨by obtain ⟨_, u, ha, _⟩ := h; exact hG.adj_lt' ha, h⟩⟩
theorem bor_lt (G : List Nat) (S : Nat) : bor G S < 2 ^ G.length := ofSet_lt _ _

/-- All nodes can be laid out behind S with borders of at most k nodes. -/
inductive Lay (G : List Nat) (k : Nat) : Nat → Prop
  | done : Lay G k (2 ^ G.length - 1)
  | step {S v : Nat} : v < G.length → ¬ bset S v → pc (bor G (S ||| 2 ^ v)) 9 ≤ k → Lay G k (S ||| 2 ^ v) → Lay G k S
/-- x is the path width. -/
def IsVs (G : List Nat) (x : Nat) : Prop := ∀ k, x ≤ k ↔ Lay G k 0
theorem full_bit (n j : Nat) : bset (2 ^ n - 1) j ↔ j < n := by
  unfold bset
  rw [Nat.testBit_two_pow_sub_one, decide_eq_true_eq]
/-- A set whose elements are on a list, or come of another one's elements, has no more. -/
theorem pc_onto {x y n : Nat} (l : List Nat) (g : Nat → Nat) (h : ∀ j, j < n → bset x j → j ∈ l ∨ ∃ i, i < n ∧ bset y i ∧ g i = j) : pc x n ≤ pc y n + l.length := by
  rw [← els_length x n, ← els_length y n]
  have := nodup_le (els_nodup x n) (m := (els y n).map g ++ l) (fun j hj => by
    obtain ⟨h1, h2⟩ := mem_els.1 hj
    rcases h j h1 h2 with h | ⟨i, h3, h4, h5⟩
    · exact List.mem_append_right _ h
    · exact List.mem_append_left _ (List.mem_map.2 ⟨i, mem_els.2 ⟨h3, h4⟩, h5⟩))
  simpa using this

theorem pc_onto1 {x y n : Nat} (a : Nat) (g : Nat → Nat) (h : ∀ j, j < n → bset x j → j = a ∨ ∃ i, i < n ∧ bset y i ∧ g i = j) : pc x n ≤ pc y n + 1 := by
  have := pc_onto (x := x) (y := y) (n := n) [a] g (fun j h1 h2 => (h j h1 h2).imp (fun e => by simp [e]) id)
  simpa using this
/-- What is missing grows less. -/
theorem or_new {S v n : Nat} (hS : S < 2 ^ n) (hv : v < n) : S ||| 2 ^ v < 2 ^ n := or_lt hS (Nat.pow_lt_pow_right (by omega) hv)
theorem or_gt {S v : Nat} (h : ¬ bset S v) : S < S ||| 2 ^ v := by
  have h1 : S ≤ S ||| 2 ^ v := Nat.left_le_or
  rcases Nat.lt_or_ge S (S ||| 2 ^ v) with h2 | h2
  · exact h2
  · have e : S ||| 2 ^ v = S := by omega
    have : bset (S ||| 2 ^ v) v := (or_bset _ _ _).2 (.inr ((two_pow_bit v v).2 rfl))
    rw [e] at this
    exact (h this).elim
theorem missing {S n : Nat} (hS : S < 2 ^ n) (h : S ≠ 2 ^ n - 1) : ∃ v, v < n ∧ ¬ bset S v := by
  apply Classical.byContradiction
  intro hno
  refine h (eq_of_bits fun j => ?_)
  have := full_bit n j
  unfold bset at this
  rw [this]
  refine ⟨fun hj => bit_lt hS hj, fun hj => Classical.byContradiction fun hb => hno ⟨j, hj, hb⟩⟩
theorem lay_big {G : List Nat} {k : Nat} (hk : 9 ≤ k ∨ G.length ≤ k) (hn : G.length ≤ 9) : ∀ d S, 2 ^ G.length - S = d → S < 2 ^ G.length → Lay G k S := by
  intro d
  induction d using Nat.strongRecOn with
  | _ d ih =>
    intro S hd hS
    by_cases h : S = 2 ^ G.length - 1
    · rw [h]; exact .done
    · obtain ⟨v, hv, hb⟩ := missing hS h
      have h1 := or_new hS hv
      have h2 := or_gt hb
      refine .step hv hb ?_ (ih _ (by omega) _ rfl h1)
      have h3 := pc_onto (x := bor G (S ||| 2 ^ v)) (y := 0) (n := 9) (List.range G.length) id (fun j _ hj => .inl (List.mem_range.2 (bit_lt (bor_lt G _) hj)))
      have h4 := pc_le (bor G (S ||| 2 ^ v)) 9
      have h5 : pc 0 9 = 0 := by decide
      rw [List.length_range] at h3
      omega
theorem Lay.mono {G : List Nat} {k k' S : Nat} (h : Lay G k S) (hk : k ≤ k') : Lay G k' S := by
  induction h with
  | done => exact .done
  | step h1 h2 h3 _ ih => exact .step h1 h2 (by omega) ih

/-! A node less. -/
/-! An edge less. -/
end Go.Proofs.YtijfddobandcdaaDoor.T
end
section
/- What read tells: a graph that is valid, or nothing. -/
set_option linter.unusedVariables false
namespace Go.Proofs.YtijfddobandcdaaDoor.X
open Go.RowKit Go.Proofs.YtijfddobandcdaaDoorW.PrintWords Go.Proofs.YtijfddobandcdaaDoorW.PrintLast Go.Proofs.YtijfddobandcdaaDoorW.PrintMore Go.Proofs.YtijfddobandcdaaDoor.T

theorem read_l1 (g : List Int) (hn : g.length ≤ 7) (i : Nat) (hi : i < g.length) (r : List Int × Bool)
    (hrest : Ev (fun k => sweep_read.l0 k g (g.length : Int) g (g.length : Int) ((i + 1 : Nat) : Int)) r) :
    ∀ d j, j + d = g.length → Ev (fun k => sweep_read.l1 k g (g.length : Int) (i : Int) (rd g (i : Int)) g (g.length : Int) (i : Int) (g.length : Int) (j : Int))
      (cond (allFrom (fun j => decide (ibit (rd g (i : Int)) j = ibit (rd g (j : Int)) i)) g.length d j) r (([] : List Int), false)) := by
  intro d
  induction d with
  | zero =>
    intro j hj
    refine Ev.step (fun k => ?_) hrest
    rw [sweep_read.l1, if_neg (by omega), wrap_succ i (by omega)]
  | succ d ih =>
    intro j hj
    simp only [allFrom]
    by_cases hb : ibit (rd g (i : Int)) j = ibit (rd g (j : Int)) i
    · refine Ev.step (f := fun k => sweep_read.l1 k g (g.length : Int) (i : Int) (rd g (i : Int)) g (g.length : Int) (i : Int) (g.length : Int) ((j + 1 : Nat) : Int)) (fun k => ?_) ?_
      · rw [sweep_read.l1, if_pos (by omega), if_pos (by omega), if_pos (by omega), if_pos (by omega), wrap_succ j (by omega)]
        exact if_pos hb
      · have := ih (j + 1) (by omega)
        simpa [hb] using this
    · refine Ev.step (f := fun _ => some (([] : List Int), false)) (fun k => ?_) (Ev.some (by simp [hb]))
      rw [sweep_read.l1, if_pos (by omega), if_pos (by omega), if_pos (by omega), if_pos (by omega)]
      exact if_neg hb

theorem read_l0 (g : List Int) (hn : g.length ≤ 7) :
    ∀ d i, i + d = g.length → Ev (fun k => sweep_read.l0 k g (g.length : Int) g (g.length : Int) (i : Int)) (cond (allFrom (rowOk g) g.length d i) (g, true) (([] : List Int), false)) := by
  intro d
  induction d with
  | zero =>
    intro i hi
    refine Ev.step (f := fun _ => some (g, true)) (fun k => ?_) (Ev.some (by simp [allFrom]))
    rw [sweep_read.l0, if_neg (by omega)]
  | succ d ih =>
    intro i hi
    have stop : ∀ k, sweep_read.j2 (k + 1) g (g.length : Int) (i : Int) (rd g (i : Int)) g (g.length : Int) (i : Int) true = some (([] : List Int), false) := fun k => by
      rw [sweep_read.j2, if_pos rfl]
    simp only [allFrom, rowOk]
    by_cases h1 : rd g (i : Int) < 0
    · refine Ev.step (fun k => ?_) (f := fun k => sweep_read.j2 k g (g.length : Int) (i : Int) (rd g (i : Int)) g (g.length : Int) (i : Int) true) ?_
      · rw [sweep_read.l0, if_pos (by omega), if_pos (by omega), if_pos (by omega), if_pos h1]
      · exact Ev.step stop (Ev.some (by simp [h1]))
    · by_cases h2 : rd g (i : Int) ≥ shl .i64 1 (g.length : Int)
      · refine Ev.step (fun k => ?_) (f := fun k => sweep_read.j2 k g (g.length : Int) (i : Int) (rd g (i : Int)) g (g.length : Int) (i : Int) true) ?_
        · rw [sweep_read.l0, if_pos (by omega), if_pos (by omega), if_pos (by omega), if_neg h1, if_pos (by omega), if_pos h2]
        · exact Ev.step stop (Ev.some (by simp [h2]))
      · refine Ev.step (fun k => ?_) (f := fun k => sweep_read.j2 k g (g.length : Int) (i : Int) (rd g (i : Int)) g (g.length : Int) (i : Int) (ibit (rd g (i : Int)) i == 1)) ?_
        · rw [sweep_read.l0, if_pos (by omega), if_pos (by omega), if_pos (by omega), if_neg h1, if_pos (by omega), if_neg h2]
          rfl
        · by_cases h3 : (ibit (rd g (i : Int)) i == 1) = true
          · simp only [h3]
            exact Ev.step stop (Ev.some (by simp))
          · refine Ev.step (fun k => by rw [sweep_read.j2, if_neg h3]) ?_
            have := read_l1 g hn i (by omega) _ (ih (i + 1) (by omega)) g.length 0 (by omega)
            have h3' : (ibit (rd g (i : Int)) i == 1) = false := by simpa using h3
            simp only [h1, h2, h3', decide_false, Bool.not_false, Bool.true_and]
            cases h4 : allFrom (fun j => decide (ibit (rd g (i : Int)) j = ibit (rd g (j : Int)) i)) g.length g.length 0
            · simpa [h4] using this
            · simpa [h4] using this

theorem read_ev (g : List Int) (hg : g.length < 2 ^ 60) : Ev (fun k => sweep_read.f k g) (cond (chk 7 g) (g, true) (([] : List Int), false)) := by
  have stop : ∀ k, sweep_read.j0 (k + 1) g (g.length : Int) true = some (([] : List Int), false) := fun k => by
    rw [sweep_read.j0, if_pos rfl]
  by_cases h1 : g.length < 1
  · refine Ev.congr (f := fun k => sweep_read.j0 k g (g.length : Int) true) (fun k => ?_) (Ev.step stop (Ev.some ?_))
    · rw [sweep_read.f, if_pos (by omega)]
    · have : ¬ 1 ≤ g.length := by omega
      simp [chk, this]
  · refine Ev.congr (f := fun k => sweep_read.j0 k g (g.length : Int) (decide ((g.length : Int) > 7))) (fun k => ?_) ?_
    · rw [sweep_read.f, if_neg (by omega)]
    · by_cases h2 : g.length ≤ 7
      · have e : decide ((g.length : Int) > 7) = false := decide_eq_false (by omega)
        rw [e]
        refine Ev.step (fun k => by rw [sweep_read.j0, if_neg (by simp)]) ?_
        have := read_l0 g h2 g.length 0 (by omega)
        have h3 : decide (1 ≤ g.length) = true := decide_eq_true (by omega)
        simpa [chk, h2, h3] using this
      · have e : decide ((g.length : Int) > 7) = true := decide_eq_true (by omega)
        rw [e]
        refine Ev.step stop (Ev.some ?_)
        simp [chk, h2]
end Go.Proofs.YtijfddobandcdaaDoor.X
end
section
/- The references' own words: IsGraph. -/
set_option linter.unusedVariables false
namespace Go.Proofs.YtijfddobandcdaaDoor.X
open Go.RowKit Go.Proofs.YtijfddobandcdaaDoorW.PrintWords Go.Proofs.YtijfddobandcdaaDoorW.PrintLast Go.Proofs.YtijfddobandcdaaDoorW.PrintMore Go.Proofs.YtijfddobandcdaaDoor.T

theorem isGraph_l1 (m : Nat) (g : List Int) (hn : g.length ≤ 13) (i : Nat) (hi : i < g.length) (r : Bool)
    (hrest : Ev (fun k => lampblackref01_IsGraph.l0 k g (m : Int) g (g.length : Int) ((i + 1 : Nat) : Int)) r) :
    ∀ d j, j + d = g.length → Ev (fun k => lampblackref01_IsGraph.l1 k g (m : Int) (i : Int) (rd g (i : Int)) g (g.length : Int) (i : Int) (g.length : Int) (j : Int))
      (allFrom (fun j => decide (ibit (rd g (i : Int)) j = ibit (rd g (j : Int)) i)) g.length d j && r) := by
  intro d
  induction d with
  | zero =>
    intro j hj
    refine Ev.step (fun k => ?_) hrest
    rw [lampblackref01_IsGraph.l1, if_neg (by omega), wrap_succ i (by omega)]
  | succ d ih =>
    intro j hj
    simp only [allFrom]
    by_cases hb : ibit (rd g (i : Int)) j = ibit (rd g (j : Int)) i
    · refine Ev.step (f := fun k => lampblackref01_IsGraph.l1 k g (m : Int) (i : Int) (rd g (i : Int)) g (g.length : Int) (i : Int) (g.length : Int) ((j + 1 : Nat) : Int)) (fun k => ?_) ?_
      · rw [lampblackref01_IsGraph.l1, if_pos (by omega), if_pos (by omega), if_pos (by omega), if_pos (by omega), wrap_succ j (by omega)]
        exact if_pos hb
      · have := ih (j + 1) (by omega)
        simpa [hb] using this
    · refine Ev.step (f := fun _ => some false) (fun k => ?_) (Ev.some (by simp [hb]))
      rw [lampblackref01_IsGraph.l1, if_pos (by omega), if_pos (by omega), if_pos (by omega), if_pos (by omega)]
      exact if_neg hb

theorem isGraph_l0 (m : Nat) (hm : m ≤ 13) (g : List Int) (h1 : 1 ≤ g.length) (hn : g.length ≤ m) :
    ∀ d i, i + d = g.length → Ev (fun k => lampblackref01_IsGraph.l0 k g (m : Int) g (g.length : Int) (i : Int)) (allFrom (rowOk g) g.length d i) := by
  intro d
  induction d with
  | zero =>
    intro i hi
    refine Ev.step (f := fun _ => some true) (fun k => ?_) (Ev.some (by simp [allFrom]))
    rw [lampblackref01_IsGraph.l0, if_neg (by omega), if_pos (by omega), decide_eq_true (by omega)]
  | succ d ih =>
    intro i hi
    have stop : ∀ k, lampblackref01_IsGraph.j1 (k + 1) g (m : Int) (i : Int) (rd g (i : Int)) g (g.length : Int) (i : Int) true = some false := fun k => by
      rw [lampblackref01_IsGraph.j1, if_pos rfl]
    simp only [allFrom, rowOk]
    by_cases h1' : rd g (i : Int) < 0
    · refine Ev.step (fun k => ?_) (f := fun k => lampblackref01_IsGraph.j1 k g (m : Int) (i : Int) (rd g (i : Int)) g (g.length : Int) (i : Int) true) ?_
      · rw [lampblackref01_IsGraph.l0, if_pos (by omega), if_pos (by omega), if_pos (by omega), if_neg (by omega), if_pos h1']
      · exact Ev.step stop (Ev.some (by simp [h1']))
    · by_cases h2 : rd g (i : Int) ≥ shl .i64 1 (g.length : Int)
      · refine Ev.step (fun k => ?_) (f := fun k => lampblackref01_IsGraph.j1 k g (m : Int) (i : Int) (rd g (i : Int)) g (g.length : Int) (i : Int) true) ?_
        · rw [lampblackref01_IsGraph.l0, if_pos (by omega), if_pos (by omega), if_pos (by omega), if_neg (by omega), if_neg h1', if_pos h2]
        · exact Ev.step stop (Ev.some (by simp [h2]))
      · refine Ev.step (fun k => ?_) (f := fun k => lampblackref01_IsGraph.j1 k g (m : Int) (i : Int) (rd g (i : Int)) g (g.length : Int) (i : Int) (ibit (rd g (i : Int)) i == 1)) ?_
        · rw [lampblackref01_IsGraph.l0, if_pos (by omega), if_pos (by omega), if_pos (by omega), if_neg (by omega), if_neg h1', if_neg h2]
          rfl
        · by_cases h3 : (ibit (rd g (i : Int)) i == 1) = true
          · simp only [h3]
            exact Ev.step stop (Ev.some (by simp))
          · refine Ev.step (fun k => by rw [lampblackref01_IsGraph.j1, if_neg h3]) ?_
            have := isGraph_l1 m g (by omega) i (by omega) _ (ih (i + 1) (by omega)) g.length 0 (by omega)
            have h3' : (ibit (rd g (i : Int)) i == 1) = false := by simpa using h3
            simp only [h1', h2, h3', decide_false, Bool.not_false, Bool.true_and]
            exact this

theorem isGraph_ev (m : Nat) (hm : m ≤ 13) (g : List Int) (hg : g.length < 2 ^ 60) : Ev (fun k => lampblackref01_IsGraph.f k g (m : Int)) (chk m g) := by
  unfold lampblackref01_IsGraph.f
  by_cases h1 : 1 ≤ g.length
  · by_cases h2 : g.length ≤ m
    · have := isGraph_l0 m hm g h1 h2 g.length 0 (by omega)
      simpa [chk, h1, h2] using this
    · refine Ev.step (f := fun k => lampblackref01_IsGraph.j1 k g (m : Int) 0 (rd g 0) g (g.length : Int) 0 true) (fun k => ?_) (Ev.step (f := fun _ => some false) (fun k => ?_) (Ev.some (by simp [chk, h2])))
      · rw [lampblackref01_IsGraph.l0, if_pos (by omega), if_pos (by omega), if_pos (by omega), if_pos (by omega)]
      · rw [lampblackref01_IsGraph.j1, if_pos rfl]
  · refine Ev.step (f := fun _ => some false) (fun k => ?_) (Ev.some (by simp [chk, h1]))
    rw [lampblackref01_IsGraph.l0, if_neg (by omega), if_neg (by omega)]

end Go.Proofs.YtijfddobandcdaaDoor.X
end
section
/- border, count, layout: what they compute, in plain words; Layout, Least, awake, Few. -/
set_option linter.unusedVariables false
namespace Go.Proofs.YtijfddobandcdaaDoor.X
open Go.RowKit Go.Proofs.YtijfddobandcdaaDoorW.PrintWords Go.Proofs.YtijfddobandcdaaDoorW.PrintLast Go.Proofs.YtijfddobandcdaaDoorW.PrintMore Go.Proofs.YtijfddobandcdaaDoor.T

theorem mx_nat (a b : Nat) : mx (a : Int) (b : Int) = ((max a b : Nat) : Int) := by unfold mx; split <;> omega
theorem mn_nat (a b : Nat) : mn (a : Int) (b : Int) = ((min a b : Nat) : Int) := by unfold mn; split <;> omega
theorem small (G : List Nat) (h : G.length ≤ 9) {x : Nat} (hx : x < 2 ^ G.length) : x < 512 := Nat.lt_of_lt_of_le hx (show 2 ^ G.length ≤ 2 ^ 9 from Nat.pow_le_pow_right (by omega) h)
theorem big {x : Nat} (h : x < 512) : x < 2 ^ 62 := by omega
theorem ctz_all : ∀ z : Fin 512, 0 < z.val → Lib.ctz 64 z.val < 9 ∧ z.val.testBit (Lib.ctz 64 z.val) = true ∧ rest z.val = diff z.val (2 ^ Lib.ctz 64 z.val) ∧ ∀ j : Fin 9, z.val.testBit j.val = true → Lib.ctz 64 z.val ≤ j.val := by decide +kernel
theorem ctz_bit {z : Nat} (hz : z < 512) (h0 : z ≠ 0) : bset z (Lib.ctz 64 z) := (ctz_all ⟨z, hz⟩ (by show 0 < z; omega)).2.1
theorem ctz_low {z : Nat} (hz : z < 512) (h0 : z ≠ 0) {j : Nat} (hj : bset z j) : Lib.ctz 64 z ≤ j := (ctz_all ⟨z, hz⟩ (by show 0 < z; omega)).2.2.2 ⟨j, bit_lt (n := 9) (by omega) hj⟩ hj
theorem rest_diff {z : Nat} (hz : z < 512) (h0 : z ≠ 0) : rest z = diff z (2 ^ Lib.ctz 64 z) := (ctz_all ⟨z, hz⟩ (by show 0 < z; omega)).2.2.1
theorem rest_bset {z : Nat} (hz : z < 512) (h0 : z ≠ 0) (j : Nat) : bset (rest z) j ↔ bset z j ∧ j ≠ Lib.ctz 64 z := by
  rw [rest_diff hz h0, diff_bset, two_pow_bit]
theorem rest_pc {z : Nat} (hz : z < 512) (h0 : z ≠ 0) : pc (rest z) 9 < pc z 9 := by
  have h1 := ctz_bit hz h0
  refine pc_lt (Lib.ctz 64 z) 9 (fun j _ h => ((rest_bset hz h0 j).1 h).1) (bit_lt (n := 9) (by omega) h1) ?_ h1
  have := rest_bset hz h0 (Lib.ctz 64 z)
  cases h : (rest z).testBit (Lib.ctz 64 z)
  · rfl
  · exact ((this.1 h).2 rfl).elim
theorem diff_ne {a b : Nat} : diff a b ≠ 0 ↔ ∃ u, bset a u ∧ ¬ bset b u := by
  constructor
  · intro h
    obtain ⟨i, hi⟩ := Nat.exists_testBit_of_ne_zero h
    exact ⟨i, (diff_bset a b i).1 hi⟩
  · rintro ⟨u, hu⟩ h
    have := (diff_bset a b u).2 hu
    rw [h] at this
    unfold bset at this
    simp at this

theorem count_all : ∀ x : Fin 512, sweep_count.f (x.val : Int) = some (pc x.val 9 : Int) := by decide +kernel
theorem count_eq (x : Nat) (hx : x < 512) : sweep_count.f (x : Int) = some (pc x 9 : Int) := count_all ⟨x, hx⟩

theorem rest_lt' {s n : Nat} (hs5 : s < 512) (h0 : s ≠ 0) (hs : s < 2 ^ n) : rest s < 2 ^ n := lt_of_bits fun j hj => bit_lt hs ((rest_bset hs5 h0 j).1 hj).1
theorem bordTo_eq (G : List Nat) (hG : Gr 7 G) (S : Nat) (hS : S < 2 ^ G.length) : ∀ (k s o : Nat), pc s 9 < k → s < 2 ^ G.length → o < 2 ^ G.length → (∀ j, bset s j → bset S j) →
    ∃ r : Nat, bordTo (gi G) S k s (o : Int) = some (r : Int) ∧ r < 2 ^ G.length ∧ ∀ j, bset r j ↔ bset o j ∨ (bset s j ∧ ∃ u, Adj G j u ∧ ¬ bset S u) := by
  have hn := hG.most
  intro k
  induction k with
  | zero => intro s o h; omega
  | succ k ih =>
    intro s o hk hs ho hsS
    have hs5 := small G (by omega) hs
    by_cases h0 : s = 0
    · subst h0
      refine ⟨o, by rw [bordTo, if_pos rfl], ho, fun j => ⟨.inl, fun h => h.elim id (fun h => ?_)⟩⟩
      have := h.1
      unfold bset at this
      simp at this
    · have hb := ctz_bit hs5 h0
      have hp := rest_pc hs5 h0
      have hr := rest_bset hs5 h0
      have hrl := rest_lt' hs5 h0 hs
      rw [bordTo, if_neg h0]
      generalize Lib.ctz 64 s = v at *
      have hv : v < G.length := bit_lt hs hb
      have hpv : 2 ^ v < 2 ^ G.length := Nat.pow_lt_pow_right (by omega) hv
      have hrow := hG.row v
      rw [if_pos (by rw [gi_length]; omega), rd_gi, b_andNot _ _ (big (small G (by omega) hrow)) (big (small G (by omega) hS)), s_one v (by omega), b_or _ _ (big (small G (by omega) ho)) (big (small G (by omega) hpv))]
      by_cases hd : diff (G.getD v 0) S = 0
      · rw [hd, if_neg (by decide)]
        obtain ⟨r, h1, h2, h3⟩ := ih (rest s) o (by omega) hrl ho (fun j hj => hsS j ((hr j).1 hj).1)
        refine ⟨r, h1, h2, fun j => ?_⟩
        rw [h3, hr]
        constructor
        · rintro (h | ⟨h, h'⟩)
          · exact .inl h
          · exact .inr ⟨h.1, h'⟩
        · rintro (h | ⟨h, u, hu, hu'⟩)
          · exact .inl h
          · refine .inr ⟨⟨h, fun e => ?_⟩, u, hu, hu'⟩
            subst e
            exact (diff_ne.2 ⟨u, hu, hu'⟩ hd).elim
      · have hd' : ((diff (G.getD v 0) S : Nat) : Int) ≠ 0 := by omega
        rw [if_pos (by simpa using hd)]
        obtain ⟨r, h1, h2, h3⟩ := ih (rest s) (o ||| 2 ^ v) (by omega) hrl (or_lt ho hpv) (fun j hj => hsS j ((hr j).1 hj).1)
        refine ⟨r, h1, h2, fun j => ?_⟩
        rw [h3, hr, or_bset, two_pow_bit]
        obtain ⟨u, hu, hu'⟩ := diff_ne.1 hd
        constructor
        · rintro ((h | h) | ⟨h, h'⟩)
          · exact .inl h
          · subst h; exact .inr ⟨hb, u, hu, hu'⟩
          · exact .inr ⟨h.1, h'⟩
        · rintro (h | ⟨h, h'⟩)
          · exact .inl (.inl h)
          · by_cases e : j = v
            · exact .inl (.inr e)
            · exact .inr ⟨⟨h, e⟩, h'⟩
theorem border_eq (G : List Nat) (hG : Gr 7 G) (S : Nat) (hS : S < 2 ^ G.length) : sweep_town_border.f (gi G) (S : Int) = some ((bor G S : Nat) : Int) := by
  have hn := hG.most
  have hS5 := small G (by omega) hS
  unfold sweep_town_border.f
  rw [if_pos (by omega), if_pos (by have := big hS5; omega), Int.toNat_natCast]
  obtain ⟨r, h1, h2, h3⟩ := bordTo_eq G hG S hS 64 S 0 (by have := pc_le S 9; omega) hS (Nat.two_pow_pos _) (fun _ h => h)
  have e : r = bor G S := eq_of_bits fun j => by
    have a := h3 j
    have b := bor_bit hG S j
    unfold bset at *
    rw [a, b]
    simp
  subst e
  exact h1
/-- How many nodes a set's border has. -/
noncomputable def bc (G : List Nat) (S : Nat) : Nat := pc (bor G S) 9
theorem cost_eq (G : List Nat) (hG : Gr 7 G) (S : Nat) (hS : S < 2 ^ G.length) : cost (gi G) (S : Int) = some ((bc G S : Nat) : Int) := by
  unfold cost bc
  rw [border_eq G hG S hS, Option.bind_some]
  exact count_eq _ (small G (by have := hG.most; omega) (bor_lt G S))

/-- x is the least breadth of what can come behind S. -/
def PV (G : List Nat) (S x : Nat) : Prop := ∀ q, x ≤ q ↔ Lay G q S
theorem getD_set (W : List Nat) (i j x : Nat) (hi : i < W.length) : (W.set i x).getD j 0 = if j = i then x else W.getD j 0 := by
  simp only [List.getD_eq_getElem?_getD, List.getElem?_set]
  by_cases h : i = j
  · subst h; simp [hi]
  · rw [if_neg h, if_neg (fun e => h e.symm)]
theorem bestIn_eq (G : List Nat) (hG : Gr 7 G) (S : Nat) (hS : S < 2 ^ G.length) : ∀ (k s : Nat) (W : List Nat), pc s 9 < k → s < 2 ^ G.length → (∀ j, bset s j → ¬ bset S j) → W.length = 2 ^ G.length →
    ∃ x, bestIn (gi G) S k s (gi W) = some (gi (W.set S x)) ∧ ∀ q, x ≤ q ↔ W.getD S 0 ≤ q ∨ ∃ v, bset s v ∧ W.getD (S ||| 2 ^ v) 0 ≤ q ∧ bc G (S ||| 2 ^ v) ≤ q := by
  have hn := hG.most
  intro k
  induction k with
  | zero => intro s W h; omega
  | succ k ih =>
    intro s W hk hs hsS hW
    have hs5 := small G (by omega) hs
    by_cases h0 : s = 0
    · subst h0
      refine ⟨W.getD S 0, ?_, fun q => ⟨.inl, fun h => h.elim id (fun ⟨v, h, _⟩ => by unfold bset at h; simp at h)⟩⟩
      rw [bestIn, if_pos rfl]
      congr 2
      apply List.ext_getElem?
      intro i
      rw [List.getElem?_set]
      by_cases e : S = i
      · subst e
        rw [if_pos rfl, if_pos (by omega), List.getD_eq_getElem?_getD, List.getElem?_eq_getElem (by omega)]
        rfl
      · rw [if_neg e]
    · have hb := ctz_bit hs5 h0
      have hp := rest_pc hs5 h0
      have hr := rest_bset hs5 h0
      have hrl := rest_lt' hs5 h0 hs
      rw [bestIn, if_neg h0]
      unfold nxt
      generalize Lib.ctz 64 s = v at *
      have hv : v < G.length := bit_lt hs hb
      have hX := or_new hS hv
      have hgt := or_gt (hsS v hb)
      have hSW : S < W.length := by rw [hW]; exact hS
      have hXW : S ||| 2 ^ v < W.length := by rw [hW]; exact hX
      rw [if_pos (by rw [gi_length]; exact ⟨hSW, hXW⟩), cost_eq G hG _ hX, Option.bind_some, rd_gi, rd_gi, mx_nat, mn_nat, gi_set]
      obtain ⟨x, h1, h2⟩ := ih (rest s) (W.set S (min (W.getD S 0) (max (W.getD (S ||| 2 ^ v) 0) (bc G (S ||| 2 ^ v))))) (Nat.lt_of_lt_of_le hp (Nat.le_of_lt_succ hk)) hrl (fun j hj => hsS j ((hr j).1 hj).1) (by rw [List.length_set]; exact hW)
      refine ⟨x, by rw [h1, List.set_set], fun q => ?_⟩
      rw [h2, getD_set _ _ _ _ hSW, if_pos rfl]
      have hoth : ∀ u, bset (rest s) u → (W.set S (min (W.getD S 0) (max (W.getD (S ||| 2 ^ v) 0) (bc G (S ||| 2 ^ v))))).getD (S ||| 2 ^ u) 0 = W.getD (S ||| 2 ^ u) 0 := fun u hu => by
        have := or_gt (hsS u ((hr u).1 hu).1)
        rw [getD_set _ _ _ _ hSW, if_neg (Nat.ne_of_gt this)]
      clear hX hgt hSW hXW hs hrl hW hs5 hv hp hk ih h1 h2 h0
      constructor
      · rintro (h | ⟨u, hu, h3, h4⟩)
        · rcases Nat.le_total (W.getD S 0) (max (W.getD (S ||| 2 ^ v) 0) (bc G (S ||| 2 ^ v))) with h5 | h5
          · rw [Nat.min_eq_left h5] at h
            exact .inl h
          · rw [Nat.min_eq_right h5] at h
            exact .inr ⟨v, hb, Nat.le_trans (Nat.le_max_left _ _) h, Nat.le_trans (Nat.le_max_right _ _) h⟩
        · rw [hoth u hu] at h3
          exact .inr ⟨u, ((hr u).1 hu).1, h3, h4⟩
      · rintro (h | ⟨u, hu, h3, h4⟩)
        · exact .inl (Nat.le_trans (Nat.min_le_left _ _) h)
        · by_cases e : u = v
          · subst e; exact .inl (Nat.le_trans (Nat.min_le_right _ _) (Nat.max_le.2 ⟨h3, h4⟩))
          · have hu' := (hr u).2 ⟨hu, e⟩
            exact .inr ⟨u, hu', by rw [hoth u hu']; exact h3, h4⟩
theorem bestTo_eq (G : List Nat) (hG : Gr 7 G) : ∀ (d : Nat) (W : List Nat), d < 2 ^ G.length → W.length = 2 ^ G.length → (∀ T, d ≤ T → T < 2 ^ G.length → PV G T (W.getD T 0)) →
    ∃ W2 : List Nat, bestTo (gi G) d (gi W) = some (gi W2) ∧ W2.length = 2 ^ G.length ∧ ∀ T, T < 2 ^ G.length → PV G T (W2.getD T 0) := by
  have hn := hG.most
  intro d
  induction d with
  | zero => intro W _ hW h; exact ⟨W, rfl, hW, fun T hT => h T (by omega) hT⟩
  | succ d ih =>
    intro W hd hW h
    have hd' : d < 2 ^ G.length := by omega
    have hS5 := small G (by omega) hd'
    have h2 := Nat.two_pow_pos G.length
    have hc : ∀ j, bset (diff (2 ^ G.length - 1) d) j ↔ j < G.length ∧ ¬ bset d j := fun j => by rw [diff_bset, full_bit]
    rw [bestTo]
    simp only [gi_length]
    have e1 : (gi W).set d (G.length : Int) = gi (W.set d G.length) := gi_set W d G.length
    rw [e1]
    obtain ⟨x, h3, h4⟩ := bestIn_eq G hG d hd' 64 (diff (2 ^ G.length - 1) d) (W.set d G.length) (by have := pc_le (diff (2 ^ G.length - 1) d) 9; omega) (Nat.lt_of_le_of_lt (diff_le _ _) (by omega)) (fun j hj => ((hc j).1 hj).2) (by rw [List.length_set]; exact hW)
    rw [h3, Option.bind_some, List.set_set]
    refine ih _ hd' (by rw [List.length_set]; exact hW) fun T h5 h6 => ?_
    rw [getD_set _ _ _ _ (by omega)]
    by_cases e : T = d
    · subst e
      rw [if_pos rfl]
      intro q
      rw [h4, getD_set _ _ _ _ (by omega), if_pos rfl]
      have hoth : ∀ v, v < G.length → ¬ bset T v → (W.set T G.length).getD (T ||| 2 ^ v) 0 = W.getD (T ||| 2 ^ v) 0 ∧ PV G (T ||| 2 ^ v) (W.getD (T ||| 2 ^ v) 0) := fun v hv hb => by
        have h7 := or_gt hb
        have h8 := or_new hd' hv
        rw [getD_set _ _ _ _ (by omega), if_neg (by omega)]
        exact ⟨rfl, h _ (by omega) h8⟩
      constructor
      · rintro (h7 | ⟨v, hv, h7, h8⟩)
        · exact lay_big (.inr h7) (by omega) _ _ rfl hd'
        · obtain ⟨h9, h10⟩ := (hc v).1 hv
          obtain ⟨h11, h12⟩ := hoth v h9 h10
          rw [h11] at h7
          exact .step h9 h10 h8 ((h12 q).1 h7)
      · intro h7
        cases h7 with
        | done => omega
        | step h9 h10 h8 h13 =>
          obtain ⟨h11, h12⟩ := hoth _ h9 h10
          exact .inr ⟨_, (hc _).2 ⟨h9, h10⟩, by rw [h11]; exact (h12 q).2 h13, h8⟩
    · rw [if_neg e]
      exact h T (by omega) h6

/-- Node v can come behind S, if all is to be laid out with borders of at most m nodes. -/
def Can (G : List Nat) (m S v : Nat) : Prop := Lay G m (S ||| 2 ^ v) ∧ bc G (S ||| 2 ^ v) ≤ m
/-- Node by node the first one that can come. -/
inductive Greedy (G : List Nat) (m : Nat) : Nat → List Nat → Prop
  | nil : Greedy G m (2 ^ G.length - 1) []
  | cons {S v : Nat} {L : List Nat} : v < G.length → ¬ bset S v → Can G m S v → (∀ u, u < v → ¬ bset S u → ¬ Can G m S u) → Greedy G m (S ||| 2 ^ v) L → Greedy G m S (v :: L)
theorem goOn_eq (G : List Nat) (hG : Gr 7 G) (W : List Nat) (m : Nat) (hW : W.length = 2 ^ G.length) (hP : ∀ T, T < 2 ^ G.length → PV G T (W.getD T 0)) (hm : W.getD 0 0 = m) (S : Nat) (hS : S < 2 ^ G.length) :
    ∀ (k s : Nat), pc s 9 < k → s < 2 ^ G.length → (∀ j, bset s j → ¬ bset S j) → (∃ v, bset s v ∧ Can G m S v) →
      ∃ v : Nat, goOn (gi G) (gi W) S k s = some (some ((v : Int), S ||| 2 ^ v)) ∧ bset s v ∧ Can G m S v ∧ ∀ u, u < v → bset s u → ¬ Can G m S u := by
  have hn := hG.most
  intro k
  induction k with
  | zero => intro s h; omega
  | succ k ih =>
    intro s hk hs hsS hex
    have hs5 := small G (by omega) hs
    have h0 : s ≠ 0 := fun e => by obtain ⟨v, h, _⟩ := hex; subst e; unfold bset at h; simp at h
    have hb := ctz_bit hs5 h0
    have hlow : ∀ j, bset s j → Lib.ctz 64 s ≤ j := fun j hj => ctz_low hs5 h0 hj
    have hp := rest_pc hs5 h0
    have hr := rest_bset hs5 h0
    have hrl := rest_lt' hs5 h0 hs
    rw [goOn, if_neg h0]
    unfold nxt
    generalize Lib.ctz 64 s = v at *
    have hv : v < G.length := bit_lt hs hb
    have hX := or_new hS hv
    have hXW : S ||| 2 ^ v < W.length := by rw [hW]; exact hX
    have hp' := Nat.lt_of_lt_of_le hp (Nat.le_of_lt_succ hk)
    rw [if_pos (by rw [gi_length]; exact hXW), cost_eq G hG _ hX, Option.bind_some, rd_gi, show rd (gi W) 0 = ((W.getD 0 0 : Nat) : Int) from rd_gi W 0, mx_nat, hm]
    have hPX := hP _ hX
    clear hX hs hW hs5 hv hp hk h0 hS hXW
    by_cases hc : max (W.getD (S ||| 2 ^ v) 0) (bc G (S ||| 2 ^ v)) ≤ m
    · rw [if_pos (by omega)]
      exact ⟨v, rfl, hb, ⟨(hPX m).1 (by omega), by omega⟩, fun u hu hsu => by have := hlow u hsu; omega⟩
    · rw [if_neg (by omega)]
      have hno : ¬ Can G m S v := fun h => hc (by have := (hPX m).2 h.1; have := h.2; omega)
      obtain ⟨u, h1, h2, h3, h4⟩ := ih (rest s) hp' hrl (fun j hj => hsS j ((hr j).1 hj).1) (by
        obtain ⟨u, hu, hcu⟩ := hex
        exact ⟨u, (hr u).2 ⟨hu, fun e => hno (e ▸ hcu)⟩, hcu⟩)
      refine ⟨u, h1, ((hr u).1 h2).1, h3, fun x hx hsx => ?_⟩
      by_cases e : x = v
      · subst e; exact hno
      · exact h4 x hx ((hr x).2 ⟨hsx, e⟩)
theorem layTo_eq (G : List Nat) (hG : Gr 7 G) (W : List Nat) (m : Nat) (hW : W.length = 2 ^ G.length) (hP : ∀ T, T < 2 ^ G.length → PV G T (W.getD T 0)) (hm : W.getD 0 0 = m) :
    ∀ (k S : Nat) (pre : List Int), pc (diff (2 ^ G.length - 1) S) 9 < k → S < 2 ^ G.length → Lay G m S → ∃ L, layTo (gi G) (gi W) k S pre = some (pre ++ gi L) ∧ Greedy G m S L := by
  have hn := hG.most
  intro k
  induction k with
  | zero => intro S pre h; omega
  | succ k ih =>
    intro S pre hk hS hL
    have h2 := Nat.two_pow_pos G.length
    rw [layTo]
    simp only [gi_length]
    by_cases e : S = 2 ^ G.length - 1
    · rw [if_pos e, e]
      exact ⟨[], by simp [gi], .nil⟩
    · rw [if_neg e]
      have hc : ∀ j, bset (diff (2 ^ G.length - 1) S) j ↔ j < G.length ∧ ¬ bset S j := fun j => by rw [diff_bset, full_bit]
      obtain ⟨v, h3, h4, h5, h6⟩ := goOn_eq G hG W m hW hP hm S hS 64 (diff (2 ^ G.length - 1) S) (by have := pc_le (diff (2 ^ G.length - 1) S) 9; omega) (Nat.lt_of_le_of_lt (diff_le _ _) (by omega)) (fun j hj => ((hc j).1 hj).2) (by
        cases hL with
        | done => exact (e rfl).elim
        | step h7 h8 h9 h10 => exact ⟨_, (hc _).2 ⟨h7, h8⟩, h10, h9⟩)
      rw [h3, Option.bind_some]
      obtain ⟨h7, h8⟩ := (hc v).1 h4
      have hX := or_new hS h7
      obtain ⟨L, h9, h10⟩ := ih (S ||| 2 ^ v) (pre ++ [(v : Int)]) (by
        refine Nat.lt_of_lt_of_le (pc_lt v 9 (fun j _ hj => ?_) (by omega) ?_ ((hc v).2 ⟨h7, h8⟩)) (show pc (diff (2 ^ G.length - 1) S) 9 ≤ k by omega)
        · have a := (diff_bset (2 ^ G.length - 1) (S ||| 2 ^ v) j).1 hj
          exact (diff_bset _ _ _).2 ⟨a.1, fun h => a.2 ((or_bset _ _ _).2 (.inl h))⟩
        · have a := diff_bset (2 ^ G.length - 1) (S ||| 2 ^ v) v
          cases hh : (diff (2 ^ G.length - 1) (S ||| 2 ^ v)).testBit v
          · rfl
          · exact ((a.1 hh).2 ((or_bset _ _ _).2 (.inr ((two_pow_bit v v).2 rfl)))).elim) hX h5.1
      refine ⟨v :: L, ?_, .cons h7 h8 h5 (fun u hu hSu => h6 u hu ((hc u).2 ⟨by omega, hSu⟩)) h10⟩
      show layTo (gi G) (gi W) k (S ||| 2 ^ v) (pre ++ [(v : Int)]) = _
      rw [h9]
      simp [gi]
theorem layout_eq (G : List Nat) (hG : Gr 7 G) : ∃ (L : List Nat) (m : Nat), sweep_town_layout.f (gi G) = some (gi L, (m : Int)) ∧ IsVs G m ∧ Greedy G m 0 L := by
  have hn := hG.most
  have h2 := Nat.two_pow_pos G.length
  have e : List.replicate (2 ^ G.length) (0 : Int) = gi (List.replicate (2 ^ G.length) 0) := by simp [gi]
  obtain ⟨W, h3, h4, h5⟩ := bestTo_eq G hG (2 ^ G.length - 1) (List.replicate (2 ^ G.length) 0) (by omega) (by simp) (fun T hT hT2 q => by
    have e : T = 2 ^ G.length - 1 := by omega
    subst e
    have : (List.replicate (2 ^ G.length) 0).getD (2 ^ G.length - 1) 0 = 0 := by simp [List.getD_eq_getElem?_getD, List.getElem?_replicate]; rw [if_pos (by omega)]; rfl
    rw [this]
    exact ⟨fun _ => .done, fun _ => by omega⟩)
  obtain ⟨L, h6, h7⟩ := layTo_eq G hG W (W.getD 0 0) h4 h5 rfl 11 0 [] (by have := pc_le (diff (2 ^ G.length - 1) 0) 9; omega) h2 ((h5 0 h2 _).1 (Nat.le_refl _))
  refine ⟨L, W.getD 0 0, ?_, h5 0 h2, h7⟩
  unfold sweep_town_layout.f
  simp only [gi_length]
  rw [if_pos ⟨hG.pos, by omega⟩, e, h3, Option.bind_some, h6]
  simp only [List.nil_append, Option.bind_some]
  rw [show rd (gi W) 0 = ((W.getD 0 0 : Nat) : Int) from rd_gi W 0]

theorem awake_ev : Ev (fun k => lampblacklaw03_awake.f k) true := by
  exact Ev.of (lampblacklaw03_awake.mono) (k := 40) (by decide +kernel)
theorem valid_ev (g : List Int) (hg : g.length < 2 ^ 60) : Ev (fun k => lampblackref03_Valid.f k g) (chk 7 g) := by
  unfold lampblackref03_Valid.f
  exact Ev.bind (isGraph_ev 7 (by omega) g hg) (Ev.some rfl)
/-- Few hands on a beginning; what is valid it hands on whole, and what isn't stays so. -/
theorem few_eq (g : List Int) (hg : g.length < 2 ^ 44) : ∃ h, lampblacklaw03_Few.f g = some h ∧ (chk 7 g = true → h = g) ∧ (chk 7 g = false → chk 7 h = false) ∧ h.length ≤ 11 := by
  have hm : mn (g.length : Int) 11 = ((min g.length 11 : Nat) : Int) := mn_nat g.length 11
  refine ⟨g.take (min g.length 11), ?_, ?_, ?_, ?_⟩
  · unfold lampblacklaw03_Few.f slices_Clone_Graph.f
    simp only [hm, Int.toNat_natCast]
    rw [if_pos (by omega), if_pos (by omega)]
    simp only [Option.bind_some, List.length_nil, List.nil_append]
    rw [if_pos (by rw [List.length_take]; omega)]
    rfl
  · intro h
    simp only [chk, Bool.and_eq_true, decide_eq_true_eq] at h
    exact List.take_of_length_le (by omega)
  · intro h
    by_cases hl : g.length ≤ 11
    · rw [List.take_of_length_le (by omega)]; exact h
    · unfold chk
      have : ¬ (List.take (min g.length 11) g).length ≤ 7 := by rw [List.length_take]; omega
      rw [decide_eq_false this, Bool.and_false, Bool.false_and]
  · rw [List.length_take]; omega
end Go.Proofs.YtijfddobandcdaaDoor.X
end
section
/- Lists that have the numbers below n, each once. -/
set_option linter.unusedVariables false
namespace Go.Proofs.YtijfddobandcdaaDoor.T
open Go.RowKit Go.Proofs.YtijfddobandcdaaDoorW.PrintWords Go.Proofs.YtijfddobandcdaaDoorW.PrintLast Go.Proofs.YtijfddobandcdaaDoorW.PrintMore

/-- l has the numbers below n, each once. -/
def IsOrd (n : Nat) (l : List Int) : Prop := ∃ P : List Nat, l = gi P ∧ P.Nodup ∧ (∀ v ∈ P, v < n) ∧ P.length = n
theorem gi_inj {a b : List Nat} (h : gi a = gi b) : a = b := by
  induction a generalizing b with
  | nil => cases b with
    | nil => rfl
    | cons => simp [gi] at h
  | cons x a ih => cases b with
    | nil => simp [gi] at h
    | cons y b =>
      simp only [gi, List.map_cons, List.cons.injEq] at h
      rw [ih (show gi a = gi b from h.2)]
      congr 1
      omega
theorem gi_snoc (P : List Nat) (v : Nat) : gi P ++ [(v : Int)] = gi (P ++ [v]) := by simp [gi]
theorem gi_mem {P : List Nat} {v : Nat} : (v : Int) ∈ gi P ↔ v ∈ P := by
  unfold gi
  rw [List.mem_map]
  exact ⟨fun ⟨a, h1, h2⟩ => by have : a = v := by omega
                               exact this ▸ h1, fun h => ⟨v, h, rfl⟩⟩
theorem covers_of_nodup {P : List Nat} {n : Nat} (hl : P.length = n) (hn : P.Nodup) (h : ∀ v ∈ P, v < n) (j : Nat) (hj : j < n) : j ∈ P := by
  apply Classical.byContradiction
  intro hno
  have := nodup_le (List.nodup_cons.2 ⟨hno, hn⟩) (m := List.range n) fun x hx => by
    rcases List.mem_cons.1 hx with e | e
    · subst e; exact List.mem_range.2 hj
    · exact List.mem_range.2 (h x e)
  simp at this
  omega
theorem IsOrd.of {n : Nat} {P : List Nat} (h1 : P.Nodup) (h2 : ∀ v ∈ P, v < n) : IsOrd n (gi P) ↔ P.length = n := by
  constructor
  · rintro ⟨Q, e, _, _, h⟩
    rw [gi_inj e]; exact h
  · intro h; exact ⟨P, rfl, h1, h2, h⟩
theorem IsOrd.length {n : Nat} {l : List Int} (h : IsOrd n l) : l.length = n := by
  obtain ⟨P, rfl, _, _, h⟩ := h
  rw [gi_length, h]
end Go.Proofs.YtijfddobandcdaaDoor.T
end
section
/- Path decompositions: bags in a row; the runs of a node; backward. -/
set_option linter.unusedVariables false
namespace Go.Proofs.YtijfddobandcdaaDoor.T
open Go.RowKit Go.Proofs.YtijfddobandcdaaDoorW.PrintWords Go.Proofs.YtijfddobandcdaaDoorW.PrintLast Go.Proofs.YtijfddobandcdaaDoorW.PrintMore

/-- Node v's marks in a row of bags. -/
def marks (v : Nat) (B : List Nat) : List Bool := B.map fun b => b.testBit v
/-- The most nodes that a bag has. -/
def mostOf (B : List Nat) : Nat := B.foldr (fun b m => max (pc b 9) m) 0
/-- What is left of a set when the bags with v have been taken away. -/
def left (v : Nat) : Nat → List Nat → Nat
  | s, [] => s
  | s, b :: B => left v (if b.testBit v then diff s b else s) B
end Go.Proofs.YtijfddobandcdaaDoor.T
end
section
-- by ownprint.py (wip/tool), over the kit's print
namespace Go.Proofs.YtijfddobandcdaaDoor.X
open Go.RowKit Go.Proofs.YtijfddobandcdaaDoorW.PrintWords Go.Proofs.YtijfddobandcdaaDoorW.PrintLast Go.Proofs.YtijfddobandcdaaDoorW.PrintMore
attribute [local go_sem] max2_int min2_int max_two min_two max_three min_three max_four min_four
set_option linter.unusedVariables false
set_option linter.unusedSimpArgs false

/-! ### slices_Max_int_int: function 76 -/
def slices_Max_int_int.l0 : Nat → List Int → Int → Int → Option (Int)
  | 0, _, _, _ => none
  | k + 1, x0, x3, x4 => if x4 < (x0.length : Int) then (if 0 ≤ x4 then (slices_Max_int_int.l0 k x0 (mx x3 (rd x0 x4)) (wrap64 (x4 + 1))) else (none)) else (some x3)
end Go.Proofs.YtijfddobandcdaaDoor.X
end
section
-- by ownprint.py (wip/tool), over the kit's print
namespace Go.Proofs.YtijfddobandcdaaDoor.X
open Go.RowKit Go.Proofs.YtijfddobandcdaaDoorW.PrintWords Go.Proofs.YtijfddobandcdaaDoorW.PrintLast Go.Proofs.YtijfddobandcdaaDoorW.PrintMore
attribute [local go_sem] max2_int min2_int max_two min_two max_three min_three max_four min_four
set_option linter.unusedVariables false
set_option linter.unusedSimpArgs false

/-! ### slices_Min_int_int: function 75 -/
def slices_Min_int_int.l0 : Nat → List Int → Int → Int → Option (Int)
  | 0, _, _, _ => none
  | k + 1, x0, x3, x4 => if x4 < (x0.length : Int) then (if 0 ≤ x4 then (slices_Min_int_int.l0 k x0 (mn x3 (rd x0 x4)) (wrap64 (x4 + 1))) else (none)) else (some x3)
end Go.Proofs.YtijfddobandcdaaDoor.X
end
section
-- by ownprint.py (wip/tool), over the kit's print
namespace Go.Proofs.YtijfddobandcdaaDoor.X
open Go.RowKit Go.Proofs.YtijfddobandcdaaDoorW.PrintWords Go.Proofs.YtijfddobandcdaaDoorW.PrintLast Go.Proofs.YtijfddobandcdaaDoorW.PrintMore
attribute [local go_sem] max2_int min2_int max_two min_two max_three min_three max_four min_four
set_option linter.unusedVariables false
set_option linter.unusedSimpArgs false

/-! ### sweep_town_isPath: function 62 -/
mutual
def sweep_town_isPath.j0 : Nat → List Int → List Int → Bool → Option (Bool)
  | 0, _, _, _ => none
  | k + 1, x0, x1, x29 => if x29 = true then (some false) else (sweep_town_isPath.l0 k x1 x0 (x0.length : Int) 0)
def sweep_town_isPath.l0 : Nat → List Int → List Int → Int → Int → Option (Bool)
  | 0, _, _, _, _ => none
  | k + 1, x1, x30, x31, x32 => if x32 < x31 then (if 0 ≤ x32 then (if x32 < (x30.length : Int) then (sweep_town_isPath.l1 k x1 x32 (rd x30 x32) 0 x30 x31 x32 x1 (x1.length : Int) 0) else (none)) else (none)) else (some true)
def sweep_town_isPath.l1 : Nat → List Int → Int → Int → Int → List Int → Int → Int → List Int → Int → Int → Option (Bool)
  | 0, _, _, _, _, _, _, _, _, _, _ => none
  | k + 1, x1, x5, x6, x7, x30, x31, x32, x37, x38, x39 => if x39 < x38 then (if 0 ≤ x39 then (if x39 < (x37.length : Int) then (if 0 ≤ x5 then (if (Go.bits .and .i64 (shr .i64 (rd x37 x39) x5) 1) = 1 then (if x39 = 0 then (sweep_town_isPath.j3 k x1 x5 x6 x7 (rd x37 x39) x30 x31 x32 x37 x38 x39 true) else (if 0 ≤ (wrap64 (x39 - 1)) then (if (wrap64 (x39 - 1)) < (x1.length : Int) then (sweep_town_isPath.j3 k x1 x5 x6 x7 (rd x37 x39) x30 x31 x32 x37 x38 x39 ((Go.bits .and .i64 (shr .i64 (rd x1 (wrap64 (x39 - 1))) x5) 1) == 0)) else (none)) else (none))) else (sweep_town_isPath.j3 k x1 x5 x6 x7 (rd x37 x39) x30 x31 x32 x37 x38 x39 false)) else (none)) else (none)) else (none)) else (if x7 = 1 then (if x6 = 0 then (sweep_town_isPath.l0 k x1 x30 x31 (wrap64 (x32 + 1))) else (some false)) else (some false))
def sweep_town_isPath.j3 : Nat → List Int → Int → Int → Int → Int → List Int → Int → Int → List Int → Int → Int → Bool → Option (Bool)
  | 0, _, _, _, _, _, _, _, _, _, _, _, _ => none
  | k + 1, x1, x5, x6, x7, x9, x30, x31, x32, x37, x38, x39, x63 => if x63 = true then (if 0 ≤ x5 then (if (Go.bits .and .i64 (shr .i64 x9 x5) 1) = 1 then (sweep_town_isPath.l1 k x1 x5 (Go.bits .andNot .i64 x6 x9) (wrap64 (x7 + 1)) x30 x31 x32 x37 x38 (wrap64 (x39 + 1))) else (sweep_town_isPath.l1 k x1 x5 x6 (wrap64 (x7 + 1)) x30 x31 x32 x37 x38 (wrap64 (x39 + 1)))) else (none)) else (if 0 ≤ x5 then (if (Go.bits .and .i64 (shr .i64 x9 x5) 1) = 1 then (sweep_town_isPath.l1 k x1 x5 (Go.bits .andNot .i64 x6 x9) x7 x30 x31 x32 x37 x38 (wrap64 (x39 + 1))) else (sweep_town_isPath.l1 k x1 x5 x6 x7 x30 x31 x32 x37 x38 (wrap64 (x39 + 1)))) else (none))
end
end Go.Proofs.YtijfddobandcdaaDoor.X
end
section
-- by ownprint.py (wip/tool), over the kit's print
namespace Go.Proofs.YtijfddobandcdaaDoor.X
open Go.RowKit Go.Proofs.YtijfddobandcdaaDoorW.PrintWords Go.Proofs.YtijfddobandcdaaDoorW.PrintLast Go.Proofs.YtijfddobandcdaaDoorW.PrintMore
attribute [local go_sem] max2_int min2_int max_two min_two max_three min_three max_four min_four
set_option linter.unusedVariables false
set_option linter.unusedSimpArgs false

/-! ### sweep_Check: function 36 -/
def sweep_Check.l0 : Nat → Int → List Int → Int → Int → Option (Int × Bool × Int)
  | 0, _, _, _, _ => none
  | k + 1, x9, x23, x24, x25 => if x25 < x24 then (if 0 ≤ x25 then (if x25 < (x23.length : Int) then ((sweep_count.f (rd x23 x25)).bind fun t363 => (sweep_Check.l0 k (mx x9 t363) x23 x24 (wrap64 (x25 + 1)))) else (none)) else (none)) else (some (wrap64 (x9 - 1), true, 0))
end Go.Proofs.YtijfddobandcdaaDoor.X
end
section
-- by ownprint.py (wip/tool), over the kit's print
namespace Go.Proofs.YtijfddobandcdaaDoor.X
open Go.RowKit Go.Proofs.YtijfddobandcdaaDoorW.PrintWords Go.Proofs.YtijfddobandcdaaDoorW.PrintLast Go.Proofs.YtijfddobandcdaaDoorW.PrintMore
attribute [local go_sem] max2_int min2_int max_two min_two max_three min_three max_four min_four
set_option linter.unusedVariables false
set_option linter.unusedSimpArgs false

/-! ### sweep_town_isLayout: function 55 -/
def sweep_town_isLayout.l0 : Nat → List Int → List Int → Int → List Int → Int → Int → Option (Bool)
  | 0, _, _, _, _, _, _ => none
  | k + 1, x0, x1, x5, x8, x9, x10 => if x10 < x9 then (if 0 ≤ x10 then (if x10 < (x8.length : Int) then (if (rd x8 x10) < 0 then (some false) else (if (rd x8 x10) ≥ (x0.length : Int) then (some false) else (if 0 ≤ (rd x8 x10) then (sweep_town_isLayout.l0 k x0 x1 (Go.bits .or .i64 x5 (shl .i64 1 (rd x8 x10))) x8 x9 (wrap64 (x10 + 1))) else (none)))) else (none)) else (none)) else (if (x1.length : Int) = (x0.length : Int) then ((sweep_town_all.f x0).bind fun t235 => (some (x5 == t235))) else (some false))
end Go.Proofs.YtijfddobandcdaaDoor.X
end
section
-- by ownprint.py (wip/tool), over the kit's print
namespace Go.Proofs.YtijfddobandcdaaDoor.X
open Go.RowKit Go.Proofs.YtijfddobandcdaaDoorW.PrintWords Go.Proofs.YtijfddobandcdaaDoorW.PrintLast Go.Proofs.YtijfddobandcdaaDoorW.PrintMore
attribute [local go_sem] max2_int min2_int max_two min_two max_three min_three max_four min_four
set_option linter.unusedVariables false
set_option linter.unusedSimpArgs false

/-! ### lampblackref02_IsOrder: function 30 -/
def lampblackref02_IsOrder.l0 : Nat → List Int → Int → Int → List Int → Int → Int → Option (Bool)
  | 0, _, _, _, _, _, _ => none
  | k + 1, x0, x1, x5, x8, x9, x10 => if x10 < x9 then (if 0 ≤ x10 then (if x10 < (x8.length : Int) then (if (rd x8 x10) < 0 then (some false) else (if (rd x8 x10) ≥ x1 then (some false) else (if 0 ≤ (rd x8 x10) then (if (Go.bits .and .i64 (shr .i64 x5 (rd x8 x10)) 1) = 1 then (some false) else (lampblackref02_IsOrder.l0 k x0 x1 (Go.bits .or .i64 x5 (shl .i64 1 (rd x8 x10))) x8 x9 (wrap64 (x10 + 1)))) else (none)))) else (none)) else (none)) else (some ((x0.length : Int) == x1))
end Go.Proofs.YtijfddobandcdaaDoor.X
end
section
-- by ownprint.py (wip/tool), over the kit's print
namespace Go.Proofs.YtijfddobandcdaaDoor.X
open Go.RowKit Go.Proofs.YtijfddobandcdaaDoorW.PrintWords Go.Proofs.YtijfddobandcdaaDoorW.PrintLast Go.Proofs.YtijfddobandcdaaDoorW.PrintMore
attribute [local go_sem] max2_int min2_int max_two min_two max_three min_three max_four min_four
set_option linter.unusedVariables false
set_option linter.unusedSimpArgs false

/-! ### lampblackref03_Bags: function 33 -/
def lampblackref03_Bags.l0 : Nat → List Int → List Int → Int → List Int → Int → Int → Option (List Int)
  | 0, _, _, _, _, _, _ => none
  | k + 1, x0, x5, x6, x9, x10, x11 => if x11 < x10 then (if 0 ≤ x11 then (if x11 < (x9.length : Int) then ((lampblackref03_Border.f k x0 x6).bind fun t287 => (if 0 ≤ (rd x9 x11) then (if x5.length < 17592186044416 then (lampblackref03_Bags.l0 k x0 (x5 ++ [Go.bits .or .i64 t287 (shl .i64 1 (rd x9 x11))]) (Go.bits .or .i64 x6 (shl .i64 1 (rd x9 x11))) x9 x10 (wrap64 (x11 + 1))) else (none)) else (none))) else (none)) else (none)) else (some x5)
def lampblackref03_Bags.T6 : Bool × List (List Nat × List Nat) := (true, [([], []), ([], []), ([], []), ([1, 2], [1, 2]), ([], []), ([4], [4]), ([3, 5], [3, 5]), ([6], [6]), ([0, 7, 3], [0, 7]), ([8, 8, 0, 1, 2, 3, 4, 5, 6, 7, 8], [0, 8])])
def lampblackref03_Bags.B6 : List Nat := [0, 0, 0, 6, 0, 16, 62, 126, 255, 511]
theorem lampblackref03_Bags.tab6 : rtab .any (opsOf Tryd.f33 6) = lampblackref03_Bags.T6 := by kernel_rfl
theorem lampblackref03_Bags.bits6 : waitsOk lampblackref03_Bags.T6.2 lampblackref03_Bags.B6 = true := by kernel_rfl
end Go.Proofs.YtijfddobandcdaaDoor.X
end
