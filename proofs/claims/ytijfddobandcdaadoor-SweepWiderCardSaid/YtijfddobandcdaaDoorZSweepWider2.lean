/- Part 2 of what SweepWider rests on: contracts of the functions that it reaches, and what they compute, in plain words. -/
import Derived.Test.YtijfddobandcdaaDoorZSweepWider0
import Derived.Test.YtijfddobandcdaaDoorZSweepWider1
set_option linter.unusedVariables false
set_option linter.unusedSimpArgs false
section
namespace Go.Proofs.YtijfddobandcdaaDoor.X
open Go.RowKit YtijfddobandcdaaDoorW.PrintWords YtijfddobandcdaaDoorW.PrintLast YtijfddobandcdaaDoorW.PrintMore
attribute [local go_sem] max2_int min2_int max_two min_two max_three min_three max_four min_four
/-! ### width_town_around: function 99 -/
def width_town_around.l0 : Nat → List Int → Int → List Int → Int → Int → Option (Int)
 | 0, _, _, _, _, _ => none
 | k + 1, x0, x5, x9, x10, x11 => if x11 < x10 then (if 0 ≤ x11 then (if x11 < (x9.length : Int) then (if 0 ≤ (rd x9 x11) then (if (rd x9 x11) < (x0.length : Int) then (width_town_around.l0 k x0 (Go.bits .or .i64 x5 (rd x0 (rd x9 x11))) x9 x10 (wrap64 (x11 + 1))) else (none)) else (none)) else (none)) else (none)) else (some x5)
def width_town_around.f (k : Nat) (l0 : List Int) (a1 : Int) : Option (Int) := (width_nodes.f k a1).bind fun t632 => (width_town_around.l0 k l0 0 t632 (t632.length : Int) 0)
set_option maxHeartbeats 8000000 in
set_option maxRecDepth 100000 in
theorem width_town_around.calls (k : Nat) (A0 : Option Addr) (c0 : Nat) (l0 : List Int) (a1 : Int) (r : Int) (w : World) (hGL : GL w) (hr0 : Kd.C (Kd.int .i64) w A0 l0.length l0) (hc0 : l0.length ≤ c0) (h : width_town_around.f k l0 a1 = some r) :
  Calls Tryd.prog 99 #[.slice A0 l0.length c0, .int .i64 a1] w fun e w' => e = .returned (.int .i64 r) ∧ Below w.heap.size w w' := by
 have HGL := Aside0.mk hGL
 clear hGL
 have HR0 := Aside0.mk hr0
 have HC0 := Aside0.mk hc0
 clear hr0 hc0
 have HB := Aside0.mk (Below.refl w.heap.size w)
 have H : ((width_nodes.f k a1).bind fun t632 => (width_town_around.l0 k l0 0 t632 (t632.length : Int) 0)) = some r := h
 clear h
 replace H := Option.bind_eq_some_iff.mp H
 obtain ⟨t632, A30, H⟩ := H
 replace H : (width_town_around.l0 k l0 0 t632 (t632.length : Int) 0) = some r := H
 have A3 := Aside0.mk A30
 clear A30
 have H' := Aside0.mk H
 clear H
 go_enter Tryd.func99, Tryd.ntmps99
 go_wp2_with (first | ((with_reducible refine gate_callee (f := 88) rfl ?_); refine goesL_ (some 9) rfl rfl Tryd.func88 (by kernel_rfl) rfl #[.int .i64 a1] rfl (Qls) ?_; (with_reducible refine (width_nodes.calls (hGL := (Qlg)) k a1 t632 _ A3.out).mono ?_); rintro e w4 ⟨v633, rfl, ho0, hb⟩; refine ⟨_, rfl, ?_⟩; have n0_ := Aside0.mk (Kd.R_lower ho0 (below_size (Qaw))); have n1_ := Aside0.mk (below_step (Qaw) hb); clear HB; have HO634 := n0_; have HB := n1_; clear n0_ n1_; (try clear hb); (try clear hb2); (try clear hk); (try clear hi); (try clear ho0); obtain ⟨Ao5, co5, eo5⟩ := Kd.R_slice HO634.out; subst eo5))
 go_loopg [5, 11] k (fun kq v5 v11 w' => ∃ (x5_1 : Int) (x11_1 : Int), v5 = .int .i64 x5_1 ∧ v11 = .int .i64 x11_1 ∧ Aside0 (width_town_around.l0 kq l0 x5_1 t632 (t632.length : Int) x11_1 = some r) ∧ Aside0 (kq ≤ k) ∧ Aside0 (Kd.R (Kd.int .i64) 3 w' w.heap.size (fun _ => True) (.slice Ao5 t632.length co5) t632) ∧ Aside0 (Below w.heap.size w w'))
 case atStart => exact ⟨(0), (0), (by first | rfl | (simp; done) | (simp [*]; done)), (by first | rfl | (simp; done) | (simp [*]; done)), H', ⟨Nat.le_refl _⟩, ⟨by (with_reducible repeat (first | apply Kd.R_alloc | apply Kd.R_drewN | apply Kd.R_drew)); exact HO634.out⟩, ⟨by repeat (first | (with_reducible first | exact HB.out | apply below_alloc | apply pw_below_drewN | apply below_drew1) | exact HB.out)⟩⟩
 case round =>
  clear H'
  try clear p2
  obtain ⟨x5_1, x11_1, rfl, rfl, HA, HK1, HO_9, HB⟩ := hrel
  cases gk with
  | zero => exact absurd HA.out (by simp [width_town_around.l0])
  | succ k1 =>
   have H := HA.out
   clear HA
   simp only [width_town_around.l0] at H
   by_cases c6 : x11_1 < (t632.length : Int)
   ·rw [if_pos c6] at H
    have c6b0 : decide (x11_1 < (t632.length : Int)) = true := decide_eq_true c6
    clear c6
    by_cases c7 : 0 ≤ x11_1
    ·rw [if_pos c7] at H
     have c7b0 : decide (0 ≤ x11_1) = true := decide_eq_true c7
     clear c7
     by_cases c8 : x11_1 < (t632.length : Int)
     ·rw [if_pos c8] at H
      have c8b0 : decide (x11_1 < (t632.length : Int)) = true := decide_eq_true c8
      clear c8
      by_cases c9 : 0 ≤ (rd t632 x11_1)
      ·rw [if_pos c9] at H
       have c9b0 : decide (0 ≤ (rd t632 x11_1)) = true := decide_eq_true c9
       clear c9
       by_cases c10 : (rd t632 x11_1) < (l0.length : Int)
       ·rw [if_pos c10] at H
        have c10b0 : decide ((rd t632 x11_1) < (l0.length : Int)) = true := decide_eq_true c10
        clear c10
        have H' := Aside0.mk H
        clear H
        have p635 : 0 ≤ (x11_1 : Int) := of_decide_eq_true (by first | (with_reducible assumption) | assumption)
        have q635 : x11_1 < (t632.length : Int) := of_decide_eq_true (by first | (with_reducible assumption) | assumption)
        obtain ⟨ad635, e635, hx635_0⟩ := Kd.at_int (Kd.R_reads' HO_9.out).2.2 x11_1 p635 q635
        cases e635
        replace p635 := eq_true p635
        replace q635 := eq_true q635
        have p636 : 0 ≤ ((rd t632 x11_1) : Int) := of_decide_eq_true (by first | (with_reducible assumption) | assumption)
        have q636 : (rd t632 x11_1) < (l0.length : Int) := of_decide_eq_true (by first | (with_reducible assumption) | assumption)
        obtain ⟨ad636, e636, hx636_0⟩ := Kd.at_int HR0.out (rd t632 x11_1) p636 q636
        cases e636
        replace hx636_0 := (HB.out.cell (World.block_lt_of_cell? w _ hx636_0)).trans hx636_0
        replace p636 := eq_true p636
        replace q636 := eq_true q636
        go_wp2
        go_roundg k1
        case measure => have := HK1.out; omega
        case rel => exact ⟨(Go.bits .or .i64 x5_1 (rd l0 (rd t632 x11_1))), (wrap64 (x11_1 + 1)), (by first | rfl | (simp; done) | (simp [*]; done)), (by first | rfl | (simp; done) | (simp [*]; done)), H', ⟨by have := HK1.out; omega⟩, ⟨by (with_reducible repeat (first | apply Kd.R_alloc | apply Kd.R_drewN | apply Kd.R_drew)); exact HO_9.out⟩, ⟨by repeat (first | (with_reducible first | exact HB.out | apply below_alloc | apply pw_below_drewN | apply below_drew1) | exact HB.out)⟩⟩
       ·rw [if_neg c10] at H
        exact absurd H (by simp)
      ·rw [if_neg c9] at H
       exact absurd H (by simp)
     ·rw [if_neg c8] at H
      exact absurd H (by simp)
    ·rw [if_neg c7] at H
     exact absurd H (by simp)
   ·rw [if_neg c6] at H
    have c6b0 : decide (x11_1 < (t632.length : Int)) = false := decide_eq_false c6
    clear c6
    obtain rfl := Option.some.inj H
    go_wp2
    go_ret
    exact ⟨by first | rfl | (simp [errW_none, errW_some] <;> rfl) | (simp [*, errW_none, errW_some] <;> rfl), by repeat (first | (with_reducible first | exact HB.out | apply below_alloc | apply pw_below_drewN | apply below_drew1) | exact HB.out)⟩
end Go.Proofs.YtijfddobandcdaaDoor.X
end
section
namespace Go.Proofs.YtijfddobandcdaaDoor.X
open Go.RowKit YtijfddobandcdaaDoorW.PrintWords YtijfddobandcdaaDoorW.PrintLast YtijfddobandcdaaDoorW.PrintMore
attribute [local go_sem] max2_int min2_int max_two min_two max_three min_three max_four min_four
/-! ### width_town_part: function 100 -/
def width_town_part.l0 : Nat → List Int → Int → Int → Option (Int)
 | 0, _, _, _ => none
 | k + 1, x0, x1, x2 => (width_town_around.f k x0 x1).bind fun t637 => (if (Go.bits .or .i64 x1 (Go.bits .and .i64 t637 x2)) = x1 then (some x1) else (width_town_part.l0 k x0 (Go.bits .or .i64 x1 (Go.bits .and .i64 t637 x2)) x2))
def width_town_part.f (k : Nat) (l0 : List Int) (a1 : Int) (a2 : Int) : Option (Int) := width_town_part.l0 k l0 a1 a2
set_option maxHeartbeats 8000000 in
set_option maxRecDepth 100000 in
theorem width_town_part.calls (k : Nat) (A0 : Option Addr) (c0 : Nat) (l0 : List Int) (a1 : Int) (a2 : Int) (r : Int) (w : World) (hGL : GL w) (hr0 : Kd.C (Kd.int .i64) w A0 l0.length l0) (hc0 : l0.length ≤ c0) (h : width_town_part.f k l0 a1 a2 = some r) :
  Calls Tryd.prog 100 #[.slice A0 l0.length c0, .int .i64 a1, .int .i64 a2] w fun e w' => e = .returned (.int .i64 r) ∧ Below w.heap.size w w' := by
 have HGL := Aside0.mk hGL
 clear hGL
 have HR0 := Aside0.mk hr0
 have HC0 := Aside0.mk hc0
 clear hr0 hc0
 have HB := Aside0.mk (Below.refl w.heap.size w)
 have H : (width_town_part.l0 k l0 a1 a2) = some r := h
 clear h
 have H' := Aside0.mk H
 clear H
 go_enter Tryd.func100, Tryd.ntmps100
 go_wp2
 go_loopg [1] k (fun kq v1 w' => ∃ (x1_1 : Int), v1 = .int .i64 x1_1 ∧ Aside0 (width_town_part.l0 kq l0 x1_1 a2 = some r) ∧ Aside0 (kq ≤ k) ∧ Aside0 (Below w.heap.size w w'))
 case atStart => exact ⟨(a1), (by first | rfl | (simp; done) | (simp [*]; done)), H', ⟨Nat.le_refl _⟩, ⟨by repeat (first | (with_reducible first | exact HB.out | apply below_alloc | apply pw_below_drewN | apply below_drew1) | exact HB.out)⟩⟩
 case round =>
  clear H'
  try clear c1
  try clear p2
  obtain ⟨x1_1, rfl, HA, HK1, HB⟩ := hrel
  cases gk with
  | zero => exact absurd HA.out (by simp [width_town_part.l0])
  | succ k1 =>
   have H := HA.out
   clear HA
   simp only [width_town_part.l0] at H
   replace H := Option.bind_eq_some_iff.mp H
   obtain ⟨t637, A40, H⟩ := H
   replace H : (if (Go.bits .or .i64 x1_1 (Go.bits .and .i64 t637 a2)) = x1_1 then (some x1_1) else (width_town_part.l0 k1 l0 (Go.bits .or .i64 x1_1 (Go.bits .and .i64 t637 a2)) a2)) = some r := H
   have A4 := Aside0.mk A40
   clear A40
   by_cases c5 : (Go.bits .or .i64 x1_1 (Go.bits .and .i64 t637 a2)) = x1_1
   ·rw [if_pos c5] at H
    have c5b0 : ((Go.bits .or .i64 x1_1 (Go.bits .and .i64 t637 a2)) == x1_1) = true := beq_iff_eq.mpr c5
    have c5b1 : ((Go.bits .or .i64 x1_1 (Go.bits .and .i64 t637 a2)) != x1_1) = false := bne_eq_false_iff_eq.mpr c5
    clear c5
    obtain rfl := Option.some.inj H
    go_wp2_with (first | ((with_reducible refine gate_callee (f := 99) rfl ?_); refine goesL_ (some 11) rfl rfl Tryd.func99 (by kernel_rfl) rfl #[.slice A0 l0.length c0, .int .i64 x1_1] rfl (Qls) ?_; (with_reducible refine (width_town_around.calls (hGL := (Qlg)) k1 _ _ l0 x1_1 t637 _ ?side1 ?side2 A4.out).mono ?_); (case side1 => exact Qsc (Kd.C_below HR0.out HB.out)); (case side2 => exact HC0.out); rintro e w6 ⟨rfl, hb⟩; refine ⟨_, rfl, ?_⟩; have n0_ := Aside0.mk (below_step (Qaw) hb); clear HB; have HB := n0_; clear n0_; (try clear hb); (try clear hb2); (try clear hk); (try clear hi)))
    go_ret
    exact ⟨by first | rfl | (simp [errW_none, errW_some] <;> rfl) | (simp [*, errW_none, errW_some] <;> rfl), by repeat (first | (with_reducible first | exact HB.out | apply below_alloc | apply pw_below_drewN | apply below_drew1) | exact HB.out)⟩
   ·rw [if_neg c5] at H
    have c5b0 : ((Go.bits .or .i64 x1_1 (Go.bits .and .i64 t637 a2)) == x1_1) = false := beq_eq_false_iff_ne.mpr c5
    have c5b1 : ((Go.bits .or .i64 x1_1 (Go.bits .and .i64 t637 a2)) != x1_1) = true := bne_iff_ne.mpr c5
    have H' := Aside0.mk H
    clear H
    go_wp2_with (first | ((with_reducible refine gate_callee (f := 99) rfl ?_); refine goesL_ (some 11) rfl rfl Tryd.func99 (by kernel_rfl) rfl #[.slice A0 l0.length c0, .int .i64 x1_1] rfl (Qls) ?_; (with_reducible refine (width_town_around.calls (hGL := (Qlg)) k1 _ _ l0 x1_1 t637 _ ?side1 ?side2 A4.out).mono ?_); (case side1 => exact Qsc (Kd.C_below HR0.out HB.out)); (case side2 => exact HC0.out); rintro e w7 ⟨rfl, hb⟩; refine ⟨_, rfl, ?_⟩; have n0_ := Aside0.mk (below_step (Qaw) hb); clear HB; have HB := n0_; clear n0_; (try clear hb); (try clear hb2); (try clear hk); (try clear hi)))
    go_roundg k1
    case measure => have := HK1.out; omega
    case rel => exact ⟨(Go.bits .or .i64 x1_1 (Go.bits .and .i64 t637 a2)), (by first | rfl | (simp; done) | (simp [*]; done)), H', ⟨by have := HK1.out; omega⟩, ⟨by repeat (first | (with_reducible first | exact HB.out | apply below_alloc | apply pw_below_drewN | apply below_drew1) | exact HB.out)⟩⟩
end Go.Proofs.YtijfddobandcdaaDoor.X
end
section
namespace Go.Proofs.YtijfddobandcdaaDoor.X
open Go.RowKit YtijfddobandcdaaDoorW.PrintWords YtijfddobandcdaaDoorW.PrintLast YtijfddobandcdaaDoorW.PrintMore
attribute [local go_sem] max2_int min2_int max_two min_two max_three min_three max_four min_four
/-! ### width_town_degree: function 95 -/
def width_town_degree.f (k : Nat) (l0 : List Int) (a1 : Int) (a2 : Int) : Option (Int) := if 0 ≤ a1 then ((width_town_part.f k l0 (shl .i64 1 a1) (Go.bits .or .i64 a2 (shl .i64 1 a1))).bind fun t638 => ((width_town_around.f k l0 t638).bind fun t639 => ((width_count.f (Go.bits .andNot .i64 (Go.bits .andNot .i64 t639 a2) (shl .i64 1 a1))).bind fun t640 => (some t640)))) else (none)
def width_town_degree.T1 : Bool × List (List Nat × List Nat) := (true, [([], []), ([], []), ([], []), ([2], [2]), ([], []), ([], []), ([5], [5]), ([4, 6], [4, 6]), ([1, 3, 7], [1, 3, 7]), ([0, 8, 8], [0, 8]), ([], []), ([9, 10], [9, 10]), ([], []), ([12], [12]), ([11, 13], [11, 13]), ([14, 9], [14]), ([15, 15, 0, 1, 2, 3, 4, 5, 6, 7, 8, 9, 10, 11, 12, 13, 14, 15], [15])])
def width_town_degree.B1 : List Nat := [0, 0, 0, 4, 0, 0, 32, 112, 254, 511, 0, 2047, 0, 4096, 16383, 32767, 65535]
theorem width_town_degree.tab1 : rtab .any (opsOf Tryd.f95 1) = width_town_degree.T1 := by kernel_rfl
theorem width_town_degree.bits1 : waitsOk width_town_degree.T1.2 width_town_degree.B1 = true := by kernel_rfl
set_option maxHeartbeats 8000000 in
set_option maxRecDepth 100000 in
theorem width_town_degree.calls (k : Nat) (A0 : Option Addr) (c0 : Nat) (l0 : List Int) (a1 : Int) (a2 : Int) (r : Int) (w : World) (hGL : GL w) (hr0 : Kd.C (Kd.int .i64) w A0 l0.length l0) (hc0 : l0.length ≤ c0) (h : width_town_degree.f k l0 a1 a2 = some r) :
  Calls Tryd.prog 95 #[.slice A0 l0.length c0, .int .i64 a1, .int .i64 a2] w fun e w' => e = .returned (.int .i64 r) ∧ Below w.heap.size w w' := by
 have HGL := Aside0.mk hGL
 clear hGL
 have HR0 := Aside0.mk hr0
 have HC0 := Aside0.mk hc0
 clear hr0 hc0
 have HB := Aside0.mk (Below.refl w.heap.size w)
 have H : (if 0 ≤ a1 then ((width_town_part.f k l0 (shl .i64 1 a1) (Go.bits .or .i64 a2 (shl .i64 1 a1))).bind fun t638 => ((width_town_around.f k l0 t638).bind fun t639 => ((width_count.f (Go.bits .andNot .i64 (Go.bits .andNot .i64 t639 a2) (shl .i64 1 a1))).bind fun t640 => (some t640)))) else (none)) = some r := h
 clear h
 by_cases c4 : 0 ≤ a1
 ·rw [if_pos c4] at H
  have c4b0 := eq_true c4
  have c4b1 : decide (0 ≤ a1) = true := decide_eq_true c4
  clear c4
  obtain ⟨ji5, hji5⟩ : ∃ j_ : Int, (shl .i64 1 a1) = j_ := ⟨_, rfl⟩
  replace H : ((width_town_part.f k l0 (ji5) (Go.bits .or .i64 a2 (ji5))).bind fun t638 => ((width_town_around.f k l0 t638).bind fun t639 => ((width_count.f (Go.bits .andNot .i64 (Go.bits .andNot .i64 t639 a2) (ji5))).bind fun t640 => (some t640)))) = some r := by first | (rw [hji5] at H; exact H) | (simp only [hji5] at H ⊢; exact H)
  have hji5_ : (IntKind.i64.wrap (1 * 2 ^ min a1.toNat 64)) = ji5 := hji5
  have hji5z : a1 ≤ 64 → (IntKind.i64.wrap (1 * 2 ^ a1.toNat)) = ji5 := shl_small hji5
  have hji5u : (IntKind.i64.wrap (2 ^ min a1.toNat 64)) = ji5 := by have h_ := hji5_; rw [Int.one_mul] at h_; exact h_
  have hji5v : a1 ≤ 64 → (IntKind.i64.wrap (2 ^ a1.toNat)) = ji5 := fun hle_ => by have h_ := hji5z hle_; rw [Int.one_mul] at h_; exact h_
  have hji5y : (wrap64 (1 * 2 ^ min a1.toNat 64)) = ji5 := (i64_w _).symm.trans hji5_
  have hji5x : a1 ≤ 64 → (wrap64 (1 * 2 ^ a1.toNat)) = ji5 := fun h_ => (i64_w _).symm.trans (hji5z h_)
  have c6b0 := eq_true (of_decide_eq_true (by first | (with_reducible assumption) | assumption) : 0 ≤ a1)
  replace H := Option.bind_eq_some_iff.mp H
  obtain ⟨t638, A70, H⟩ := H
  replace H : ((width_town_around.f k l0 t638).bind fun t639 => ((width_count.f (Go.bits .andNot .i64 (Go.bits .andNot .i64 t639 a2) (ji5))).bind fun t640 => (some t640))) = some r := H
  have A7 := Aside0.mk A70
  clear A70
  replace H := Option.bind_eq_some_iff.mp H
  obtain ⟨t639, A80, H⟩ := H
  replace H : ((width_count.f (Go.bits .andNot .i64 (Go.bits .andNot .i64 t639 a2) (ji5))).bind fun t640 => (some t640)) = some r := H
  have A8 := Aside0.mk A80
  clear A80
  have c9b0 := eq_true (of_decide_eq_true (by first | (with_reducible assumption) | assumption) : 0 ≤ a1)
  replace H := Option.bind_eq_some_iff.mp H
  obtain ⟨t640, A100, H⟩ := H
  replace H : (some t640) = some r := H
  have A10 := Aside0.mk A100
  clear A100
  obtain rfl := Option.some.inj H
  go_enter Tryd.func95, Tryd.ntmps95
  try go_wp2
  have n0_ := Aside0.mk (below_drew1 HB.out)
  clear HB
  have HB := n0_
  clear n0_
  refine start_ (n := 17) (S := fun w' => True) (ds := []) (Qbz 17 0) (by kernel_rfl) rfl rfl trivial (fun hHeld => ?_); refine with_tabW width_town_degree.tab1 width_town_degree.bits1 (fun HT_ HW_ => ?_)
  generalize w.drew = w11 at HB hHeld ⊢
  refine pure_ (i := 0) (N := some 7) (v := ?_) (a' := ?_) (Qbz 17 1) rfl rfl (any_of HT_.out (by kernel_rfl)) (fun _ _ _ h => h) (Or.inl ⟨by rfl, ?_⟩) ?_ ?_
  rotate_left
  ·intro w'
   go_simp
   with_reducible rfl
  rotate_left
  ·simp only [Act.put, Qp1, Qp2, Qp3, i64_w, i32_w]
   rfl
  refine pure_ (i := 1) (N := some 8) (v := ?_) (a' := ?_) (Qbz 17 3) rfl rfl (any_of HT_.out (by kernel_rfl)) (fun _ _ _ h => h) (Or.inl ⟨by rfl, ?_⟩) ?_ ?_
  rotate_left
  ·intro w'
   go_simp
   with_reducible rfl
  rotate_left
  ·simp only [Act.put, Qp1, Qp2, Qp3, i64_w, i32_w]
   rfl
  refine pure_ (i := 2) (N := some 9) (v := ?_) (a' := ?_) (Qbz 17 7) rfl rfl (any_of HT_.out (by kernel_rfl)) (fun _ _ _ h => h) (Or.inl ⟨by rfl, ?_⟩) ?_ ?_
  rotate_left
  ·intro w'
   go_simp
   with_reducible rfl
  rotate_left
  ·simp only [Act.put, Qp1, Qp2, Qp3, i64_w, i32_w]
   rfl
  refine pure_ (i := 3) (N := some 10) (v := ?_) (a' := ?_) (Qbz 17 15) rfl rfl (any_of HT_.out (by kernel_rfl)) (fun _ _ _ h => h) (Or.inl ⟨by rfl, ?_⟩) ?_ ?_
  rotate_left
  ·intro w'
   go_simp
   with_reducible rfl
  rotate_left
  ·simp only [Act.put, Qp1, Qp2, Qp3, i64_w, i32_w]
   rfl
  refine pure_ (i := 4) (N := some 11) (v := ?_) (a' := ?_) (Qbz 17 31) rfl rfl (any_of HT_.out (by kernel_rfl)) (fun _ _ _ h => h) (Or.inl ⟨by rfl, ?_⟩) ?_ ?_
  rotate_left
  ·intro w'
   go_simp
   with_reducible rfl
  rotate_left
  ·simp only [Act.put, Qp1, Qp2, Qp3, i64_w, i32_w]
   rfl
  refine pure_ (i := 5) (N := some 12) (v := ?_) (a' := ?_) (Qbz 17 63) rfl rfl (any_of HT_.out (by kernel_rfl)) (fun _ _ _ h => h) (Or.inl ⟨by rfl, ?_⟩) ?_ ?_
  rotate_left
  ·intro w'
   go_simp
   with_reducible rfl
  rotate_left
  ·simp only [Act.put, Qp1, Qp2, Qp3, i64_w, i32_w]
   rfl
  refine pure_ (i := 6) (N := some 13) (v := ?_) (a' := ?_) (Qbz 17 127) rfl rfl (any_of HT_.out (by kernel_rfl)) (fun _ _ _ h => h) (Or.inl ⟨by rfl, ?_⟩) ?_ ?_
  rotate_left
  ·intro w'
   go_simp
   with_reducible rfl
  rotate_left
  ·simp only [Act.put, Qp1, Qp2, Qp3, i64_w, i32_w]
   rfl
  refine pure_ (i := 7) (N := some 14) (v := ?_) (a' := ?_) (Qbz 17 255) rfl rfl (any_of HT_.out (by kernel_rfl)) (fun _ _ _ h => h) (Or.inl ⟨by rfl, ?_⟩) ?_ ?_
  rotate_left
  ·intro w'
   go_simp
   with_reducible rfl
  rotate_left
  ·simp only [Act.put, Qp1, Qp2, Qp3, i64_w, i32_w]
   rfl
  refine pure_ (i := 10) (N := some 17) (v := ?_) (a' := ?_) (Qbz 17 1279) rfl rfl (any_of HT_.out (by kernel_rfl)) (fun _ _ _ h => h) (Or.inl ⟨by rfl, ?_⟩) ?_ ?_
  rotate_left
  ·intro w'
   go_simp
   with_reducible rfl
  rotate_left
  ·simp only [Act.put, Qp1, Qp2, Qp3, i64_w, i32_w]
   rfl
  refine pure_ (i := 12) (N := some 19) (v := ?_) (a' := ?_) (Qbz 17 5375) rfl rfl (any_of HT_.out (by kernel_rfl)) (fun _ _ _ h => h) (Or.inl ⟨by rfl, ?_⟩) ?_ ?_
  rotate_left
  ·intro w'
   go_simp
   with_reducible rfl
  rotate_left
  ·simp only [Act.put, Qp1, Qp2, Qp3, i64_w, i32_w]
   rfl
  refine pure_ (i := 13) (N := some 20) (v := ?_) (a' := ?_) (Qbz 17 13567) rfl rfl (any_of HT_.out (by kernel_rfl)) (fun _ _ _ h => h) (Or.inl ⟨by rfl, ?_⟩) ?_ ?_
  rotate_left
  ·intro w'
   go_simp
   with_reducible rfl
  rotate_left
  ·simp only [Act.put, Qp1, Qp2, Qp3, i64_w, i32_w]
   rfl
  refine one_ (i := 8) (N := some 15) (Qbz 17 13823) rfl rfl (one_of HT_.out (by kernel_rfl)) (by decide) (fun K hK => ?_)
  refine goes_ Tryd.func100 (by kernel_rfl) rfl #[.slice A0 l0.length c0, .int .i64 ji5, .int .i64 (Go.bits .or .i64 a2 (ji5))] (by rfl) rfl rfl (by (try simp only [List.map_toArray, List.map_cons, List.map_nil]); first | done | (simp only [hji5]; rfl) | rfl | (simp only [List.length_drop, List.length_take]; rfl)) ?_
  with_reducible refine (width_town_part.calls (hGL := (Qlg)) k _ _ l0 ji5 (Go.bits .or .i64 a2 (ji5)) t638 _ ?side1 ?side2 A7.out).mono ?_
  (case side1 => exact Qsc (Kd.C_below HR0.out HB.out))
  (case side2 => exact HC0.out)
  rintro e w12 ⟨rfl, hb⟩
  refine ⟨_, rfl, ?_⟩
  have n0_ := Aside0.mk (below_step (Qaw) hb)
  clear HB
  have HB := n0_
  clear n0_
  (try clear hb)
  (try clear hb2)
  (try clear hk)
  (try clear hi)
  refine hK.out _ _ trivial (fun hHeld => ?_)
  clear hK K
  refine norm_ (a' := ?_) ?_ ?_
  rotate_left
  ·show Act.put _ (some 15) _ = _
   simp only [Act.put, Qp1, Qp2, Qp3, i64_w, i32_w]
   rfl
  refine one_ (i := 9) (N := some 16) (Qbz 17 14335) rfl rfl (one_of HT_.out (by kernel_rfl)) (by decide) (fun K hK => ?_)
  refine goes_ Tryd.func99 (by kernel_rfl) rfl #[.slice A0 l0.length c0, .int .i64 t638] (by rfl) rfl rfl (Qls) ?_
  with_reducible refine (width_town_around.calls (hGL := (Qlg)) k _ _ l0 t638 t639 _ ?side1 ?side2 A8.out).mono ?_
  (case side1 => exact Qsc (Kd.C_below HR0.out HB.out))
  (case side2 => exact HC0.out)
  rintro e w13 ⟨rfl, hb⟩
  refine ⟨_, rfl, ?_⟩
  have n0_ := Aside0.mk (below_step (Qaw) hb)
  clear HB
  have HB := n0_
  clear n0_
  (try clear hb)
  (try clear hb2)
  (try clear hk)
  (try clear hi)
  refine hK.out _ _ trivial (fun hHeld => ?_)
  clear hK K
  refine norm_ (a' := ?_) ?_ ?_
  rotate_left
  ·show Act.put _ (some 16) _ = _
   simp only [Act.put, Qp1, Qp2, Qp3, i64_w, i32_w]
   rfl
  refine pure_ (i := 11) (N := some 18) (v := ?_) (a' := ?_) (Qbz 17 16383) rfl rfl (any_of HT_.out (by kernel_rfl)) (fun _ _ _ h => h) (Or.inl ⟨by rfl, ?_⟩) ?_ ?_
  rotate_left
  ·intro w'
   go_simp
   with_reducible rfl
  rotate_left
  ·simp only [Act.put, Qp1, Qp2, Qp3, i64_w, i32_w]
   rfl
  refine pure_ (i := 14) (N := some 21) (v := ?_) (a' := ?_) (Qbz 17 32767) rfl rfl (any_of HT_.out (by kernel_rfl)) (fun _ _ _ h => h) (Or.inl ⟨by rfl, ?_⟩) ?_ ?_
  rotate_left
  ·intro w'
   go_simp
   with_reducible rfl
  rotate_left
  ·simp only [Act.put, Qp1, Qp2, Qp3, i64_w, i32_w]
   rfl
  refine one_ (i := 15) (N := some 22) (Qbz 17 65535) rfl rfl (one_of HT_.out (by kernel_rfl)) (by decide) (fun K hK => ?_)
  refine goes_ Tryd.func90 (by kernel_rfl) rfl #[.int .i64 (Go.bits .andNot .i64 (Go.bits .andNot .i64 t639 a2) (ji5))] (by rfl) rfl rfl (by (try simp only [List.map_toArray, List.map_cons, List.map_nil]); first | done | (simp only [hji5]; rfl) | rfl | (simp only [List.length_drop, List.length_take]; rfl)) ?_
  with_reducible refine (width_count.calls (Go.bits .andNot .i64 (Go.bits .andNot .i64 t639 a2) (ji5)) t640 _ A10.out).mono ?_
  rintro e w' ⟨rfl, ⟨nd, rfl⟩⟩
  refine ⟨_, rfl, ?_⟩
  refine hK.out _ _ trivial (fun hHeld => ?_)
  clear hK K
  refine norm_ (a' := ?_) ?_ ?_
  rotate_left
  ·show Act.put _ (some 22) _ = _
   simp only [Act.put, Qp1, Qp2, Qp3, i64_w, i32_w]
   rfl
  refine pure_ (i := 16) (N := some 6) (v := ?_) (a' := ?_) (Qbz 17 131071) rfl rfl (any_of HT_.out (by kernel_rfl)) (fun _ _ _ h => h) (Or.inl ⟨by rfl, ?_⟩) ?_ ?_
  rotate_left
  ·intro w'
   go_simp
   with_reducible rfl
  rotate_left
  ·simp only [Act.put, Qp1, Qp2, Qp3, i64_w, i32_w]
   rfl
  refine done_ (done_of HT_.out (by kernel_rfl)) ?_
  try go_wp2
  go_ret
  exact ⟨by first | rfl | (simp [errW_none, errW_some] <;> rfl) | (simp only [← hji5]; first | rfl | (simp [errW_none, errW_some] <;> rfl)) | (simp [*, errW_none, errW_some] <;> rfl), by repeat (first | (with_reducible first | exact HB.out | apply below_alloc | apply pw_below_drewN | apply below_drew1) | exact HB.out)⟩
 ·rw [if_neg c4] at H
  exact absurd H (by simp)
end Go.Proofs.YtijfddobandcdaaDoor.X
end
section
namespace Go.Proofs.YtijfddobandcdaaDoor.X
open Go.RowKit YtijfddobandcdaaDoorW.PrintWords YtijfddobandcdaaDoorW.PrintLast YtijfddobandcdaaDoorW.PrintMore
attribute [local go_sem] max2_int min2_int max_two min_two max_three min_three max_four min_four
/-! ### width_town_widths: function 83 -/
mutual
def width_town_widths.l0 : Nat → List Int → List Int → Int → Option (List Int)
 | 0, _, _, _ => none
 | k + 1, x0, x3, x4 => if x4 < (x3.length : Int) then (if 0 ≤ x4 then ((width_nodes.f k x4).bind fun t645 => (width_town_widths.l1 k x0 (x3.set (x4 : Int).toNat (x0.length : Int)) x4 t645 (t645.length : Int) 0)) else (none)) else (some x3)
def width_town_widths.l1 : Nat → List Int → List Int → Int → List Int → Int → Int → Option (List Int)
 | 0, _, _, _, _, _, _ => none
 | k + 1, x0, x3, x4, x23, x24, x25 => if x25 < x24 then (if 0 ≤ x25 then (if x25 < (x23.length : Int) then (if 0 ≤ x4 then (if x4 < (x3.length : Int) then (if 0 ≤ (rd x23 x25) then (if 0 ≤ (Go.bits .andNot .i64 x4 (shl .i64 1 (rd x23 x25))) then (if (Go.bits .andNot .i64 x4 (shl .i64 1 (rd x23 x25))) < (x3.length : Int) then ((width_town_degree.f k x0 (rd x23 x25) (Go.bits .andNot .i64 x4 (shl .i64 1 (rd x23 x25)))).bind fun t651 => (width_town_widths.l1 k x0 (x3.set (x4 : Int).toNat (mn (rd x3 x4) (mx (rd x3 (Go.bits .andNot .i64 x4 (shl .i64 1 (rd x23 x25)))) t651))) x4 x23 x24 (wrap64 (x25 + 1)))) else (none)) else (none)) else (none)) else (none)) else (none)) else (none)) else (none)) else (width_town_widths.l0 k x0 x3 (wrap64 (x4 + 1)))
end
def width_town_widths.f (k : Nat) (l0 : List Int) : Option (List Int) := if 0 ≤ (shl .i64 1 (l0.length : Int)) then (if (shl .i64 1 (l0.length : Int) : Int).toNat ≤ 35184372088832 then (width_town_widths.l0 k l0 (List.replicate (shl .i64 1 (l0.length : Int) : Int).toNat 0) 1) else (none)) else (none)
def width_town_widths.T9 : Bool × List (List Nat × List Nat) := (true, [([], []), ([], []), ([], []), ([], []), ([2, 3], [2, 3]), ([4], [4]), ([], []), ([], []), ([], []), ([8], [8]), ([7, 9], [7, 9]), ([6, 10], [6, 10]), ([11], [11]), ([], []), ([], []), ([], []), ([], []), ([16], [16]), ([15, 17], [15, 17]), ([13, 14, 18], [13, 14, 18]), ([12, 19], [12, 19]), ([5, 20], [5, 20]), ([0, 1, 0, 1, 2, 3, 4, 5, 6, 7, 8, 9, 10, 11, 12, 13, 14, 15, 16, 17, 18, 19, 20, 21], [0, 1]), ([22, 21, 19, 0, 1, 2, 3, 4, 5, 6, 7, 8, 9, 10, 11, 12, 13, 14, 15, 16, 17, 18, 19, 20, 21], [21, 22])])
def width_town_widths.B9 : List Nat := [0, 0, 0, 0, 12, 28, 0, 0, 0, 256, 896, 1984, 4032, 0, 0, 0, 0, 65536, 229376, 516096, 1048512, 2097148, 4194303, 8388607]
theorem width_town_widths.tab9 : rtab .any (opsOf Tryd.f83 9) = width_town_widths.T9 := by kernel_rfl
theorem width_town_widths.bits9 : waitsOk width_town_widths.T9.2 width_town_widths.B9 = true := by kernel_rfl
set_option maxHeartbeats 8000000 in
set_option maxRecDepth 100000 in
theorem width_town_widths.calls (k : Nat) (A0 : Option Addr) (c0 : Nat) (l0 : List Int) (r : List Int) (w : World) (hGL : GL w) (hr0 : Kd.C (Kd.int .i64) w A0 l0.length l0) (hc0 : l0.length ≤ c0) (h : width_town_widths.f k l0 = some r) :
  Calls Tryd.prog 83 #[.slice A0 l0.length c0] w fun e w' => ∃ v0_ : Value, e = .returned (v0_) ∧ Kd.R (Kd.int .i64) 3 w' w.heap.size (fun _ => True) v0_ r ∧ Below w.heap.size w w' := by
 have HGL := Aside0.mk hGL
 clear hGL
 have HR0 := Aside0.mk hr0
 have HC0 := Aside0.mk hc0
 clear hr0 hc0
 have HB := Aside0.mk (Below.refl w.heap.size w)
 have H : (if 0 ≤ (shl .i64 1 (l0.length : Int)) then (if (shl .i64 1 (l0.length : Int) : Int).toNat ≤ 35184372088832 then (width_town_widths.l0 k l0 (List.replicate (shl .i64 1 (l0.length : Int) : Int).toNat 0) 1) else (none)) else (none)) = some r := h
 clear h
 obtain ⟨ji2, hji2⟩ : ∃ j_ : Int, (shl .i64 1 (l0.length : Int)) = j_ := ⟨_, rfl⟩
 replace H : (if 0 ≤ (ji2) then (if (ji2 : Int).toNat ≤ 35184372088832 then (width_town_widths.l0 k l0 (List.replicate (ji2 : Int).toNat 0) 1) else (none)) else (none)) = some r := by first | (rw [hji2] at H; exact H) | (simp only [hji2] at H ⊢; exact H)
 have hji2_ : (IntKind.i64.wrap (1 * 2 ^ min (l0.length : Int).toNat 64)) = ji2 := hji2
 have hji2z : (l0.length : Int) ≤ 64 → (IntKind.i64.wrap (1 * 2 ^ (l0.length : Int).toNat)) = ji2 := shl_small hji2
 have hji2p : (IntKind.i64.wrap (1 * 2 ^ min l0.length 64)) = ji2 := hji2_
 have hji2q : (l0.length : Int) ≤ 64 → (IntKind.i64.wrap (1 * 2 ^ l0.length)) = ji2 := hji2z
 have hji2r : (IntKind.i64.wrap (2 ^ min l0.length 64)) = ji2 := by have h_ := hji2p; rw [Int.one_mul] at h_; exact h_
 have hji2s : (l0.length : Int) ≤ 64 → (IntKind.i64.wrap (2 ^ l0.length)) = ji2 := fun hle_ => by have h_ := hji2q hle_; rw [Int.one_mul] at h_; exact h_
 have hji2u : (IntKind.i64.wrap (2 ^ min (l0.length : Int).toNat 64)) = ji2 := by have h_ := hji2_; rw [Int.one_mul] at h_; exact h_
 have hji2v : (l0.length : Int) ≤ 64 → (IntKind.i64.wrap (2 ^ (l0.length : Int).toNat)) = ji2 := fun hle_ => by have h_ := hji2z hle_; rw [Int.one_mul] at h_; exact h_
 have hji2y : (wrap64 (1 * 2 ^ min (l0.length : Int).toNat 64)) = ji2 := (i64_w _).symm.trans hji2_
 have hji2x : (l0.length : Int) ≤ 64 → (wrap64 (1 * 2 ^ (l0.length : Int).toNat)) = ji2 := fun h_ => (i64_w _).symm.trans (hji2z h_)
 by_cases c3 : 0 ≤ (ji2)
 ·rw [if_pos c3] at H
  have c3b0 := eq_true c3
  have c3b1 : decide (0 ≤ (ji2)) = true := decide_eq_true c3
  clear c3
  by_cases c4 : (ji2 : Int).toNat ≤ 35184372088832
  ·rw [if_pos c4] at H
   have c4b0 := eq_true c4
   have c4b1 : decide ((ji2 : Int).toNat ≤ 35184372088832) = true := decide_eq_true c4
   clear c4
   obtain ⟨y641, hy641⟩ : ∃ y_ : List Int, y_ = (List.replicate (ji2 : Int).toNat 0) := ⟨_, rfl⟩
   replace H : (width_town_widths.l0 k l0 y641 1) = some r := by first | (rw [hy641]; with_reducible exact H) | (have H2_ := (Option.bind_some _ _).symm.trans H; rw [hy641]; with_reducible exact H2_) | (have H2_ := (Option.bind_some _ _).symm.trans H; with_reducible exact H2_) | with_reducible exact H | (rw [hy641]; exact H) | exact H
   have Ny641 := Aside0.mk hy641
   clear hy641
   have H' := Aside0.mk H
   clear H
   go_enter Tryd.func83, Tryd.ntmps83
   go_wp2_with (first | ((with_reducible refine gate_dst (N := 10) rfl ?_); refine Kd.R_make (Kd.int .i64) _ 3 rfl (N := 10) rfl 22 _ _ rfl ji2 rfl rfl Tryd.underlying22 (.int .i64 0) 8 info3 rfl (by decide) (by omega) 0 (ok := fun _ => True) (okp := fun _ => True) rfl (fun _ hk => hk) trivial (of_decide_eq_true (by first | (with_reducible assumption) | assumption)) (Nat.le_trans (Nat.mul_le_mul_right _ (of_decide_eq_true (by first | (with_reducible assumption) | assumption) : ji2.toNat ≤ 35184372088832)) (by omega)) (Below.refl _ _) (Nat.le_refl _) ?_; intro v642 w5 ho6 hb hg_ hnew_; clear hg_ hnew_; (first | rw [← Ny641.out] at ho6 | (simp only [Int.reduceToNat] at ho6; rw [← Ny641.out] at ho6)); have n0_ := Aside0.mk (Kd.R_lower ho6 (below_size (Qaw))); have n1_ := Aside0.mk (below_step (Qaw) hb); clear HB; have HO643 := n0_; have HB := n1_; clear n0_ n1_; clear hb ho6))
   go_loopg [4] k (fun kq v4 w' => ∃ (x3_1 : List Int) (x4_1 : Int), v4 = .int .i64 x4_1 ∧ Aside0 (width_town_widths.l0 kq l0 x3_1 x4_1 = some r) ∧ Aside0 (kq ≤ k) ∧ Aside0 (Kd.R (Kd.int .i64) 3 w' w.heap.size (fun _ => True) v642 x3_1) ∧ Aside0 (Below w.heap.size w w'))
   case atStart => exact ⟨(y641), (1), (by first | rfl | (simp; done) | (simp [*]; done)), H', ⟨Nat.le_refl _⟩, ⟨by (with_reducible repeat (first | apply Kd.R_alloc | apply Kd.R_drewN | apply Kd.R_drew)); exact HO643.out⟩, ⟨by repeat (first | (with_reducible first | exact HB.out | apply below_alloc | apply pw_below_drewN | apply below_drew1) | exact HB.out)⟩⟩
   case round =>
    clear H'
    try clear p2
    try clear c3
    try clear c3b0
    try clear c3b1
    try clear c4
    try clear c4b0
    try clear c4b1
    try clear p6
    obtain ⟨x3_1, x4_1, rfl, HA, HK1, HO_3, HB⟩ := hrel
    cases gk with
    | zero => exact absurd HA.out (by simp [width_town_widths.l0])
    | succ k1 =>
     have H := HA.out
     clear HA
     simp only [width_town_widths.l0] at H
     by_cases c7 : x4_1 < (x3_1.length : Int)
     ·rw [if_pos c7] at H
      have c7b0 : decide (x4_1 < (x3_1.length : Int)) = true := decide_eq_true c7
      clear c7
      by_cases c8 : 0 ≤ x4_1
      ·rw [if_pos c8] at H
       have c8b0 : decide (0 ≤ x4_1) = true := decide_eq_true c8
       clear c8
       obtain ⟨y644, hy644⟩ : ∃ y_ : List Int, y_ = (x3_1.set (x4_1 : Int).toNat (l0.length : Int)) := ⟨_, rfl⟩
       replace H : ((width_nodes.f k1 x4_1).bind fun t645 => (width_town_widths.l1 k1 l0 y644 x4_1 t645 (t645.length : Int) 0)) = some r := by first | (rw [hy644]; with_reducible exact H) | (have H2_ := (Option.bind_some _ _).symm.trans H; rw [hy644]; with_reducible exact H2_) | (have H2_ := (Option.bind_some _ _).symm.trans H; with_reducible exact H2_) | with_reducible exact H | (rw [hy644]; exact H) | exact H
       have Ny644 := Aside0.mk hy644
       clear hy644
       replace H := Option.bind_eq_some_iff.mp H
       obtain ⟨t645, A100, H⟩ := H
       replace H : (width_town_widths.l1 k1 l0 y644 x4_1 t645 (t645.length : Int) 0) = some r := H
       have A10 := Aside0.mk A100
       clear A100
       have H' := Aside0.mk H
       clear H
       obtain ⟨Ao11, co11, eo11⟩ := Kd.R_slice HO_3.out
       subst eo11
       have p9 : 0 ≤ (x4_1 : Int) := of_decide_eq_true (by first | (with_reducible assumption) | assumption)
       have q9 : (x4_1 : Int) < ((x3_1.length : Int) : Int) := of_decide_eq_true (by first | (with_reducible assumption) | assumption)
       obtain ⟨go9, co9, eo9, gb9, gl9, cl9, HG9⟩ := Kd.R_form HO_3.out (by omega)
       (first | cases eo9 | (injection eo9 with ea_ en_ ec_; (first | subst ea_ | (injection ea_ with ea_; subst ea_)); subst ec_; clear en_))
       have GB9 := Aside0.mk gb9
       have GG9 := Aside0.mk HG9
       clear gb9 gl9 HG9
       obtain ⟨hx9_0, hf9_0⟩ := Kd.R_celln 0 HO_3.out (x4_1 : Int) p9 q9
       replace p9 := eq_true p9
       replace q9 := eq_true q9
       have HP12 := Kd.R_putg HO_3.out (x4_1 : Int) (l0.length : Int)
       go_wp2_with (first | ((with_reducible refine gate_store (t := 3) (p := 21) rfl ?_); refine store_event (t := 3) (p := 21) (v := ?vo_w13) (w1 := (wr.setCell ⟨go9, (x4_1 : Int).toNat, none⟩ (.int .i64 (l0.length : Int)))) ?hg ?ho ?hn ?hr ?_; (case ho => rfl); (case hg => rfl); (case hn => rfl); (case hr => first | (go_simp; done) | (go_simp; rfl)); intro w13 hw; have hg : wr.grownBy w13 (some go9) := (by rw [hw]; exact HP12.2); have hp_ : Kd.R (Kd.int .i64) 3 w13 w.heap.size (fun _ => True) (.slice (some ⟨go9, 0, none⟩) x3_1.length co11) y644 := (by rw [hw, Ny644.out]; exact HP12.1); clear HP12; have n0_ := Aside0.mk (hp_); have n1_ := Aside0.mk ((by rw [hw]; exact below_set (HB.out) GB9.out : Below w.heap.size w w13)); clear HO_3; clear HB; have HO_3 := n0_; have HB := n1_; clear n0_ n1_; clear hg hw hp_) | ((with_reducible refine gate_callee (f := 88) rfl ?_); refine goesL_ (some 23) rfl rfl Tryd.func88 (by kernel_rfl) rfl #[.int .i64 x4_1] rfl (Qls) ?_; (with_reducible refine (width_nodes.calls (hGL := (Qlg)) k1 x4_1 t645 _ A10.out).mono ?_); rintro e w14 ⟨v646, rfl, ho0, hb⟩; refine ⟨_, rfl, ?_⟩; have n0_ := Aside0.mk (Kd.R_elder' (Qro HO_3.out) (Kd.R_base ho0) hb); have n1_ := Aside0.mk (Kd.R_lower (Kd.R_new' ho0 (Kd.R_lt (Qro HO_3.out))) (below_size (Qaw))); have n2_ := Aside0.mk (below_step (Qaw) hb); clear HO_3; clear HB; have HO_3 := n0_; have HO647 := n1_; have HB := n2_; clear n0_ n1_ n2_; (try clear hb); (try clear hb2); (try clear hk); (try clear hi); (try clear ho0); obtain ⟨Ao15, co15, eo15⟩ := Kd.R_slice HO647.out; subst eo15))
       go_loopg [25] k1 (fun kq v25 w' => ∃ (x3_2 : List Int) (x25_2 : Int), v25 = .int .i64 x25_2 ∧ Aside0 (width_town_widths.l1 kq l0 x3_2 x4_1 t645 (t645.length : Int) x25_2 = some r) ∧ Aside0 (kq ≤ k1) ∧ Aside0 (Kd.R (Kd.int .i64) 3 w' w.heap.size (fun k_ => some k_ ≠ ((.slice Ao15 t645.length co15) : Value).ownBlock) (.slice (some ⟨go9, 0, none⟩) x3_1.length co11) x3_2) ∧ Aside0 (Kd.R (Kd.int .i64) 3 w' w.heap.size (fun k_ => some k_ ≠ ((.slice (some ⟨go9, 0, none⟩) x3_1.length co11) : Value).ownBlock) (.slice Ao15 t645.length co15) t645) ∧ Aside0 (Below w.heap.size w w'))
       case atStart => exact ⟨(y644), (0), (by first | rfl | (simp; done) | (simp [*]; done)), H', ⟨Nat.le_refl _⟩, ⟨by (with_reducible repeat (first | apply Kd.R_alloc | apply Kd.R_drewN | apply Kd.R_drew)); exact Kd.R_mono HO_3.out (fun _ hk => hk.2)⟩, ⟨by (with_reducible repeat (first | apply Kd.R_alloc | apply Kd.R_drewN | apply Kd.R_drew)); exact Kd.R_mono HO647.out (fun _ hk => hk.2)⟩, ⟨by repeat (first | (with_reducible first | exact HB.out | apply below_alloc | apply pw_below_drewN | apply below_drew1) | exact HB.out)⟩⟩
       case round =>
        clear H'
        try clear p2
        try clear c3
        try clear c3b0
        try clear c3b1
        try clear c4
        try clear c4b0
        try clear c4b1
        try clear p6
        try clear c7
        try clear c7b0
        try clear c8
        try clear c8b0
        try clear p9
        try clear q9
        try clear hx9
        try clear hf9
        try clear hx9_0
        try clear p2
        try clear p6
        try clear p9
        try clear q9
        obtain ⟨x3_2, x25_2, rfl, HA, HK2, HO_3, HO_23, HB⟩ := hrel
        have hl3_2 := (Kd.R_reads' HO_3.out).1
        rw [hl3_2] at HO_3
        (try simp only [hl3_2])
        (try simp only [hl3_2] at HO_23)
        cases gk with
        | zero => exact absurd HA.out (by simp [width_town_widths.l1])
        | succ k2 =>
         have H := HA.out
         clear HA
         simp only [width_town_widths.l1] at H
         by_cases c16 : x25_2 < (t645.length : Int)
         ·rw [if_pos c16] at H
          have c16b0 : decide (x25_2 < (t645.length : Int)) = true := decide_eq_true c16
          clear c16
          by_cases c17 : 0 ≤ x25_2
          ·rw [if_pos c17] at H
           have c17b0 : decide (0 ≤ x25_2) = true := decide_eq_true c17
           clear c17
           by_cases c18 : x25_2 < (t645.length : Int)
           ·rw [if_pos c18] at H
            have c18b0 : decide (x25_2 < (t645.length : Int)) = true := decide_eq_true c18
            clear c18
            by_cases c19 : 0 ≤ x4_1
            ·rw [if_pos c19] at H
             have c19b0 : decide (0 ≤ x4_1) = true := decide_eq_true c19
             clear c19
             by_cases c20 : x4_1 < (x3_2.length : Int)
             ·rw [if_pos c20] at H
              have c20b0 : decide (x4_1 < (x3_2.length : Int)) = true := decide_eq_true c20
              clear c20
              by_cases c21 : 0 ≤ (rd t645 x25_2)
              ·rw [if_pos c21] at H
               have c21b0 := eq_true c21
               have c21b1 : decide (0 ≤ (rd t645 x25_2)) = true := decide_eq_true c21
               clear c21
               obtain ⟨ji22, hji22⟩ : ∃ j_ : Int, (shl .i64 1 (rd t645 x25_2)) = j_ := ⟨_, rfl⟩
               replace H : (if 0 ≤ (Go.bits .andNot .i64 x4_1 (ji22)) then (if (Go.bits .andNot .i64 x4_1 (ji22)) < (x3_2.length : Int) then ((width_town_degree.f k2 l0 (rd t645 x25_2) (Go.bits .andNot .i64 x4_1 (ji22))).bind fun t651 => (width_town_widths.l1 k2 l0 (x3_2.set (x4_1 : Int).toNat (mn (rd x3_2 x4_1) (mx (rd x3_2 (Go.bits .andNot .i64 x4_1 (ji22))) t651))) x4_1 t645 (t645.length : Int) (wrap64 (x25_2 + 1)))) else (none)) else (none)) = some r := by first | (rw [hji22] at H; exact H) | (simp only [hji22] at H ⊢; exact H)
               have hji22_ : (IntKind.i64.wrap (1 * 2 ^ min (rd t645 x25_2).toNat 64)) = ji22 := hji22
               have hji22z : (rd t645 x25_2) ≤ 64 → (IntKind.i64.wrap (1 * 2 ^ (rd t645 x25_2).toNat)) = ji22 := shl_small hji22
               have hji22u : (IntKind.i64.wrap (2 ^ min (rd t645 x25_2).toNat 64)) = ji22 := by have h_ := hji22_; rw [Int.one_mul] at h_; exact h_
               have hji22v : (rd t645 x25_2) ≤ 64 → (IntKind.i64.wrap (2 ^ (rd t645 x25_2).toNat)) = ji22 := fun hle_ => by have h_ := hji22z hle_; rw [Int.one_mul] at h_; exact h_
               have hji22y : (wrap64 (1 * 2 ^ min (rd t645 x25_2).toNat 64)) = ji22 := (i64_w _).symm.trans hji22_
               have hji22x : (rd t645 x25_2) ≤ 64 → (wrap64 (1 * 2 ^ (rd t645 x25_2).toNat)) = ji22 := fun h_ => (i64_w _).symm.trans (hji22z h_)
               by_cases c23 : 0 ≤ (Go.bits .andNot .i64 x4_1 (ji22))
               ·rw [if_pos c23] at H
                have c23b0 : decide (0 ≤ (Go.bits .andNot .i64 x4_1 (ji22))) = true := decide_eq_true c23
                clear c23
                by_cases c24 : (Go.bits .andNot .i64 x4_1 (ji22)) < (x3_2.length : Int)
                ·rw [if_pos c24] at H
                 have c24b0 : decide ((Go.bits .andNot .i64 x4_1 (ji22)) < (x3_2.length : Int)) = true := decide_eq_true c24
                 clear c24
                 have c25b0 := eq_true (of_decide_eq_true (by first | (with_reducible assumption) | assumption) : 0 ≤ (rd t645 x25_2))
                 replace H := Option.bind_eq_some_iff.mp H
                 obtain ⟨t651, A260, H⟩ := H
                 replace H : (width_town_widths.l1 k2 l0 (x3_2.set (x4_1 : Int).toNat (mn (rd x3_2 x4_1) (mx (rd x3_2 (Go.bits .andNot .i64 x4_1 (ji22))) t651))) x4_1 t645 (t645.length : Int) (wrap64 (x25_2 + 1))) = some r := H
                 have A26 := Aside0.mk A260
                 clear A260
                 obtain ⟨ji27, hji27⟩ : ∃ j_ : Int, (mx (rd x3_2 (Go.bits .andNot .i64 x4_1 (ji22))) t651) = j_ := ⟨_, rfl⟩
                 replace H : (width_town_widths.l1 k2 l0 (x3_2.set (x4_1 : Int).toNat (mn (rd x3_2 x4_1) (ji27))) x4_1 t645 (t645.length : Int) (wrap64 (x25_2 + 1))) = some r := by first | (rw [hji27] at H; exact H) | (simp only [hji27] at H ⊢; exact H)
                 (try rw [hji27] at A26)
                 have hji27_ : (if (rd x3_2 (Go.bits .andNot .i64 x4_1 (ji22))) < t651 then t651 else (rd x3_2 (Go.bits .andNot .i64 x4_1 (ji22)))) = ji27 := hji27
                 obtain ⟨ji28, hji28⟩ : ∃ j_ : Int, (mn (rd x3_2 x4_1) (ji27)) = j_ := ⟨_, rfl⟩
                 replace H : (width_town_widths.l1 k2 l0 (x3_2.set (x4_1 : Int).toNat (ji28)) x4_1 t645 (t645.length : Int) (wrap64 (x25_2 + 1))) = some r := by first | (rw [hji28] at H; exact H) | (simp only [hji28] at H ⊢; exact H)
                 (try rw [hji28] at A26)
                 have hji28_ : (if (ji27) < (rd x3_2 x4_1) then (ji27) else (rd x3_2 x4_1)) = ji28 := hji28
                 obtain ⟨y652, hy652⟩ : ∃ y_ : List Int, y_ = (x3_2.set (x4_1 : Int).toNat (ji28)) := ⟨_, rfl⟩
                 replace H : (width_town_widths.l1 k2 l0 y652 x4_1 t645 (t645.length : Int) (wrap64 (x25_2 + 1))) = some r := by first | (rw [hy652]; with_reducible exact H) | (have H2_ := (Option.bind_some _ _).symm.trans H; rw [hy652]; with_reducible exact H2_) | (have H2_ := (Option.bind_some _ _).symm.trans H; with_reducible exact H2_) | with_reducible exact H | (rw [hy652]; exact H) | exact H
                 have Ny652 := Aside0.mk hy652
                 clear hy652
                 have H' := Aside0.mk H
                 clear H
                 have p648 : 0 ≤ (x25_2 : Int) := of_decide_eq_true (by first | (with_reducible assumption) | assumption)
                 have q648 : x25_2 < (t645.length : Int) := of_decide_eq_true (by first | (with_reducible assumption) | assumption)
                 obtain ⟨ad648, e648, hx648_0⟩ := Kd.at_int (Kd.R_reads' HO_23.out).2.2 x25_2 p648 q648
                 cases e648
                 replace p648 := eq_true p648
                 replace q648 := eq_true q648
                 try go_wp2
                 have n0_ := Aside0.mk (Kd.R_drew HO_3.out)
                 have n1_ := Aside0.mk (Kd.R_drew HO_23.out)
                 have n2_ := Aside0.mk (below_drew1 HB.out)
                 clear HO_3
                 clear HO_23
                 clear HB
                 have HO_3 := n0_
                 have HO_23 := n1_
                 have HB := n2_
                 clear n0_ n1_ n2_
                 have p649 : 0 ≤ (x4_1 : Int) := of_decide_eq_true (by first | (with_reducible assumption) | assumption)
                 have q649 : x4_1 < (x3_2.length : Int) := of_decide_eq_true (by first | (with_reducible assumption) | assumption)
                 obtain ⟨ad649, e649, hx649_0⟩ := Kd.at_int (Kd.R_reads' HO_3.out).2.2 x4_1 p649 q649
                 obtain rfl : (⟨go9, 0, none⟩ : Addr) = ad649 := (by injection e649)
                 (first | simp only [add_plain] at hx649_0 | simp only [add_at] at hx649_0 | simp only [Addr.add, Nat.zero_add] at hx649_0 | skip)
                 replace p649 := eq_true p649
                 replace q649 := eq_true q649
                 have p650 : 0 ≤ ((Go.bits .andNot .i64 x4_1 (ji22)) : Int) := of_decide_eq_true (by first | (with_reducible assumption) | assumption)
                 have q650 : (Go.bits .andNot .i64 x4_1 (ji22)) < (x3_2.length : Int) := of_decide_eq_true (by first | (with_reducible assumption) | assumption)
                 obtain ⟨ad650, e650, hx650_0⟩ := Kd.at_int (Kd.R_reads' HO_3.out).2.2 (Go.bits .andNot .i64 x4_1 (ji22)) p650 q650
                 obtain rfl : (⟨go9, 0, none⟩ : Addr) = ad650 := (by injection e650)
                 (first | simp only [add_plain] at hx650_0 | simp only [add_at] at hx650_0 | simp only [Addr.add, Nat.zero_add] at hx650_0 | skip)
                 replace p650 := eq_true p650
                 replace q650 := eq_true q650
                 refine start_ (n := 24) (S := fun w' => w'.cell? ⟨go9, (x4_1).toNat, none⟩ = some (.int .i64 (rd x3_2 x4_1)) ∧ w'.cell? ⟨go9, ((Go.bits .andNot .i64 x4_1 (ji22))).toNat, none⟩ = some (.int .i64 (rd x3_2 (Go.bits .andNot .i64 x4_1 (ji22))))) (ds := [23]) (Qbz 24 0) (by kernel_rfl) rfl rfl ⟨hx649_0, hx650_0⟩ (fun hHeld => ?_); refine with_tabW width_town_widths.tab9 width_town_widths.bits9 (fun HT_ HW_ => ?_)
                 generalize wr.drew = w30 at HO_3 HO_23 HB hx649_0 hx650_0 hHeld ⊢
                 refine pure_ (i := 0) (N := some 29) (v := ?_) (a' := ?_) (Qbz 24 1) rfl rfl (any_of HT_.out (by kernel_rfl)) (fun _ _ _ h => h) (Or.inl ⟨by rfl, ?_⟩) ?_ ?_
                 rotate_left
                 ·intro w'
                  go_simp
                  with_reducible rfl
                 rotate_left
                 ·simp only [Act.put, Qp1, Qp2, Qp3, i64_w, i32_w]
                  rfl
                 refine pure_ (i := 1) (N := some 30) (v := ?_) (a' := ?_) (Qbz 24 3) rfl rfl (any_of HT_.out (by kernel_rfl)) (fun _ _ _ h => h) (Or.inl ⟨by rfl, ?_⟩) ?_ ?_
                 rotate_left
                 ·intro w'
                  go_simp
                  with_reducible rfl
                 rotate_left
                 ·simp only [Act.put, Qp1, Qp2, Qp3, i64_w, i32_w]
                  rfl
                 refine pure_ (i := 2) (N := some 31) (v := ?_) (a' := ?_) (Qbz 24 7) rfl rfl (any_of HT_.out (by kernel_rfl)) (fun _ _ _ h => h) (Or.inl ⟨by rfl, ?_⟩) ?_ ?_
                 rotate_left
                 ·intro w'
                  go_simp
                  with_reducible rfl
                 rotate_left
                 ·simp only [Act.put, Qp1, Qp2, Qp3, i64_w, i32_w]
                  rfl
                 refine pure_ (i := 3) (N := some 32) (v := ?_) (a' := ?_) (Qbz 24 15) rfl rfl (any_of HT_.out (by kernel_rfl)) (fun _ _ _ h => h) (Or.inl ⟨by rfl, ?_⟩) ?_ ?_
                 rotate_left
                 ·intro w'
                  go_simp
                  with_reducible rfl
                 rotate_left
                 ·simp only [Act.put, Qp1, Qp2, Qp3, i64_w, i32_w]
                  rfl
                 refine pure_ (i := 4) (N := some 33) (v := ?_) (a' := ?_) (Qbz 24 31) rfl rfl (any_of HT_.out (by kernel_rfl)) (fun _ _ _ h => h) (Or.inl ⟨by rfl, ?_⟩) ?_ ?_
                 rotate_left
                 ·intro w'
                  go_simp
                  with_reducible rfl
                 rotate_left
                 ·simp only [Act.put, Qp1, Qp2, Qp3, i64_w, i32_w]
                  rfl
                 refine pure_ (i := 6) (N := some 35) (v := ?_) (a' := ?_) (Qbz 24 95) rfl rfl (any_of HT_.out (by kernel_rfl)) (fun _ _ _ h => h) (Or.inl ⟨by rfl, ?_⟩) ?_ ?_
                 rotate_left
                 ·intro w'
                  go_simp
                  with_reducible rfl
                 rotate_left
                 ·simp only [Act.put, Qp1, Qp2, Qp3, i64_w, i32_w]
                  rfl
                 refine pure_ (i := 7) (N := some 36) (v := ?_) (a' := ?_) (Qbz 24 223) rfl rfl (any_of HT_.out (by kernel_rfl)) (fun _ _ _ h => h) (Or.inl ⟨by rfl, ?_⟩) ?_ ?_
                 rotate_left
                 ·intro w'
                  go_simp
                  with_reducible rfl
                 rotate_left
                 ·simp only [Act.put, Qp1, Qp2, Qp3, i64_w, i32_w]
                  rfl
                 refine pure_ (i := 8) (N := some 37) (v := ?_) (a' := ?_) (Qbz 24 479) rfl rfl (any_of HT_.out (by kernel_rfl)) (fun _ _ _ h => h) (Or.inl ⟨by rfl, ?_⟩) ?_ ?_
                 rotate_left
                 ·intro w'
                  go_simp
                  with_reducible rfl
                 rotate_left
                 ·simp only [Act.put, Qp1, Qp2, Qp3, i64_w, i32_w]
                  rfl
                 refine pure_ (i := 9) (N := some 38) (v := ?_) (a' := ?_) (Qbz 24 991) rfl rfl (any_of HT_.out (by kernel_rfl)) (fun _ _ _ h => h) (Or.inl ⟨by rfl, ?_⟩) ?_ ?_
                 rotate_left
                 ·intro w'
                  go_simp
                  with_reducible rfl
                 rotate_left
                 ·simp only [Act.put, Qp1, Qp2, Qp3, i64_w, i32_w]
                  rfl
                 refine pure_ (i := 10) (N := some 39) (v := ?_) (a' := ?_) (Qbz 24 2015) rfl rfl (any_of HT_.out (by kernel_rfl)) (fun _ _ _ h => h) (Or.inl ⟨by rfl, ?_⟩) ?_ ?_
                 rotate_left
                 ·intro w'
                  go_simp
                  with_reducible rfl
                 rotate_left
                 ·simp only [Act.put, Qp1, Qp2, Qp3, i64_w, i32_w]
                  rfl
                 refine pure_ (i := 11) (N := some 40) (v := ?_) (a' := ?_) (Qbz 24 4063) rfl rfl (any_of HT_.out (by kernel_rfl)) (fun _ _ _ h => h) (Or.inl ⟨by rfl, ?_⟩) ?_ ?_
                 rotate_left
                 ·intro w'
                  go_simp
                  with_reducible rfl
                 rotate_left
                 ·simp only [Act.put, Qp1, Qp2, Qp3, i64_w, i32_w]
                  rfl
                 refine pure_ (i := 13) (N := some 42) (v := ?_) (a' := ?_) (Qbz 24 12255) rfl rfl (any_of HT_.out (by kernel_rfl)) (fun _ _ _ h => h) (Or.inl ⟨by rfl, ?_⟩) ?_ ?_
                 rotate_left
                 ·intro w'
                  go_simp
                  with_reducible rfl
                 rotate_left
                 ·simp only [Act.put, Qp1, Qp2, Qp3, i64_w, i32_w]
                  rfl
                 refine pure_ (i := 14) (N := some 43) (v := ?_) (a' := ?_) (Qbz 24 28639) rfl rfl (any_of HT_.out (by kernel_rfl)) (fun _ _ _ h => h) (Or.inl ⟨by rfl, ?_⟩) ?_ ?_
                 rotate_left
                 ·intro w'
                  go_simp
                  with_reducible rfl
                 rotate_left
                 ·simp only [Act.put, Qp1, Qp2, Qp3, i64_w, i32_w]
                  rfl
                 refine pure_ (i := 15) (N := some 44) (v := ?_) (a' := ?_) (Qbz 24 61407) rfl rfl (any_of HT_.out (by kernel_rfl)) (fun _ _ _ h => h) (Or.inl ⟨by rfl, ?_⟩) ?_ ?_
                 rotate_left
                 ·intro w'
                  go_simp
                  with_reducible rfl
                 rotate_left
                 ·simp only [Act.put, Qp1, Qp2, Qp3, i64_w, i32_w]
                  rfl
                 refine pure_ (i := 16) (N := some 45) (v := ?_) (a' := ?_) (Qbz 24 126943) rfl rfl (any_of HT_.out (by kernel_rfl)) (fun _ _ _ h => h) (Or.inl ⟨by rfl, ?_⟩) ?_ ?_
                 rotate_left
                 ·intro w'
                  go_simp
                  with_reducible rfl
                 rotate_left
                 ·simp only [Act.put, Qp1, Qp2, Qp3, i64_w, i32_w]
                  rfl
                 refine pure_ (i := 17) (N := some 46) (v := ?_) (a' := ?_) (Qbz 24 258015) rfl rfl (any_of HT_.out (by kernel_rfl)) (fun _ _ _ h => h) (Or.inl ⟨by rfl, ?_⟩) ?_ ?_
                 rotate_left
                 ·intro w'
                  go_simp
                  with_reducible rfl
                 rotate_left
                 ·simp only [Act.put, Qp1, Qp2, Qp3, i64_w, i32_w]
                  rfl
                 refine pure_ (i := 18) (N := some 47) (v := ?_) (a' := ?_) (Qbz 24 520159) rfl rfl (any_of HT_.out (by kernel_rfl)) (fun _ _ _ h => h) (Or.inl ⟨by rfl, ?_⟩) ?_ ?_
                 rotate_left
                 ·intro w'
                  go_simp
                  with_reducible rfl
                 rotate_left
                 ·simp only [Act.put, Qp1, Qp2, Qp3, i64_w, i32_w]
                  rfl
                 refine take_ (i := 5) (N := some 34) (v := ?_) (a' := ?_) (Qbz 24 520191) rfl rfl (take_ofW HT_.out HW_.out (by kernel_rfl)) (fun _ _ _ h => h) (Or.inl ⟨by rfl, ?_⟩) hHeld ?_ ?_
                 rotate_left
                 ·rintro w' ⟨s0, s1⟩
                  go_simp
                  with_reducible rfl
                 rotate_left
                 ·simp only [Act.put, Qp1, Qp2, Qp3, i64_w, i32_w]
                  rfl
                 refine take_ (i := 12) (N := some 41) (v := ?_) (a' := ?_) (Qbz 24 524287) rfl rfl (take_ofW HT_.out HW_.out (by kernel_rfl)) (fun _ _ _ h => h) (Or.inl ⟨by rfl, ?_⟩) hHeld ?_ ?_
                 rotate_left
                 ·rintro w' ⟨s0, s1⟩
                  go_simp
                  with_reducible rfl
                 rotate_left
                 ·simp only [Act.put, Qp1, Qp2, Qp3, i64_w, i32_w]
                  rfl
                 refine one_ (i := 19) (N := some 48) (Qbz 24 1048575) rfl rfl (one_of HT_.out (by kernel_rfl)) (by decide) (fun K hK => ?_)
                 refine goes_ Tryd.func95 (by kernel_rfl) rfl #[.slice A0 l0.length c0, .int .i64 (rd t645 x25_2), .int .i64 (Go.bits .andNot .i64 x4_1 (ji22))] (by rfl) rfl rfl (by (try simp only [List.map_toArray, List.map_cons, List.map_nil]); first | done | (simp only [hji22]; rfl) | rfl | (simp only [List.length_drop, List.length_take]; rfl)) ?_
                 with_reducible refine (width_town_degree.calls (hGL := (Qlg)) k2 _ _ l0 (rd t645 x25_2) (Go.bits .andNot .i64 x4_1 (ji22)) t651 _ ?side1 ?side2 A26.out).mono ?_
                 (case side1 => exact Qsc (Kd.C_below HR0.out HB.out))
                 (case side2 => exact HC0.out)
                 rintro e w31 ⟨rfl, hb⟩
                 have HS0_ := (hb.cell (World.block_lt_of_cell? _ _ (hHeld.1))).trans (hHeld.1)
                 have HS1_ := (hb.cell (World.block_lt_of_cell? _ _ (hHeld.2))).trans (hHeld.2)
                 refine ⟨_, rfl, ?_⟩
                 have n0_ := Aside0.mk (Kd.R_below (Qro HO_3.out) hb)
                 have n1_ := Aside0.mk (Kd.R_below (Qro HO_23.out) hb)
                 have n2_ := Aside0.mk (below_step (Qaw) hb)
                 clear HO_3
                 clear HO_23
                 clear HB
                 have HO_3 := n0_
                 have HO_23 := n1_
                 have HB := n2_
                 clear n0_ n1_ n2_
                 (try clear hb)
                 (try clear hb2)
                 (try clear hk)
                 (try clear hi)
                 have p29 : 0 ≤ (x4_1 : Int) := of_decide_eq_true (by first | (with_reducible assumption) | assumption)
                 have q29 : (x4_1 : Int) < ((x3_2.length : Int) : Int) := of_decide_eq_true (by first | (with_reducible assumption) | assumption)
                 obtain ⟨hx29_0, hf29_0⟩ := Kd.R_celln 0 HO_3.out (x4_1 : Int) p29 q29
                 replace p29 := eq_true p29
                 replace q29 := eq_true q29
                 have HP32 := Kd.R_putn HO_3.out (x4_1 : Int) ji28
                 rw [← Ny652.out] at HP32
                 have HQ32 := Aside0.mk HP32
                 clear HP32
                 refine hK.out _ _ ⟨HS0_, HS1_⟩ (fun hHeld => ?_)
                 clear hK K
                 refine norm_ (a' := ?_) ?_ ?_
                 rotate_left
                 ·show Act.put _ (some 48) _ = _
                  simp only [Act.put, Qp1, Qp2, Qp3, i64_w, i32_w]
                  rfl
                 refine pure_ (i := 20) (N := some 49) (v := ?_) (a' := ?_) (Qbz 24 2097151) rfl rfl (any_of HT_.out (by kernel_rfl)) (fun _ _ _ h => h) (Or.inl ⟨by rfl, ?_⟩) ?_ ?_
                 rotate_left
                 ·intro w'
                  go_simp
                  with_reducible rfl
                 rotate_left
                 ·simp only [Act.put, Qp1, Qp2, Qp3, i64_w, i32_w]
                  rfl
                 refine pure_ (i := 21) (N := some 50) (v := ?_) (a' := ?_) (Qbz 24 4194303) rfl rfl (any_of HT_.out (by kernel_rfl)) (fun _ _ _ h => h) (Or.inl ⟨by rfl, ?_⟩) ?_ ?_
                 rotate_left
                 ·intro w'
                  go_simp
                  with_reducible rfl
                 rotate_left
                 ·simp only [Act.put, Qp1, Qp2, Qp3, i64_w, i32_w]
                  rfl
                 refine pure_ (i := 22) (N := some 51) (v := ?_) (a' := ?_) (Qbz 24 8388607) rfl rfl (any_of HT_.out (by kernel_rfl)) (fun _ _ _ h => h) (Or.inl ⟨by rfl, ?_⟩) ?_ ?_
                 rotate_left
                 ·intro w'
                  go_simp
                  with_reducible rfl
                 rotate_left
                 ·simp only [Act.put, Qp1, Qp2, Qp3, i64_w, i32_w]
                  rfl
                 refine last_ (i := 23) (N := none) (Qbz 24 16777215) rfl rfl (one_of HT_.out (by kernel_rfl)) (by decide) (fun K hK => ?_)
                 refine skip_ (w1 := ?_) (by rfl) rfl ?_ ?_
                 rotate_left
                 ·go_simp
                  rfl
                 refine hK.out _ _ ?_
                 clear hK K
                 refine done_ (done_of HT_.out (by kernel_rfl)) ?_
                 try go_wp2
                 (try simp only [← hl3_2])
                 go_roundg k2
                 case measure => have := HK1.out; have := HK2.out; omega
                 case rel => exact ⟨(y652), (wrap64 (x25_2 + 1)), (by first | rfl | (simp; done) | (simp [*]; done)), H', ⟨by have := HK1.out; have := HK2.out; omega⟩, ⟨by (try simp only [hl3_2]); (with_reducible repeat (first | apply Kd.R_alloc | apply Kd.R_drewN | apply Kd.R_drew)); exact HQ32.out⟩, ⟨by (try simp only [hl3_2]); (with_reducible repeat (first | apply Kd.R_alloc | apply Kd.R_drewN | apply Kd.R_drew)); exact Kd.R_mono (Kd.R_far (p := ⟨go9, (x4_1 : Int).toNat, none⟩) (Kd.R_mono HO_23.out (fun k_ hk => (⟨hk, fun e_ => hk (by rw [e_]; rfl)⟩ : _ ∧ k_ ≠ go9))) (fun _ hk => hk.2) (.int .i64 ji28)) (fun _ hk => hk.1)⟩, ⟨by repeat (first | (with_reducible first | exact HB.out | apply below_alloc | apply pw_below_drewN | apply below_drew1 | refine below_set ?_ GB9.out) | exact HB.out)⟩⟩
                ·rw [if_neg c24] at H
                 exact absurd H (by simp)
               ·rw [if_neg c23] at H
                exact absurd H (by simp)
              ·rw [if_neg c21] at H
               exact absurd H (by simp)
             ·rw [if_neg c20] at H
              exact absurd H (by simp)
            ·rw [if_neg c19] at H
             exact absurd H (by simp)
           ·rw [if_neg c18] at H
            exact absurd H (by simp)
          ·rw [if_neg c17] at H
           exact absurd H (by simp)
         ·rw [if_neg c16] at H
          have c16b0 : decide (x25_2 < (t645.length : Int)) = false := decide_eq_false c16
          clear c16
          have H' := Aside0.mk H
          clear H
          go_wp2
          (try simp only [← hl3_2])
          go_roundg k2
          case measure => have := HK1.out; have := HK2.out; omega
          case rel => exact ⟨(x3_2), (wrap64 (x4_1 + 1)), (by first | rfl | (simp; done) | (simp [*]; done)), H', ⟨by have := HK1.out; have := HK2.out; omega⟩, ⟨by (try simp only [hl3_2]); (with_reducible repeat (first | apply Kd.R_alloc | apply Kd.R_drewN | apply Kd.R_drew)); exact Kd.R_mono HO_3.out (fun _ hk => trivial)⟩, ⟨by repeat (first | (with_reducible first | exact HB.out | apply below_alloc | apply pw_below_drewN | apply below_drew1) | exact HB.out)⟩⟩
      ·rw [if_neg c8] at H
       exact absurd H (by simp)
     ·rw [if_neg c7] at H
      have c7b0 : decide (x4_1 < (x3_1.length : Int)) = false := decide_eq_false c7
      clear c7
      obtain rfl := Option.some.inj H
      obtain ⟨Ao33, co33, eo33⟩ := Kd.R_slice HO_3.out
      subst eo33
      go_wp2
      go_ret
      exact ⟨_, by first | rfl | (simp [errW_none, errW_some] <;> rfl) | (simp only [← hji2]; first | rfl | (simp [errW_none, errW_some] <;> rfl)) | (simp [*, errW_none, errW_some] <;> rfl), by (with_reducible repeat (first | apply Kd.R_alloc | apply Kd.R_drewN | apply Kd.R_drew)); exact HO_3.out, by repeat (first | (with_reducible first | exact HB.out | apply below_alloc | apply pw_below_drewN | apply below_drew1) | exact HB.out)⟩
  ·rw [if_neg c4] at H
   exact absurd H (by simp)
 ·rw [if_neg c3] at H
  exact absurd H (by simp)
end Go.Proofs.YtijfddobandcdaaDoor.X
end
section
namespace Go.Proofs.YtijfddobandcdaaDoor.X
open Go.RowKit YtijfddobandcdaaDoorW.PrintWords YtijfddobandcdaaDoorW.PrintLast YtijfddobandcdaaDoorW.PrintMore
attribute [local go_sem] max2_int min2_int max_two min_two max_three min_three max_four min_four
/-! ### width_town_width: function 69 -/
def width_town_width.f (k : Nat) (l0 : List Int) : Option (Int) := (width_town_widths.f k l0).bind fun t653 => ((width_town_all.f l0).bind fun t656 => (if 0 ≤ t656 then (if t656 < (t653.length : Int) then (some (rd t653 t656)) else (none)) else (none)))
set_option maxHeartbeats 8000000 in
set_option maxRecDepth 100000 in
theorem width_town_width.calls (k : Nat) (A0 : Option Addr) (c0 : Nat) (l0 : List Int) (r : Int) (w : World) (hGL : GL w) (hr0 : Kd.C (Kd.int .i64) w A0 l0.length l0) (hc0 : l0.length ≤ c0) (h : width_town_width.f k l0 = some r) :
  Calls Tryd.prog 69 #[.slice A0 l0.length c0] w fun e w' => e = .returned (.int .i64 r) ∧ Below w.heap.size w w' := by
 have HGL := Aside0.mk hGL
 clear hGL
 have HR0 := Aside0.mk hr0
 have HC0 := Aside0.mk hc0
 clear hr0 hc0
 have HB := Aside0.mk (Below.refl w.heap.size w)
 have H : ((width_town_widths.f k l0).bind fun t653 => ((width_town_all.f l0).bind fun t656 => (if 0 ≤ t656 then (if t656 < (t653.length : Int) then (some (rd t653 t656)) else (none)) else (none)))) = some r := h
 clear h
 replace H := Option.bind_eq_some_iff.mp H
 obtain ⟨t653, A20, H⟩ := H
 replace H : ((width_town_all.f l0).bind fun t656 => (if 0 ≤ t656 then (if t656 < (t653.length : Int) then (some (rd t653 t656)) else (none)) else (none))) = some r := H
 have A2 := Aside0.mk A20
 clear A20
 replace H := Option.bind_eq_some_iff.mp H
 obtain ⟨t656, A30, H⟩ := H
 replace H : (if 0 ≤ t656 then (if t656 < (t653.length : Int) then (some (rd t653 t656)) else (none)) else (none)) = some r := H
 have A3 := Aside0.mk A30
 clear A30
 by_cases c4 : 0 ≤ t656
 ·rw [if_pos c4] at H
  have c4b0 : decide (0 ≤ t656) = true := decide_eq_true c4
  clear c4
  by_cases c5 : t656 < (t653.length : Int)
  ·rw [if_pos c5] at H
   have c5b0 : decide (t656 < (t653.length : Int)) = true := decide_eq_true c5
   clear c5
   obtain rfl := Option.some.inj H
   go_enter Tryd.func69, Tryd.ntmps69
   go_wp2_with (first | ((with_reducible refine gate_callee (f := 83) rfl ?_); refine goesL_ (some 4) rfl rfl Tryd.func83 (by kernel_rfl) rfl #[.slice A0 l0.length c0] rfl (Qls) ?_; (with_reducible refine (width_town_widths.calls (hGL := (Qlg)) k _ _ l0 t653 _ ?side1 ?side2 A2.out).mono ?_); (case side1 => exact Qsc HR0.out); (case side2 => exact HC0.out); rintro e w6 ⟨v654, rfl, ho0, hb⟩; refine ⟨_, rfl, ?_⟩; have n0_ := Aside0.mk (Kd.R_lower ho0 (below_size (Qaw))); have n1_ := Aside0.mk (below_step (Qaw) hb); clear HB; have HO655 := n0_; have HB := n1_; clear n0_ n1_; (try clear hb); (try clear hb2); (try clear hk); (try clear hi); (try clear ho0)) | ((with_reducible refine gate_callee (f := 84) rfl ?_); refine goesL_ (some 6) rfl rfl Tryd.func84 (by kernel_rfl) rfl #[.slice A0 l0.length c0] rfl (Qls) ?_; (with_reducible refine (width_town_all.calls _ _ l0 t656 _ ?side1 ?side2 A3.out).mono ?_); (case side1 => exact Qsc (Kd.C_below HR0.out HB.out)); (case side2 => exact HC0.out); rintro e w' ⟨rfl, ⟨nd, rfl⟩⟩; refine ⟨_, rfl, ?_⟩; obtain ⟨Ao7, co7, eo7⟩ := Kd.R_slice HO655.out; subst eo7; have p657 : 0 ≤ (t656 : Int) := of_decide_eq_true (by first | (with_reducible assumption) | assumption); have q657 : t656 < (t653.length : Int) := of_decide_eq_true (by first | (with_reducible assumption) | assumption); obtain ⟨ad657, e657, hx657_0⟩ := Kd.at_int (Kd.R_reads' HO655.out).2.2 t656 p657 q657; cases e657; replace p657 := eq_true p657; replace q657 := eq_true q657))
   go_ret
   exact ⟨by first | rfl | (simp [errW_none, errW_some] <;> rfl) | (simp [*, errW_none, errW_some] <;> rfl), by repeat (first | (with_reducible first | exact HB.out | apply below_alloc | apply pw_below_drewN | apply below_drew1) | exact HB.out)⟩
  ·rw [if_neg c5] at H
   exact absurd H (by simp)
 ·rw [if_neg c4] at H
  exact absurd H (by simp)
end Go.Proofs.YtijfddobandcdaaDoor.X
end
section
namespace Go.Proofs.YtijfddobandcdaaDoor.X
open Go.RowKit YtijfddobandcdaaDoorW.PrintWords YtijfddobandcdaaDoorW.PrintLast YtijfddobandcdaaDoorW.PrintMore
attribute [local go_sem] max2_int min2_int max_two min_two max_three min_three max_four min_four
/-! ### width_Width: function 45 -/
def width_Width.f (k : Nat) (l0 : List Int) : Option (Int × Int) := (width_read.f k l0).bind fun bt658 => (if bt658.2 = true then ((width_town_width.f k bt658.1).bind fun t662 => (some (t662, 0))) else (some (0, 2)))
set_option maxHeartbeats 8000000 in
set_option maxRecDepth 100000 in
theorem width_Width.calls (k : Nat) (A0 : Option Addr) (c0 : Nat) (l0 : List Int) (r1 : Int) (r2 : Int) (w : World) (hGL : GL w) (hr0 : Kd.C (Kd.int .i64) w A0 l0.length l0) (hc0 : l0.length ≤ c0) (h : width_Width.f k l0 = some (r1, r2)) :
  Calls Tryd.prog 45 #[.slice A0 l0.length c0] w fun e w' => e = .returned (.tuple #[.int .i64 r1, .int .i64 r2]) ∧ Below w.heap.size w w' := by
 have HGL := Aside0.mk hGL
 clear hGL
 have HR0 := Aside0.mk hr0
 have HC0 := Aside0.mk hc0
 clear hr0 hc0
 have HB := Aside0.mk (Below.refl w.heap.size w)
 have H : ((width_read.f k l0).bind fun bt658 => (if bt658.2 = true then ((width_town_width.f k bt658.1).bind fun t662 => (some (t662, 0))) else (some (0, 2)))) = some (r1, r2) := h
 clear h
 replace H := Option.bind_eq_some_iff.mp H
 obtain ⟨⟨t658, t661⟩, A20, H⟩ := H
 replace H : (if t661 = true then ((width_town_width.f k t658).bind fun t662 => (some (t662, 0))) else (some (0, 2))) = some (r1, r2) := H
 have A2 := Aside0.mk A20
 clear A20
 by_cases c3 : t661 = true
 ·subst c3
  have H1 : ((width_town_width.f k t658).bind fun t662 => (some (t662, 0))) = some (r1, r2) := by rw [if_pos rfl] at H; exact H
  clear H
  have H := H1
  clear H1
  replace H := Option.bind_eq_some_iff.mp H
  obtain ⟨t662, A40, H⟩ := H
  replace H : (some (t662, 0)) = some (r1, r2) := H
  have A4 := Aside0.mk A40
  clear A40
  simp only [Option.some.injEq, Prod.mk.injEq] at H
  obtain ⟨rfl, rfl⟩ := H
  go_enter Tryd.func45, Tryd.ntmps45
  go_wp2_with (first | ((with_reducible refine gate_callee (f := 68) rfl ?_); refine goesL_ (some 8) rfl rfl Tryd.func68 (by kernel_rfl) rfl #[.slice A0 l0.length c0] rfl (Qls) ?_; (with_reducible refine (width_read.calls k (fun k_ => k_ < w.heap.size) _ _ l0 t658 true _ ?side1 A2.out).mono ?_); (case side1 => exact Kd.V_mk HC0.out (Kd.F_below (Kd.C_F (Kd.heap_int .i64) HR0.out) (Qaw))); rintro e w5 ⟨v659, rfl, ho0, hb⟩; refine ⟨_, rfl, ?_⟩; have n0_ := Aside0.mk (Kd.V_lower (Kd.V_mono (ok' := fun k_ => True) ho0 (fun k_ hk_ => trivial)) (below_size (Qaw))); have n1_ := Aside0.mk (below_step (Qaw) hb); clear HB; have HO660 := n0_; have HB := n1_; clear n0_ n1_; (try clear hb); (try clear hb2); (try clear hk); (try clear hi); (try clear ho0); obtain ⟨Ao6, co6, eo6⟩ := Kd.V_slice HO660.out; subst eo6) | ((with_reducible refine gate_callee (f := 69) rfl ?_); refine goesL_ (some 14) rfl rfl Tryd.func69 (by kernel_rfl) rfl #[.slice Ao6 t658.length co6] rfl (Qls) ?_; (with_reducible refine (width_town_width.calls (hGL := (Qlg)) k _ _ t658 t662 _ ?side1 ?side2 A4.out).mono ?_); (case side1 => exact Qsc (Kd.V_reads' HO660.out).2.2); (case side2 => exact (Kd.V_reads' HO660.out).2.1); rintro e w7 ⟨rfl, hb⟩; refine ⟨_, rfl, ?_⟩; have n0_ := Aside0.mk (Kd.V_below (by (with_reducible repeat (first | apply Kd.V_alloc | apply Kd.V_drewN | apply Kd.V_drew)); exact HO660.out) hb); have n1_ := Aside0.mk (below_step (Qaw) hb); clear HO660; clear HB; have HO660 := n0_; have HB := n1_; clear n0_ n1_; (try clear hb); (try clear hb2); (try clear hk); (try clear hi)))
  go_ret2
  exact ⟨by first | rfl | (simp [errW_none, errW_some] <;> rfl) | (simp [*, errW_none, errW_some] <;> rfl), by repeat (first | (with_reducible first | exact HB.out | apply below_alloc | apply pw_below_drewN | apply below_drew1) | exact HB.out)⟩
 ·replace c3 := Bool.eq_false_iff.mpr c3
  subst c3
  have H1 : (some (0, 2)) = some (r1, r2) := by rw [if_neg (show ¬ (false = true) by decide)] at H; exact H
  clear H
  have H := H1
  clear H1
  simp only [Option.some.injEq, Prod.mk.injEq] at H
  obtain ⟨rfl, rfl⟩ := H
  go_enter Tryd.func45, Tryd.ntmps45
  go_wp2_with (first | ((with_reducible refine gate_callee (f := 68) rfl ?_); refine goesL_ (some 8) rfl rfl Tryd.func68 (by kernel_rfl) rfl #[.slice A0 l0.length c0] rfl (Qls) ?_; (with_reducible refine (width_read.calls k (fun k_ => k_ < w.heap.size) _ _ l0 t658 false _ ?side1 A2.out).mono ?_); (case side1 => exact Kd.V_mk HC0.out (Kd.F_below (Kd.C_F (Kd.heap_int .i64) HR0.out) (Qaw))); rintro e w8 ⟨v659, rfl, ho0, hb⟩; refine ⟨_, rfl, ?_⟩; have n0_ := Aside0.mk (Kd.V_lower (Kd.V_mono (ok' := fun k_ => True) ho0 (fun k_ hk_ => trivial)) (below_size (Qaw))); have n1_ := Aside0.mk (below_step (Qaw) hb); clear HB; have HO660 := n0_; have HB := n1_; clear n0_ n1_; (try clear hb); (try clear hb2); (try clear hk); (try clear hi); (try clear ho0)))
  go_ret2
  exact ⟨by first | rfl | (simp [errW_none, errW_some] <;> rfl) | (simp [*, errW_none, errW_some] <;> rfl), by repeat (first | (with_reducible first | exact HB.out | apply below_alloc | apply pw_below_drewN | apply below_drew1) | exact HB.out)⟩
end Go.Proofs.YtijfddobandcdaaDoor.X
end
section
namespace Go.Proofs.YtijfddobandcdaaDoor.X
open Go.RowKit YtijfddobandcdaaDoorW.PrintWords YtijfddobandcdaaDoorW.PrintLast YtijfddobandcdaaDoorW.PrintMore
attribute [local go_sem] max2_int min2_int max_two min_two max_three min_three max_four min_four
/-! ### lampblacklaw03_SweepWider: function 16 -/
mutual
def lampblacklaw03_SweepWider.j0 : Nat → List Int → List Int → Int → Int → Bool → Bool → Option (Bool)
 | 0, _, _, _, _, _, _ => none
 | k + 1, x0, x1, x6, x10, x11, x63 => if x63 = true then (some false) else (if x11 = true then ((lampblacklaw03_list.f x1).bind fun t747 => (lampblacklaw03_SweepWider.l0 k x0 x6 x10 (x1.length : Int) 0 t747 ([] : List Int))) else ((lampblacklaw03_awake.f k).bind fun t746 => (some t746)))
def lampblacklaw03_SweepWider.l0 : Nat → List Int → Int → Int → Int → Int → List Int → List Int → Option (Bool)
 | 0, _, _, _, _, _, _, _ => none
 | k + 1, x0, x6, x10, x71, x72, x751000, x751001 => if x72 < x71 then (if x751001.length < 17592186044416 then (lampblacklaw03_SweepWider.l0 k x0 x6 x10 x71 (wrap64 (x72 + 1)) x751000 (x751001 ++ [wrap64 (x72 - 1)])) else (none)) else ((lampblacklaw03_Few.f x0).bind fun t754 => ((width_Check.f k t754 x751000 x751001).bind fun bt757 => (if bt757.2.1 = true then (if bt757.2.2 = 0 then (if x10 = bt757.1 then (if x10 ≥ x6 then ((lampblacklaw03_awake.f k).bind fun t760 => (some t760)) else (some false)) else (some false)) else (some false)) else (some false))))
end
def lampblacklaw03_SweepWider.f (k : Nat) (l0 : List Int) (l1 : List Int) : Option (Bool) := (lampblacklaw03_Few.f l0).bind fun t723 => ((sweep_Layout.f k t723).bind fun bt726 => (if bt726.2.2 = 0 then ((lampblacklaw03_Few.f l0).bind fun t732 => ((width_Width.f k t732).bind fun bt735 => ((lampblacklaw03_Few.f l0).bind fun t737 => ((lampblacklaw03_list.f l1).bind fun t740 => ((sweep_Check.f k t737 t740).bind fun bt743 => (if bt735.2 = 0 then (if bt743.2.2 = 0 then (if bt735.1 > bt726.2.1 then (lampblacklaw03_SweepWider.j0 k l0 l1 bt726.2.1 bt743.1 bt743.2.1 true) else (lampblacklaw03_SweepWider.j0 k l0 l1 bt726.2.1 bt743.1 bt743.2.1 (decide (bt726.2.1 > (wrap64 ((l0.length : Int) - 1)))))) else (lampblacklaw03_SweepWider.j0 k l0 l1 bt726.2.1 bt743.1 bt743.2.1 true)) else (lampblacklaw03_SweepWider.j0 k l0 l1 bt726.2.1 bt743.1 bt743.2.1 true))))))) else (if bt726.2.2 = 2 then ((lampblacklaw03_awake.f k).bind fun t731 => (some t731)) else (some false))))
def lampblacklaw03_SweepWider.T16 : Bool × List (List Nat × List Nat) := (true, [([], []), ([0], [0]), ([], []), ([1, 2, 1], [1, 2]), ([3], [3]), ([4], [4]), ([4], [4]), ([4], [4]), ([5, 3, 0, 1, 2, 3, 4, 5], [5]), ([6, 8, 0, 1, 2, 3, 4, 5, 6, 8], [6]), ([7, 9, 0, 1, 2, 3, 4, 5, 6, 7, 8, 9], [7])])
def lampblacklaw03_SweepWider.B16 : List Nat := [0, 1, 0, 7, 15, 31, 31, 31, 63, 383, 1023]
theorem lampblacklaw03_SweepWider.tab16 : rtab .any (opsOf Tryd.f16 16) = lampblacklaw03_SweepWider.T16 := by kernel_rfl
theorem lampblacklaw03_SweepWider.bits16 : waitsOk lampblacklaw03_SweepWider.T16.2 lampblacklaw03_SweepWider.B16 = true := by kernel_rfl
set_option maxHeartbeats 8000000 in
set_option maxRecDepth 100000 in
theorem lampblacklaw03_SweepWider.calls (k : Nat) (A0 : Option Addr) (c0 : Nat) (l0 : List Int) (A1 : Option Addr) (c1 : Nat) (l1 : List Int) (r : Bool) (w : World) (hGL : GL w) (hr0 : Kd.C (Kd.int .i64) w A0 l0.length l0) (hc0 : l0.length ≤ c0) (hr1 : Kd.C (Kd.int .i64) w A1 l1.length l1) (hc1 : l1.length ≤ c1) (h : lampblacklaw03_SweepWider.f k l0 l1 = some r) :
  Calls Tryd.prog 16 #[.slice A0 l0.length c0, .slice A1 l1.length c1] w fun e w' => e = .returned (.bool r) ∧ Below w.heap.size w w' := by
 have HGL := Aside0.mk hGL
 clear hGL
 have hu74 := Tryd.underlying74
 have HR0 := Aside0.mk hr0
 have HC0 := Aside0.mk hc0
 clear hr0 hc0
 have HR1 := Aside0.mk hr1
 have HC1 := Aside0.mk hc1
 clear hr1 hc1
 have HB := Aside0.mk (Below.refl w.heap.size w)
 have H : ((lampblacklaw03_Few.f l0).bind fun t723 => ((sweep_Layout.f k t723).bind fun bt726 => (if bt726.2.2 = 0 then ((lampblacklaw03_Few.f l0).bind fun t732 => ((width_Width.f k t732).bind fun bt735 => ((lampblacklaw03_Few.f l0).bind fun t737 => ((lampblacklaw03_list.f l1).bind fun t740 => ((sweep_Check.f k t737 t740).bind fun bt743 => (if bt735.2 = 0 then (if bt743.2.2 = 0 then (if bt735.1 > bt726.2.1 then (lampblacklaw03_SweepWider.j0 k l0 l1 bt726.2.1 bt743.1 bt743.2.1 true) else (lampblacklaw03_SweepWider.j0 k l0 l1 bt726.2.1 bt743.1 bt743.2.1 (decide (bt726.2.1 > (wrap64 ((l0.length : Int) - 1)))))) else (lampblacklaw03_SweepWider.j0 k l0 l1 bt726.2.1 bt743.1 bt743.2.1 true)) else (lampblacklaw03_SweepWider.j0 k l0 l1 bt726.2.1 bt743.1 bt743.2.1 true))))))) else (if bt726.2.2 = 2 then ((lampblacklaw03_awake.f k).bind fun t731 => (some t731)) else (some false))))) = some r := h
 clear h
 replace H := Option.bind_eq_some_iff.mp H
 obtain ⟨t723, A30, H⟩ := H
 replace H : ((sweep_Layout.f k t723).bind fun bt726 => (if bt726.2.2 = 0 then ((lampblacklaw03_Few.f l0).bind fun t732 => ((width_Width.f k t732).bind fun bt735 => ((lampblacklaw03_Few.f l0).bind fun t737 => ((lampblacklaw03_list.f l1).bind fun t740 => ((sweep_Check.f k t737 t740).bind fun bt743 => (if bt735.2 = 0 then (if bt743.2.2 = 0 then (if bt735.1 > bt726.2.1 then (lampblacklaw03_SweepWider.j0 k l0 l1 bt726.2.1 bt743.1 bt743.2.1 true) else (lampblacklaw03_SweepWider.j0 k l0 l1 bt726.2.1 bt743.1 bt743.2.1 (decide (bt726.2.1 > (wrap64 ((l0.length : Int) - 1)))))) else (lampblacklaw03_SweepWider.j0 k l0 l1 bt726.2.1 bt743.1 bt743.2.1 true)) else (lampblacklaw03_SweepWider.j0 k l0 l1 bt726.2.1 bt743.1 bt743.2.1 true))))))) else (if bt726.2.2 = 2 then ((lampblacklaw03_awake.f k).bind fun t731 => (some t731)) else (some false)))) = some r := H
 have A3 := Aside0.mk A30
 clear A30
 replace H := Option.bind_eq_some_iff.mp H
 obtain ⟨⟨t726, t727, t728⟩, A40, H⟩ := H
 replace H : (if t728 = 0 then ((lampblacklaw03_Few.f l0).bind fun t732 => ((width_Width.f k t732).bind fun bt735 => ((lampblacklaw03_Few.f l0).bind fun t737 => ((lampblacklaw03_list.f l1).bind fun t740 => ((sweep_Check.f k t737 t740).bind fun bt743 => (if bt735.2 = 0 then (if bt743.2.2 = 0 then (if bt735.1 > t727 then (lampblacklaw03_SweepWider.j0 k l0 l1 t727 bt743.1 bt743.2.1 true) else (lampblacklaw03_SweepWider.j0 k l0 l1 t727 bt743.1 bt743.2.1 (decide (t727 > (wrap64 ((l0.length : Int) - 1)))))) else (lampblacklaw03_SweepWider.j0 k l0 l1 t727 bt743.1 bt743.2.1 true)) else (lampblacklaw03_SweepWider.j0 k l0 l1 t727 bt743.1 bt743.2.1 true))))))) else (if t728 = 2 then ((lampblacklaw03_awake.f k).bind fun t731 => (some t731)) else (some false))) = some r := H
 have A4 := Aside0.mk A40
 clear A40
 by_cases c5 : t728 = 0
 ·rw [if_pos c5] at H
  have c5b0 : (t728 == 0) = true := beq_iff_eq.mpr c5
  have c5b1 : (t728 != 0) = false := bne_eq_false_iff_eq.mpr c5
  clear c5
  replace H := Option.bind_eq_some_iff.mp H
  obtain ⟨t732, A60, H⟩ := H
  replace H : ((width_Width.f k t732).bind fun bt735 => ((lampblacklaw03_Few.f l0).bind fun t737 => ((lampblacklaw03_list.f l1).bind fun t740 => ((sweep_Check.f k t737 t740).bind fun bt743 => (if bt735.2 = 0 then (if bt743.2.2 = 0 then (if bt735.1 > t727 then (lampblacklaw03_SweepWider.j0 k l0 l1 t727 bt743.1 bt743.2.1 true) else (lampblacklaw03_SweepWider.j0 k l0 l1 t727 bt743.1 bt743.2.1 (decide (t727 > (wrap64 ((l0.length : Int) - 1)))))) else (lampblacklaw03_SweepWider.j0 k l0 l1 t727 bt743.1 bt743.2.1 true)) else (lampblacklaw03_SweepWider.j0 k l0 l1 t727 bt743.1 bt743.2.1 true)))))) = some r := H
  have A6 := Aside0.mk A60
  clear A60
  replace H := Option.bind_eq_some_iff.mp H
  obtain ⟨⟨t735, t736⟩, A70, H⟩ := H
  replace H : ((lampblacklaw03_Few.f l0).bind fun t737 => ((lampblacklaw03_list.f l1).bind fun t740 => ((sweep_Check.f k t737 t740).bind fun bt743 => (if t736 = 0 then (if bt743.2.2 = 0 then (if t735 > t727 then (lampblacklaw03_SweepWider.j0 k l0 l1 t727 bt743.1 bt743.2.1 true) else (lampblacklaw03_SweepWider.j0 k l0 l1 t727 bt743.1 bt743.2.1 (decide (t727 > (wrap64 ((l0.length : Int) - 1)))))) else (lampblacklaw03_SweepWider.j0 k l0 l1 t727 bt743.1 bt743.2.1 true)) else (lampblacklaw03_SweepWider.j0 k l0 l1 t727 bt743.1 bt743.2.1 true))))) = some r := H
  have A7 := Aside0.mk A70
  clear A70
  replace H := Option.bind_eq_some_iff.mp H
  obtain ⟨t737, A80, H⟩ := H
  replace H : ((lampblacklaw03_list.f l1).bind fun t740 => ((sweep_Check.f k t737 t740).bind fun bt743 => (if t736 = 0 then (if bt743.2.2 = 0 then (if t735 > t727 then (lampblacklaw03_SweepWider.j0 k l0 l1 t727 bt743.1 bt743.2.1 true) else (lampblacklaw03_SweepWider.j0 k l0 l1 t727 bt743.1 bt743.2.1 (decide (t727 > (wrap64 ((l0.length : Int) - 1)))))) else (lampblacklaw03_SweepWider.j0 k l0 l1 t727 bt743.1 bt743.2.1 true)) else (lampblacklaw03_SweepWider.j0 k l0 l1 t727 bt743.1 bt743.2.1 true)))) = some r := H
  have A8 := Aside0.mk A80
  clear A80
  replace H := Option.bind_eq_some_iff.mp H
  obtain ⟨t740, A90, H⟩ := H
  replace H : ((sweep_Check.f k t737 t740).bind fun bt743 => (if t736 = 0 then (if bt743.2.2 = 0 then (if t735 > t727 then (lampblacklaw03_SweepWider.j0 k l0 l1 t727 bt743.1 bt743.2.1 true) else (lampblacklaw03_SweepWider.j0 k l0 l1 t727 bt743.1 bt743.2.1 (decide (t727 > (wrap64 ((l0.length : Int) - 1)))))) else (lampblacklaw03_SweepWider.j0 k l0 l1 t727 bt743.1 bt743.2.1 true)) else (lampblacklaw03_SweepWider.j0 k l0 l1 t727 bt743.1 bt743.2.1 true))) = some r := H
  have A9 := Aside0.mk A90
  clear A90
  replace H := Option.bind_eq_some_iff.mp H
  obtain ⟨⟨t743, t744, t745⟩, A100, H⟩ := H
  replace H : (if t736 = 0 then (if t745 = 0 then (if t735 > t727 then (lampblacklaw03_SweepWider.j0 k l0 l1 t727 t743 t744 true) else (lampblacklaw03_SweepWider.j0 k l0 l1 t727 t743 t744 (decide (t727 > (wrap64 ((l0.length : Int) - 1)))))) else (lampblacklaw03_SweepWider.j0 k l0 l1 t727 t743 t744 true)) else (lampblacklaw03_SweepWider.j0 k l0 l1 t727 t743 t744 true)) = some r := H
  have A10 := Aside0.mk A100
  clear A100
  have HC11 := Aside0.mk H
  clear H
  go_enter Tryd.func16, Tryd.ntmps16
  go_upto_region 6 with (first | ((with_reducible refine gate_callee (f := 18) rfl ?_); refine goesL_ (some 19) rfl rfl Tryd.func18 (by kernel_rfl) rfl #[.slice A0 l0.length c0] rfl (Qls) ?_; (with_reducible refine (lampblacklaw03_Few.calls _ _ l0 t723 _ ?side1 ?side2 A3.out).mono ?_); (case side1 => exact Qsc HR0.out); (case side2 => exact HC0.out); rintro e w12 ⟨v724, rfl, ho0, hb⟩; refine ⟨_, rfl, ?_⟩; have n0_ := Aside0.mk (Kd.R_lower ho0 (below_size (Qaw))); have n1_ := Aside0.mk (below_step (Qaw) hb); clear HB; have HO725 := n0_; have HB := n1_; clear n0_ n1_; (try clear hb); (try clear hb2); (try clear hk); (try clear hi); (try clear ho0); obtain ⟨Ao13, co13, eo13⟩ := Kd.R_slice HO725.out; subst eo13) | ((with_reducible refine gate_callee (f := 22) rfl ?_); refine goesL_ (some 20) rfl rfl Tryd.func22 (by kernel_rfl) rfl #[.slice Ao13 t723.length co13] rfl (Qls) ?_; (with_reducible refine (sweep_Layout.calls (hGL := (Qlg)) k _ _ t723 t726 t727 t728 _ ?side1 ?side2 A4.out).mono ?_); (case side1 => exact Qsc (Kd.R_reads' HO725.out).2.2); (case side2 => exact (Kd.R_reads' HO725.out).2.1); rintro e w14 ⟨v729, rfl, ho0, hb⟩; refine ⟨_, rfl, ?_⟩; have n0_ := Aside0.mk (Kd.R_elder' (Qro HO725.out) (Kd.R_base ho0) hb); have n1_ := Aside0.mk (Kd.R_lower (Kd.R_new' ho0 (Kd.R_lt (Qro HO725.out))) (below_size (Qaw))); have n2_ := Aside0.mk (below_step (Qaw) hb); clear HO725; clear HB; have HO725 := n0_; have HO730 := n1_; have HB := n2_; clear n0_ n1_ n2_; (try clear hb); (try clear hb2); (try clear hk); (try clear hi); (try clear ho0)) | ((with_reducible refine gate_callee (f := 18) rfl ?_); refine goesL_ (some 33) rfl rfl Tryd.func18 (by kernel_rfl) rfl #[.slice A0 l0.length c0] rfl (Qls) ?_; (with_reducible refine (lampblacklaw03_Few.calls _ _ l0 t732 _ ?side1 ?side2 A6.out).mono ?_); (case side1 => exact Qsc (Kd.C_below HR0.out HB.out)); (case side2 => exact HC0.out); rintro e w15 ⟨v733, rfl, ho0, hb⟩; refine ⟨_, rfl, ?_⟩; have n0_ := Aside0.mk (Kd.R_elder' (Qro HO725.out) (Kd.R_base ho0) hb); have n1_ := Aside0.mk (Kd.R_elder' (Qro HO730.out) (Kd.R_base ho0) hb); have n2_ := Aside0.mk (Kd.R_lower (Kd.R_new' (Kd.R_new' ho0 (Kd.R_lt (Qro HO725.out))) (Kd.R_lt (Qro HO730.out))) (below_size (Qaw))); have n3_ := Aside0.mk (below_step (Qaw) hb); clear HO725; clear HO730; clear HB; have HO725 := n0_; have HO730 := n1_; have HO734 := n2_; have HB := n3_; clear n0_ n1_ n2_ n3_; (try clear hb); (try clear hb2); (try clear hk); (try clear hi); (try clear ho0); obtain ⟨Ao16, co16, eo16⟩ := Kd.R_slice HO734.out; subst eo16) | ((with_reducible refine gate_callee (f := 45) rfl ?_); refine goesL_ (some 34) rfl rfl Tryd.func45 (by kernel_rfl) rfl #[.slice Ao16 t732.length co16] rfl (Qls) ?_; (with_reducible refine (width_Width.calls (hGL := (Qlg)) k _ _ t732 t735 t736 _ ?side1 ?side2 A7.out).mono ?_); (case side1 => exact Qsc (Kd.R_reads' HO734.out).2.2); (case side2 => exact (Kd.R_reads' HO734.out).2.1); rintro e w17 ⟨rfl, hb⟩; refine ⟨_, rfl, ?_⟩; have n0_ := Aside0.mk (Kd.R_below (Qro HO725.out) hb); have n1_ := Aside0.mk (Kd.R_below (Qro HO730.out) hb); have n2_ := Aside0.mk (Kd.R_below (Qro HO734.out) hb); have n3_ := Aside0.mk (below_step (Qaw) hb); clear HO725; clear HO730; clear HO734; clear HB; have HO725 := n0_; have HO730 := n1_; have HO734 := n2_; have HB := n3_; clear n0_ n1_ n2_ n3_; (try clear hb); (try clear hb2); (try clear hk); (try clear hi)) | ((with_reducible refine gate_callee (f := 18) rfl ?_); refine goesL_ (some 39) rfl rfl Tryd.func18 (by kernel_rfl) rfl #[.slice A0 l0.length c0] rfl (Qls) ?_; (with_reducible refine (lampblacklaw03_Few.calls _ _ l0 t737 _ ?side1 ?side2 A8.out).mono ?_); (case side1 => exact Qsc (Kd.C_below HR0.out HB.out)); (case side2 => exact HC0.out); rintro e w18 ⟨v738, rfl, ho0, hb⟩; refine ⟨_, rfl, ?_⟩; have n0_ := Aside0.mk (Kd.R_elder' (Qro HO725.out) (Kd.R_base ho0) hb); have n1_ := Aside0.mk (Kd.R_elder' (Qro HO730.out) (Kd.R_base ho0) hb); have n2_ := Aside0.mk (Kd.R_elder' (Qro HO734.out) (Kd.R_base ho0) hb); have n3_ := Aside0.mk (Kd.R_lower (Kd.R_new' (Kd.R_new' (Kd.R_new' ho0 (Kd.R_lt (Qro HO725.out))) (Kd.R_lt (Qro HO730.out))) (Kd.R_lt (Qro HO734.out))) (below_size (Qaw))); have n4_ := Aside0.mk (below_step (Qaw) hb); clear HO725; clear HO730; clear HO734; clear HB; have HO725 := n0_; have HO730 := n1_; have HO734 := n2_; have HO739 := n3_; have HB := n4_; clear n0_ n1_ n2_ n3_ n4_; (try clear hb); (try clear hb2); (try clear hk); (try clear hi); (try clear ho0)) | ((with_reducible refine gate_callee (f := 27) rfl ?_); refine goesL_ (some 41) rfl rfl Tryd.func27 (by kernel_rfl) rfl #[.slice A1 l1.length c1] rfl (Qls) ?_; (with_reducible refine (lampblacklaw03_list.calls _ _ l1 t740 _ ?side1 ?side2 A9.out).mono ?_); (case side1 => exact Qsc (Kd.C_below HR1.out HB.out)); (case side2 => exact HC1.out); rintro e w19 ⟨v741, rfl, ho0, hb⟩; refine ⟨_, rfl, ?_⟩; have n0_ := Aside0.mk (Kd.R_elder' (Qro HO725.out) (Kd.R_base ho0) hb); have n1_ := Aside0.mk (Kd.R_elder' (Qro HO730.out) (Kd.R_base ho0) hb); have n2_ := Aside0.mk (Kd.R_elder' (Qro HO734.out) (Kd.R_base ho0) hb); have n3_ := Aside0.mk (Kd.R_elder' (Qro HO739.out) (Kd.R_base ho0) hb); have n4_ := Aside0.mk (Kd.R_lower (Kd.R_new' (Kd.R_new' (Kd.R_new' (Kd.R_new' ho0 (Kd.R_lt (Qro HO725.out))) (Kd.R_lt (Qro HO730.out))) (Kd.R_lt (Qro HO734.out))) (Kd.R_lt (Qro HO739.out))) (below_size (Qaw))); have n5_ := Aside0.mk (below_step (Qaw) hb); clear HO725; clear HO730; clear HO734; clear HO739; clear HB; have HO725 := n0_; have HO730 := n1_; have HO734 := n2_; have HO739 := n3_; have HO742 := n4_; have HB := n5_; clear n0_ n1_ n2_ n3_ n4_ n5_; (try clear hb); (try clear hb2); (try clear hk); (try clear hi); (try clear ho0); obtain ⟨Ao20, co20, eo20⟩ := Kd.R_slice HO739.out; subst eo20; obtain ⟨Ao21, co21, eo21⟩ := Kd.R_slice HO742.out; subst eo21) | ((with_reducible refine gate_callee (f := 36) rfl ?_); refine goesL_ (some 42) rfl rfl Tryd.func36 (by kernel_rfl) rfl #[.slice Ao20 t737.length co20, .slice Ao21 t740.length co21] rfl (Qls) ?_; (with_reducible refine (sweep_Check.calls k _ _ t737 _ _ t740 t743 t744 t745 _ ?side1 ?side2 ?side3 ?side4 A10.out).mono ?_); (case side1 => exact Qsc (Kd.R_reads' HO739.out).2.2); (case side2 => exact (Kd.R_reads' HO739.out).2.1); (case side3 => exact Qsc (Kd.R_reads' HO742.out).2.2); (case side4 => exact (Kd.R_reads' HO742.out).2.1); rintro e w22 ⟨rfl, hb⟩; refine ⟨_, rfl, ?_⟩; have n0_ := Aside0.mk (Kd.R_below (Qro HO725.out) hb); have n1_ := Aside0.mk (Kd.R_below (Qro HO730.out) hb); have n2_ := Aside0.mk (Kd.R_below (Qro HO734.out) hb); have n3_ := Aside0.mk (Kd.R_below (Qro HO739.out) hb); have n4_ := Aside0.mk (Kd.R_below (Qro HO742.out) hb); have n5_ := Aside0.mk (below_step (Qaw) hb); clear HO725; clear HO730; clear HO734; clear HO739; clear HO742; clear HB; have HO725 := n0_; have HO730 := n1_; have HO734 := n2_; have HO739 := n3_; have HO742 := n4_; have HB := n5_; clear n0_ n1_ n2_ n3_ n4_ n5_; (try clear hb); (try clear hb2); (try clear hk); (try clear hi)))
  (try simp only [Act.put, List.setIfInBounds_toArray, List.set_cons_zero, List.set_cons_succ])
  go_cut [63] (fun v63 wc => ∃ (kq : Nat) (x63_10 : Bool), v63 = .bool x63_10 ∧ Aside0 (lampblacklaw03_SweepWider.j0 kq l0 l1 t727 t743 t744 x63_10 = some r) ∧ Aside0 (kq ≤ k) ∧ Aside0 (Below w.heap.size w wc))
  case first =>
   have H := HC11.out
   clear HC11
   by_cases c23 : t736 = 0
   ·rw [if_pos c23] at H
    have c23b0 : (t736 == 0) = true := beq_iff_eq.mpr c23
    have c23b1 : (t736 != 0) = false := bne_eq_false_iff_eq.mpr c23
    clear c23
    (first | rw [c23b0] | (simp only [i64_w, i32_w]; rw [c23b0]) | skip)
    by_cases c24 : t745 = 0
    ·rw [if_pos c24] at H
     have c24b0 : (t745 == 0) = true := beq_iff_eq.mpr c24
     have c24b1 : (t745 != 0) = false := bne_eq_false_iff_eq.mpr c24
     clear c24
     by_cases c25 : t735 > t727
     ·rw [if_pos c25] at H
      have c25b0 : decide (t727 < t735) = true := decide_eq_true c25
      clear c25
      have H' := Aside0.mk H
      clear H
      go_wp2
      go_meet
      case rel => exact ⟨_, (true), (by first | rfl | (simp; done) | (simp [*]; done)), H', ⟨by first | omega | exact Nat.le_refl _⟩, ⟨by repeat (first | (with_reducible first | exact HB.out | apply below_alloc | apply pw_below_drewN | apply below_drew1) | exact HB.out)⟩⟩
     ·rw [if_neg c25] at H
      have c25b0 : decide (t727 < t735) = false := decide_eq_false c25
      clear c25
      have H' := Aside0.mk H
      clear H
      go_wp2
      go_meet
      case rel => exact ⟨_, (decide (t727 > (wrap64 ((l0.length : Int) - 1)))), (by first | rfl | (simp; done) | (simp [*]; done)), H', ⟨by first | omega | exact Nat.le_refl _⟩, ⟨by repeat (first | (with_reducible first | exact HB.out | apply below_alloc | apply pw_below_drewN | apply below_drew1) | exact HB.out)⟩⟩
    ·rw [if_neg c24] at H
     have c24b0 : (t745 == 0) = false := beq_eq_false_iff_ne.mpr c24
     have c24b1 : (t745 != 0) = true := bne_iff_ne.mpr c24
     have H' := Aside0.mk H
     clear H
     go_wp2
     go_meet
     case rel => exact ⟨_, (true), (by first | rfl | (simp; done) | (simp [*]; done)), H', ⟨by first | omega | exact Nat.le_refl _⟩, ⟨by repeat (first | (with_reducible first | exact HB.out | apply below_alloc | apply pw_below_drewN | apply below_drew1) | exact HB.out)⟩⟩
   ·rw [if_neg c23] at H
    have c23b0 : (t736 == 0) = false := beq_eq_false_iff_ne.mpr c23
    have c23b1 : (t736 != 0) = true := bne_iff_ne.mpr c23
    (first | rw [c23b0] | (simp only [i64_w, i32_w]; rw [c23b0]) | skip)
    have H' := Aside0.mk H
    clear H
    go_wp2
    go_meet
    case rel => exact ⟨_, (true), (by first | rfl | (simp; done) | (simp [*]; done)), H', ⟨by first | omega | exact Nat.le_refl _⟩, ⟨by repeat (first | (with_reducible first | exact HB.out | apply below_alloc | apply pw_below_drewN | apply below_drew1) | exact HB.out)⟩⟩
  case rest =>
   clear HC11
   try clear c1
   try clear c2
   try clear p2
   try clear c3
   try clear c4
   try clear c5
   try clear c5b0
   try clear c5b1
   try clear p6
   try clear c16
   try clear c18
   try clear c22
   try clear c23
   try clear c23b0
   try clear c23b1
   try clear c24
   try clear c24b0
   try clear c24b1
   try clear c25
   try clear c25b0
   obtain ⟨kq, x63_10, rfl, HA, HJ10, HB⟩ := hcut
   cases kq with
   | zero => exact absurd HA.out (by simp [lampblacklaw03_SweepWider.j0])
   | succ kj10 =>
    have H := HA.out
    clear HA
    simp only [lampblacklaw03_SweepWider.j0] at H
    by_cases c26 : x63_10 = true
    ·subst c26
     have H1 : (some false) = some r := by rw [if_pos rfl] at H; exact H
     clear H
     have H := H1
     clear H1
     obtain rfl := Option.some.inj H
     go_wp2
     go_ret
     exact ⟨by first | rfl | (simp [errW_none, errW_some] <;> rfl) | (simp [*, errW_none, errW_some] <;> rfl), by repeat (first | (with_reducible first | exact HB.out | apply below_alloc | apply pw_below_drewN | apply below_drew1) | exact HB.out)⟩
    ·replace c26 := Bool.eq_false_iff.mpr c26
     subst c26
     have H1 : (if t744 = true then ((lampblacklaw03_list.f l1).bind fun t747 => (lampblacklaw03_SweepWider.l0 kj10 l0 t727 t743 (l1.length : Int) 0 t747 ([] : List Int))) else ((lampblacklaw03_awake.f kj10).bind fun t746 => (some t746))) = some r := by rw [if_neg (show ¬ (false = true) by decide)] at H; exact H
     clear H
     have H := H1
     clear H1
     by_cases c27 : t744 = true
     ·subst c27
      have H1 : ((lampblacklaw03_list.f l1).bind fun t747 => (lampblacklaw03_SweepWider.l0 kj10 l0 t727 t743 (l1.length : Int) 0 t747 ([] : List Int))) = some r := by rw [if_pos rfl] at H; exact H
      clear H
      have H := H1
      clear H1
      replace H := Option.bind_eq_some_iff.mp H
      obtain ⟨t747, A280, H⟩ := H
      replace H : (lampblacklaw03_SweepWider.l0 kj10 l0 t727 t743 (l1.length : Int) 0 t747 ([] : List Int)) = some r := H
      have A28 := Aside0.mk A280
      clear A280
      have H' := Aside0.mk H
      clear H
      go_wp2_with (first | ((with_reducible refine gate_callee (f := 27) rfl ?_); refine goesL_ (some 68) rfl rfl Tryd.func27 (by kernel_rfl) rfl #[.slice A1 l1.length c1] rfl (Qls) ?_; (with_reducible refine (lampblacklaw03_list.calls _ _ l1 t747 _ ?side1 ?side2 A28.out).mono ?_); (case side1 => exact Qsc (Kd.C_below HR1.out HB.out)); (case side2 => exact HC1.out); rintro e w29 ⟨v748, rfl, ho0, hb⟩; refine ⟨_, rfl, ?_⟩; have n0_ := Aside0.mk (Kd.R_lower ho0 (below_size (Qaw))); have n1_ := Aside0.mk (below_step (Qaw) hb); clear HB; have HO749 := n0_; have HB := n1_; clear n0_ n1_; (try clear hb); (try clear hb2); (try clear hk); (try clear hi); (try clear ho0); obtain ⟨Ao30, co30, eo30⟩ := Kd.R_slice HO749.out; subst eo30) | ((with_reducible refine gate_dst (N := 13) rfl ?_); (try (refine gate_guard (by rfl) ?_; dsimp only)); refine box_event ?hg (N := 13) ?hd (cs := #[.slice none 0 0, .slice none 0 0]) (t := 74) ?hr ?_; (case hd => rfl); (case hg => rfl); (case hr => first | (go_simp; done) | (go_simp; rfl)); intro gb750 hg w31 hbox hb; have n0_ := Aside0.mk (Kd.R_below (Qro HO749.out) hb); have n1_ := Aside0.mk (below_step (Qaw) hb); have n2_ := Aside0.mk (hbox); have n3_ := Aside0.mk ((by rw [hg]; exact (below_size (Qaw)) : w.heap.size ≤ gb750)); have n4_ := Aside0.mk ((by rw [hg]; exact (below_size (Qaw)) : w.heap.size ≤ gb750)); clear HO749; clear HB; have HO749 := n0_; have HB := n1_; have BK750 := n2_; have GW750 := n3_; have GE750 := n4_; clear n0_ n1_ n2_ n3_ n4_; clear hb hbox hg; have hcz32_0 : w31.cell? ⟨gb750, 0, none⟩ = some (.slice none 0 0) := (blk_cell BK750.out 0).trans rfl; have hcz32_1 : w31.cell? ⟨gb750, 1, none⟩ = some (.slice none 0 0) := (blk_cell BK750.out 1).trans rfl; have hfz32_0 := blk_frozen BK750.out 0; have hfz32_1 := blk_frozen BK750.out 1))
      go_loopg [72] kj10 (fun kq v72 w' => ∃ (x72_2 : Int) (x751001_2 : List Int) (u751001 : Value), v72 = .int .i64 x72_2 ∧ Aside0 (lampblacklaw03_SweepWider.l0 kq l0 t727 t743 (l1.length : Int) x72_2 t747 x751001_2 = some r) ∧ Aside0 (kq ≤ kj10) ∧ Aside0 (Kd.R (Kd.int .i64) 3 w' w.heap.size (fun k_ => some k_ ≠ (u751001 : Value).ownBlock) (.slice Ao30 t747.length co30) t747) ∧ Aside0 (Kd.R (Kd.int .i64) 3 w' w.heap.size (fun k_ => some k_ ≠ ((.slice Ao30 t747.length co30) : Value).ownBlock) u751001 x751001_2) ∧ Aside0 (w'.heap[gb750]? = some (.cells #[(.slice Ao30 t747.length co30), u751001] 74 (0, 0))) ∧ Aside0 (Below w.heap.size w w'))
      case atStart => exact ⟨(0), (([] : List Int)), (.slice none 0 0), (by first | rfl | (simp; done) | (simp [*]; done)), H', ⟨Nat.le_refl _⟩, ⟨by (with_reducible repeat (first | apply Kd.R_alloc | apply Kd.R_drewN | apply Kd.R_drew)); exact Kd.R_mono (Kd.R_far (p := ⟨gb750, 1, none⟩) (Kd.R_far (p := ⟨gb750, 0, none⟩) (Kd.R_types HO749.out BK750.out (by decide)) (fun _ hk => hk.2) (.slice Ao30 t747.length co30)) (fun _ hk => hk.2) (.slice none 0 0)) (fun _ hk => (by simp [Value.ownBlock]))⟩, ⟨by first | exact Kd.R_nil _ _ _ _ _ | exact Kd.N_nil _ _ _ _ _ | exact Kd.V_nil _ _ _ _ _ | exact Kd.Q_nil _ _ _ _ _ | exact Kd.S_nil _ _ _ _ _⟩, ⟨by (with_reducible repeat (first | refine blk_drewN ?_ _ | refine blk_drew ?_ | refine blk_alloc ?_ _)); refine blk_put (cs := #[.slice Ao30 t747.length co30, .slice none 0 0]) ?_ 1 _ rfl; (with_reducible repeat (first | refine blk_drewN ?_ _ | refine blk_drew ?_ | refine blk_alloc ?_ _)); refine blk_put (cs := #[.slice none 0 0, .slice none 0 0]) ?_ 0 _ rfl; (with_reducible repeat (first | refine blk_drewN ?_ _ | refine blk_drew ?_ | refine blk_alloc ?_ _)); exact BK750.out⟩, ⟨by repeat (first | (with_reducible first | exact HB.out | apply below_alloc | apply pw_below_drewN | apply below_drew1 | refine below_set ?_ GE750.out) | exact HB.out)⟩⟩
      case round =>
       clear H'
       try clear c1
       try clear c2
       try clear p2
       try clear c3
       try clear c4
       try clear c5
       try clear c5b0
       try clear c5b1
       try clear p6
       try clear c16
       try clear c18
       try clear c22
       try clear c23
       try clear c23b0
       try clear c23b1
       try clear c24
       try clear c24b0
       try clear c24b1
       try clear c25
       try clear c25b0
       try clear c26
       try clear c27
       try clear hcz32_0
       try clear hcz32_1
       try clear hfz32_0
       try clear hfz32_1
       try clear p2
       try clear p6
       obtain ⟨x72_2, x751001_2, u751001, rfl, HA, HK2, HO_751000, HO_751001, BK750, HB⟩ := hrel
       cases gk with
       | zero => exact absurd HA.out (by simp [lampblacklaw03_SweepWider.l0])
       | succ k2 =>
        have H := HA.out
        clear HA
        simp only [lampblacklaw03_SweepWider.l0] at H
        by_cases c33 : x72_2 < (l1.length : Int)
        ·rw [if_pos c33] at H
         have c33b0 : decide (x72_2 < (l1.length : Int)) = true := decide_eq_true c33
         clear c33
         by_cases c34 : x751001_2.length < 17592186044416
         ·rw [if_pos c34] at H
          have LMc34 := Aside0.mk c34
          clear c34
          obtain ⟨y751, hy751⟩ : ∃ y_ : List Int, y_ = (x751001_2 ++ [wrap64 (x72_2 - 1)]) := ⟨_, rfl⟩
          replace H : (lampblacklaw03_SweepWider.l0 k2 l0 t727 t743 (l1.length : Int) (wrap64 (x72_2 + 1)) t747 y751) = some r := by first | (rw [hy751]; with_reducible exact H) | (have H2_ := (Option.bind_some _ _).symm.trans H; rw [hy751]; with_reducible exact H2_) | (have H2_ := (Option.bind_some _ _).symm.trans H; with_reducible exact H2_) | with_reducible exact H | (rw [hy751]; exact H) | exact H
          have Ny751 := Aside0.mk hy751
          clear hy751
          have H' := Aside0.mk H
          clear H
          have hcz35_0 : wr.cell? ⟨gb750, 0, none⟩ = some (.slice Ao30 t747.length co30) := (blk_cell BK750.out 0).trans rfl
          have hcz35_1 : wr.cell? ⟨gb750, 1, none⟩ = some (u751001) := (blk_cell BK750.out 1).trans rfl
          have hfz35_0 := blk_frozen BK750.out 0
          have hfz35_1 := blk_frozen BK750.out 1
          go_wp2_with (first | ((with_reducible refine gate_builtin (b := .append) (xs := #[.tmp 76, .tmp 79]) rfl ?_); (try (refine gate_guard (by rfl) ?_; dsimp only)); at_builtin; refine Kd.R_append (Kd.int .i64) (w0 := w) w.heap.size rfl (.tmp 76) (.tmp 79) 22 3 (.int .i64 0) 8 rfl Tryd.underlying22 info3 rfl (by decide) (by omega) u751001 x751001_2 (wrap64 (x72_2 - 1)) [.int .i64 (wrap64 (x72_2 - 1))] (fun k_ => some k_ ≠ (.slice Ao30 t747.length co30 : Value).ownBlock) (fun _ => False) rfl rfl ?aP (fun _ hk => hk.elim) ?aF ?aO ?aB ?aS ?aL ?_; (case aP => exact rfl); (case aB => exact (by repeat (first | (with_reducible first | exact HB.out | apply below_alloc | apply pw_below_drewN | apply below_drew1 | refine below_set ?_ GE750.out) | exact HB.out))); (case aF => exact (fun k_ hk => Kd.fresh' (Kd.R_lt (Qro HO_751000.out)) k_ hk)); (case aO => exact (Qro HO_751001.out)); (case aS => exact (below_size (by repeat (first | (with_reducible first | exact HB.out | apply below_alloc | apply pw_below_drewN | apply below_drew1 | refine below_set ?_ GE750.out) | exact HB.out)))); (case aL => have := LMc34.out; omega); intro v752 w36 ho hb hg hat; rw [← Ny751.out] at ho; have n0_ := Aside0.mk (Kd.R_after (ok := (fun _ => True)) (by (with_reducible repeat (first | apply Kd.R_alloc | apply Kd.R_drewN | apply Kd.R_drew)); exact Kd.R_mono HO_751000.out (fun _ hk => ⟨trivial, hk⟩)) hg hat); have n1_ := Aside0.mk (blk_grown (g := gb750) (o := .cells #[.slice Ao30 t747.length co30, u751001] 74 (0, 0)) (by (with_reducible repeat (first | refine blk_drewN ?_ _ | refine blk_drew ?_ | refine blk_alloc ?_ _)); exact BK750.out) hg (Kd.R_ne HO_751001.out BK750.out (by decide))); have n2_ := Aside0.mk (hb); have n3_ := Aside0.mk (ho); clear HO_751000; clear BK750; clear HB; clear HO_751001; have HO_751000 := n0_; have BK750 := n1_; have HB := n2_; have HO753 := n3_; clear n0_ n1_ n2_ n3_; clear ho hb hg hat; obtain ⟨Ao37, co37, eo37⟩ := Kd.R_slice HO753.out; subst eo37; have hcz38_0 : w36.cell? ⟨gb750, 0, none⟩ = some (.slice Ao30 t747.length co30) := (blk_cell BK750.out 0).trans rfl; have hcz38_1 : w36.cell? ⟨gb750, 1, none⟩ = some (u751001) := (blk_cell BK750.out 1).trans rfl; have hfz38_0 := blk_frozen BK750.out 0; have hfz38_1 := blk_frozen BK750.out 1))
          go_roundg k2
          case measure => have := HJ10.out; have := HK2.out; omega
          case rel => exact ⟨(wrap64 (x72_2 + 1)), (y751), (.slice Ao37 y751.length co37), (by first | rfl | (simp; done) | (simp [*]; done)), H', ⟨by have := HJ10.out; have := HK2.out; omega⟩, ⟨by (with_reducible repeat (first | apply Kd.R_alloc | apply Kd.R_drewN | apply Kd.R_drew)); exact Kd.R_mono (Kd.R_far (p := ⟨gb750, 1, none⟩) (Kd.R_types HO_751000.out BK750.out (by decide)) (fun _ hk => hk.2) (.slice Ao37 y751.length co37)) (fun _ hk => hk.1.2)⟩, ⟨by (with_reducible repeat (first | apply Kd.R_alloc | apply Kd.R_drewN | apply Kd.R_drew)); exact Kd.R_mono (Kd.R_far (p := ⟨gb750, 1, none⟩) (Kd.R_types HO753.out BK750.out (by decide)) (fun _ hk => hk.2) (.slice Ao37 y751.length co37)) (fun _ hk => hk.1)⟩, ⟨by (with_reducible repeat (first | refine blk_drewN ?_ _ | refine blk_drew ?_ | refine blk_alloc ?_ _)); refine blk_put (cs := #[.slice Ao30 t747.length co30, u751001]) ?_ 1 _ rfl; (with_reducible repeat (first | refine blk_drewN ?_ _ | refine blk_drew ?_ | refine blk_alloc ?_ _)); exact BK750.out⟩, ⟨by repeat (first | (with_reducible first | exact HB.out | apply below_alloc | apply pw_below_drewN | apply below_drew1 | refine below_set ?_ GE750.out) | exact HB.out)⟩⟩
         ·rw [if_neg c34] at H
          exact absurd H (by simp)
        ·rw [if_neg c33] at H
         have c33b0 : decide (x72_2 < (l1.length : Int)) = false := decide_eq_false c33
         clear c33
         replace H := Option.bind_eq_some_iff.mp H
         obtain ⟨t754, A390, H⟩ := H
         replace H : ((width_Check.f k2 t754 t747 x751001_2).bind fun bt757 => (if bt757.2.1 = true then (if bt757.2.2 = 0 then (if t743 = bt757.1 then (if t743 ≥ t727 then ((lampblacklaw03_awake.f k2).bind fun t760 => (some t760)) else (some false)) else (some false)) else (some false)) else (some false))) = some r := H
         have A39 := Aside0.mk A390
         clear A390
         replace H := Option.bind_eq_some_iff.mp H
         obtain ⟨⟨t757, t758, t759⟩, A400, H⟩ := H
         replace H : (if t758 = true then (if t759 = 0 then (if t743 = t757 then (if t743 ≥ t727 then ((lampblacklaw03_awake.f k2).bind fun t760 => (some t760)) else (some false)) else (some false)) else (some false)) else (some false)) = some r := H
         have A40 := Aside0.mk A400
         clear A400
         by_cases c41 : t758 = true
         ·subst c41
          have H1 : (if t759 = 0 then (if t743 = t757 then (if t743 ≥ t727 then ((lampblacklaw03_awake.f k2).bind fun t760 => (some t760)) else (some false)) else (some false)) else (some false)) = some r := by rw [if_pos rfl] at H; exact H
          clear H
          have H := H1
          clear H1
          by_cases c42 : t759 = 0
          ·rw [if_pos c42] at H
           have c42b0 : (t759 == 0) = true := beq_iff_eq.mpr c42
           have c42b1 : (t759 != 0) = false := bne_eq_false_iff_eq.mpr c42
           clear c42
           by_cases c43 : t743 = t757
           ·rw [if_pos c43] at H
            have c43b0 : (t743 == t757) = true := beq_iff_eq.mpr c43
            have c43b1 : (t743 != t757) = false := bne_eq_false_iff_eq.mpr c43
            clear c43
            by_cases c44 : t743 ≥ t727
            ·rw [if_pos c44] at H
             have c44b0 : decide (t727 ≤ t743) = true := decide_eq_true c44
             clear c44
             replace H := Option.bind_eq_some_iff.mp H
             obtain ⟨t760, A450, H⟩ := H
             replace H : (some t760) = some r := H
             have A45 := Aside0.mk A450
             clear A450
             obtain rfl := Option.some.inj H
             try go_wp2
             have n0_ := Aside0.mk (Kd.R_drew HO_751000.out)
             have n1_ := Aside0.mk (Kd.R_drew HO_751001.out)
             have n2_ := Aside0.mk (blk_drew BK750.out)
             have n3_ := Aside0.mk (below_drew1 HB.out)
             clear HO_751000
             clear HO_751001
             clear BK750
             clear HB
             have HO_751000 := n0_
             have HO_751001 := n1_
             have BK750 := n2_
             have HB := n3_
             clear n0_ n1_ n2_ n3_
             refine start_ (n := 11) (S := fun w' => w'.cell? ⟨gb750, 0, none⟩ = some (.slice Ao30 t747.length co30) ∧ w'.cell? ⟨gb750, 1, none⟩ = some (u751001)) (ds := []) (Qbz 11 0) (by kernel_rfl) rfl rfl ⟨(blk_cell BK750.out 0).trans rfl, (blk_cell BK750.out 1).trans rfl⟩ (fun hHeld => ?_); refine with_tabW lampblacklaw03_SweepWider.tab16 lampblacklaw03_SweepWider.bits16 (fun HT_ HW_ => ?_)
             generalize wr.drew = w46 at HO_751000 HO_751001 BK750 HB hHeld ⊢
             refine pure_ (i := 0) (N := some 84) (v := ?_) (a' := ?_) (Qbz 11 1) rfl rfl (any_of HT_.out (by kernel_rfl)) (fun _ _ _ h => h) (Or.inl ⟨by rfl, ?_⟩) ?_ ?_
             rotate_left
             ·intro w'
              go_simp
              with_reducible rfl
             rotate_left
             ·simp only [Act.put, Qp1, Qp2, Qp3, i64_w, i32_w]
              rfl
             refine take_ (i := 2) (N := some 86) (v := ?_) (a' := ?_) (Qbz 11 5) rfl rfl (take_ofW HT_.out HW_.out (by kernel_rfl)) (fun _ _ _ h => h) (Or.inl ⟨by rfl, ?_⟩) hHeld ?_ ?_
             rotate_left
             ·rintro w' ⟨s0, s1⟩
              go_simp
              with_reducible rfl
             rotate_left
             ·simp only [Act.put, Qp1, Qp2, Qp3, i64_w, i32_w]
              rfl
             refine one_ (i := 1) (N := some 85) (Qbz 11 7) rfl rfl (one_of HT_.out (by kernel_rfl)) (by decide) (fun K hK => ?_)
             refine goes_ Tryd.func18 (by kernel_rfl) rfl #[.slice A0 l0.length c0] (by rfl) rfl rfl (Qls) ?_
             with_reducible refine (lampblacklaw03_Few.calls _ _ l0 t754 _ ?side1 ?side2 A39.out).mono ?_
             (case side1 => exact Qsc (Kd.C_below HR0.out HB.out))
             (case side2 => exact HC0.out)
             rintro e w47 ⟨v755, rfl, ho0, hb⟩
             refine ⟨_, rfl, ?_⟩
             have n0_ := Aside0.mk (Kd.R_elder' (Qro HO_751000.out) (Kd.R_base ho0) hb)
             have n1_ := Aside0.mk (Kd.R_elder' (Qro HO_751001.out) (Kd.R_base ho0) hb)
             have n2_ := Aside0.mk (Kd.R_lower (Kd.R_new' (Kd.R_new' ho0 (Kd.R_lt (Qro HO_751000.out))) (Kd.R_lt (Qro HO_751001.out))) (below_size (by repeat (first | (with_reducible first | exact HB.out | apply below_alloc | apply pw_below_drewN | apply below_drew1 | refine below_set ?_ GE750.out) | exact HB.out))))
             have n3_ := Aside0.mk (blk_below (g := gb750) (o := .cells #[.slice Ao30 t747.length co30, u751001] 74 (0, 0)) (by (with_reducible repeat (first | refine blk_drewN ?_ _ | refine blk_drew ?_ | refine blk_alloc ?_ _)); exact BK750.out) hb)
             have n4_ := Aside0.mk (below_step (by repeat (first | (with_reducible first | exact HB.out | apply below_alloc | apply pw_below_drewN | apply below_drew1 | refine below_set ?_ GE750.out) | exact HB.out)) hb)
             clear HO_751000
             clear HO_751001
             clear BK750
             clear HB
             have HO_751000 := n0_
             have HO_751001 := n1_
             have HO756 := n2_
             have BK750 := n3_
             have HB := n4_
             clear n0_ n1_ n2_ n3_ n4_
             (try clear hb)
             (try clear hb2)
             (try clear hk)
             (try clear hi)
             (try clear ho0)
             obtain ⟨Ao48, co48, eo48⟩ := Kd.R_slice HO756.out
             (first | subst eo48 | (injection eo48 with f1_ f2_ f3_; have f4_ := f1_.symm; have f5_ := f3_.symm; clear f1_ f2_ f3_; subst f4_; subst f5_))
             obtain ⟨Ao49, co49, eo49⟩ := Kd.R_slice HO_751001.out
             (first | subst eo49 | (injection eo49 with f1_ f2_ f3_; have f4_ := f1_.symm; have f5_ := f3_.symm; clear f1_ f2_ f3_; subst f4_; subst f5_))
             refine hK.out _ _ ⟨(blk_cell BK750.out 0).trans rfl, (blk_cell BK750.out 1).trans rfl⟩ (fun hHeld => ?_)
             clear hK K
             refine norm_ (a' := ?_) ?_ ?_
             rotate_left
             ·show Act.put _ (some 85) _ = _
              simp only [Act.put, Qp1, Qp2, Qp3, i64_w, i32_w]
              rfl
             refine one_ (i := 3) (N := some 87) (Qbz 11 15) rfl rfl (one_of HT_.out (by kernel_rfl)) (by decide) (fun K hK => ?_)
             refine goes_ Tryd.func46 (by kernel_rfl) rfl #[.slice Ao48 t754.length co48, .agg #[.slice Ao30 t747.length co30, .slice Ao49 x751001_2.length co49]] (by rfl) rfl rfl (Qls) ?_
             with_reducible refine (width_Check.calls (hGL := (Qlg)) k2 _ _ t754 _ _ t747 _ _ x751001_2 t757 true t759 _ ?side1 ?side2 ?side3 ?side4 ?side5 ?side6 A40.out).mono ?_
             (case side1 => exact Qsc (Kd.R_reads' HO756.out).2.2)
             (case side2 => exact (Kd.R_reads' HO756.out).2.1)
             (case side3 => exact Qsc (Kd.R_reads' HO_751000.out).2.2)
             (case side4 => exact (Kd.R_reads' HO_751000.out).2.1)
             (case side5 => exact Qsc (Kd.R_reads' HO_751001.out).2.2)
             (case side6 => exact (Kd.R_reads' HO_751001.out).2.1)
             rintro e w50 ⟨rfl, hb⟩
             refine ⟨_, rfl, ?_⟩
             have n0_ := Aside0.mk (Kd.R_below (Qro HO_751000.out) hb)
             have n1_ := Aside0.mk (Kd.R_below (Qro HO_751001.out) hb)
             have n2_ := Aside0.mk (Kd.R_below (Qro HO756.out) hb)
             have n3_ := Aside0.mk (blk_below (g := gb750) (o := .cells #[.slice Ao30 t747.length co30, .slice Ao49 x751001_2.length co49] 74 (0, 0)) (by (with_reducible repeat (first | refine blk_drewN ?_ _ | refine blk_drew ?_ | refine blk_alloc ?_ _)); exact BK750.out) hb)
             have n4_ := Aside0.mk (below_step (by repeat (first | (with_reducible first | exact HB.out | apply below_alloc | apply pw_below_drewN | apply below_drew1 | refine below_set ?_ GE750.out) | exact HB.out)) hb)
             clear HO_751000
             clear HO_751001
             clear HO756
             clear BK750
             clear HB
             have HO_751000 := n0_
             have HO_751001 := n1_
             have HO756 := n2_
             have BK750 := n3_
             have HB := n4_
             clear n0_ n1_ n2_ n3_ n4_
             (try clear hb)
             (try clear hb2)
             (try clear hk)
             (try clear hi)
             refine hK.out _ _ ⟨(blk_cell BK750.out 0).trans rfl, (blk_cell BK750.out 1).trans rfl⟩ (fun hHeld => ?_)
             clear hK K
             refine norm_ (a' := ?_) ?_ ?_
             rotate_left
             ·show Act.put _ (some 87) _ = _
              simp only [Act.put, Qp1, Qp2, Qp3, i64_w, i32_w]
              rfl
             refine pure_ (i := 4) (N := some 83) (v := ?_) (a' := ?_) (Qbz 11 31) rfl rfl (any_of HT_.out (by kernel_rfl)) (fun _ _ _ h => h) (Or.inl ⟨by rfl, ?_⟩) ?_ ?_
             rotate_left
             ·intro w'
              go_simp
              with_reducible rfl
             rotate_left
             ·simp only [Act.put, Qp1, Qp2, Qp3, i64_w, i32_w]
              rfl
             refine pure_ (i := 5) (N := some 88) (v := ?_) (a' := ?_) (Qbz 11 63) rfl rfl (any_of HT_.out (by kernel_rfl)) (fun _ _ _ h => h) (Or.inl ⟨by rfl, ?_⟩) ?_ ?_
             rotate_left
             ·intro w'
              go_simp
              with_reducible rfl
             rotate_left
             ·simp only [Act.put, Qp1, Qp2, Qp3, i64_w, i32_w]
              rfl
             refine pure_ (i := 6) (N := some 89) (v := ?_) (a' := ?_) (Qbz 11 127) rfl rfl (any_of HT_.out (by kernel_rfl)) (fun _ _ _ h => h) (Or.inl ⟨by rfl, ?_⟩) ?_ ?_
             rotate_left
             ·intro w'
              go_simp
              with_reducible rfl
             rotate_left
             ·simp only [Act.put, Qp1, Qp2, Qp3, i64_w, i32_w]
              rfl
             refine pure_ (i := 7) (N := some 90) (v := ?_) (a' := ?_) (Qbz 11 255) rfl rfl (any_of HT_.out (by kernel_rfl)) (fun _ _ _ h => h) (Or.inl ⟨by rfl, ?_⟩) ?_ ?_
             rotate_left
             ·intro w'
              go_simp
              with_reducible rfl
             rotate_left
             ·simp only [Act.put, Qp1, Qp2, Qp3, i64_w, i32_w]
              rfl
             refine pure_ (i := 8) (N := some 15) (v := ?_) (a' := ?_) (Qbz 11 511) rfl rfl (any_of HT_.out (by kernel_rfl)) (fun _ _ _ h => h) (Or.inl ⟨by rfl, ?_⟩) ?_ ?_
             rotate_left
             ·intro w'
              go_simp
              with_reducible rfl
             rotate_left
             ·simp only [Act.put, Qp1, Qp2, Qp3, i64_w, i32_w]
              rfl
             refine pure_ (i := 9) (N := some 16) (v := ?_) (a' := ?_) (Qbz 11 1023) rfl rfl (any_of HT_.out (by kernel_rfl)) (fun _ _ _ h => h) (Or.inl ⟨by rfl, ?_⟩) ?_ ?_
             rotate_left
             ·intro w'
              go_simp
              with_reducible rfl
             rotate_left
             ·simp only [Act.put, Qp1, Qp2, Qp3, i64_w, i32_w]
              rfl
             refine pure_ (i := 10) (N := some 12) (v := ?_) (a' := ?_) (Qbz 11 2047) rfl rfl (any_of HT_.out (by kernel_rfl)) (fun _ _ _ h => h) (Or.inl ⟨by rfl, ?_⟩) ?_ ?_
             rotate_left
             ·intro w'
              go_simp
              with_reducible rfl
             rotate_left
             ·simp only [Act.put, Qp1, Qp2, Qp3, i64_w, i32_w]
              rfl
             refine done_ (done_of HT_.out (by kernel_rfl)) ?_
             try go_wp2_with (first | (go_at_call 20; (with_reducible refine (lampblacklaw03_awake.calls (hGL := (Qlg)) k2  t760 _ A45.out).mono ?_); rintro e w51 ⟨rfl, hb⟩; have n0_ := Aside0.mk (Kd.R_below (Qro HO_751000.out) hb); have n1_ := Aside0.mk (Kd.R_below (Qro HO_751001.out) hb); have n2_ := Aside0.mk (Kd.R_below (Qro HO756.out) hb); have n3_ := Aside0.mk (blk_below (g := gb750) (o := .cells #[.slice Ao30 t747.length co30, .slice Ao49 x751001_2.length co49] 74 (0, 0)) (by (with_reducible repeat (first | refine blk_drewN ?_ _ | refine blk_drew ?_ | refine blk_alloc ?_ _)); exact BK750.out) hb); have n4_ := Aside0.mk (below_step (by repeat (first | (with_reducible first | exact HB.out | apply below_alloc | apply pw_below_drewN | apply below_drew1 | refine below_set ?_ GE750.out) | exact HB.out)) hb); clear HO_751000; clear HO_751001; clear HO756; clear BK750; clear HB; have HO_751000 := n0_; have HO_751001 := n1_; have HO756 := n2_; have BK750 := n3_; have HB := n4_; clear n0_ n1_ n2_ n3_ n4_; (try clear hb); (try clear hb2); (try clear hk); (try clear hi)))
             go_ret
             exact ⟨by first | rfl | (simp [errW_none, errW_some] <;> rfl) | (simp [*, errW_none, errW_some] <;> rfl), by repeat (first | (with_reducible first | exact HB.out | apply below_alloc | apply pw_below_drewN | apply below_drew1 | refine below_set ?_ GE750.out) | exact HB.out)⟩
            ·rw [if_neg c44] at H
             have c44b0 : decide (t727 ≤ t743) = false := decide_eq_false c44
             clear c44
             obtain rfl := Option.some.inj H
             try go_wp2
             have n0_ := Aside0.mk (Kd.R_drew HO_751000.out)
             have n1_ := Aside0.mk (Kd.R_drew HO_751001.out)
             have n2_ := Aside0.mk (blk_drew BK750.out)
             have n3_ := Aside0.mk (below_drew1 HB.out)
             clear HO_751000
             clear HO_751001
             clear BK750
             clear HB
             have HO_751000 := n0_
             have HO_751001 := n1_
             have BK750 := n2_
             have HB := n3_
             clear n0_ n1_ n2_ n3_
             refine start_ (n := 11) (S := fun w' => w'.cell? ⟨gb750, 0, none⟩ = some (.slice Ao30 t747.length co30) ∧ w'.cell? ⟨gb750, 1, none⟩ = some (u751001)) (ds := []) (Qbz 11 0) (by kernel_rfl) rfl rfl ⟨(blk_cell BK750.out 0).trans rfl, (blk_cell BK750.out 1).trans rfl⟩ (fun hHeld => ?_); refine with_tabW lampblacklaw03_SweepWider.tab16 lampblacklaw03_SweepWider.bits16 (fun HT_ HW_ => ?_)
             generalize wr.drew = w52 at HO_751000 HO_751001 BK750 HB hHeld ⊢
             refine pure_ (i := 0) (N := some 84) (v := ?_) (a' := ?_) (Qbz 11 1) rfl rfl (any_of HT_.out (by kernel_rfl)) (fun _ _ _ h => h) (Or.inl ⟨by rfl, ?_⟩) ?_ ?_
             rotate_left
             ·intro w'
              go_simp
              with_reducible rfl
             rotate_left
             ·simp only [Act.put, Qp1, Qp2, Qp3, i64_w, i32_w]
              rfl
             refine take_ (i := 2) (N := some 86) (v := ?_) (a' := ?_) (Qbz 11 5) rfl rfl (take_ofW HT_.out HW_.out (by kernel_rfl)) (fun _ _ _ h => h) (Or.inl ⟨by rfl, ?_⟩) hHeld ?_ ?_
             rotate_left
             ·rintro w' ⟨s0, s1⟩
              go_simp
              with_reducible rfl
             rotate_left
             ·simp only [Act.put, Qp1, Qp2, Qp3, i64_w, i32_w]
              rfl
             refine one_ (i := 1) (N := some 85) (Qbz 11 7) rfl rfl (one_of HT_.out (by kernel_rfl)) (by decide) (fun K hK => ?_)
             refine goes_ Tryd.func18 (by kernel_rfl) rfl #[.slice A0 l0.length c0] (by rfl) rfl rfl (Qls) ?_
             with_reducible refine (lampblacklaw03_Few.calls _ _ l0 t754 _ ?side1 ?side2 A39.out).mono ?_
             (case side1 => exact Qsc (Kd.C_below HR0.out HB.out))
             (case side2 => exact HC0.out)
             rintro e w53 ⟨v755, rfl, ho0, hb⟩
             refine ⟨_, rfl, ?_⟩
             have n0_ := Aside0.mk (Kd.R_elder' (Qro HO_751000.out) (Kd.R_base ho0) hb)
             have n1_ := Aside0.mk (Kd.R_elder' (Qro HO_751001.out) (Kd.R_base ho0) hb)
             have n2_ := Aside0.mk (Kd.R_lower (Kd.R_new' (Kd.R_new' ho0 (Kd.R_lt (Qro HO_751000.out))) (Kd.R_lt (Qro HO_751001.out))) (below_size (by repeat (first | (with_reducible first | exact HB.out | apply below_alloc | apply pw_below_drewN | apply below_drew1 | refine below_set ?_ GE750.out) | exact HB.out))))
             have n3_ := Aside0.mk (blk_below (g := gb750) (o := .cells #[.slice Ao30 t747.length co30, u751001] 74 (0, 0)) (by (with_reducible repeat (first | refine blk_drewN ?_ _ | refine blk_drew ?_ | refine blk_alloc ?_ _)); exact BK750.out) hb)
             have n4_ := Aside0.mk (below_step (by repeat (first | (with_reducible first | exact HB.out | apply below_alloc | apply pw_below_drewN | apply below_drew1 | refine below_set ?_ GE750.out) | exact HB.out)) hb)
             clear HO_751000
             clear HO_751001
             clear BK750
             clear HB
             have HO_751000 := n0_
             have HO_751001 := n1_
             have HO756 := n2_
             have BK750 := n3_
             have HB := n4_
             clear n0_ n1_ n2_ n3_ n4_
             (try clear hb)
             (try clear hb2)
             (try clear hk)
             (try clear hi)
             (try clear ho0)
             obtain ⟨Ao54, co54, eo54⟩ := Kd.R_slice HO756.out
             (first | subst eo54 | (injection eo54 with f1_ f2_ f3_; have f4_ := f1_.symm; have f5_ := f3_.symm; clear f1_ f2_ f3_; subst f4_; subst f5_))
             obtain ⟨Ao55, co55, eo55⟩ := Kd.R_slice HO_751001.out
             (first | subst eo55 | (injection eo55 with f1_ f2_ f3_; have f4_ := f1_.symm; have f5_ := f3_.symm; clear f1_ f2_ f3_; subst f4_; subst f5_))
             refine hK.out _ _ ⟨(blk_cell BK750.out 0).trans rfl, (blk_cell BK750.out 1).trans rfl⟩ (fun hHeld => ?_)
             clear hK K
             refine norm_ (a' := ?_) ?_ ?_
             rotate_left
             ·show Act.put _ (some 85) _ = _
              simp only [Act.put, Qp1, Qp2, Qp3, i64_w, i32_w]
              rfl
             refine one_ (i := 3) (N := some 87) (Qbz 11 15) rfl rfl (one_of HT_.out (by kernel_rfl)) (by decide) (fun K hK => ?_)
             refine goes_ Tryd.func46 (by kernel_rfl) rfl #[.slice Ao54 t754.length co54, .agg #[.slice Ao30 t747.length co30, .slice Ao55 x751001_2.length co55]] (by rfl) rfl rfl (Qls) ?_
             with_reducible refine (width_Check.calls (hGL := (Qlg)) k2 _ _ t754 _ _ t747 _ _ x751001_2 t757 true t759 _ ?side1 ?side2 ?side3 ?side4 ?side5 ?side6 A40.out).mono ?_
             (case side1 => exact Qsc (Kd.R_reads' HO756.out).2.2)
             (case side2 => exact (Kd.R_reads' HO756.out).2.1)
             (case side3 => exact Qsc (Kd.R_reads' HO_751000.out).2.2)
             (case side4 => exact (Kd.R_reads' HO_751000.out).2.1)
             (case side5 => exact Qsc (Kd.R_reads' HO_751001.out).2.2)
             (case side6 => exact (Kd.R_reads' HO_751001.out).2.1)
             rintro e w56 ⟨rfl, hb⟩
             refine ⟨_, rfl, ?_⟩
             have n0_ := Aside0.mk (Kd.R_below (Qro HO_751000.out) hb)
             have n1_ := Aside0.mk (Kd.R_below (Qro HO_751001.out) hb)
             have n2_ := Aside0.mk (Kd.R_below (Qro HO756.out) hb)
             have n3_ := Aside0.mk (blk_below (g := gb750) (o := .cells #[.slice Ao30 t747.length co30, .slice Ao55 x751001_2.length co55] 74 (0, 0)) (by (with_reducible repeat (first | refine blk_drewN ?_ _ | refine blk_drew ?_ | refine blk_alloc ?_ _)); exact BK750.out) hb)
             have n4_ := Aside0.mk (below_step (by repeat (first | (with_reducible first | exact HB.out | apply below_alloc | apply pw_below_drewN | apply below_drew1 | refine below_set ?_ GE750.out) | exact HB.out)) hb)
             clear HO_751000
             clear HO_751001
             clear HO756
             clear BK750
             clear HB
             have HO_751000 := n0_
             have HO_751001 := n1_
             have HO756 := n2_
             have BK750 := n3_
             have HB := n4_
             clear n0_ n1_ n2_ n3_ n4_
             (try clear hb)
             (try clear hb2)
             (try clear hk)
             (try clear hi)
             refine hK.out _ _ ⟨(blk_cell BK750.out 0).trans rfl, (blk_cell BK750.out 1).trans rfl⟩ (fun hHeld => ?_)
             clear hK K
             refine norm_ (a' := ?_) ?_ ?_
             rotate_left
             ·show Act.put _ (some 87) _ = _
              simp only [Act.put, Qp1, Qp2, Qp3, i64_w, i32_w]
              rfl
             refine pure_ (i := 4) (N := some 83) (v := ?_) (a' := ?_) (Qbz 11 31) rfl rfl (any_of HT_.out (by kernel_rfl)) (fun _ _ _ h => h) (Or.inl ⟨by rfl, ?_⟩) ?_ ?_
             rotate_left
             ·intro w'
              go_simp
              with_reducible rfl
             rotate_left
             ·simp only [Act.put, Qp1, Qp2, Qp3, i64_w, i32_w]
              rfl
             refine pure_ (i := 5) (N := some 88) (v := ?_) (a' := ?_) (Qbz 11 63) rfl rfl (any_of HT_.out (by kernel_rfl)) (fun _ _ _ h => h) (Or.inl ⟨by rfl, ?_⟩) ?_ ?_
             rotate_left
             ·intro w'
              go_simp
              with_reducible rfl
             rotate_left
             ·simp only [Act.put, Qp1, Qp2, Qp3, i64_w, i32_w]
              rfl
             refine pure_ (i := 6) (N := some 89) (v := ?_) (a' := ?_) (Qbz 11 127) rfl rfl (any_of HT_.out (by kernel_rfl)) (fun _ _ _ h => h) (Or.inl ⟨by rfl, ?_⟩) ?_ ?_
             rotate_left
             ·intro w'
              go_simp
              with_reducible rfl
             rotate_left
             ·simp only [Act.put, Qp1, Qp2, Qp3, i64_w, i32_w]
              rfl
             refine pure_ (i := 7) (N := some 90) (v := ?_) (a' := ?_) (Qbz 11 255) rfl rfl (any_of HT_.out (by kernel_rfl)) (fun _ _ _ h => h) (Or.inl ⟨by rfl, ?_⟩) ?_ ?_
             rotate_left
             ·intro w'
              go_simp
              with_reducible rfl
             rotate_left
             ·simp only [Act.put, Qp1, Qp2, Qp3, i64_w, i32_w]
              rfl
             refine pure_ (i := 8) (N := some 15) (v := ?_) (a' := ?_) (Qbz 11 511) rfl rfl (any_of HT_.out (by kernel_rfl)) (fun _ _ _ h => h) (Or.inl ⟨by rfl, ?_⟩) ?_ ?_
             rotate_left
             ·intro w'
              go_simp
              with_reducible rfl
             rotate_left
             ·simp only [Act.put, Qp1, Qp2, Qp3, i64_w, i32_w]
              rfl
             refine pure_ (i := 9) (N := some 16) (v := ?_) (a' := ?_) (Qbz 11 1023) rfl rfl (any_of HT_.out (by kernel_rfl)) (fun _ _ _ h => h) (Or.inl ⟨by rfl, ?_⟩) ?_ ?_
             rotate_left
             ·intro w'
              go_simp
              with_reducible rfl
             rotate_left
             ·simp only [Act.put, Qp1, Qp2, Qp3, i64_w, i32_w]
              rfl
             refine pure_ (i := 10) (N := some 12) (v := ?_) (a' := ?_) (Qbz 11 2047) rfl rfl (any_of HT_.out (by kernel_rfl)) (fun _ _ _ h => h) (Or.inl ⟨by rfl, ?_⟩) ?_ ?_
             rotate_left
             ·intro w'
              go_simp
              with_reducible rfl
             rotate_left
             ·simp only [Act.put, Qp1, Qp2, Qp3, i64_w, i32_w]
              rfl
             refine done_ (done_of HT_.out (by kernel_rfl)) ?_
             try go_wp2
             go_ret
             exact ⟨by first | rfl | (simp [errW_none, errW_some] <;> rfl) | (simp [*, errW_none, errW_some] <;> rfl), by repeat (first | (with_reducible first | exact HB.out | apply below_alloc | apply pw_below_drewN | apply below_drew1 | refine below_set ?_ GE750.out) | exact HB.out)⟩
           ·rw [if_neg c43] at H
            have c43b0 : (t743 == t757) = false := beq_eq_false_iff_ne.mpr c43
            have c43b1 : (t743 != t757) = true := bne_iff_ne.mpr c43
            obtain rfl := Option.some.inj H
            try go_wp2
            have n0_ := Aside0.mk (Kd.R_drew HO_751000.out)
            have n1_ := Aside0.mk (Kd.R_drew HO_751001.out)
            have n2_ := Aside0.mk (blk_drew BK750.out)
            have n3_ := Aside0.mk (below_drew1 HB.out)
            clear HO_751000
            clear HO_751001
            clear BK750
            clear HB
            have HO_751000 := n0_
            have HO_751001 := n1_
            have BK750 := n2_
            have HB := n3_
            clear n0_ n1_ n2_ n3_
            refine start_ (n := 11) (S := fun w' => w'.cell? ⟨gb750, 0, none⟩ = some (.slice Ao30 t747.length co30) ∧ w'.cell? ⟨gb750, 1, none⟩ = some (u751001)) (ds := []) (Qbz 11 0) (by kernel_rfl) rfl rfl ⟨(blk_cell BK750.out 0).trans rfl, (blk_cell BK750.out 1).trans rfl⟩ (fun hHeld => ?_); refine with_tabW lampblacklaw03_SweepWider.tab16 lampblacklaw03_SweepWider.bits16 (fun HT_ HW_ => ?_)
            generalize wr.drew = w57 at HO_751000 HO_751001 BK750 HB hHeld ⊢
            refine pure_ (i := 0) (N := some 84) (v := ?_) (a' := ?_) (Qbz 11 1) rfl rfl (any_of HT_.out (by kernel_rfl)) (fun _ _ _ h => h) (Or.inl ⟨by rfl, ?_⟩) ?_ ?_
            rotate_left
            ·intro w'
             go_simp
             with_reducible rfl
            rotate_left
            ·simp only [Act.put, Qp1, Qp2, Qp3, i64_w, i32_w]
             rfl
            refine take_ (i := 2) (N := some 86) (v := ?_) (a' := ?_) (Qbz 11 5) rfl rfl (take_ofW HT_.out HW_.out (by kernel_rfl)) (fun _ _ _ h => h) (Or.inl ⟨by rfl, ?_⟩) hHeld ?_ ?_
            rotate_left
            ·rintro w' ⟨s0, s1⟩
             go_simp
             with_reducible rfl
            rotate_left
            ·simp only [Act.put, Qp1, Qp2, Qp3, i64_w, i32_w]
             rfl
            refine one_ (i := 1) (N := some 85) (Qbz 11 7) rfl rfl (one_of HT_.out (by kernel_rfl)) (by decide) (fun K hK => ?_)
            refine goes_ Tryd.func18 (by kernel_rfl) rfl #[.slice A0 l0.length c0] (by rfl) rfl rfl (Qls) ?_
            with_reducible refine (lampblacklaw03_Few.calls _ _ l0 t754 _ ?side1 ?side2 A39.out).mono ?_
            (case side1 => exact Qsc (Kd.C_below HR0.out HB.out))
            (case side2 => exact HC0.out)
            rintro e w58 ⟨v755, rfl, ho0, hb⟩
            refine ⟨_, rfl, ?_⟩
            have n0_ := Aside0.mk (Kd.R_elder' (Qro HO_751000.out) (Kd.R_base ho0) hb)
            have n1_ := Aside0.mk (Kd.R_elder' (Qro HO_751001.out) (Kd.R_base ho0) hb)
            have n2_ := Aside0.mk (Kd.R_lower (Kd.R_new' (Kd.R_new' ho0 (Kd.R_lt (Qro HO_751000.out))) (Kd.R_lt (Qro HO_751001.out))) (below_size (by repeat (first | (with_reducible first | exact HB.out | apply below_alloc | apply pw_below_drewN | apply below_drew1 | refine below_set ?_ GE750.out) | exact HB.out))))
            have n3_ := Aside0.mk (blk_below (g := gb750) (o := .cells #[.slice Ao30 t747.length co30, u751001] 74 (0, 0)) (by (with_reducible repeat (first | refine blk_drewN ?_ _ | refine blk_drew ?_ | refine blk_alloc ?_ _)); exact BK750.out) hb)
            have n4_ := Aside0.mk (below_step (by repeat (first | (with_reducible first | exact HB.out | apply below_alloc | apply pw_below_drewN | apply below_drew1 | refine below_set ?_ GE750.out) | exact HB.out)) hb)
            clear HO_751000
            clear HO_751001
            clear BK750
            clear HB
            have HO_751000 := n0_
            have HO_751001 := n1_
            have HO756 := n2_
            have BK750 := n3_
            have HB := n4_
            clear n0_ n1_ n2_ n3_ n4_
            (try clear hb)
            (try clear hb2)
            (try clear hk)
            (try clear hi)
            (try clear ho0)
            obtain ⟨Ao59, co59, eo59⟩ := Kd.R_slice HO756.out
            (first | subst eo59 | (injection eo59 with f1_ f2_ f3_; have f4_ := f1_.symm; have f5_ := f3_.symm; clear f1_ f2_ f3_; subst f4_; subst f5_))
            obtain ⟨Ao60, co60, eo60⟩ := Kd.R_slice HO_751001.out
            (first | subst eo60 | (injection eo60 with f1_ f2_ f3_; have f4_ := f1_.symm; have f5_ := f3_.symm; clear f1_ f2_ f3_; subst f4_; subst f5_))
            refine hK.out _ _ ⟨(blk_cell BK750.out 0).trans rfl, (blk_cell BK750.out 1).trans rfl⟩ (fun hHeld => ?_)
            clear hK K
            refine norm_ (a' := ?_) ?_ ?_
            rotate_left
            ·show Act.put _ (some 85) _ = _
             simp only [Act.put, Qp1, Qp2, Qp3, i64_w, i32_w]
             rfl
            refine one_ (i := 3) (N := some 87) (Qbz 11 15) rfl rfl (one_of HT_.out (by kernel_rfl)) (by decide) (fun K hK => ?_)
            refine goes_ Tryd.func46 (by kernel_rfl) rfl #[.slice Ao59 t754.length co59, .agg #[.slice Ao30 t747.length co30, .slice Ao60 x751001_2.length co60]] (by rfl) rfl rfl (Qls) ?_
            with_reducible refine (width_Check.calls (hGL := (Qlg)) k2 _ _ t754 _ _ t747 _ _ x751001_2 t757 true t759 _ ?side1 ?side2 ?side3 ?side4 ?side5 ?side6 A40.out).mono ?_
            (case side1 => exact Qsc (Kd.R_reads' HO756.out).2.2)
            (case side2 => exact (Kd.R_reads' HO756.out).2.1)
            (case side3 => exact Qsc (Kd.R_reads' HO_751000.out).2.2)
            (case side4 => exact (Kd.R_reads' HO_751000.out).2.1)
            (case side5 => exact Qsc (Kd.R_reads' HO_751001.out).2.2)
            (case side6 => exact (Kd.R_reads' HO_751001.out).2.1)
            rintro e w61 ⟨rfl, hb⟩
            refine ⟨_, rfl, ?_⟩
            have n0_ := Aside0.mk (Kd.R_below (Qro HO_751000.out) hb)
            have n1_ := Aside0.mk (Kd.R_below (Qro HO_751001.out) hb)
            have n2_ := Aside0.mk (Kd.R_below (Qro HO756.out) hb)
            have n3_ := Aside0.mk (blk_below (g := gb750) (o := .cells #[.slice Ao30 t747.length co30, .slice Ao60 x751001_2.length co60] 74 (0, 0)) (by (with_reducible repeat (first | refine blk_drewN ?_ _ | refine blk_drew ?_ | refine blk_alloc ?_ _)); exact BK750.out) hb)
            have n4_ := Aside0.mk (below_step (by repeat (first | (with_reducible first | exact HB.out | apply below_alloc | apply pw_below_drewN | apply below_drew1 | refine below_set ?_ GE750.out) | exact HB.out)) hb)
            clear HO_751000
            clear HO_751001
            clear HO756
            clear BK750
            clear HB
            have HO_751000 := n0_
            have HO_751001 := n1_
            have HO756 := n2_
            have BK750 := n3_
            have HB := n4_
            clear n0_ n1_ n2_ n3_ n4_
            (try clear hb)
            (try clear hb2)
            (try clear hk)
            (try clear hi)
            refine hK.out _ _ ⟨(blk_cell BK750.out 0).trans rfl, (blk_cell BK750.out 1).trans rfl⟩ (fun hHeld => ?_)
            clear hK K
            refine norm_ (a' := ?_) ?_ ?_
            rotate_left
            ·show Act.put _ (some 87) _ = _
             simp only [Act.put, Qp1, Qp2, Qp3, i64_w, i32_w]
             rfl
            refine pure_ (i := 4) (N := some 83) (v := ?_) (a' := ?_) (Qbz 11 31) rfl rfl (any_of HT_.out (by kernel_rfl)) (fun _ _ _ h => h) (Or.inl ⟨by rfl, ?_⟩) ?_ ?_
            rotate_left
            ·intro w'
             go_simp
             with_reducible rfl
            rotate_left
            ·simp only [Act.put, Qp1, Qp2, Qp3, i64_w, i32_w]
             rfl
            refine pure_ (i := 5) (N := some 88) (v := ?_) (a' := ?_) (Qbz 11 63) rfl rfl (any_of HT_.out (by kernel_rfl)) (fun _ _ _ h => h) (Or.inl ⟨by rfl, ?_⟩) ?_ ?_
            rotate_left
            ·intro w'
             go_simp
             with_reducible rfl
            rotate_left
            ·simp only [Act.put, Qp1, Qp2, Qp3, i64_w, i32_w]
             rfl
            refine pure_ (i := 6) (N := some 89) (v := ?_) (a' := ?_) (Qbz 11 127) rfl rfl (any_of HT_.out (by kernel_rfl)) (fun _ _ _ h => h) (Or.inl ⟨by rfl, ?_⟩) ?_ ?_
            rotate_left
            ·intro w'
             go_simp
             with_reducible rfl
            rotate_left
            ·simp only [Act.put, Qp1, Qp2, Qp3, i64_w, i32_w]
             rfl
            refine pure_ (i := 7) (N := some 90) (v := ?_) (a' := ?_) (Qbz 11 255) rfl rfl (any_of HT_.out (by kernel_rfl)) (fun _ _ _ h => h) (Or.inl ⟨by rfl, ?_⟩) ?_ ?_
            rotate_left
            ·intro w'
             go_simp
             with_reducible rfl
            rotate_left
            ·simp only [Act.put, Qp1, Qp2, Qp3, i64_w, i32_w]
             rfl
            refine pure_ (i := 8) (N := some 15) (v := ?_) (a' := ?_) (Qbz 11 511) rfl rfl (any_of HT_.out (by kernel_rfl)) (fun _ _ _ h => h) (Or.inl ⟨by rfl, ?_⟩) ?_ ?_
            rotate_left
            ·intro w'
             go_simp
             with_reducible rfl
            rotate_left
            ·simp only [Act.put, Qp1, Qp2, Qp3, i64_w, i32_w]
             rfl
            refine pure_ (i := 9) (N := some 16) (v := ?_) (a' := ?_) (Qbz 11 1023) rfl rfl (any_of HT_.out (by kernel_rfl)) (fun _ _ _ h => h) (Or.inl ⟨by rfl, ?_⟩) ?_ ?_
            rotate_left
            ·intro w'
             go_simp
             with_reducible rfl
            rotate_left
            ·simp only [Act.put, Qp1, Qp2, Qp3, i64_w, i32_w]
             rfl
            refine pure_ (i := 10) (N := some 12) (v := ?_) (a' := ?_) (Qbz 11 2047) rfl rfl (any_of HT_.out (by kernel_rfl)) (fun _ _ _ h => h) (Or.inl ⟨by rfl, ?_⟩) ?_ ?_
            rotate_left
            ·intro w'
             go_simp
             with_reducible rfl
            rotate_left
            ·simp only [Act.put, Qp1, Qp2, Qp3, i64_w, i32_w]
             rfl
            refine done_ (done_of HT_.out (by kernel_rfl)) ?_
            try go_wp2
            go_ret
            exact ⟨by first | rfl | (simp [errW_none, errW_some] <;> rfl) | (simp [*, errW_none, errW_some] <;> rfl), by repeat (first | (with_reducible first | exact HB.out | apply below_alloc | apply pw_below_drewN | apply below_drew1 | refine below_set ?_ GE750.out) | exact HB.out)⟩
          ·rw [if_neg c42] at H
           have c42b0 : (t759 == 0) = false := beq_eq_false_iff_ne.mpr c42
           have c42b1 : (t759 != 0) = true := bne_iff_ne.mpr c42
           obtain rfl := Option.some.inj H
           try go_wp2
           have n0_ := Aside0.mk (Kd.R_drew HO_751000.out)
           have n1_ := Aside0.mk (Kd.R_drew HO_751001.out)
           have n2_ := Aside0.mk (blk_drew BK750.out)
           have n3_ := Aside0.mk (below_drew1 HB.out)
           clear HO_751000
           clear HO_751001
           clear BK750
           clear HB
           have HO_751000 := n0_
           have HO_751001 := n1_
           have BK750 := n2_
           have HB := n3_
           clear n0_ n1_ n2_ n3_
           refine start_ (n := 11) (S := fun w' => w'.cell? ⟨gb750, 0, none⟩ = some (.slice Ao30 t747.length co30) ∧ w'.cell? ⟨gb750, 1, none⟩ = some (u751001)) (ds := []) (Qbz 11 0) (by kernel_rfl) rfl rfl ⟨(blk_cell BK750.out 0).trans rfl, (blk_cell BK750.out 1).trans rfl⟩ (fun hHeld => ?_); refine with_tabW lampblacklaw03_SweepWider.tab16 lampblacklaw03_SweepWider.bits16 (fun HT_ HW_ => ?_)
           generalize wr.drew = w62 at HO_751000 HO_751001 BK750 HB hHeld ⊢
           refine pure_ (i := 0) (N := some 84) (v := ?_) (a' := ?_) (Qbz 11 1) rfl rfl (any_of HT_.out (by kernel_rfl)) (fun _ _ _ h => h) (Or.inl ⟨by rfl, ?_⟩) ?_ ?_
           rotate_left
           ·intro w'
            go_simp
            with_reducible rfl
           rotate_left
           ·simp only [Act.put, Qp1, Qp2, Qp3, i64_w, i32_w]
            rfl
           refine take_ (i := 2) (N := some 86) (v := ?_) (a' := ?_) (Qbz 11 5) rfl rfl (take_ofW HT_.out HW_.out (by kernel_rfl)) (fun _ _ _ h => h) (Or.inl ⟨by rfl, ?_⟩) hHeld ?_ ?_
           rotate_left
           ·rintro w' ⟨s0, s1⟩
            go_simp
            with_reducible rfl
           rotate_left
           ·simp only [Act.put, Qp1, Qp2, Qp3, i64_w, i32_w]
            rfl
           refine one_ (i := 1) (N := some 85) (Qbz 11 7) rfl rfl (one_of HT_.out (by kernel_rfl)) (by decide) (fun K hK => ?_)
           refine goes_ Tryd.func18 (by kernel_rfl) rfl #[.slice A0 l0.length c0] (by rfl) rfl rfl (Qls) ?_
           with_reducible refine (lampblacklaw03_Few.calls _ _ l0 t754 _ ?side1 ?side2 A39.out).mono ?_
           (case side1 => exact Qsc (Kd.C_below HR0.out HB.out))
           (case side2 => exact HC0.out)
           rintro e w63 ⟨v755, rfl, ho0, hb⟩
           refine ⟨_, rfl, ?_⟩
           have n0_ := Aside0.mk (Kd.R_elder' (Qro HO_751000.out) (Kd.R_base ho0) hb)
           have n1_ := Aside0.mk (Kd.R_elder' (Qro HO_751001.out) (Kd.R_base ho0) hb)
           have n2_ := Aside0.mk (Kd.R_lower (Kd.R_new' (Kd.R_new' ho0 (Kd.R_lt (Qro HO_751000.out))) (Kd.R_lt (Qro HO_751001.out))) (below_size (by repeat (first | (with_reducible first | exact HB.out | apply below_alloc | apply pw_below_drewN | apply below_drew1 | refine below_set ?_ GE750.out) | exact HB.out))))
           have n3_ := Aside0.mk (blk_below (g := gb750) (o := .cells #[.slice Ao30 t747.length co30, u751001] 74 (0, 0)) (by (with_reducible repeat (first | refine blk_drewN ?_ _ | refine blk_drew ?_ | refine blk_alloc ?_ _)); exact BK750.out) hb)
           have n4_ := Aside0.mk (below_step (by repeat (first | (with_reducible first | exact HB.out | apply below_alloc | apply pw_below_drewN | apply below_drew1 | refine below_set ?_ GE750.out) | exact HB.out)) hb)
           clear HO_751000
           clear HO_751001
           clear BK750
           clear HB
           have HO_751000 := n0_
           have HO_751001 := n1_
           have HO756 := n2_
           have BK750 := n3_
           have HB := n4_
           clear n0_ n1_ n2_ n3_ n4_
           (try clear hb)
           (try clear hb2)
           (try clear hk)
           (try clear hi)
           (try clear ho0)
           obtain ⟨Ao64, co64, eo64⟩ := Kd.R_slice HO756.out
           (first | subst eo64 | (injection eo64 with f1_ f2_ f3_; have f4_ := f1_.symm; have f5_ := f3_.symm; clear f1_ f2_ f3_; subst f4_; subst f5_))
           obtain ⟨Ao65, co65, eo65⟩ := Kd.R_slice HO_751001.out
           (first | subst eo65 | (injection eo65 with f1_ f2_ f3_; have f4_ := f1_.symm; have f5_ := f3_.symm; clear f1_ f2_ f3_; subst f4_; subst f5_))
           refine hK.out _ _ ⟨(blk_cell BK750.out 0).trans rfl, (blk_cell BK750.out 1).trans rfl⟩ (fun hHeld => ?_)
           clear hK K
           refine norm_ (a' := ?_) ?_ ?_
           rotate_left
           ·show Act.put _ (some 85) _ = _
            simp only [Act.put, Qp1, Qp2, Qp3, i64_w, i32_w]
            rfl
           refine one_ (i := 3) (N := some 87) (Qbz 11 15) rfl rfl (one_of HT_.out (by kernel_rfl)) (by decide) (fun K hK => ?_)
           refine goes_ Tryd.func46 (by kernel_rfl) rfl #[.slice Ao64 t754.length co64, .agg #[.slice Ao30 t747.length co30, .slice Ao65 x751001_2.length co65]] (by rfl) rfl rfl (Qls) ?_
           with_reducible refine (width_Check.calls (hGL := (Qlg)) k2 _ _ t754 _ _ t747 _ _ x751001_2 t757 true t759 _ ?side1 ?side2 ?side3 ?side4 ?side5 ?side6 A40.out).mono ?_
           (case side1 => exact Qsc (Kd.R_reads' HO756.out).2.2)
           (case side2 => exact (Kd.R_reads' HO756.out).2.1)
           (case side3 => exact Qsc (Kd.R_reads' HO_751000.out).2.2)
           (case side4 => exact (Kd.R_reads' HO_751000.out).2.1)
           (case side5 => exact Qsc (Kd.R_reads' HO_751001.out).2.2)
           (case side6 => exact (Kd.R_reads' HO_751001.out).2.1)
           rintro e w66 ⟨rfl, hb⟩
           refine ⟨_, rfl, ?_⟩
           have n0_ := Aside0.mk (Kd.R_below (Qro HO_751000.out) hb)
           have n1_ := Aside0.mk (Kd.R_below (Qro HO_751001.out) hb)
           have n2_ := Aside0.mk (Kd.R_below (Qro HO756.out) hb)
           have n3_ := Aside0.mk (blk_below (g := gb750) (o := .cells #[.slice Ao30 t747.length co30, .slice Ao65 x751001_2.length co65] 74 (0, 0)) (by (with_reducible repeat (first | refine blk_drewN ?_ _ | refine blk_drew ?_ | refine blk_alloc ?_ _)); exact BK750.out) hb)
           have n4_ := Aside0.mk (below_step (by repeat (first | (with_reducible first | exact HB.out | apply below_alloc | apply pw_below_drewN | apply below_drew1 | refine below_set ?_ GE750.out) | exact HB.out)) hb)
           clear HO_751000
           clear HO_751001
           clear HO756
           clear BK750
           clear HB
           have HO_751000 := n0_
           have HO_751001 := n1_
           have HO756 := n2_
           have BK750 := n3_
           have HB := n4_
           clear n0_ n1_ n2_ n3_ n4_
           (try clear hb)
           (try clear hb2)
           (try clear hk)
           (try clear hi)
           refine hK.out _ _ ⟨(blk_cell BK750.out 0).trans rfl, (blk_cell BK750.out 1).trans rfl⟩ (fun hHeld => ?_)
           clear hK K
           refine norm_ (a' := ?_) ?_ ?_
           rotate_left
           ·show Act.put _ (some 87) _ = _
            simp only [Act.put, Qp1, Qp2, Qp3, i64_w, i32_w]
            rfl
           refine pure_ (i := 4) (N := some 83) (v := ?_) (a' := ?_) (Qbz 11 31) rfl rfl (any_of HT_.out (by kernel_rfl)) (fun _ _ _ h => h) (Or.inl ⟨by rfl, ?_⟩) ?_ ?_
           rotate_left
           ·intro w'
            go_simp
            with_reducible rfl
           rotate_left
           ·simp only [Act.put, Qp1, Qp2, Qp3, i64_w, i32_w]
            rfl
           refine pure_ (i := 5) (N := some 88) (v := ?_) (a' := ?_) (Qbz 11 63) rfl rfl (any_of HT_.out (by kernel_rfl)) (fun _ _ _ h => h) (Or.inl ⟨by rfl, ?_⟩) ?_ ?_
           rotate_left
           ·intro w'
            go_simp
            with_reducible rfl
           rotate_left
           ·simp only [Act.put, Qp1, Qp2, Qp3, i64_w, i32_w]
            rfl
           refine pure_ (i := 6) (N := some 89) (v := ?_) (a' := ?_) (Qbz 11 127) rfl rfl (any_of HT_.out (by kernel_rfl)) (fun _ _ _ h => h) (Or.inl ⟨by rfl, ?_⟩) ?_ ?_
           rotate_left
           ·intro w'
            go_simp
            with_reducible rfl
           rotate_left
           ·simp only [Act.put, Qp1, Qp2, Qp3, i64_w, i32_w]
            rfl
           refine pure_ (i := 7) (N := some 90) (v := ?_) (a' := ?_) (Qbz 11 255) rfl rfl (any_of HT_.out (by kernel_rfl)) (fun _ _ _ h => h) (Or.inl ⟨by rfl, ?_⟩) ?_ ?_
           rotate_left
           ·intro w'
            go_simp
            with_reducible rfl
           rotate_left
           ·simp only [Act.put, Qp1, Qp2, Qp3, i64_w, i32_w]
            rfl
           refine pure_ (i := 8) (N := some 15) (v := ?_) (a' := ?_) (Qbz 11 511) rfl rfl (any_of HT_.out (by kernel_rfl)) (fun _ _ _ h => h) (Or.inl ⟨by rfl, ?_⟩) ?_ ?_
           rotate_left
           ·intro w'
            go_simp
            with_reducible rfl
           rotate_left
           ·simp only [Act.put, Qp1, Qp2, Qp3, i64_w, i32_w]
            rfl
           refine pure_ (i := 9) (N := some 16) (v := ?_) (a' := ?_) (Qbz 11 1023) rfl rfl (any_of HT_.out (by kernel_rfl)) (fun _ _ _ h => h) (Or.inl ⟨by rfl, ?_⟩) ?_ ?_
           rotate_left
           ·intro w'
            go_simp
            with_reducible rfl
           rotate_left
           ·simp only [Act.put, Qp1, Qp2, Qp3, i64_w, i32_w]
            rfl
           refine pure_ (i := 10) (N := some 12) (v := ?_) (a' := ?_) (Qbz 11 2047) rfl rfl (any_of HT_.out (by kernel_rfl)) (fun _ _ _ h => h) (Or.inl ⟨by rfl, ?_⟩) ?_ ?_
           rotate_left
           ·intro w'
            go_simp
            with_reducible rfl
           rotate_left
           ·simp only [Act.put, Qp1, Qp2, Qp3, i64_w, i32_w]
            rfl
           refine done_ (done_of HT_.out (by kernel_rfl)) ?_
           try go_wp2
           go_ret
           exact ⟨by first | rfl | (simp [errW_none, errW_some] <;> rfl) | (simp [*, errW_none, errW_some] <;> rfl), by repeat (first | (with_reducible first | exact HB.out | apply below_alloc | apply pw_below_drewN | apply below_drew1 | refine below_set ?_ GE750.out) | exact HB.out)⟩
         ·replace c41 := Bool.eq_false_iff.mpr c41
          subst c41
          have H1 : (some false) = some r := by rw [if_neg (show ¬ (false = true) by decide)] at H; exact H
          clear H
          have H := H1
          clear H1
          obtain rfl := Option.some.inj H
          try go_wp2
          have n0_ := Aside0.mk (Kd.R_drew HO_751000.out)
          have n1_ := Aside0.mk (Kd.R_drew HO_751001.out)
          have n2_ := Aside0.mk (blk_drew BK750.out)
          have n3_ := Aside0.mk (below_drew1 HB.out)
          clear HO_751000
          clear HO_751001
          clear BK750
          clear HB
          have HO_751000 := n0_
          have HO_751001 := n1_
          have BK750 := n2_
          have HB := n3_
          clear n0_ n1_ n2_ n3_
          refine start_ (n := 11) (S := fun w' => w'.cell? ⟨gb750, 0, none⟩ = some (.slice Ao30 t747.length co30) ∧ w'.cell? ⟨gb750, 1, none⟩ = some (u751001)) (ds := []) (Qbz 11 0) (by kernel_rfl) rfl rfl ⟨(blk_cell BK750.out 0).trans rfl, (blk_cell BK750.out 1).trans rfl⟩ (fun hHeld => ?_); refine with_tabW lampblacklaw03_SweepWider.tab16 lampblacklaw03_SweepWider.bits16 (fun HT_ HW_ => ?_)
          generalize wr.drew = w67 at HO_751000 HO_751001 BK750 HB hHeld ⊢
          refine pure_ (i := 0) (N := some 84) (v := ?_) (a' := ?_) (Qbz 11 1) rfl rfl (any_of HT_.out (by kernel_rfl)) (fun _ _ _ h => h) (Or.inl ⟨by rfl, ?_⟩) ?_ ?_
          rotate_left
          ·intro w'
           go_simp
           with_reducible rfl
          rotate_left
          ·simp only [Act.put, Qp1, Qp2, Qp3, i64_w, i32_w]
           rfl
          refine take_ (i := 2) (N := some 86) (v := ?_) (a' := ?_) (Qbz 11 5) rfl rfl (take_ofW HT_.out HW_.out (by kernel_rfl)) (fun _ _ _ h => h) (Or.inl ⟨by rfl, ?_⟩) hHeld ?_ ?_
          rotate_left
          ·rintro w' ⟨s0, s1⟩
           go_simp
           with_reducible rfl
          rotate_left
          ·simp only [Act.put, Qp1, Qp2, Qp3, i64_w, i32_w]
           rfl
          refine one_ (i := 1) (N := some 85) (Qbz 11 7) rfl rfl (one_of HT_.out (by kernel_rfl)) (by decide) (fun K hK => ?_)
          refine goes_ Tryd.func18 (by kernel_rfl) rfl #[.slice A0 l0.length c0] (by rfl) rfl rfl (Qls) ?_
          with_reducible refine (lampblacklaw03_Few.calls _ _ l0 t754 _ ?side1 ?side2 A39.out).mono ?_
          (case side1 => exact Qsc (Kd.C_below HR0.out HB.out))
          (case side2 => exact HC0.out)
          rintro e w68 ⟨v755, rfl, ho0, hb⟩
          refine ⟨_, rfl, ?_⟩
          have n0_ := Aside0.mk (Kd.R_elder' (Qro HO_751000.out) (Kd.R_base ho0) hb)
          have n1_ := Aside0.mk (Kd.R_elder' (Qro HO_751001.out) (Kd.R_base ho0) hb)
          have n2_ := Aside0.mk (Kd.R_lower (Kd.R_new' (Kd.R_new' ho0 (Kd.R_lt (Qro HO_751000.out))) (Kd.R_lt (Qro HO_751001.out))) (below_size (by repeat (first | (with_reducible first | exact HB.out | apply below_alloc | apply pw_below_drewN | apply below_drew1 | refine below_set ?_ GE750.out) | exact HB.out))))
          have n3_ := Aside0.mk (blk_below (g := gb750) (o := .cells #[.slice Ao30 t747.length co30, u751001] 74 (0, 0)) (by (with_reducible repeat (first | refine blk_drewN ?_ _ | refine blk_drew ?_ | refine blk_alloc ?_ _)); exact BK750.out) hb)
          have n4_ := Aside0.mk (below_step (by repeat (first | (with_reducible first | exact HB.out | apply below_alloc | apply pw_below_drewN | apply below_drew1 | refine below_set ?_ GE750.out) | exact HB.out)) hb)
          clear HO_751000
          clear HO_751001
          clear BK750
          clear HB
          have HO_751000 := n0_
          have HO_751001 := n1_
          have HO756 := n2_
          have BK750 := n3_
          have HB := n4_
          clear n0_ n1_ n2_ n3_ n4_
          (try clear hb)
          (try clear hb2)
          (try clear hk)
          (try clear hi)
          (try clear ho0)
          obtain ⟨Ao69, co69, eo69⟩ := Kd.R_slice HO756.out
          (first | subst eo69 | (injection eo69 with f1_ f2_ f3_; have f4_ := f1_.symm; have f5_ := f3_.symm; clear f1_ f2_ f3_; subst f4_; subst f5_))
          obtain ⟨Ao70, co70, eo70⟩ := Kd.R_slice HO_751001.out
          (first | subst eo70 | (injection eo70 with f1_ f2_ f3_; have f4_ := f1_.symm; have f5_ := f3_.symm; clear f1_ f2_ f3_; subst f4_; subst f5_))
          refine hK.out _ _ ⟨(blk_cell BK750.out 0).trans rfl, (blk_cell BK750.out 1).trans rfl⟩ (fun hHeld => ?_)
          clear hK K
          refine norm_ (a' := ?_) ?_ ?_
          rotate_left
          ·show Act.put _ (some 85) _ = _
           simp only [Act.put, Qp1, Qp2, Qp3, i64_w, i32_w]
           rfl
          refine one_ (i := 3) (N := some 87) (Qbz 11 15) rfl rfl (one_of HT_.out (by kernel_rfl)) (by decide) (fun K hK => ?_)
          refine goes_ Tryd.func46 (by kernel_rfl) rfl #[.slice Ao69 t754.length co69, .agg #[.slice Ao30 t747.length co30, .slice Ao70 x751001_2.length co70]] (by rfl) rfl rfl (Qls) ?_
          with_reducible refine (width_Check.calls (hGL := (Qlg)) k2 _ _ t754 _ _ t747 _ _ x751001_2 t757 false t759 _ ?side1 ?side2 ?side3 ?side4 ?side5 ?side6 A40.out).mono ?_
          (case side1 => exact Qsc (Kd.R_reads' HO756.out).2.2)
          (case side2 => exact (Kd.R_reads' HO756.out).2.1)
          (case side3 => exact Qsc (Kd.R_reads' HO_751000.out).2.2)
          (case side4 => exact (Kd.R_reads' HO_751000.out).2.1)
          (case side5 => exact Qsc (Kd.R_reads' HO_751001.out).2.2)
          (case side6 => exact (Kd.R_reads' HO_751001.out).2.1)
          rintro e w71 ⟨rfl, hb⟩
          refine ⟨_, rfl, ?_⟩
          have n0_ := Aside0.mk (Kd.R_below (Qro HO_751000.out) hb)
          have n1_ := Aside0.mk (Kd.R_below (Qro HO_751001.out) hb)
          have n2_ := Aside0.mk (Kd.R_below (Qro HO756.out) hb)
          have n3_ := Aside0.mk (blk_below (g := gb750) (o := .cells #[.slice Ao30 t747.length co30, .slice Ao70 x751001_2.length co70] 74 (0, 0)) (by (with_reducible repeat (first | refine blk_drewN ?_ _ | refine blk_drew ?_ | refine blk_alloc ?_ _)); exact BK750.out) hb)
          have n4_ := Aside0.mk (below_step (by repeat (first | (with_reducible first | exact HB.out | apply below_alloc | apply pw_below_drewN | apply below_drew1 | refine below_set ?_ GE750.out) | exact HB.out)) hb)
          clear HO_751000
          clear HO_751001
          clear HO756
          clear BK750
          clear HB
          have HO_751000 := n0_
          have HO_751001 := n1_
          have HO756 := n2_
          have BK750 := n3_
          have HB := n4_
          clear n0_ n1_ n2_ n3_ n4_
          (try clear hb)
          (try clear hb2)
          (try clear hk)
          (try clear hi)
          refine hK.out _ _ ⟨(blk_cell BK750.out 0).trans rfl, (blk_cell BK750.out 1).trans rfl⟩ (fun hHeld => ?_)
          clear hK K
          refine norm_ (a' := ?_) ?_ ?_
          rotate_left
          ·show Act.put _ (some 87) _ = _
           simp only [Act.put, Qp1, Qp2, Qp3, i64_w, i32_w]
           rfl
          refine pure_ (i := 4) (N := some 83) (v := ?_) (a' := ?_) (Qbz 11 31) rfl rfl (any_of HT_.out (by kernel_rfl)) (fun _ _ _ h => h) (Or.inl ⟨by rfl, ?_⟩) ?_ ?_
          rotate_left
          ·intro w'
           go_simp
           with_reducible rfl
          rotate_left
          ·simp only [Act.put, Qp1, Qp2, Qp3, i64_w, i32_w]
           rfl
          refine pure_ (i := 5) (N := some 88) (v := ?_) (a' := ?_) (Qbz 11 63) rfl rfl (any_of HT_.out (by kernel_rfl)) (fun _ _ _ h => h) (Or.inl ⟨by rfl, ?_⟩) ?_ ?_
          rotate_left
          ·intro w'
           go_simp
           with_reducible rfl
          rotate_left
          ·simp only [Act.put, Qp1, Qp2, Qp3, i64_w, i32_w]
           rfl
          refine pure_ (i := 6) (N := some 89) (v := ?_) (a' := ?_) (Qbz 11 127) rfl rfl (any_of HT_.out (by kernel_rfl)) (fun _ _ _ h => h) (Or.inl ⟨by rfl, ?_⟩) ?_ ?_
          rotate_left
          ·intro w'
           go_simp
           with_reducible rfl
          rotate_left
          ·simp only [Act.put, Qp1, Qp2, Qp3, i64_w, i32_w]
           rfl
          refine pure_ (i := 7) (N := some 90) (v := ?_) (a' := ?_) (Qbz 11 255) rfl rfl (any_of HT_.out (by kernel_rfl)) (fun _ _ _ h => h) (Or.inl ⟨by rfl, ?_⟩) ?_ ?_
          rotate_left
          ·intro w'
           go_simp
           with_reducible rfl
          rotate_left
          ·simp only [Act.put, Qp1, Qp2, Qp3, i64_w, i32_w]
           rfl
          refine pure_ (i := 8) (N := some 15) (v := ?_) (a' := ?_) (Qbz 11 511) rfl rfl (any_of HT_.out (by kernel_rfl)) (fun _ _ _ h => h) (Or.inl ⟨by rfl, ?_⟩) ?_ ?_
          rotate_left
          ·intro w'
           go_simp
           with_reducible rfl
          rotate_left
          ·simp only [Act.put, Qp1, Qp2, Qp3, i64_w, i32_w]
           rfl
          refine pure_ (i := 9) (N := some 16) (v := ?_) (a' := ?_) (Qbz 11 1023) rfl rfl (any_of HT_.out (by kernel_rfl)) (fun _ _ _ h => h) (Or.inl ⟨by rfl, ?_⟩) ?_ ?_
          rotate_left
          ·intro w'
           go_simp
           with_reducible rfl
          rotate_left
          ·simp only [Act.put, Qp1, Qp2, Qp3, i64_w, i32_w]
           rfl
          refine pure_ (i := 10) (N := some 12) (v := ?_) (a' := ?_) (Qbz 11 2047) rfl rfl (any_of HT_.out (by kernel_rfl)) (fun _ _ _ h => h) (Or.inl ⟨by rfl, ?_⟩) ?_ ?_
          rotate_left
          ·intro w'
           go_simp
           with_reducible rfl
          rotate_left
          ·simp only [Act.put, Qp1, Qp2, Qp3, i64_w, i32_w]
           rfl
          refine done_ (done_of HT_.out (by kernel_rfl)) ?_
          try go_wp2
          go_ret
          exact ⟨by first | rfl | (simp [errW_none, errW_some] <;> rfl) | (simp [*, errW_none, errW_some] <;> rfl), by repeat (first | (with_reducible first | exact HB.out | apply below_alloc | apply pw_below_drewN | apply below_drew1 | refine below_set ?_ GE750.out) | exact HB.out)⟩
     ·replace c27 := Bool.eq_false_iff.mpr c27
      subst c27
      have H1 : ((lampblacklaw03_awake.f kj10).bind fun t746 => (some t746)) = some r := by rw [if_neg (show ¬ (false = true) by decide)] at H; exact H
      clear H
      have H := H1
      clear H1
      replace H := Option.bind_eq_some_iff.mp H
      obtain ⟨t746, A720, H⟩ := H
      replace H : (some t746) = some r := H
      have A72 := Aside0.mk A720
      clear A720
      obtain rfl := Option.some.inj H
      go_wp2_with (first | ((with_reducible refine gate_callee (f := 20) rfl ?_); refine goesL_ (some 66) rfl rfl Tryd.func20 (by kernel_rfl) rfl #[] rfl (Qls) ?_; (with_reducible refine (lampblacklaw03_awake.calls (hGL := (Qlg)) kj10  t746 _ A72.out).mono ?_); rintro e w73 ⟨rfl, hb⟩; refine ⟨_, rfl, ?_⟩; have n0_ := Aside0.mk (below_step (Qaw) hb); clear HB; have HB := n0_; clear n0_; (try clear hb); (try clear hb2); (try clear hk); (try clear hi)))
      go_ret
      exact ⟨by first | rfl | (simp [errW_none, errW_some] <;> rfl) | (simp [*, errW_none, errW_some] <;> rfl), by repeat (first | (with_reducible first | exact HB.out | apply below_alloc | apply pw_below_drewN | apply below_drew1) | exact HB.out)⟩
 ·rw [if_neg c5] at H
  have c5b0 : (t728 == 0) = false := beq_eq_false_iff_ne.mpr c5
  have c5b1 : (t728 != 0) = true := bne_iff_ne.mpr c5
  by_cases c74 : t728 = 2
  ·rw [if_pos c74] at H
   have c74b0 : (t728 == 2) = true := beq_iff_eq.mpr c74
   have c74b1 : (t728 != 2) = false := bne_eq_false_iff_eq.mpr c74
   clear c74
   replace H := Option.bind_eq_some_iff.mp H
   obtain ⟨t731, A750, H⟩ := H
   replace H : (some t731) = some r := H
   have A75 := Aside0.mk A750
   clear A750
   obtain rfl := Option.some.inj H
   go_enter Tryd.func16, Tryd.ntmps16
   go_wp2_with (first | ((with_reducible refine gate_callee (f := 18) rfl ?_); refine goesL_ (some 19) rfl rfl Tryd.func18 (by kernel_rfl) rfl #[.slice A0 l0.length c0] rfl (Qls) ?_; (with_reducible refine (lampblacklaw03_Few.calls _ _ l0 t723 _ ?side1 ?side2 A3.out).mono ?_); (case side1 => exact Qsc HR0.out); (case side2 => exact HC0.out); rintro e w76 ⟨v724, rfl, ho0, hb⟩; refine ⟨_, rfl, ?_⟩; have n0_ := Aside0.mk (Kd.R_lower ho0 (below_size (Qaw))); have n1_ := Aside0.mk (below_step (Qaw) hb); clear HB; have HO725 := n0_; have HB := n1_; clear n0_ n1_; (try clear hb); (try clear hb2); (try clear hk); (try clear hi); (try clear ho0); obtain ⟨Ao77, co77, eo77⟩ := Kd.R_slice HO725.out; subst eo77) | ((with_reducible refine gate_callee (f := 22) rfl ?_); refine goesL_ (some 20) rfl rfl Tryd.func22 (by kernel_rfl) rfl #[.slice Ao77 t723.length co77] rfl (Qls) ?_; (with_reducible refine (sweep_Layout.calls (hGL := (Qlg)) k _ _ t723 t726 t727 t728 _ ?side1 ?side2 A4.out).mono ?_); (case side1 => exact Qsc (Kd.R_reads' HO725.out).2.2); (case side2 => exact (Kd.R_reads' HO725.out).2.1); rintro e w78 ⟨v729, rfl, ho0, hb⟩; refine ⟨_, rfl, ?_⟩; have n0_ := Aside0.mk (Kd.R_elder' (Qro HO725.out) (Kd.R_base ho0) hb); have n1_ := Aside0.mk (Kd.R_lower (Kd.R_new' ho0 (Kd.R_lt (Qro HO725.out))) (below_size (Qaw))); have n2_ := Aside0.mk (below_step (Qaw) hb); clear HO725; clear HB; have HO725 := n0_; have HO730 := n1_; have HB := n2_; clear n0_ n1_ n2_; (try clear hb); (try clear hb2); (try clear hk); (try clear hi); (try clear ho0)) | (go_at_call 20; (with_reducible refine (lampblacklaw03_awake.calls (hGL := (Qlg)) k  t731 _ A75.out).mono ?_); rintro e w79 ⟨rfl, hb⟩; have n0_ := Aside0.mk (Kd.R_below (Qro HO725.out) hb); have n1_ := Aside0.mk (Kd.R_below (Qro HO730.out) hb); have n2_ := Aside0.mk (below_step (Qaw) hb); clear HO725; clear HO730; clear HB; have HO725 := n0_; have HO730 := n1_; have HB := n2_; clear n0_ n1_ n2_; (try clear hb); (try clear hb2); (try clear hk); (try clear hi)))
   go_ret
   exact ⟨by first | rfl | (simp [errW_none, errW_some] <;> rfl) | (simp [*, errW_none, errW_some] <;> rfl), by repeat (first | (with_reducible first | exact HB.out | apply below_alloc | apply pw_below_drewN | apply below_drew1) | exact HB.out)⟩
  ·rw [if_neg c74] at H
   have c74b0 : (t728 == 2) = false := beq_eq_false_iff_ne.mpr c74
   have c74b1 : (t728 != 2) = true := bne_iff_ne.mpr c74
   obtain rfl := Option.some.inj H
   go_enter Tryd.func16, Tryd.ntmps16
   go_wp2_with (first | ((with_reducible refine gate_callee (f := 18) rfl ?_); refine goesL_ (some 19) rfl rfl Tryd.func18 (by kernel_rfl) rfl #[.slice A0 l0.length c0] rfl (Qls) ?_; (with_reducible refine (lampblacklaw03_Few.calls _ _ l0 t723 _ ?side1 ?side2 A3.out).mono ?_); (case side1 => exact Qsc HR0.out); (case side2 => exact HC0.out); rintro e w80 ⟨v724, rfl, ho0, hb⟩; refine ⟨_, rfl, ?_⟩; have n0_ := Aside0.mk (Kd.R_lower ho0 (below_size (Qaw))); have n1_ := Aside0.mk (below_step (Qaw) hb); clear HB; have HO725 := n0_; have HB := n1_; clear n0_ n1_; (try clear hb); (try clear hb2); (try clear hk); (try clear hi); (try clear ho0); obtain ⟨Ao81, co81, eo81⟩ := Kd.R_slice HO725.out; subst eo81) | ((with_reducible refine gate_callee (f := 22) rfl ?_); refine goesL_ (some 20) rfl rfl Tryd.func22 (by kernel_rfl) rfl #[.slice Ao81 t723.length co81] rfl (Qls) ?_; (with_reducible refine (sweep_Layout.calls (hGL := (Qlg)) k _ _ t723 t726 t727 t728 _ ?side1 ?side2 A4.out).mono ?_); (case side1 => exact Qsc (Kd.R_reads' HO725.out).2.2); (case side2 => exact (Kd.R_reads' HO725.out).2.1); rintro e w82 ⟨v729, rfl, ho0, hb⟩; refine ⟨_, rfl, ?_⟩; have n0_ := Aside0.mk (Kd.R_elder' (Qro HO725.out) (Kd.R_base ho0) hb); have n1_ := Aside0.mk (Kd.R_lower (Kd.R_new' ho0 (Kd.R_lt (Qro HO725.out))) (below_size (Qaw))); have n2_ := Aside0.mk (below_step (Qaw) hb); clear HO725; clear HB; have HO725 := n0_; have HO730 := n1_; have HB := n2_; clear n0_ n1_ n2_; (try clear hb); (try clear hb2); (try clear hk); (try clear hi); (try clear ho0)))
   go_ret
   exact ⟨by first | rfl | (simp [errW_none, errW_some] <;> rfl) | (simp [*, errW_none, errW_some] <;> rfl), by repeat (first | (with_reducible first | exact HB.out | apply below_alloc | apply pw_below_drewN | apply below_drew1) | exact HB.out)⟩
end Go.Proofs.YtijfddobandcdaaDoor.X
end
section
/- Blockages: if no layout has borders of less than k nodes, there is a blockage of order k; and the other way round. -/
namespace Go.Proofs.YtijfddobandcdaaDoor.T
open Go.RowKit YtijfddobandcdaaDoorW.PrintWords YtijfddobandcdaaDoorW.PrintLast YtijfddobandcdaaDoorW.PrintMore
def Sub (X Y : Nat) : Prop := ∀ j, bset X j → bset Y j
theorem Sub.refl (X : Nat) : Sub X X := fun _ h => h
theorem Sub.trans {X Y Z : Nat} (h : Sub X Y) (h2 : Sub Y Z) : Sub X Z := fun j hj => h2 j (h j hj)
theorem sub_eq {X Y : Nat} (h : Sub X Y) (h2 : Sub Y X) : X = Y := eq_of_bits fun j => ⟨h j, h2 j⟩
theorem zero_sub (X : Nat) : Sub 0 X := fun j h => by unfold bset at h; simp at h
theorem pc_sub {X Y : Nat} (h : Sub X Y) (n : Nat) : pc X n ≤ pc Y n := pc_mono n fun j _ hj => h j hj
noncomputable def cmp (G : List Nat) (X : Nat) : Nat := diff (2 ^ G.length - 1) X ||| bor G X
theorem cmp_bit (G : List Nat) (X j : Nat) : bset (cmp G X) j ↔ (j < G.length ∧ ¬ bset X j) ∨ bset (bor G X) j := by
 unfold cmp
 rw [or_bset, diff_bset, full_bit]
theorem bor_sub {m : Nat} {G : List Nat} (hG : Gr m G) (X : Nat) : Sub (bor G X) X := fun j h => ((bor_bit hG X j).1 h).1
theorem full_lt (n : Nat) : 2 ^ n - 1 < 2 ^ n := by have := Nat.two_pow_pos n; omega
theorem cmp_lt {m : Nat} {G : List Nat} (hG : Gr m G) (X : Nat) : cmp G X < 2 ^ G.length := or_lt (Nat.lt_of_le_of_lt (diff_le _ _) (full_lt _)) (bor_lt G X)
structure Sep (G : List Nat) (k A B : Nat) : Prop where
 la : A < 2 ^ G.length
 lb : B < 2 ^ G.length
 all : ∀ j, j < G.length → bset A j ∨ bset B j
 bor : Sub (bor G A) B
 card : pc (A &&& B) 9 ≤ k
theorem Sep.symm {m : Nat} {G : List Nat} (hG : Gr m G) {k A B : Nat} (h : Sep G k A B) : Sep G k B A := by
 refine ⟨h.lb, h.la, fun j hj => (h.all j hj).symm, fun j hj => ?_, by rw [Nat.and_comm]; exact h.card⟩
 obtain ⟨h1, u, h2, h3⟩ := (bor_bit hG B j).1 hj
 apply Classical.byContradiction
 intro hA
 have hu := (h.all u (hG.adj_lt h2)).resolve_right h3
 exact h3 (h.bor u ((bor_bit hG A u).2 ⟨hu, j, hG.adj_symm h2, hA⟩))
theorem Sep.bor2 {m : Nat} {G : List Nat} (hG : Gr m G) {k A B : Nat} (h : Sep G k A B) : Sub (T.bor G B) A := (h.symm hG).bor
def Sm (G : List Nat) (k X : Nat) : Prop := X < 2 ^ G.length ∧ pc (bor G X) 9 ≤ k
theorem Sep.sm {m : Nat} {G : List Nat} (hG : Gr m G) {k A B : Nat} (h : Sep G k A B) : Sm G k A :=
 ⟨h.la, Nat.le_trans (pc_sub (fun j hj => (and_bset _ _ _).2 ⟨bor_sub hG A j hj, h.bor j hj⟩) 9) h.card⟩
theorem and_cmp {m : Nat} {G : List Nat} (hG : Gr m G) (X : Nat) : X &&& cmp G X = bor G X := eq_of_bits fun j => by
 show bset _ _ ↔ bset _ _
 rw [and_bset, cmp_bit]
 exact ⟨fun ⟨h1, h2⟩ => h2.elim (fun h => (h.2 h1).elim) id, fun h => ⟨bor_sub hG X j h, .inr h⟩⟩
theorem Sm.sep {m : Nat} {G : List Nat} (hG : Gr m G) {k X : Nat} (h : Sm G k X) : Sep G k X (cmp G X) := by
 refine ⟨h.1, cmp_lt hG X, fun j hj => ?_, fun j hj => (cmp_bit G X j).2 (.inr hj), by rw [and_cmp hG]; exact h.2⟩
 by_cases hb : bset X j
 ·exact .inl hb
 ·exact .inr ((cmp_bit G X j).2 (.inl ⟨hj, hb⟩))
theorem submod (a b e d : Nat) : ∀ n, (∀ j, j < n → ((bset a j ∨ bset b j) ↔ (bset e j ∨ bset d j))) → pc (a &&& b) n + pc (e &&& d) n = pc ((a &&& e) &&& (b ||| d)) n + pc ((a ||| e) &&& (b &&& d)) n
 | 0, _ => rfl
 | n + 1, h => by
  have ih := submod a b e d n fun j hj => h j (by omega)
  have h1 := h n (by omega)
  simp only [pc, Nat.testBit_and, Nat.testBit_or]
  unfold bset at h1
  cases ha : a.testBit n <;> cases hb : b.testBit n <;> cases he : e.testBit n <;> cases hd : d.testBit n <;> simp_all <;> omega
theorem sides_same {G : List Nat} {A B E D : Nat} (hA : A < 2 ^ G.length) (hB : B < 2 ^ G.length) (hE : E < 2 ^ G.length) (hD : D < 2 ^ G.length) (h1 : ∀ j, j < G.length → bset A j ∨ bset B j) (h2 : ∀ j, j < G.length → bset E j ∨ bset D j) (j : Nat) :
  (bset A j ∨ bset B j) ↔ (bset E j ∨ bset D j) :=
 ⟨fun h => h2 j (h.elim (bit_lt hA) (bit_lt hB)), fun h => h1 j (h.elim (bit_lt hE) (bit_lt hD))⟩
inductive Mon (G : List Nat) (k : Nat) : Nat → Nat → Prop
 | refl {A : Nat} : Mon G k A A
 | step {A B E : Nat} : Mon G k A B → Sub B E → E < 2 ^ G.length → pc (cmp G B &&& E) 9 ≤ k → Mon G k A E
theorem Mon.sub {G : List Nat} {k A E : Nat} (h : Mon G k A E) : Sub A E := by
 induction h with
 | refl => exact Sub.refl _
 | step _ h1 _ _ ih => exact ih.trans h1
theorem Mon.trans {G : List Nat} {k A B C : Nat} (h : Mon G k A B) (h2 : Mon G k B C) : Mon G k A C := by
 induction h2 with
 | refl => exact h
 | step _ h1 h2 h3 ih => exact .step ih h1 h2 h3
theorem step_sep {m : Nat} {G : List Nat} (hG : Gr m G) {k B E : Nat} (h1 : Sub B E) (h2 : E < 2 ^ G.length) (h3 : pc (cmp G B &&& E) 9 ≤ k) : Sep G k E (cmp G B) := by
 refine ⟨h2, cmp_lt hG B, fun j hj => ?_, fun j hj => ?_, by rw [Nat.and_comm]; exact h3⟩
 ·by_cases hb : bset B j
  ·exact .inl (h1 j hb)
  ·exact .inr ((cmp_bit G B j).2 (.inl ⟨hj, hb⟩))
 ·obtain ⟨q1, u, q2, q3⟩ := (bor_bit hG E j).1 hj
  rw [cmp_bit]
  by_cases hb : bset B j
  ·exact .inr ((bor_bit hG B j).2 ⟨hb, u, q2, fun h => q3 (h1 u h)⟩)
  ·exact .inl ⟨hG.adj_lt' q2, hb⟩
theorem Mon.cut {m : Nat} {G : List Nat} (hG : Gr m G) {k M N C : Nat} (hM : M < 2 ^ G.length) (hN : N < 2 ^ G.length) (hMN : ∀ j, j < G.length → bset M j ∨ bset N j) (hb : Sub (bor G M) N)
  (hmin : ∀ X, X < 2 ^ G.length → Sub X C → pc (M &&& N) 9 ≤ pc (bor G (M ||| X)) 9) {A B : Nat} (h : Mon G k A B) (hB : Sub B C) : Mon G k (A &&& M) (B &&& M) := by
 induction h with
 | refl => exact .refl
 | @step B E _ h1 h2 h3 ih =>
  refine .step (ih (h1.trans hB)) (fun j hj => ?_) (Nat.lt_of_le_of_lt Nat.and_le_left h2) ?_
  ·obtain ⟨q1, q2⟩ := (and_bset _ _ _).1 hj
   exact (and_bset _ _ _).2 ⟨h1 j q1, q2⟩
  have hs := step_sep hG h1 h2 h3
  have hsm := submod M N E (cmp G B) 9 fun j _ => sides_same hM hN h2 (cmp_lt hG B) hMN hs.all j
  have h4 := hmin E h2 hB
  have h5 : pc (bor G (M ||| E)) 9 ≤ pc ((M ||| E) &&& (N &&& cmp G B)) 9 := pc_sub (fun j hj => by
   obtain ⟨q1, u, q2, q3⟩ := (bor_bit hG _ j).1 hj
   rw [or_bset, not_or] at q3
   refine (and_bset _ _ _).2 ⟨q1, (and_bset _ _ _).2 ⟨?_, ?_⟩⟩
   ·by_cases hm : bset M j
    ·exact hb j ((bor_bit hG M j).2 ⟨hm, u, q2, q3.1⟩)
    ·exact (hMN j (hG.adj_lt' q2)).resolve_left hm
   ·rw [cmp_bit]
    by_cases hm : bset B j
    ·exact .inr ((bor_bit hG B j).2 ⟨hm, u, q2, fun h => q3.2 (h1 u h)⟩)
    ·exact .inl ⟨hG.adj_lt' q2, hm⟩) 9
  have h6 : pc (cmp G (B &&& M) &&& (E &&& M)) 9 ≤ pc ((M &&& E) &&& (N ||| cmp G B)) 9 := pc_sub (fun j hj => by
   obtain ⟨q1, q2⟩ := (and_bset _ _ _).1 hj
   obtain ⟨q2, q3⟩ := (and_bset _ _ _).1 q2
   refine (and_bset _ _ _).2 ⟨(and_bset _ _ _).2 ⟨q3, q2⟩, (or_bset _ _ _).2 ?_⟩
   rw [cmp_bit] at q1
   rcases q1 with ⟨q4, q5⟩ | q4
   ·rw [and_bset] at q5
    exact .inr ((cmp_bit G B j).2 (.inl ⟨q4, fun h => q5 ⟨h, q3⟩⟩))
   ·obtain ⟨q5, u, q6, q7⟩ := (bor_bit hG _ j).1 q4
    obtain ⟨q5, _⟩ := (and_bset _ _ _).1 q5
    rw [and_bset] at q7
    by_cases hu : bset B u
    ·exact .inl (hb j ((bor_bit hG M j).2 ⟨q3, u, q6, fun h => q7 ⟨hu, h⟩⟩))
    ·exact .inr ((cmp_bit G B j).2 (.inr ((bor_bit hG B j).2 ⟨q5, u, q6, hu⟩)))) 9
  rw [Nat.and_comm] at h3
  omega
theorem least_of (Q : Nat → Prop) (f : Nat → Nat) (h : ∃ x, Q x) : ∃ x, Q x ∧ ∀ y, Q y → f x ≤ f y := by
 have key : ∀ d, ∀ x, Q x → f x ≤ d → ∃ x, Q x ∧ ∀ y, Q y → f x ≤ f y := by
  intro d
  induction d with
  | zero => exact fun x hx h0 => ⟨x, hx, fun y _ => by omega⟩
  | succ d ih =>
   intro x hx hd
   by_cases hy : ∃ y, Q y ∧ f y ≤ d
   ·obtain ⟨y, h1, h2⟩ := hy
    exact ih y h1 h2
   ·exact ⟨x, hx, fun y hq => Classical.byContradiction fun hn => hy ⟨y, hq, by omega⟩⟩
 obtain ⟨x, hx⟩ := h
 exact key (f x) x hx (Nat.le_refl _)
def Good (G : List Nat) (k A C : Nat) : Prop := ∃ A' C', Sub A' A ∧ Sm G k A' ∧ Sub C C' ∧ C' < 2 ^ G.length ∧ Mon G k A' C'
theorem Good.turn {m : Nat} {G : List Nat} (hG : Gr m G) {k A C D E : Nat} (h : Good G k A C) (h1 : Sep G k C D) (h2 : Sep G k E D) : Good G k A E := by
 obtain ⟨A', C', g1, g2, g3, g4, g5⟩ := h
 have hPC : Sub (cmp G D) C' := fun j hj => by
  rcases (cmp_bit G D j).1 hj with ⟨q1, q2⟩ | q
  ·exact g3 j ((h1.all j q1).resolve_right q2)
  ·exact g3 j (h1.bor2 hG j q)
 obtain ⟨M, ⟨m1, m2, m3⟩, m4⟩ := least_of (fun X => X < 2 ^ G.length ∧ Sub (cmp G D) X ∧ Sub X C') (fun X => pc (bor G X) 9) ⟨C', g4, hPC, Sub.refl _⟩
 have hmin : ∀ X, X < 2 ^ G.length → Sub X C' → pc (M &&& cmp G M) 9 ≤ pc (bor G (M ||| X)) 9 := fun X hX hXC => by
  rw [and_cmp hG]
  exact m4 _ ⟨or_lt m1 hX, fun j hj => (or_bset _ _ _).2 (.inl (m2 j hj)), fun j hj => ((or_bset _ _ _).1 hj).elim (m3 j) (hXC j)⟩
 have hMall : ∀ j, j < G.length → bset M j ∨ bset (cmp G M) j := fun j hj => by
  by_cases hb : bset M j
  ·exact .inl hb
  ·exact .inr ((cmp_bit G M j).2 (.inl ⟨hj, hb⟩))
 have hcut := Mon.cut hG m1 (cmp_lt hG M) hMall (fun j hj => (cmp_bit G M j).2 (.inr hj)) hmin g5 (Sub.refl _)
 have hCM : C' &&& M = M := sub_eq (fun j hj => ((and_bset _ _ _).1 hj).2) (fun j hj => (and_bset _ _ _).2 ⟨m3 j hj, hj⟩)
 rw [hCM] at hcut
 have hA'lt : A' &&& M < 2 ^ G.length := Nat.lt_of_le_of_lt Nat.and_le_left g2.1
 have hsm : Sm G k (A' &&& M) := by
  refine ⟨hA'lt, ?_⟩
  have hs := g2.sep hG
  have q0 := submod M (cmp G M) A' (cmp G A') 9 fun j _ => sides_same m1 (cmp_lt hG M) g2.1 (cmp_lt hG A') hMall hs.all j
  have q1 := hmin A' g2.1 g5.sub
  have q2 : pc (bor G (M ||| A')) 9 ≤ pc ((M ||| A') &&& (cmp G M &&& cmp G A')) 9 := pc_sub (fun j hj => by
   obtain ⟨r1, u, r2, r3⟩ := (bor_bit hG _ j).1 hj
   rw [or_bset, not_or] at r3
   refine (and_bset _ _ _).2 ⟨r1, (and_bset _ _ _).2 ⟨?_, ?_⟩⟩
   ·rw [cmp_bit]
    by_cases hm : bset M j
    ·exact .inr ((bor_bit hG M j).2 ⟨hm, u, r2, r3.1⟩)
    ·exact .inl ⟨hG.adj_lt' r2, hm⟩
   ·rw [cmp_bit]
    by_cases hm : bset A' j
    ·exact .inr ((bor_bit hG A' j).2 ⟨hm, u, r2, r3.2⟩)
    ·exact .inl ⟨hG.adj_lt' r2, hm⟩) 9
  have q3 : pc (bor G (A' &&& M)) 9 ≤ pc ((M &&& A') &&& (cmp G M ||| cmp G A')) 9 := pc_sub (fun j hj => by
   obtain ⟨r1, u, r2, r3⟩ := (bor_bit hG _ j).1 hj
   obtain ⟨r4, r5⟩ := (and_bset _ _ _).1 r1
   rw [and_bset] at r3
   refine (and_bset _ _ _).2 ⟨(and_bset _ _ _).2 ⟨r5, r4⟩, (or_bset _ _ _).2 ?_⟩
   by_cases hu : bset A' u
   ·exact .inl ((cmp_bit G M j).2 (.inr ((bor_bit hG M j).2 ⟨r5, u, r2, fun h => r3 ⟨hu, h⟩⟩)))
   ·exact .inr ((cmp_bit G A' j).2 (.inr ((bor_bit hG A' j).2 ⟨r4, u, r2, hu⟩)))) 9
  have q4 := g2.2
  rw [and_cmp hG A'] at q0
  omega
 refine ⟨A' &&& M, M ||| E, fun j hj => g1 j ((and_bset _ _ _).1 hj).1, hsm, fun j hj => (or_bset _ _ _).2 (.inr hj), or_lt m1 h2.la, .step hcut (fun j hj => (or_bset _ _ _).2 (.inl hj)) (or_lt m1 h2.la) ?_⟩
 have q0 := submod M (cmp G M) E D 9 fun j _ => sides_same m1 (cmp_lt hG M) h2.la h2.lb hMall h2.all j
 have q1 : pc (bor G M) 9 ≤ pc (bor G (M &&& E)) 9 := m4 _ ⟨Nat.lt_of_le_of_lt Nat.and_le_left m1, fun j hj => (and_bset _ _ _).2 ⟨m2 j hj, by
  rcases (cmp_bit G D j).1 hj with ⟨r1, r2⟩ | r
  ·exact (h2.all j r1).resolve_right r2
  ·exact h2.bor2 hG j r⟩, fun j hj => m3 j ((and_bset _ _ _).1 hj).1⟩
 have q2 : pc (bor G (M &&& E)) 9 ≤ pc ((M &&& E) &&& (cmp G M ||| D)) 9 := pc_sub (fun j hj => by
  obtain ⟨r1, u, r2, r3⟩ := (bor_bit hG _ j).1 hj
  obtain ⟨r4, r5⟩ := (and_bset _ _ _).1 r1
  rw [and_bset] at r3
  refine (and_bset _ _ _).2 ⟨r1, (or_bset _ _ _).2 ?_⟩
  by_cases hu : bset M u
  ·exact .inr (h2.bor j ((bor_bit hG E j).2 ⟨r5, u, r2, fun h => r3 ⟨hu, h⟩⟩))
  ·exact .inl ((cmp_bit G M j).2 (.inr ((bor_bit hG M j).2 ⟨r4, u, r2, hu⟩)))) 9
 have q3 : pc (cmp G M &&& (M ||| E)) 9 ≤ pc ((M ||| E) &&& (cmp G M &&& D)) 9 := pc_sub (fun j hj => by
  obtain ⟨r1, r2⟩ := (and_bset _ _ _).1 hj
  refine (and_bset _ _ _).2 ⟨r2, (and_bset _ _ _).2 ⟨r1, ?_⟩⟩
  apply Classical.byContradiction
  intro hD
  have hjn : j < G.length := bit_lt (cmp_lt hG M) r1
  have hjM : bset M j := m2 j ((cmp_bit G D j).2 (.inl ⟨hjn, hD⟩))
  obtain ⟨_, u, r4, r5⟩ := (bor_bit hG M j).1 (((cmp_bit G M j).1 r1).resolve_left fun h => h.2 hjM)
  have hu : ¬ bset (cmp G D) u := fun h => r5 (m2 u h)
  rw [cmp_bit, not_or] at hu
  have huD : bset D u := Classical.byContradiction fun h => hu.1 ⟨hG.adj_lt r4, h⟩
  exact hu.2 ((bor_bit hG D u).2 ⟨huD, j, hG.adj_symm r4, hD⟩)) 9
 have q4 := h2.card
 rw [and_cmp hG M] at q0
 omega
inductive Rch (G : List Nat) (k : Nat) (A : Nat) : Nat → Prop
 | base {X : Nat} : Sub X A → Sm G k X → Rch G k A X
 | down {X Y : Nat} : Rch G k A X → Sub Y X → Sm G k Y → Rch G k A Y
 | turn {C D E : Nat} : Rch G k A C → Sep G k C D → Sep G k E D → Rch G k A E
theorem Rch.good {m : Nat} {G : List Nat} (hG : Gr m G) {k A X : Nat} (h : Rch G k A X) : Good G k A X := by
 induction h with
 | @base X h1 h2 => exact ⟨X, X, h1, h2, Sub.refl _, h2.1, .refl⟩
 | down _ h1 _ ih =>
  obtain ⟨A', C', g1, g2, g3, g4⟩ := ih
  exact ⟨A', C', g1, g2, h1.trans g3, g4⟩
 | turn _ h1 h2 ih => exact ih.turn hG h1 h2
theorem Rch.sm {m : Nat} {G : List Nat} (hG : Gr m G) {k A X : Nat} (h : Rch G k A X) : Sm G k X := by
 induction h with
 | base _ h => exact h
 | down _ _ h _ => exact h
 | turn _ _ h _ => exact h.sm hG
theorem Rch.trans {G : List Nat} {k A X Y : Nat} (h : Rch G k A X) (h2 : Rch G k X Y) : Rch G k A Y := by
 induction h2 with
 | base h1 h2 => exact .down h h1 h2
 | down _ h1 h2 ih => exact .down ih h1 h2
 | turn _ h1 h2 ih => exact .turn ih h1 h2
theorem Rch.other {m : Nat} {G : List Nat} (hG : Gr m G) {k A A' Y B : Nat} (h : Sub A' A) (h1 : Sep G k A' Y) (h2 : Sep G k A B) : Rch G k Y B := by
 have hs := (h2.sm hG).sep hG
 have hc : Sub (cmp G A) Y := fun j hj => by
  rcases (cmp_bit G A j).1 hj with ⟨q1, q2⟩ | q
  ·exact (h1.all j q1).resolve_left fun hb => q2 (h j hb)
  ·obtain ⟨q1, u, q2, q3⟩ := (bor_bit hG A j).1 q
   by_cases hb : bset A' j
   ·exact h1.bor j ((bor_bit hG A' j).2 ⟨hb, u, q2, fun hu => q3 (h u hu)⟩)
   ·exact (h1.all j (hG.adj_lt' q2)).resolve_left hb
 exact .turn (.base hc ((hs.symm hG).sm hG)) (hs.symm hG) (h2.symm hG)
theorem Rch.self {m : Nat} {G : List Nat} (hG : Gr m G) {k A B : Nat} (h : Sep G k A B) : Rch G k A A := .base (Sub.refl _) (h.sm hG)
theorem Rch.skew {m : Nat} {G : List Nat} (hG : Gr m G) {k A B X : Nat} (h : Rch G k A X) (hAB : Sep G k A B) : ∀ Y, Sep G k X Y → Rch G k Y B := by
 induction h with
 | base h1 _ => exact fun Y hY => Rch.other hG h1 hY hAB
 | @down X Y' hX h1 h2 ih =>
  intro Z hZ
  have hs := (hX.sm hG).sep hG
  exact (Rch.other hG h1 hZ hs).trans (ih _ hs)
 | @turn C D E hC h1 h2 ih =>
  intro Z hZ
  exact (Rch.turn (Rch.self hG (hZ.symm hG)) (hZ.symm hG) (h2.symm hG)).trans (ih D h1)
theorem Mon.rch {m : Nat} {G : List Nat} (hG : Gr m G) {k A A' C : Nat} (h : Mon G k A' C) (h1 : Sub A' A) (h2 : Sm G k A') : Rch G k A C := by
 induction h with
 | refl => exact .base h1 h2
 | @step B E hB q1 q2 q3 ih => exact .turn ih ((ih.sm hG).sep hG) (step_sep hG q1 q2 q3)
structure Fam (G : List Nat) (k : Nat) (B : Nat → Prop) : Prop where
 sm : ∀ X, B X → Sm G k X
 zero : B 0
 down : ∀ X Y, B X → Sub Y X → Sm G k Y → B Y
 turn : ∀ C D E, B C → Sep G k C D → Sep G k E D → B E
 apart : ∀ X Y, Sep G k X Y → B X → ¬ B Y
theorem Fam.rch {G : List Nat} {k : Nat} {B : Nat → Prop} (h : Fam G k B) {A X : Nat} (hA : B A) (hX : Rch G k A X) : B X := by
 induction hX with
 | base h1 h2 => exact h.down _ _ hA h1 h2
 | down _ h1 h2 ih => exact h.down _ _ ih h1 h2
 | turn _ h1 h2 ih => exact h.turn _ _ _ ih h1 h2
theorem pc_zero (n : Nat) : pc 0 n = 0 := by
 induction n with
 | zero => rfl
 | succ n ih => simp [pc, ih]
theorem bor_zero {m : Nat} {G : List Nat} (hG : Gr m G) : bor G 0 = 0 := sub_eq (bor_sub hG 0) (zero_sub _)
theorem sep_zero {m : Nat} {G : List Nat} (hG : Gr m G) (k : Nat) : Sep G k 0 (2 ^ G.length - 1) :=
 ⟨Nat.two_pow_pos _, full_lt _, fun j hj => .inr ((full_bit _ _).2 hj), by rw [bor_zero hG]; exact zero_sub _, by rw [Nat.zero_and, pc_zero]; exact Nat.zero_le _⟩
theorem Fam.more {m : Nat} {G : List Nat} (hG : Gr m G) {k : Nat} {B : Nat → Prop} (h : Fam G k B) (hu : ∃ X Y, Sep G k X Y ∧ ¬ B X ∧ ¬ B Y) : ∃ B' : Nat → Prop, Fam G k B' ∧ (∀ X, B X → B' X) ∧ ∃ X, X < 2 ^ G.length ∧ B' X ∧ ¬ B X := by
 obtain ⟨A, ⟨C, hAC, hA, hC⟩, hmin⟩ := least_of (fun A => ∃ C, Sep G k A C ∧ ¬ B A ∧ ¬ B C) (fun A => pc (bor G A) 9) (by obtain ⟨X, Y, h⟩ := hu; exact ⟨X, Y, h⟩)
 have hAs := (hAC.sm hG).sep hG
 have hAc : ¬ B (cmp G A) := fun hb => hC (h.turn _ _ _ hb (hAs.symm hG) (hAC.symm hG))
 refine ⟨fun X => B X ∨ Rch G k A X, ⟨fun X hX => hX.elim (h.sm X) (fun hX => hX.sm hG), .inl h.zero, fun X Y hX h1 h2 => hX.imp (fun hX => h.down _ _ hX h1 h2) (fun hX => .down hX h1 h2), fun C D E hX h1 h2 => hX.imp (fun hX => h.turn _ _ _ hX h1 h2) (fun hX => .turn hX h1 h2), ?_⟩, fun X hX => .inl hX, A, hAC.la, .inr (Rch.self hG hAC), hA⟩
 have one : ∀ X Y, Sep G k X Y → B X → ¬ Rch G k A Y := fun X Y hXY hX hY => hAc (h.rch hX (hY.skew hG hAs X (hXY.symm hG)))
 rintro X Y hXY (hX | hX) (hY | hY)
 ·exact h.apart X Y hXY hX hY
 ·exact one X Y hXY hX hY
 ·exact one Y X (hXY.symm hG) hY hX
 ·-- A leads to its own other side
  have hAB : Rch G k A (cmp G A) := hX.trans (hY.skew hG hAs X (hXY.symm hG))
  obtain ⟨A', C', g1, g2, g3, g4, g5⟩ := hAB.good hG
  have hcard : pc (cmp G A &&& A) 9 = pc (bor G A) 9 := by rw [Nat.and_comm, and_cmp hG]
  have hbig : ∀ M, M < 2 ^ G.length → Sub (cmp G A) M → Sub M C' → pc (bor G A) 9 ≤ pc (bor G M) 9 := fun M hM h1 h2 => by
   apply Classical.byContradiction
   intro hlt
   have hsm : Sm G k M := ⟨hM, by have := (hAC.sm hG).2; omega⟩
   have hs := hsm.sep hG
   have hrM : Rch G k A M := .down (g5.rch hG g1 g2) h2 hsm
   have hM1 : ¬ B M := fun hb => hAc (h.down _ _ hb h1 ((hAs.symm hG).sm hG))
   have hM2 : ¬ B (cmp G M) := fun hb => hAc (h.rch hb (hrM.skew hG hAs _ hs))
   exact hlt (hmin M ⟨_, hs, hM1, hM2⟩)
  have hcut := Mon.cut hG (cmp_lt hG A) hAC.la (fun j hj => (hAs.all j hj).symm) (hAs.bor2 hG) (fun X hX hXC => by
   rw [hcard]
   exact hbig _ (or_lt (cmp_lt hG A) hX) (fun j hj => (or_bset _ _ _).2 (.inl hj)) (fun j hj => ((or_bset _ _ _).1 hj).elim (g3 j) (hXC j))) g5 (Sub.refl _)
  rw [show C' &&& cmp G A = cmp G A from sub_eq (fun j hj => ((and_bset _ _ _).1 hj).2) (fun j hj => (and_bset _ _ _).2 ⟨g3 j hj, hj⟩)] at hcut
  have hfirst : Mon G k 0 (A' &&& cmp G A) := .step .refl (zero_sub _) (Nat.lt_of_le_of_lt Nat.and_le_left g2.1) (by
   refine Nat.le_trans (pc_sub (fun j hj => ?_) 9) hAs.card
   obtain ⟨_, q⟩ := (and_bset _ _ _).1 hj
   obtain ⟨q1, q2⟩ := (and_bset _ _ _).1 q
   exact (and_bset _ _ _).2 ⟨g1 j q1, q2⟩)
  exact hAc (h.rch h.zero ((hfirst.trans hcut).rch hG (Sub.refl _) ((sep_zero hG k).sm hG)))
structure Blk (G : List Nat) (k : Nat) (B : Nat → Prop) : Prop where
 sm : ∀ X, B X → Sm G k X
 down : ∀ X Y, B X → Sub Y X → Sm G k Y → B Y
 one : ∀ X Y, Sep G k X Y → (B X ↔ ¬ B Y)
/-! Layouts and ways through. -/
theorem bag_bor {m : Nat} {G : List Nat} (hG : Gr m G) {B S E : Nat} (h1 : Sub B S) (h2 : Sub S E) : Sub (bor G S) (cmp G B &&& E) := fun j hj => by
 obtain ⟨q1, u, q2, q3⟩ := (bor_bit hG S j).1 hj
 refine (and_bset _ _ _).2 ⟨(cmp_bit G B j).2 ?_, h2 j q1⟩
 by_cases hb : bset B j
 ·exact .inr ((bor_bit hG B j).2 ⟨hb, u, q2, fun h => q3 (h1 u h)⟩)
 ·exact .inl ⟨hG.adj_lt' q2, hb⟩
theorem bag_less {m : Nat} {G : List Nat} (hG : Gr m G) (hm : m ≤ 9) {k B S E u : Nat} (h1 : Sub B S) (h2 : Sub S E) (hE : E < 2 ^ G.length) (hu : bset E u) (hS : ¬ bset S u) (h3 : pc (cmp G B &&& E) 9 ≤ k) : pc (bor G S) 9 + 1 ≤ k := by
 have hn := hG.most
 have hun := bit_lt hE hu
 have := pc_lt (x := bor G S) (y := cmp G B &&& E) u 9 (fun j _ hj => bag_bor hG h1 h2 j hj) (by omega) (by
  cases h : (bor G S).testBit u
  ·rfl
  ·exact (hS (bor_sub hG S u h)).elim) ((and_bset _ _ _).2 ⟨(cmp_bit G B u).2 (.inl ⟨hun, fun h => hS (h1 u h)⟩), hu⟩)
 omega
theorem not_sub {X Y : Nat} (h : ¬ Sub X Y) : ∃ u, bset X u ∧ ¬ bset Y u := Classical.byContradiction fun hn => h fun j hj => Classical.byContradiction fun hb => hn ⟨j, hj, hb⟩
theorem step_lay {m : Nat} {G : List Nat} (hG : Gr m G) (hm : m ≤ 9) {k B E : Nat} (hE : E < 2 ^ G.length) (h1 : Sub B E) (h3 : pc (cmp G B &&& E) 9 ≤ k + 1) (hL : Lay G k E) (hb : pc (bor G E) 9 ≤ k) : Lay G k B ∧ pc (bor G B) 9 ≤ k := by
 have hn := hG.most
 refine ⟨?_, ?_⟩
 ·have key : ∀ d S, pc (diff E S) 9 ≤ d → Sub B S → Sub S E → Lay G k S := by
   intro d
   induction d with
   | zero =>
    intro S hd hBS hSE
    by_cases he : Sub E S
    ·rw [sub_eq hSE he]; exact hL
    ·obtain ⟨v, h4, h5⟩ := not_sub he
     have := pc_lt (x := 0) (y := diff E S) v 9 (fun j _ hj => by simp at hj) (by have := bit_lt hE h4; omega) (by simp) ((diff_bset _ _ _).2 ⟨h4, h5⟩)
     omega
   | succ d ih =>
    intro S hd hBS hSE
    by_cases he : Sub E S
    ·rw [sub_eq hSE he]; exact hL
    ·obtain ⟨v, h4, h5⟩ := not_sub he
     have hv := bit_lt hE h4
     have hSE2 : Sub (S ||| 2 ^ v) E := fun j hj => by
      rcases (or_bset _ _ _).1 hj with h | h
      ·exact hSE j h
      ·rw [(two_pow_bit v j).1 h]; exact h4
     have hBS2 : Sub B (S ||| 2 ^ v) := fun j hj => (or_bset _ _ _).2 (.inl (hBS j hj))
     refine .step hv h5 ?_ (ih _ ?_ hBS2 hSE2)
     ·by_cases he2 : Sub E (S ||| 2 ^ v)
      ·rw [sub_eq hSE2 he2]; exact hb
      ·obtain ⟨u, h6, h7⟩ := not_sub he2
       have := bag_less hG hm hBS2 hSE2 hE h6 h7 h3
       omega
     ·have := pc_lt (x := diff E (S ||| 2 ^ v)) (y := diff E S) v 9 (fun j _ hj => by
       obtain ⟨q1, q2⟩ := (diff_bset _ _ _).1 hj
       exact (diff_bset _ _ _).2 ⟨q1, fun h => q2 ((or_bset _ _ _).2 (.inl h))⟩) (by omega) (by
       cases h : (diff E (S ||| 2 ^ v)).testBit v
       ·rfl
       ·exact (((diff_bset _ _ _).1 h).2 ((or_bset _ _ _).2 (.inr ((two_pow_bit v v).2 rfl)))).elim) ((diff_bset _ _ _).2 ⟨h4, h5⟩)
      omega
  exact key _ B (Nat.le_refl _) (Sub.refl _) h1
 ·by_cases he : Sub E B
  ·rw [sub_eq h1 he]; exact hb
  ·obtain ⟨u, h6, h7⟩ := not_sub he
   have := bag_less hG hm (Sub.refl B) h1 hE h6 h7 h3
   omega
theorem Mon.lay {m : Nat} {G : List Nat} (hG : Gr m G) (hm : m ≤ 9) {k A E : Nat} (h : Mon G (k + 1) A E) (hL : Lay G k E) (hb : pc (bor G E) 9 ≤ k) : Lay G k A ∧ pc (bor G A) 9 ≤ k := by
 induction h with
 | refl => exact ⟨hL, hb⟩
 | @step B E _ h1 h2 h3 ih =>
  obtain ⟨q1, q2⟩ := step_lay hG hm h2 h1 h3 hL hb
  exact ih q1 q2
theorem bor_full {m : Nat} {G : List Nat} (hG : Gr m G) : bor G (2 ^ G.length - 1) = 0 := sub_eq (fun j hj => by
 obtain ⟨_, u, h2, h3⟩ := (bor_bit hG _ j).1 hj
 exact (h3 ((full_bit _ _).2 (hG.adj_lt h2))).elim) (zero_sub _)
theorem mon_no {m : Nat} {G : List Nat} (hG : Gr m G) (hm : m ≤ 9) {x k : Nat} (hx : IsVs G x) (hk : k ≤ x) : ¬ Mon G k 0 (2 ^ G.length - 1) := by
 intro h
 cases k with
 | succ k =>
  have := (h.lay hG hm .done (by rw [bor_full hG, pc_zero]; exact Nat.zero_le _)).1
  have := (hx k).2 this
  omega
 | zero =>
  have key : ∀ E, Mon G 0 0 E → E = 0 := by
   intro E hE
   induction hE with
   | refl => rfl
   | @step B E _ h1 h2 h3 ih =>
    subst ih
    refine sub_eq (fun j hj => ?_) (zero_sub _)
    have hj2 := bit_lt h2 hj
    have hn := hG.most
    have := pc_lt (x := 0) (y := cmp G 0 &&& E) j 9 (fun i _ hi => by simp at hi) (by omega) (by simp) ((and_bset _ _ _).2 ⟨(cmp_bit G 0 j).2 (.inl ⟨hj2, fun h => by unfold bset at h; simp at h⟩), hj⟩)
    omega
  have h0 := key _ h
  have h1 := hG.pos
  have : 2 ^ 1 ≤ 2 ^ G.length := Nat.pow_le_pow_right (by omega) h1
  omega
theorem Blk.zero {m : Nat} {G : List Nat} (hG : Gr m G) {k : Nat} {B : Nat → Prop} (h : Blk G k B) : B 0 ∧ ¬ B (2 ^ G.length - 1) := by
 have hs := sep_zero hG k
 by_cases h0 : B 0
 ·exact ⟨h0, (h.one _ _ hs).1 h0⟩
 ·have hf : B (2 ^ G.length - 1) := Classical.byContradiction fun hf => h0 ((h.one _ _ hs).2 hf)
  exact (h0 (h.down _ _ hf (zero_sub _) (hs.sm hG))).elim
end Go.Proofs.YtijfddobandcdaaDoor.T
end
section
/- Lists that have the numbers below n, each once. -/
namespace Go.Proofs.YtijfddobandcdaaDoor.T
open Go.RowKit YtijfddobandcdaaDoorW.PrintWords YtijfddobandcdaaDoorW.PrintLast YtijfddobandcdaaDoorW.PrintMore
def IsOrd (n : Nat) (l : List Int) : Prop := ∃ P : List Nat, l = gi P ∧ P.Nodup ∧ (∀ v ∈ P, v < n) ∧ P.length = n
theorem gi_inj {a b : List Nat} (h : gi a = gi b) : a = b := by
 induction a generalizing b with
 | nil => cases b with
  | nil => rfl
  | cons => simp [gi] at h
 | cons x a ih => cases b with
  | nil => simp [gi] at h
  | cons y b =>
   simp only [gi, List.map_cons, List.cons.injEq] at h
   rw [ih (show gi a = gi b from h.2)]
   congr 1
   omega
theorem gi_mem {P : List Nat} {v : Nat} : (v : Int) ∈ gi P ↔ v ∈ P := by
 unfold gi
 rw [List.mem_map]
 exact ⟨fun ⟨a, h1, h2⟩ => by have : a = v := by omega
                              exact this ▸ h1, fun h => ⟨v, h, rfl⟩⟩
theorem IsOrd.of {n : Nat} {P : List Nat} (h1 : P.Nodup) (h2 : ∀ v ∈ P, v < n) : IsOrd n (gi P) ↔ P.length = n := by
 constructor
 ·rintro ⟨Q, e, _, _, h⟩
  rw [gi_inj e]; exact h
 ·intro h; exact ⟨P, rfl, h1, h2, h⟩
theorem IsOrd.length {n : Nat} {l : List Int} (h : IsOrd n l) : l.length = n := by
 obtain ⟨P, rfl, _, _, h⟩ := h
 rw [gi_length, h]
end Go.Proofs.YtijfddobandcdaaDoor.T
end
section
/- Path decompositions: bags in a row; the runs of a node; backward. -/
namespace Go.Proofs.YtijfddobandcdaaDoor.T
open Go.RowKit YtijfddobandcdaaDoorW.PrintWords YtijfddobandcdaaDoorW.PrintLast YtijfddobandcdaaDoorW.PrintMore
def starts (p : Bool) : List Bool → Nat
 | [] => 0
 | b :: L => (if b = true ∧ p = false then 1 else 0) + starts b L
theorem starts_true0 : ∀ L : List Bool, starts true L = 0 ↔ ∃ b c, L = List.replicate b true ++ List.replicate c false
 | [] => ⟨fun _ => ⟨0, 0, rfl⟩, fun _ => rfl⟩
 | true :: L => by
  simp only [starts]
  rw [if_neg (by simp), Nat.zero_add, starts_true0 L]
  constructor
  ·rintro ⟨b, c, rfl⟩; exact ⟨b + 1, c, by simp [List.replicate_succ]⟩
  ·rintro ⟨b, c, h⟩
   cases b with
   | zero => cases c <;> simp [List.replicate_succ] at h
   | succ b => simp [List.replicate_succ] at h; exact ⟨b, c, h⟩
 | false :: L => by
  simp only [starts]
  rw [if_neg (by simp), Nat.zero_add]
  have h0 : ∀ M : List Bool, starts false M = 0 ↔ ∃ c, M = List.replicate c false := by
   intro M
   induction M with
   | nil => exact ⟨fun _ => ⟨0, rfl⟩, fun _ => rfl⟩
   | cons x M ih =>
    cases x with
    | true => simp only [starts]; constructor
              ·intro h; simp at h
              ·rintro ⟨c, h⟩; cases c <;> simp [List.replicate_succ] at h
    | false => simp only [starts]; rw [if_neg (by simp), Nat.zero_add, ih]; constructor
               ·rintro ⟨c, rfl⟩; exact ⟨c + 1, by simp [List.replicate_succ]⟩
               ·rintro ⟨c, h⟩
                cases c with
                | zero => simp at h
                | succ c => simp [List.replicate_succ] at h; exact ⟨c, h⟩
  rw [h0 L]
  constructor
  ·rintro ⟨c, rfl⟩; exact ⟨0, c + 1, by simp [List.replicate_succ]⟩
  ·rintro ⟨b, c, h⟩
   cases b with
   | zero => cases c with
    | zero => simp at h
    | succ c => simp [List.replicate_succ] at h; exact ⟨c, h⟩
   | succ b => simp [List.replicate_succ] at h
def OneRun (L : List Bool) : Prop := ∃ a b c, L = List.replicate a false ++ (List.replicate (b + 1) true ++ List.replicate c false)
theorem starts_one : ∀ L : List Bool, starts false L = 1 ↔ OneRun L
 | [] => ⟨fun h => by simp [starts] at h, fun ⟨a, b, c, h⟩ => by simp [List.replicate_succ] at h⟩
 | true :: L => by
  simp only [starts]
  rw [if_pos (by simp)]
  have e : 1 + starts true L = 1 ↔ starts true L = 0 := by omega
  rw [e, starts_true0 L]
  constructor
  ·rintro ⟨b, c, rfl⟩; exact ⟨0, b, c, by simp [List.replicate_succ]⟩
  ·rintro ⟨a, b, c, h⟩
   cases a with
   | zero => simp [List.replicate_succ] at h; exact ⟨b, c, h⟩
   | succ a => simp [List.replicate_succ] at h
 | false :: L => by
  simp only [starts]
  rw [if_neg (by simp), Nat.zero_add, starts_one L]
  constructor
  ·rintro ⟨a, b, c, rfl⟩; exact ⟨a + 1, b, c, by simp [List.replicate_succ]⟩
  ·rintro ⟨a, b, c, h⟩
   cases a with
   | zero => simp [List.replicate_succ] at h
   | succ a => simp only [List.replicate_succ, List.cons_append, List.cons.injEq, true_and] at h; exact ⟨a, b, c, by rw [h, List.replicate_succ]; rfl⟩
def marks (v : Nat) (B : List Nat) : List Bool := B.map fun b => b.testBit v
structure PathDec (G : List Nat) (B : List Nat) : Prop where
 pos : 1 ≤ B.length
 most : B.length ≤ 30
 lt : ∀ b ∈ B, b < 2 ^ G.length
 run : ∀ v, v < G.length → OneRun (marks v B)
 edge : ∀ v u, v < G.length → Adj G v u → ∃ b ∈ B, bset b v ∧ bset b u
def mostOf (B : List Nat) : Nat := B.foldr (fun b m => max (pc b 9) m) 0
theorem mostOf_le {B : List Nat} {q : Nat} : mostOf B ≤ q ↔ ∀ b ∈ B, pc b 9 ≤ q := by
 unfold mostOf
 induction B with
 | nil => simp
 | cons b B ih => simp only [List.foldr_cons, Nat.max_le, ih, List.forall_mem_cons]
def left (v : Nat) : Nat → List Nat → Nat
 | s, [] => s
 | s, b :: B => left v (if b.testBit v then diff s b else s) B
theorem left_zero (v : Nat) : ∀ (B : List Nat) (s : Nat), left v s B = 0 ↔ ∀ u, bset s u → ∃ b ∈ B, bset b v ∧ bset b u
 | [], s => by
  simp only [left]
  constructor
  ·intro h u hu; rw [h] at hu; unfold bset at hu; simp at hu
  ·intro h
   apply Classical.byContradiction
   intro h0
   obtain ⟨i, hi⟩ := Nat.exists_testBit_of_ne_zero h0
   obtain ⟨b, hb, _⟩ := h i hi
   simp at hb
 | b :: B, s => by
  simp only [left]
  rw [left_zero v B]
  by_cases hb : b.testBit v = true
  ·rw [if_pos hb]
   constructor
   ·intro h u hu
    by_cases hbu : bset b u
    ·exact ⟨b, List.mem_cons_self, hb, hbu⟩
    ·obtain ⟨x, hx, h2⟩ := h u ((diff_bset _ _ _).2 ⟨hu, hbu⟩)
     exact ⟨x, List.mem_cons_of_mem _ hx, h2⟩
   ·intro h u hu
    obtain ⟨hu1, hu2⟩ := (diff_bset _ _ _).1 hu
    obtain ⟨x, hx, h2, h3⟩ := h u hu1
    rcases List.mem_cons.1 hx with e | e
    ·subst e; exact (hu2 h3).elim
    ·exact ⟨x, e, h2, h3⟩
  ·rw [if_neg hb]
   constructor
   ·intro h u hu
    obtain ⟨x, hx, h2⟩ := h u hu
    exact ⟨x, List.mem_cons_of_mem _ hx, h2⟩
   ·intro h u hu
    obtain ⟨x, hx, h2, h3⟩ := h u hu
    rcases List.mem_cons.1 hx with e | e
    ·subst e; exact (hb h2).elim
    ·exact ⟨x, e, h2, h3⟩
end Go.Proofs.YtijfddobandcdaaDoor.T
end
section
/- Path width beside width: a layout backward is an elimination order; no more than n - 1; what the bags of a path decomposition make of it. -/
namespace Go.Proofs.YtijfddobandcdaaDoor.T
open Go.RowKit YtijfddobandcdaaDoorW.PrintWords YtijfddobandcdaaDoorW.PrintLast YtijfddobandcdaaDoorW.PrintMore
theorem way_bor {G : List Nat} {S v u : Nat} (hv : ¬ bset S v) (h : Way (Adj G) (fun x => x < G.length ∧ ¬ bset (S ||| 2 ^ v) x) v u) : ∃ x, Adj G x u ∧ ¬ bset S x := by
 cases h with
 | one h => exact ⟨v, h, hv⟩
 | @more x _ _ hx ha => exact ⟨x, ha, fun hb => hx.2 (by rw [or_bset]; exact .inl hb)⟩
theorem lay_elim {m : Nat} {G : List Nat} (hG : Gr m G) (hm : m ≤ 9) {k S : Nat} (h : Lay G k S) : pc (bor G S) 9 ≤ k → Elim (fun u => u < G.length) (Adj G) k (fun u => u < G.length ∧ ¬ bset S u) := by
 have hn := hG.most
 induction h with
 | done =>
  intro _
  refine Elim.nil.ext fun u => ⟨fun h => h.elim, fun h => h.2 ((full_bit _ _).2 h.1)⟩
 | @step S v h1 h2 h3 _ ih =>
  intro hb
  refine (Elim.snoc v (ih h3) h1 (fun h => h.2 (by rw [or_bset, two_pow_bit]; exact .inr rfl)) ?_).ext fun u => ?_
  ·have hp : pc (bor G S) G.length ≤ k := by rw [← pc_nine (bor_lt G S) (by omega)]; exact hb
   refine ((atMost_pc (bor_lt G S)).2 hp).mono (Nat.le_refl _) fun u hu => ?_
   obtain ⟨hw, hs, hne⟩ := hu
   obtain ⟨x, ha, hx⟩ := way_bor h2 hw
   have hul : u < G.length := hG.adj_lt ha
   have hS : bset S u := by
    apply Classical.byContradiction
    intro hc
    refine hs ⟨hul, fun h => ?_⟩
    rw [or_bset, two_pow_bit] at h
    exact h.elim hc hne
   exact (bor_bit hG S u).2 ⟨hS, x, hG.adj_symm ha, hx⟩
  ·rw [or_bset, two_pow_bit]
   constructor
   ·rintro (⟨h, h'⟩ | h)
    ·exact ⟨h, fun e => h' (.inl e)⟩
    ·subst h; exact ⟨h1, h2⟩
   ·rintro ⟨h, h'⟩
    by_cases e : u = v
    ·exact .inr e
    ·exact .inl ⟨h, fun e' => e'.elim h' e⟩
theorem width_le_vs {m : Nat} {G : List Nat} (hG : Gr m G) (hm : m ≤ 9) {t w : Nat} (ht : IsWidth G t) (hw : IsVs G w) : t ≤ w := by
 refine (isWidth_iff.1 ht w).2 ?_
 refine (lay_elim hG hm ((hw w).1 (Nat.le_refl _)) (by rw [bor_zero hG]; exact Nat.le_trans (Nat.le_of_eq (by decide)) (Nat.zero_le _))).ext fun u => ?_
 exact ⟨fun h => h.1, fun h => ⟨h, by simp [bset]⟩⟩
theorem lay_most {m : Nat} {G : List Nat} (hG : Gr m G) (hm : m ≤ 9) (h1 : 1 ≤ G.length) : ∀ d S, 2 ^ G.length - S = d → S < 2 ^ G.length → Lay G (G.length - 1) S := by
 have hn := hG.most
 intro d
 induction d using Nat.strongRecOn with
 | _ d ih =>
  intro S hd hS
  by_cases h : S = 2 ^ G.length - 1
  ·rw [h]; exact .done
  ·obtain ⟨v, hv, hb⟩ := missing hS h
   have h1' := or_new hS hv
   have h2 := or_gt hb
   refine .step hv hb ?_ (ih _ (by omega) _ rfl h1')
   by_cases hf : S ||| 2 ^ v = 2 ^ G.length - 1
   ·have : bor G (S ||| 2 ^ v) = 0 := eq_of_bits fun j => by
     show bset _ _ ↔ bset _ _
     rw [bor_bit hG, hf]
     constructor
     ·rintro ⟨_, u, ha, hu⟩
      exact (hu ((full_bit _ _).2 (hG.adj_lt ha))).elim
     ·intro h; simp [bset] at h
    rw [this]
    have h5 : pc 0 9 = 0 := by decide
    omega
   ·obtain ⟨w, hw, hwb⟩ := missing h1' hf
    have h3 := pc_onto (x := bor G (S ||| 2 ^ v)) (y := 0) (n := 9) ((List.range G.length).erase w) id (fun j _ hj => .inl (by
     have hj' := (bor_bit hG _ _).1 hj
     have hjw : j ≠ w := fun e => hwb (e ▸ hj'.1)
     exact (List.mem_erase_of_ne hjw).2 (List.mem_range.2 (bit_lt (bor_lt G _) hj))))
    have h5 : pc 0 9 = 0 := by decide
    rw [List.length_erase_of_mem (List.mem_range.2 hw), List.length_range] at h3
    omega
theorem vs_most {m : Nat} {G : List Nat} (hG : Gr m G) (hm : m ≤ 9) (h1 : 1 ≤ G.length) {w : Nat} (hw : IsVs G w) : w ≤ G.length - 1 :=
 (hw _).2 (lay_most hG hm h1 _ 0 rfl (Nat.two_pow_pos _))
/-! The bags of a path decomposition, one after the other. -/
theorem OneRun.mid {L : List Bool} (h : OneRun L) {i j k : Nat} (hij : i ≤ j) (hjk : j ≤ k) (hi : L[i]? = some true) (hk : L[k]? = some true) : L[j]? = some true := by
 obtain ⟨a, b, c, rfl⟩ := h
 have key : ∀ i, (List.replicate a false ++ (List.replicate (b + 1) true ++ List.replicate c false))[i]? = some true ↔ a ≤ i ∧ i < a + (b + 1) := by
  intro i
  rw [List.getElem?_append, List.getElem?_append, List.getElem?_replicate, List.getElem?_replicate, List.getElem?_replicate]
  simp only [List.length_replicate]
  by_cases h1 : i < a
  ·simp [h1]; omega
  ·by_cases h2 : i - a < b + 1
   ·simp [h1, h2]; omega
   ·simp [h1, h2]; omega
 rw [key] at *
 omega
theorem OneRun.ones {L : List Bool} (h : OneRun L) : ∃ i : Nat, L[i]? = some true := by
 obtain ⟨a, b, c, rfl⟩ := h
 exact ⟨a, by rw [List.getElem?_append_right (by simp), List.getElem?_append_left (by simp)]; simp⟩
theorem marks_get {v : Nat} {B : List Nat} {i : Nat} : (marks v B)[i]? = some true ↔ ∃ b, B[i]? = some b ∧ bset b v := by
 unfold marks
 rw [List.getElem?_map]
 cases h : B[i]? with
 | none => simp
 | some b => simp [bset]
def unions : List Nat → Nat
 | [] => 0
 | b :: B => b ||| unions B
theorem unions_bit (v : Nat) : ∀ B : List Nat, bset (unions B) v ↔ ∃ b ∈ B, bset b v
 | [] => by simp [unions, bset]
 | b :: B => by
  show bset (b ||| unions B) v ↔ _
  rw [or_bset, unions_bit v B]
  simp
theorem unions_lt {n : Nat} {B : List Nat} (h : ∀ b ∈ B, b < 2 ^ n) : unions B < 2 ^ n := lt_of_bits fun j hj => by
 obtain ⟨b, hb, hj⟩ := (unions_bit j B).1 hj
 exact bit_lt (h b hb) hj
theorem mem_take_get {B : List Nat} {i : Nat} {b : Nat} (h : b ∈ B.take i) : ∃ j, j < i ∧ B[j]? = some b := by
 obtain ⟨j, hj⟩ := List.mem_iff_getElem?.1 h
 rw [List.getElem?_take] at hj
 by_cases h : j < i
 ·rw [if_pos h] at hj; exact ⟨j, h, hj⟩
 ·rw [if_neg h] at hj; cases hj
theorem path_mon {m : Nat} {G B : List Nat} (hG : Gr m G) (hm : m ≤ 9) (h : PathDec G B) : ∀ i, i ≤ B.length → Mon G (mostOf B) 0 (unions (B.take i)) := by
 intro i
 induction i with
 | zero => intro _; exact .refl
 | succ i ih =>
  intro hi
  have hB : B[i]? = some B[i] := List.getElem?_eq_getElem (by omega)
  have ht : B.take (i + 1) = B.take i ++ [B[i]] := by rw [List.take_add_one, hB]; rfl
  have hlt : ∀ j, ∀ b ∈ B.take j, b < 2 ^ G.length := fun j b hb => h.lt b (List.mem_of_mem_take hb)
  refine .step (ih (by omega)) ?_ (unions_lt (hlt _)) ?_
  ·intro v hv
   obtain ⟨b, hb, hv⟩ := (unions_bit v _).1 hv
   exact (unions_bit v _).2 ⟨b, by rw [ht]; exact List.mem_append_left _ hb, hv⟩
  ·refine Nat.le_trans ?_ (mostOf_le.1 (Nat.le_refl (mostOf B)) B[i] (List.getElem_mem _))
   refine pc_onto0 id fun v hv hc => ⟨v, hv, ?_, rfl⟩
   rw [and_bset, cmp_bit] at hc
   obtain ⟨hc, hE⟩ := hc
   have hE' : bset (unions (B.take i)) v ∨ bset B[i] v := by
    obtain ⟨b, hb, hbv⟩ := (unions_bit v _).1 hE
    rw [ht, List.mem_append, List.mem_singleton] at hb
    rcases hb with hb | hb
    ·exact .inl ((unions_bit v _).2 ⟨b, hb, hbv⟩)
    ·subst hb; exact .inr hbv
   rcases hE' with hA | hB2
   ·rcases hc with hc | hc
    ·exact (hc.2 hA).elim
    ·obtain ⟨_, u, ha, hu⟩ := (bor_bit hG _ _).1 hc
     obtain ⟨b, hb, hbv, hbu⟩ := h.edge v u (hG.adj_lt' ha) ha
     obtain ⟨e, he⟩ := List.mem_iff_getElem?.1 hb
     obtain ⟨b', hb', hbv'⟩ := (unions_bit v _).1 hA
     obtain ⟨e', hlt', he'⟩ := mem_take_get hb'
     have hei : i ≤ e := by
      apply Classical.byContradiction
      intro hc
      exact hu ((unions_bit u _).2 ⟨b, List.mem_of_getElem? (i := e) (by rw [List.getElem?_take, if_pos (by omega)]; exact he), hbu⟩)
     have := (h.run v (hG.adj_lt' ha)).mid (i := e') (j := i) (k := e) (by omega) hei (marks_get.2 ⟨b', he', hbv'⟩) (marks_get.2 ⟨b, he, hbv⟩)
     obtain ⟨b2, h2, h3⟩ := marks_get.1 this
     rw [hB] at h2
     cases h2
     exact h3
   ·exact hB2
theorem path_all {G B : List Nat} (h : PathDec G B) : unions B = 2 ^ G.length - 1 := eq_of_bits fun j => by
 show bset _ _ ↔ bset _ _
 rw [full_bit]
 constructor
 ·intro hj; exact bit_lt (unions_lt h.lt) hj
 ·intro hj
  obtain ⟨i, hi⟩ := OneRun.ones (h.run j hj)
  obtain ⟨b, hb, hv⟩ := marks_get.1 hi
  exact (unions_bit j B).2 ⟨b, List.mem_of_getElem? hb, hv⟩
theorem vs_lt_most {m : Nat} {G B : List Nat} (hG : Gr m G) (hm : m ≤ 9) (h : PathDec G B) {w : Nat} (hw : IsVs G w) : w + 1 ≤ mostOf B := by
 apply Classical.byContradiction
 intro hc
 have h1 := path_mon hG hm h B.length (Nat.le_refl _)
 rw [List.take_length, path_all h] at h1
 exact mon_no hG hm hw (show mostOf B ≤ w by omega) h1
end Go.Proofs.YtijfddobandcdaaDoor.T
end
section
/- isPath, Check: path decompositions and their width. -/
namespace Go.Proofs.YtijfddobandcdaaDoor.X
open Go.RowKit YtijfddobandcdaaDoorW.PrintWords YtijfddobandcdaaDoorW.PrintLast YtijfddobandcdaaDoorW.PrintMore YtijfddobandcdaaDoor.T
theorem rd_mem {l : List Int} {i : Nat} (h : i < l.length) : rd l (i : Int) = l[i] := by unfold rd; rw [Int.toNat_natCast, List.getD_eq_getElem?_getD, List.getElem?_eq_getElem h]; rfl
theorem min_l0 (l : List Int) (hl : l.length < 2 ^ 60) : ∀ (d i : Nat) (m : Int), i + d = l.length → ∃ r, Ev (fun k => slices_Min_int_int.l0 k l m (i : Int)) r ∧ (r = m ∨ r ∈ l) ∧ r ≤ m ∧ ∀ x ∈ l.drop i, r ≤ x := by
 intro d
 induction d with
 | zero =>
  intro i m hi
  refine ⟨m, Ev.step (f := fun _ => some m) (fun k => by rw [slices_Min_int_int.l0, if_neg (by omega)]) (Ev.some rfl), .inl rfl, Int.le_refl _, ?_⟩
  rw [List.drop_eq_nil_of_le (by omega)]
  simp
 | succ d ih =>
  intro i m hi
  have hi' : i < l.length := by omega
  obtain ⟨r, h1, h2, h3, h4⟩ := ih (i + 1) (mn m l[i]) (by omega)
  have hmn : mn m l[i] ≤ m ∧ mn m l[i] ≤ l[i] ∧ (mn m l[i] = m ∨ mn m l[i] = l[i]) := by unfold mn; split <;> omega
  refine ⟨r, Ev.step (fun k => by rw [slices_Min_int_int.l0, if_pos (by omega), if_pos (by omega), rd_mem hi', wrap_succ i (by omega)]) h1, ?_, by omega, ?_⟩
  ·rcases h2 with h | h
   ·rcases hmn.2.2 with e | e
    ·exact .inl (by omega)
    ·exact .inr (by rw [h, e]; exact List.getElem_mem hi')
   ·exact .inr h
  ·rw [List.drop_eq_getElem_cons hi']
   intro x hx
   rcases List.mem_cons.1 hx with e | e
   ·rw [e]; omega
   ·exact h4 x e
theorem max_l0 (l : List Int) (hl : l.length < 2 ^ 60) : ∀ (d i : Nat) (m : Int), i + d = l.length → ∃ r, Ev (fun k => slices_Max_int_int.l0 k l m (i : Int)) r ∧ (r = m ∨ r ∈ l) ∧ m ≤ r ∧ ∀ x ∈ l.drop i, x ≤ r := by
 intro d
 induction d with
 | zero =>
  intro i m hi
  refine ⟨m, Ev.step (f := fun _ => some m) (fun k => by rw [slices_Max_int_int.l0, if_neg (by omega)]) (Ev.some rfl), .inl rfl, Int.le_refl _, ?_⟩
  rw [List.drop_eq_nil_of_le (by omega)]
  simp
 | succ d ih =>
  intro i m hi
  have hi' : i < l.length := by omega
  obtain ⟨r, h1, h2, h3, h4⟩ := ih (i + 1) (mx m l[i]) (by omega)
  have hmn : m ≤ mx m l[i] ∧ l[i] ≤ mx m l[i] ∧ (mx m l[i] = m ∨ mx m l[i] = l[i]) := by unfold mx; split <;> omega
  refine ⟨r, Ev.step (fun k => by rw [slices_Max_int_int.l0, if_pos (by omega), if_pos (by omega), rd_mem hi', wrap_succ i (by omega)]) h1, ?_, by omega, ?_⟩
  ·rcases h2 with h | h
   ·rcases hmn.2.2 with e | e
    ·exact .inl (by omega)
    ·exact .inr (by rw [h, e]; exact List.getElem_mem hi')
   ·exact .inr h
  ·rw [List.drop_eq_getElem_cons hi']
   intro x hx
   rcases List.mem_cons.1 hx with e | e
   ·rw [e]; omega
   ·exact h4 x e
theorem min_ev (l : List Int) (h1 : 1 ≤ l.length) (hl : l.length < 2 ^ 60) : ∃ r, Ev (fun k => slices_Min_int_int.f k l) r ∧ r ∈ l ∧ ∀ x ∈ l, r ≤ x := by
 obtain ⟨r, h2, h3, h4, h5⟩ := min_l0 l hl (l.length - 1) 1 (rd l 0) (by omega)
 have e : rd l 0 = l[0] := rd_mem (i := 0) (by omega)
 refine ⟨r, ?_, ?_, ?_⟩
 ·unfold slices_Min_int_int.f
  exact Ev.if_neg (by omega) (Ev.if_pos (by omega) h2)
 ·rcases h3 with h | h
  ·rw [h, e]; exact List.getElem_mem _
  ·exact h
 ·intro x hx
  rw [← List.drop_zero (l := l), List.drop_eq_getElem_cons (show 0 < l.length by omega)] at hx
  rcases List.mem_cons.1 hx with h | h
  ·rw [h, ← e]; exact h4
  ·exact h5 x h
theorem max_ev (l : List Int) (h1 : 1 ≤ l.length) (hl : l.length < 2 ^ 60) : ∃ r, Ev (fun k => slices_Max_int_int.f k l) r ∧ r ∈ l ∧ ∀ x ∈ l, x ≤ r := by
 obtain ⟨r, h2, h3, h4, h5⟩ := max_l0 l hl (l.length - 1) 1 (rd l 0) (by omega)
 have e : rd l 0 = l[0] := rd_mem (i := 0) (by omega)
 refine ⟨r, ?_, ?_, ?_⟩
 ·unfold slices_Max_int_int.f
  exact Ev.if_neg (by omega) (Ev.if_pos (by omega) h2)
 ·rcases h3 with h | h
  ·rw [h, e]; exact List.getElem_mem _
  ·exact h
 ·intro x hx
  rw [← List.drop_zero (l := l), List.drop_eq_getElem_cons (show 0 < l.length by omega)] at hx
  rcases List.mem_cons.1 hx with h | h
  ·rw [h, ← e]; exact h4
  ·exact h5 x h
def ahead (v : Nat) (B : List Nat) (i : Nat) : Bool := if i = 0 then false else (B.getD (i - 1) 0).testBit v
theorem isPath_l1 (G : List Nat) (hG : Gr 7 G) (B : List Nat) (hB : ∀ b ∈ B, b < 2 ^ G.length) (h30 : B.length ≤ 30) (v : Nat) (hv : v < G.length) (r : Bool)
  (cont : Ev (fun k => sweep_town_isPath.l0 k (gi B) (gi G) (G.length : Int) ((v + 1 : Nat) : Int)) r) : ∀ (d i s c : Nat), i + d = B.length → s < 2 ^ G.length → c ≤ i →
  Ev (fun k => sweep_town_isPath.l1 k (gi B) (v : Int) (s : Int) (c : Int) (gi G) (G.length : Int) (v : Int) (gi B) (B.length : Int) (i : Int)) (decide (c + starts (ahead v B i) (marks v (B.drop i)) = 1 ∧ T.left v s (B.drop i) = 0) && r) := by
 have hn := hG.most
 intro d
 induction d with
 | zero =>
  intro i s c hi hs hc
  rw [List.drop_eq_nil_of_le (by omega)]
  simp only [marks, List.map_nil, starts, T.left, Nat.add_zero]
  by_cases h1 : c = 1
  ·by_cases h2 : s = 0
   ·refine Ev.step (fun k => by rw [sweep_town_isPath.l1, if_neg (by omega), if_pos (by omega), if_pos (by omega), wrap_succ v (by omega)]) ?_
    rw [decide_eq_true ⟨h1, h2⟩, Bool.true_and]
    exact cont
   ·refine Ev.step (f := fun _ => some false) (fun k => by rw [sweep_town_isPath.l1, if_neg (by omega), if_pos (by omega), if_neg (by omega)]) (Ev.some ?_)
    rw [decide_eq_false (fun h => h2 h.2), Bool.false_and]
  ·refine Ev.step (f := fun _ => some false) (fun k => by rw [sweep_town_isPath.l1, if_neg (by omega), if_neg (by omega)]) (Ev.some ?_)
   rw [decide_eq_false (fun h => h1 h.1), Bool.false_and]
 | succ d ih =>
  intro i s c hi hs hc
  have HS := Aside0.mk hs
  clear hs
  have hi' : i < B.length := by omega
  have hwi := wrap_succ i (by omega)
  have hwc := wrap_succ c (by omega)
  have hb2 := hB _ (List.getElem_mem hi')
  have hr : rd (gi B) (i : Int) = ((B[i] : Nat) : Int) := by rw [rd_gi, List.getD_eq_getElem?_getD, List.getElem?_eq_getElem hi']; rfl
  have hb62 := big (small G (by omega) hb2)
  have hs62 := big (small G (by omega) HS.out)
  have hget : B.getD i 0 = B[i] := by rw [List.getD_eq_getElem?_getD, List.getElem?_eq_getElem hi']; rfl
  have hah : ahead v B (i + 1) = B[i].testBit v := by unfold ahead; rw [if_neg (by omega), Nat.add_sub_cancel, hget]
  rw [List.drop_eq_getElem_cons hi']
  simp only [marks, List.map_cons, starts, T.left]
  have hd := Aside0.mk (show diff s B[i] < 2 ^ G.length from Nat.lt_of_le_of_lt (diff_le _ _) HS.out)
  clear hb2
  by_cases hb : B[i].testBit v = true
  ·have hbit : Go.bits .and .i64 (shr .i64 ((B[i] : Nat) : Int) (v : Int)) 1 = 1 := (bit_one _ v hb62 (by omega)).2 hb
   rw [if_pos hb]
   have next : ∀ c' : Nat, c' ≤ i + 1 → Ev (fun k => sweep_town_isPath.l1 k (gi B) (v : Int) ((diff s B[i] : Nat) : Int) (c' : Int) (gi G) (G.length : Int) (v : Int) (gi B) (B.length : Int) ((i + 1 : Nat) : Int)) (decide (c' + starts (B[i].testBit v) ((B.drop (i + 1)).map fun b => b.testBit v) = 1 ∧ T.left v (diff s B[i]) (B.drop (i + 1)) = 0) && r) := fun c' h' => by
    have := ih (i + 1) (diff s B[i]) c' (by omega) hd.out h'
    rw [hah] at this
    exact this
   by_cases hp : ahead v B i = true
   ·have hi0 : i ≠ 0 := fun e => by rw [e] at hp; simp [ahead] at hp
    have hpr : (B.getD (i - 1) 0).testBit v = true := by unfold ahead at hp; rw [if_neg hi0] at hp; exact hp
    have hp2 : B.getD (i - 1) 0 < 2 ^ 62 := by
     rw [List.getD_eq_getElem?_getD, List.getElem?_eq_getElem (by omega)]
     exact big (small G (by omega) (hB _ (List.getElem_mem _)))
    refine Ev.step (f := fun k => sweep_town_isPath.j3 k (gi B) (v : Int) (s : Int) (c : Int) ((B[i] : Nat) : Int) (gi G) (G.length : Int) (v : Int) (gi B) (B.length : Int) (i : Int) false) (fun k => ?_) ?_
    ·rw [sweep_town_isPath.l1, if_pos (by omega), if_pos (by omega), if_pos (by rw [gi_length]; omega), if_pos (by omega), hr, if_pos hbit, if_neg (by omega), wrap_pred i (by omega) (by omega), if_pos (by omega), if_pos (by rw [gi_length]; omega), rd_gi, bit_at _ v hp2 (by omega), hpr]
     rfl
    ·refine Ev.step (fun k => by rw [sweep_town_isPath.j3, if_neg (by simp), if_pos (by omega), if_pos hbit, b_andNot _ _ hs62 hb62, hwi]) ?_
     have := next c (by omega)
     simpa [hp] using this
   ·have hp' : ahead v B i = false := by simpa using hp
    refine Ev.step (f := fun k => sweep_town_isPath.j3 k (gi B) (v : Int) (s : Int) (c : Int) ((B[i] : Nat) : Int) (gi G) (G.length : Int) (v : Int) (gi B) (B.length : Int) (i : Int) true) (fun k => ?_) ?_
    ·rw [sweep_town_isPath.l1, if_pos (by omega), if_pos (by omega), if_pos (by rw [gi_length]; omega), if_pos (by omega), hr, if_pos hbit]
     by_cases hi0 : i = 0
     ·rw [if_pos (by omega)]
     ·have hpr : (B.getD (i - 1) 0).testBit v = false := by unfold ahead at hp'; rw [if_neg hi0] at hp'; exact hp'
      have hp2 : B.getD (i - 1) 0 < 2 ^ 62 := by
       rw [List.getD_eq_getElem?_getD, List.getElem?_eq_getElem (by omega)]
       exact big (small G (by omega) (hB _ (List.getElem_mem _)))
      rw [if_neg (by omega), wrap_pred i (by omega) (by omega), if_pos (by omega), if_pos (by rw [gi_length]; omega), rd_gi, bit_at _ v hp2 (by omega), hpr]
      rfl
    ·refine Ev.step (fun k => by rw [sweep_town_isPath.j3, if_pos rfl, if_pos (by omega), if_pos hbit, b_andNot _ _ hs62 hb62, hwi, hwc]) ?_
     have := next (c + 1) (by omega)
     rw [hb] at this
     rw [hp', hb, if_pos ⟨rfl, rfl⟩, ← Nat.add_assoc]
     exact this
  ·have hb' : B[i].testBit v = false := by simpa using hb
   have hbit : ¬ Go.bits .and .i64 (shr .i64 ((B[i] : Nat) : Int) (v : Int)) 1 = 1 := fun h => hb ((bit_one _ v hb62 (by omega)).1 h)
   rw [if_neg hb]
   refine Ev.step (f := fun k => sweep_town_isPath.j3 k (gi B) (v : Int) (s : Int) (c : Int) ((B[i] : Nat) : Int) (gi G) (G.length : Int) (v : Int) (gi B) (B.length : Int) (i : Int) false) (fun k => ?_) ?_
   ·rw [sweep_town_isPath.l1, if_pos (by omega), if_pos (by omega), if_pos (by rw [gi_length]; omega), if_pos (by omega), hr, if_neg hbit]
   ·refine Ev.step (fun k => by rw [sweep_town_isPath.j3, if_neg (by simp), if_pos (by omega), if_neg hbit, hwi]) ?_
    have := ih (i + 1) s c (by omega) HS.out (by omega)
    rw [hah, hb'] at this
    rw [hb', if_neg (by simp), Nat.zero_add]
    exact this
def fits (G B : List Nat) (v : Nat) : Bool := decide (starts false (marks v B) = 1 ∧ T.left v (G.getD v 0) B = 0)
theorem isPath_l0 (G : List Nat) (hG : Gr 7 G) (B : List Nat) (hB : ∀ b ∈ B, b < 2 ^ G.length) (h30 : B.length ≤ 30) : ∀ (d v : Nat), v + d = G.length →
  Ev (fun k => sweep_town_isPath.l0 k (gi B) (gi G) (G.length : Int) (v : Int)) (allFrom (fits G B) G.length d v) := by
 have hn := hG.most
 intro d
 induction d with
 | zero => intro v hv; exact Ev.step (f := fun _ => some true) (fun k => by rw [sweep_town_isPath.l0, if_neg (by omega)]) (Ev.some rfl)
 | succ d ih =>
  intro v hv
  have := isPath_l1 G hG B hB h30 v (by omega) _ (ih (v + 1) (by omega)) B.length 0 (G.getD v 0) 0 (by omega) (hG.row v) (Nat.le_refl _)
  refine Ev.step (fun k => by rw [sweep_town_isPath.l0, if_pos (by omega), if_pos (by omega), if_pos (by rw [gi_length]; omega), rd_gi, gi_length]) ?_
  simp only [allFrom, fits]
  rw [Nat.zero_add, List.drop_zero] at this
  exact this
theorem fits_iff (G B : List Nat) (h1 : 1 ≤ B.length) (h30 : B.length ≤ 30) (hB : ∀ b ∈ B, b < 2 ^ G.length) : allFrom (fits G B) G.length G.length 0 = true ↔ PathDec G B := by
 rw [allFrom_iff]
 simp only [fits, decide_eq_true_eq, starts_one, left_zero]
 constructor
 ·intro h
  exact ⟨h1, h30, hB, fun v hv => (h v (by omega) (by omega)).1, fun v u hv ha => (h v (by omega) (by omega)).2 u ha⟩
 ·intro h v _ hv
  exact ⟨h.run v (by omega), fun u ha => h.edge v u (by omega) ha⟩
def IsPathL (G : List Nat) (l : List Int) : Prop := ∃ B, l = gi B ∧ PathDec G B
theorem isPath_ev (G : List Nat) (hG : Gr 7 G) (l : List Int) (hl : l.length < 2 ^ 60) : ∃ r, Ev (fun k => sweep_town_isPath.f k (gi G) l) r ∧ (r = true ↔ IsPathL G l) := by
 have hn := hG.most
 have bad : ¬ IsPathL G l → Ev (fun k => sweep_town_isPath.f k (gi G) l) false → ∃ r, Ev (fun k => sweep_town_isPath.f k (gi G) l) r ∧ (r = true ↔ IsPathL G l) := fun h1 h2 => ⟨false, h2, by simp [h1]⟩
 have stop : Ev (fun k => sweep_town_isPath.j0 k (gi G) l true) false := Ev.step (f := fun _ => some false) (fun k => by rw [sweep_town_isPath.j0, if_pos rfl]) (Ev.some rfl)
 have h29 : 2 ^ G.length ≤ 2 ^ 9 := Nat.pow_le_pow_right (by omega) (by omega)
 have h2p := Nat.two_pow_pos G.length
 have hall : sweep_town_all.f (gi G) = some ((2 ^ G.length - 1 : Nat) : Int) := by
  unfold sweep_town_all.f
  rw [gi_length, s_one _ (by omega), w64_small _ (by omega) (by omega)]
  congr 1
  omega
 by_cases h1 : 1 ≤ l.length
 ·by_cases h30 : l.length ≤ 30
  ·obtain ⟨mi, hmi, hmi2, hmi3⟩ := min_ev l h1 (by omega)
   obtain ⟨ma, hma, hma2, hma3⟩ := max_ev l h1 (by omega)
   by_cases h0 : mi < 0
   ·refine bad ?_ ?_
    ·rintro ⟨B, rfl, _⟩
     unfold gi at hmi2
     obtain ⟨x, _, hx⟩ := List.mem_map.1 hmi2
     omega
    ·unfold sweep_town_isPath.f
     exact Ev.if_neg (by omega) (Ev.if_neg (by omega) (Ev.bind hmi (Ev.if_pos h0 stop)))
   ·obtain ⟨B, rfl⟩ := gi_nonneg l (fun x hx => by have := hmi3 x hx; omega)
    rw [gi_length] at h1 h30
    by_cases h2 : ma > ((2 ^ G.length - 1 : Nat) : Int)
    ·refine bad ?_ ?_
     ·rintro ⟨B', e, h⟩
      rw [← gi_inj e] at h
      obtain ⟨x, hx, rfl⟩ := List.mem_map.1 hma2
      have := h.lt x hx
      omega
     ·unfold sweep_town_isPath.f
      refine Ev.if_neg (by rw [gi_length]; omega) (Ev.if_neg (by rw [gi_length]; omega) (Ev.bind hmi (Ev.if_neg h0 (Ev.bind hma (Ev.bind1 hall ?_)))))
      rw [decide_eq_true h2]
      exact stop
    ·have hB : ∀ b ∈ B, b < 2 ^ G.length := fun b hb => by have := hma3 b (gi_mem.2 hb); omega
     refine ⟨allFrom (fits G B) G.length G.length 0, ?_, ?_⟩
     ·unfold sweep_town_isPath.f
      refine Ev.if_neg (by rw [gi_length]; omega) (Ev.if_neg (by rw [gi_length]; omega) (Ev.bind hmi (Ev.if_neg h0 (Ev.bind hma (Ev.bind1 hall ?_)))))
      rw [decide_eq_false h2]
      refine Ev.step (fun k => by rw [sweep_town_isPath.j0, if_neg (by simp)]) ?_
      rw [gi_length]
      exact isPath_l0 G hG B hB h30 G.length 0 (by omega)
     ·rw [fits_iff G B h1 h30 hB]
      exact ⟨fun h => ⟨B, rfl, h⟩, fun ⟨B', e, h⟩ => by rw [gi_inj e]; exact h⟩
  ·refine bad ?_ ?_
   ·rintro ⟨B, rfl, h⟩
    have := h.most
    rw [gi_length] at h30
    omega
   ·unfold sweep_town_isPath.f
    exact Ev.if_neg (by omega) (Ev.if_pos (by omega) stop)
 ·refine bad ?_ ?_
  ·rintro ⟨B, rfl, h⟩
   have := h.pos
   rw [gi_length] at h1
   omega
  ·unfold sweep_town_isPath.f
   exact Ev.if_pos (by omega) stop
theorem check_l0 (G : List Nat) (hG : Gr 7 G) (B : List Nat) (hB : ∀ b ∈ B, b < 2 ^ G.length) (h30 : B.length ≤ 30) : ∀ (d i m : Nat), i + d = B.length → m ≤ 9 →
  Ev (fun k => sweep_Check.l0 k (m : Int) (gi B) (B.length : Int) (i : Int)) (((max m (mostOf (B.drop i)) : Nat) : Int) - 1, true, 0) := by
 have hn := hG.most
 intro d
 induction d with
 | zero =>
  intro i m hi hm
  refine Ev.step (f := fun _ => some ((m : Int) - 1, true, 0)) (fun k => by rw [sweep_Check.l0, if_neg (by omega), w64_small _ (by omega) (by omega)]) (Ev.some ?_)
  rw [List.drop_eq_nil_of_le (by omega)]
  simp [mostOf]
 | succ d ih =>
  intro i m hi hm
  have hi' : i < B.length := by omega
  have hb2 := hB _ (List.getElem_mem hi')
  have hr : rd (gi B) (i : Int) = ((B[i] : Nat) : Int) := by rw [rd_gi, List.getD_eq_getElem?_getD, List.getElem?_eq_getElem hi']; rfl
  have hp := pc_le B[i] 9
  refine Ev.step (f := fun k => (sweep_count.f ((B[i] : Nat) : Int)).bind fun t => sweep_Check.l0 k (mx (m : Int) t) (gi B) (B.length : Int) ((i + 1 : Nat) : Int)) (fun k => ?_) ?_
  ·rw [sweep_Check.l0, if_pos (by omega), if_pos (by omega), if_pos (by rw [gi_length]; omega), hr, wrap_succ i (by omega)]
  ·refine Ev.bind1 (count_eq _ (small G (by omega) hb2)) ?_
   rw [mx_nat]
   have := ih (i + 1) (max m (pc B[i] 9)) (by omega) (by omega)
   rw [List.drop_eq_getElem_cons hi']
   have e : max m (mostOf (B[i] :: B.drop (i + 1))) = max (max m (pc B[i] 9)) (mostOf (B.drop (i + 1))) := by
    simp only [mostOf, List.foldr_cons]
    omega
   rw [e]
   exact this
theorem Check_yes (G : List Nat) (hG : Gr 7 G) (B : List Nat) (h : PathDec G B) : Ev (fun k => sweep_Check.f k (gi G) (gi B)) (((mostOf B : Nat) : Int) - 1, true, 0) := by
 have hr := read_ev (gi G) (by rw [gi_length]; have := hG.most; omega)
 rw [(chk_iff 7 (by omega) _).2 ⟨G, rfl, hG⟩] at hr
 have h30 := h.most
 obtain ⟨r, h1, h2⟩ := isPath_ev G hG (gi B) (by rw [gi_length]; omega)
 rw [h2.2 ⟨B, rfl, h⟩] at h1
 have := check_l0 G hG B h.lt h.most B.length 0 0 (by omega) (by omega)
 rw [List.drop_zero, Nat.zero_max] at this
 unfold sweep_Check.f
 refine Ev.bind hr (Ev.if_pos rfl (Ev.bind h1 (Ev.if_pos rfl ?_)))
 rw [gi_length]
 exact this
theorem Check_no (G : List Nat) (hG : Gr 7 G) (l : List Int) (hl : l.length < 2 ^ 60) (h : ¬ IsPathL G l) : Ev (fun k => sweep_Check.f k (gi G) l) (0, false, 0) := by
 have hr := read_ev (gi G) (by rw [gi_length]; have := hG.most; omega)
 rw [(chk_iff 7 (by omega) _).2 ⟨G, rfl, hG⟩] at hr
 obtain ⟨r, h1, h2⟩ := isPath_ev G hG l hl
 have hr2 : r = false := by cases r <;> simp_all
 rw [hr2] at h1
 unfold sweep_Check.f
 exact Ev.bind hr (Ev.if_pos rfl (Ev.bind h1 (Ev.if_neg (by simp) (Ev.some rfl))))
end Go.Proofs.YtijfddobandcdaaDoor.X
end
section
/- What read tells: a graph that is valid, or nothing. -/
namespace Go.Proofs.YtijfddobandcdaaDoor.X
open Go.RowKit YtijfddobandcdaaDoorW.PrintWords YtijfddobandcdaaDoorW.PrintLast YtijfddobandcdaaDoorW.PrintMore YtijfddobandcdaaDoor.T
theorem read_l1V (g : List Int) (hn : g.length ≤ 9) (i : Nat) (hi : i < g.length) (r : List Int × Bool)
  (hrest : Ev (fun k => width_read.l0 k g (g.length : Int) g (g.length : Int) ((i + 1 : Nat) : Int)) r) :
  ∀ d j, j + d = g.length → Ev (fun k => width_read.l1 k g (g.length : Int) (i : Int) (rd g (i : Int)) g (g.length : Int) (i : Int) (g.length : Int) (j : Int))
   (cond (allFrom (fun j => decide (ibit (rd g (i : Int)) j = ibit (rd g (j : Int)) i)) g.length d j) r (([] : List Int), false)) := by
 intro d
 induction d with
 | zero =>
  intro j hj
  refine Ev.step (fun k => ?_) hrest
  rw [width_read.l1, if_neg (by omega), wrap_succ i (by omega)]
 | succ d ih =>
  intro j hj
  simp only [allFrom]
  by_cases hb : ibit (rd g (i : Int)) j = ibit (rd g (j : Int)) i
  ·refine Ev.step (f := fun k => width_read.l1 k g (g.length : Int) (i : Int) (rd g (i : Int)) g (g.length : Int) (i : Int) (g.length : Int) ((j + 1 : Nat) : Int)) (fun k => ?_) ?_
   ·rw [width_read.l1, if_pos (by omega), if_pos (by omega), if_pos (by omega), if_pos (by omega), wrap_succ j (by omega)]
    exact if_pos hb
   ·have := ih (j + 1) (by omega)
    simpa [hb] using this
  ·refine Ev.step (f := fun _ => some (([] : List Int), false)) (fun k => ?_) (Ev.some (by simp [hb]))
   rw [width_read.l1, if_pos (by omega), if_pos (by omega), if_pos (by omega), if_pos (by omega)]
   exact if_neg hb
theorem read_l0V (g : List Int) (hn : g.length ≤ 9) :
  ∀ d i, i + d = g.length → Ev (fun k => width_read.l0 k g (g.length : Int) g (g.length : Int) (i : Int)) (cond (allFrom (rowOk g) g.length d i) (g, true) (([] : List Int), false)) := by
 intro d
 induction d with
 | zero =>
  intro i hi
  refine Ev.step (f := fun _ => some (g, true)) (fun k => ?_) (Ev.some (by simp [allFrom]))
  rw [width_read.l0, if_neg (by omega)]
 | succ d ih =>
  intro i hi
  have stop : ∀ k, width_read.j2 (k + 1) g (g.length : Int) (i : Int) (rd g (i : Int)) g (g.length : Int) (i : Int) true = some (([] : List Int), false) := fun k => by
   rw [width_read.j2, if_pos rfl]
  simp only [allFrom, rowOk]
  by_cases h1 : rd g (i : Int) < 0
  ·refine Ev.step (fun k => ?_) (f := fun k => width_read.j2 k g (g.length : Int) (i : Int) (rd g (i : Int)) g (g.length : Int) (i : Int) true) ?_
   ·rw [width_read.l0, if_pos (by omega), if_pos (by omega), if_pos (by omega), if_pos h1]
   ·exact Ev.step stop (Ev.some (by simp [h1]))
  ·by_cases h2 : rd g (i : Int) ≥ shl .i64 1 (g.length : Int)
   ·refine Ev.step (fun k => ?_) (f := fun k => width_read.j2 k g (g.length : Int) (i : Int) (rd g (i : Int)) g (g.length : Int) (i : Int) true) ?_
    ·rw [width_read.l0, if_pos (by omega), if_pos (by omega), if_pos (by omega), if_neg h1, if_pos (by omega), if_pos h2]
    ·exact Ev.step stop (Ev.some (by simp [h2]))
   ·refine Ev.step (fun k => ?_) (f := fun k => width_read.j2 k g (g.length : Int) (i : Int) (rd g (i : Int)) g (g.length : Int) (i : Int) (ibit (rd g (i : Int)) i == 1)) ?_
    ·rw [width_read.l0, if_pos (by omega), if_pos (by omega), if_pos (by omega), if_neg h1, if_pos (by omega), if_neg h2]
     rfl
    ·by_cases h3 : (ibit (rd g (i : Int)) i == 1) = true
     ·simp only [h3]
      exact Ev.step stop (Ev.some (by simp))
     ·refine Ev.step (fun k => by rw [width_read.j2, if_neg h3]) ?_
      have := read_l1V g hn i (by omega) _ (ih (i + 1) (by omega)) g.length 0 (by omega)
      have h3' : (ibit (rd g (i : Int)) i == 1) = false := by simpa using h3
      simp only [h1, h2, h3', decide_false, Bool.not_false, Bool.true_and]
      cases h4 : allFrom (fun j => decide (ibit (rd g (i : Int)) j = ibit (rd g (j : Int)) i)) g.length g.length 0
      ·simpa [h4] using this
      ·simpa [h4] using this
theorem read_evV (g : List Int) (hg : g.length < 2 ^ 60) : Ev (fun k => width_read.f k g) (cond (chk 9 g) (g, true) (([] : List Int), false)) := by
 have stop : ∀ k, width_read.j0 (k + 1) g (g.length : Int) true = some (([] : List Int), false) := fun k => by
  rw [width_read.j0, if_pos rfl]
 by_cases h1 : g.length < 1
 ·refine Ev.congr (f := fun k => width_read.j0 k g (g.length : Int) true) (fun k => ?_) (Ev.step stop (Ev.some ?_))
  ·rw [width_read.f, if_pos (by omega)]
  ·have : ¬ 1 ≤ g.length := by omega
   simp [chk, this]
 ·refine Ev.congr (f := fun k => width_read.j0 k g (g.length : Int) (decide ((g.length : Int) > 9))) (fun k => ?_) ?_
  ·rw [width_read.f, if_neg (by omega)]
  ·by_cases h2 : g.length ≤ 9
   ·have e : decide ((g.length : Int) > 9) = false := decide_eq_false (by omega)
    rw [e]
    refine Ev.step (fun k => by rw [width_read.j0, if_neg (by simp)]) ?_
    have := read_l0V g h2 g.length 0 (by omega)
    have h3 : decide (1 ≤ g.length) = true := decide_eq_true (by omega)
    simpa [chk, h2, h3] using this
   ·have e : decide ((g.length : Int) > 9) = true := decide_eq_true (by omega)
    rw [e]
    refine Ev.step stop (Ev.some ?_)
    simp [chk, h2]
end Go.Proofs.YtijfddobandcdaaDoor.X
end
section
/- nodes, count, around, part, degree: what they compute, in plain words. -/
namespace Go.Proofs.YtijfddobandcdaaDoor.X
open Go.RowKit YtijfddobandcdaaDoorW.PrintWords YtijfddobandcdaaDoorW.PrintLast YtijfddobandcdaaDoorW.PrintMore YtijfddobandcdaaDoor.T
theorem nodes_allV : ∀ x : Fin 512, width_nodes.f 12 (x.val : Int) = some (gi (els x.val 9)) := by decide +kernel
theorem nodes_evV (x : Nat) (hx : x < 512) : Ev (fun k => width_nodes.f k (x : Int)) (gi (els x 9)) :=
 Ev.of (width_nodes.mono _) (nodes_allV ⟨x, hx⟩)
theorem count_allV : ∀ x : Fin 512, width_count.f (x.val : Int) = some (pc x.val 9 : Int) := by decide +kernel
theorem count_eqV (x : Nat) (hx : x < 512) : width_count.f (x : Int) = some (pc x 9 : Int) := count_allV ⟨x, hx⟩
theorem smallV (G : List Nat) (h : G.length ≤ 9) {x : Nat} (hx : x < 2 ^ G.length) : x < 512 := Nat.lt_of_lt_of_le hx (show 2 ^ G.length ≤ 2 ^ 9 from Nat.pow_le_pow_right (by omega) h)
theorem bigV {x : Nat} (h : x < 512) : x < 2 ^ 62 := by omega
theorem around_l0V (G : List Nat) (hG : Gr 9 G) (L : List Nat) (hL : ∀ x ∈ L, x < G.length) (hLl : L.length ≤ 100) : ∀ d i (o : Nat), i + d = L.length → o < 2 ^ G.length →
  ∃ r : Nat, Ev (fun k => width_town_around.l0 k (gi G) (o : Int) (gi L) (L.length : Int) (i : Int)) (r : Int) ∧ r < 2 ^ G.length ∧ ∀ j, bset r j ↔ bset o j ∨ ∃ x, x ∈ L.drop i ∧ Adj G x j := by
 intro d
 induction d with
 | zero =>
  intro i o hi ho
  refine ⟨o, Ev.step (f := fun _ => some (o : Int)) (fun k => ?_) (Ev.some rfl), ho, fun j => ?_⟩
  ·rw [width_town_around.l0, if_neg (by omega)]
  ·rw [List.drop_eq_nil_of_le (by omega)]; simp
 | succ d ih =>
  intro i o hi ho
  have hi' : i < L.length := by omega
  have hm := hL _ (List.getElem_mem hi')
  have hr : rd (gi L) (i : Int) = ((L[i] : Nat) : Int) := by rw [rd_gi, List.getD_eq_getElem?_getD, List.getElem?_eq_getElem hi']; rfl
  have hrow := hG.row L[i]
  have ho2 : o ||| G.getD L[i] 0 < 2 ^ G.length := or_lt ho hrow
  obtain ⟨r, h1, h2, h3⟩ := ih (i + 1) (o ||| G.getD L[i] 0) (by omega) ho2
  refine ⟨r, Ev.step (fun k => ?_) h1, h2, fun j => ?_⟩
  ·rw [width_town_around.l0, if_pos (by omega), if_pos (by omega), if_pos (by rw [gi_length]; omega), hr, if_pos (by omega), if_pos (by rw [gi_length]; omega), rd_gi,
    b_or _ _ (bigV (smallV G hG.most ho)) (bigV (smallV G hG.most hrow)), wrap_succ i (by omega)]
  ·rw [h3, or_bset, List.drop_eq_getElem_cons hi']
   constructor
   ·rintro ((h | h) | ⟨x, hx, ha⟩)
    ·exact .inl h
    ·exact .inr ⟨_, List.mem_cons_self, h⟩
    ·exact .inr ⟨x, List.mem_cons_of_mem _ hx, ha⟩
   ·rintro (h | ⟨x, hx, ha⟩)
    ·exact .inl (.inl h)
    ·rcases List.mem_cons.1 hx with h | h
     ·subst h; exact .inl (.inr ha)
     ·exact .inr ⟨x, h, ha⟩
theorem around_evV (G : List Nat) (hG : Gr 9 G) (s : Nat) (hs : s < 2 ^ G.length) : Ev (fun k => width_town_around.f k (gi G) (s : Int)) ((Around G s : Nat) : Int) := by
 have hs5 := smallV G hG.most hs
 obtain ⟨r, h1, h2, h3⟩ := around_l0V G hG (els s 9) (fun x hx => bit_lt hs (mem_els.1 hx).2) (by rw [els_length]; have := pc_le s 9; omega) (els s 9).length 0 0 (by omega) (Nat.two_pow_pos _)
 have e : r = Around G s := eq_of_bits fun j => by
  have hh := h3 j
  rw [Around_bit hG]
  unfold bset at hh
  rw [hh]
  constructor
  ·rintro (h | ⟨x, hx, ha⟩)
   ·simp at h
   ·exact ⟨x, (mem_els.1 hx).2, ha⟩
  ·rintro ⟨x, hx, ha⟩
   exact .inr ⟨x, mem_els.2 ⟨Nat.lt_of_lt_of_le (bit_lt hs hx) hG.most, hx⟩, ha⟩
 subst e
 refine Ev.bind (nodes_evV s hs5) ?_
 rw [gi_length]
 exact h1
theorem part_l0V (G : List Nat) (hG : Gr 9 G) (s w : Nat) (hs : s < 2 ^ G.length) (hw : w < 2 ^ G.length) : ∀ d x, 2 ^ G.length - x = d → x < 2 ^ G.length → (∀ j, bset s j → bset x j) → (∀ j, bset x j → Con (Adj G) (bset w) (bset s) j) →
  Ev (fun k => width_town_part.l0 k (gi G) (x : Int) (w : Int)) ((conset G s w : Nat) : Int) := by
 intro d
 induction d using Nat.strongRecOn with
 | _ d ih =>
  intro x hd hx h1 h2
  have hA := Around_lt hG x
  have hb : Go.bits .or .i64 (x : Int) (Go.bits .and .i64 ((Around G x : Nat) : Int) (w : Int)) = ((x ||| (Around G x &&& w) : Nat) : Int) := by
   rw [b_and _ _ (bigV (smallV G hG.most hA)) (bigV (smallV G hG.most hw)), b_or _ _ (bigV (smallV G hG.most hx)) (Nat.lt_of_le_of_lt Nat.and_le_left (bigV (smallV G hG.most hA)))]
  have hy : x ||| (Around G x &&& w) < 2 ^ G.length := or_lt hx (Nat.lt_of_le_of_lt Nat.and_le_left hA)
  refine Ev.step (fun k => by rw [width_town_part.l0]) (Ev.bind (around_evV G hG x hx) ?_)
  simp only [hb]
  by_cases e : x ||| (Around G x &&& w) = x
  ·refine Ev.if_pos (by rw [e]) (Ev.some ?_)
   congr 1
   refine conset_eq hG hs hx h1 h2 fun i j hi ha hj => ?_
   rw [← e, or_bset, and_bset]
   exact .inr ⟨(Around_bit hG x j).2 ⟨i, hi, ha⟩, hj⟩
  ·refine Ev.if_neg (by omega) ?_
   have hle : x ≤ x ||| (Around G x &&& w) := Nat.left_le_or
   refine ih (2 ^ G.length - (x ||| (Around G x &&& w))) (by omega) _ rfl hy (fun j hj => (or_bset _ _ _).2 (.inl (h1 j hj))) fun j hj => ?_
   rcases (or_bset _ _ _).1 hj with h | h
   ·exact h2 j h
   ·obtain ⟨ha, hw'⟩ := (and_bset _ _ _).1 h
    obtain ⟨i, hi, hij⟩ := (Around_bit hG x j).1 ha
    exact .step (h2 i hi) hij hw'
theorem part_evV (G : List Nat) (hG : Gr 9 G) (s w : Nat) (hs : s < 2 ^ G.length) (hw : w < 2 ^ G.length) : Ev (fun k => width_town_part.f k (gi G) (s : Int) (w : Int)) ((conset G s w : Nat) : Int) :=
 part_l0V G hG s w hs hw _ s rfl hs (fun _ h => h) (fun _ h => .base h)
theorem degree_evV (G : List Nat) (hG : Gr 9 G) (gone v : Nat) (hg : gone < 2 ^ G.length) (hv : v < G.length) :
  Ev (fun k => width_town_degree.f k (gi G) (v : Int) (gone : Int)) ((pc (nbset G gone v) 9 : Nat) : Int) := by
 have hp : 2 ^ v < 2 ^ G.length := Nat.pow_lt_pow_right (by omega) hv
 have hn := hG.most
 have hc := conset_lt G (2 ^ v) (gone ||| 2 ^ v)
 have hA := Around_lt hG (conset G (2 ^ v) (gone ||| 2 ^ v))
 have hd : diff (Around G (conset G (2 ^ v) (gone ||| 2 ^ v))) gone < 2 ^ G.length := Nat.lt_of_le_of_lt (diff_le _ _) hA
 unfold width_town_degree.f
 refine Ev.if_pos (by omega) ?_
 simp only [s_one v (by omega), b_or gone (2 ^ v) (bigV (smallV G hn hg)) (bigV (smallV G hn hp))]
 refine Ev.bind (part_evV G hG _ _ hp (or_lt hg hp)) ?_
 refine Ev.bind (around_evV G hG _ hc) ?_
 simp only [b_andNot _ gone (bigV (smallV G hn hA)) (bigV (smallV G hn hg)), b_andNot _ (2 ^ v) (bigV (smallV G hn hd)) (bigV (smallV G hn hp))]
 exact Ev.bind1 (count_eqV _ (smallV G hn (nbset_lt hG gone v))) (Ev.some rfl)
theorem all_eqV (G : List Nat) (h : G.length ≤ 9) : width_town_all.f (gi G) = some ((2 ^ G.length - 1 : Nat) : Int) := by
 unfold width_town_all.f
 have h1 : 2 ^ G.length ≤ 2 ^ 9 := Nat.pow_le_pow_right (by omega) h
 have h2 := Nat.two_pow_pos G.length
 rw [gi_length, s_one _ (by omega), w64_small _ (by omega) (by omega)]
 congr 1
 omega
end Go.Proofs.YtijfddobandcdaaDoor.X
end
section
/- widths, width, Width: the width of a valid graph. -/
namespace Go.Proofs.YtijfddobandcdaaDoor.X
open Go.RowKit YtijfddobandcdaaDoorW.PrintWords YtijfddobandcdaaDoorW.PrintLast YtijfddobandcdaaDoorW.PrintMore YtijfddobandcdaaDoor.T
def PSV (G : List Nat) (S x : Nat) : Prop := ∀ k, x ≤ k ↔ ElimG G k S
theorem mx_natV (a b : Nat) : mx (a : Int) (b : Int) = ((max a b : Nat) : Int) := by unfold mx; split <;> omega
theorem mn_natV (a b : Nat) : mn (a : Int) (b : Int) = ((min a b : Nat) : Int) := by unfold mn; split <;> omega
def GoodV (G : List Nat) (r : List Int) : Prop := ∃ W : List Nat, r = gi W ∧ W.length = 2 ^ G.length ∧ ∀ S, S < 2 ^ G.length → PSV G S (W.getD S 0)
theorem getD_setV (W : List Nat) (i j x : Nat) (hi : i < W.length) : (W.set i x).getD j 0 = if j = i then x else W.getD j 0 := by
 simp only [List.getD_eq_getElem?_getD, List.getElem?_set]
 by_cases h : i = j
 ·subst h; simp [hi]
 ·rw [if_neg h, if_neg (fun e => h e.symm)]
theorem widths_l1V (G : List Nat) (hG : Gr 9 G) (S : Nat) (hS : S < 2 ^ G.length) (h0 : S ≠ 0)
  (cont : ∀ W : List Nat, W.length = 2 ^ G.length → (∀ T, T < S + 1 → PSV G T (W.getD T 0)) → ∃ r, Ev (fun k => width_town_widths.l0 k (gi G) (gi W) ((S + 1 : Nat) : Int)) r ∧ GoodV G r) :
  ∀ d i (W : List Nat), i + d = (els S 9).length → W.length = 2 ^ G.length → (∀ T, T < S → PSV G T (W.getD T 0)) →
   (∀ k, W.getD S 0 ≤ k ↔ G.length ≤ k ∨ ∃ v, v ∈ (els S 9).take i ∧ ElimG G k (diff S (2 ^ v)) ∧ pc (nbset G (diff S (2 ^ v)) v) 9 ≤ k) →
   ∃ r, Ev (fun k => width_town_widths.l1 k (gi G) (gi W) (S : Int) (gi (els S 9)) ((els S 9).length : Int) (i : Int)) r ∧ GoodV G r := by
 have hS5 := smallV G hG.most hS
 have h29 : 2 ^ G.length ≤ 2 ^ 9 := Nat.pow_le_pow_right (by omega) hG.most
 have hn := hG.most
 have hlen : (els S 9).length ≤ 9 := by rw [els_length]; exact pc_le _ _
 intro d
 induction d with
 | zero =>
  intro i W hi hW hT hc
  have hPS : PSV G S (W.getD S 0) := by
   intro k
   rw [hc k]
   by_cases hk : G.length ≤ k
   ·exact ⟨fun _ => elimG_big hG hk S hS, fun _ => .inl hk⟩
   ·rw [elimG_step hG hS h0]
    have e : (els S 9).take i = els S 9 := List.take_of_length_le (by omega)
    rw [e]
    constructor
    ·rintro (h | ⟨v, hv, h1, h2⟩)
     ·exact (hk h).elim
     ·exact ⟨v, (mem_els.1 hv).2, h1, by rwa [← pc_nine (nbset_lt hG _ _) hn]⟩
    ·rintro ⟨v, hv, h1, h2⟩
     exact .inr ⟨v, mem_els.2 ⟨Nat.lt_of_lt_of_le (bit_lt hS hv) hn, hv⟩, h1, by rwa [pc_nine (nbset_lt hG _ _) hn]⟩
  obtain ⟨r, h1, h2⟩ := cont W hW (fun T hT' => by
   by_cases e : T = S
   ·subst e; exact hPS
   ·exact hT T (by omega))
  refine ⟨r, Ev.step (fun k => ?_) h1, h2⟩
  rw [width_town_widths.l1, if_neg (by omega), wrap_succ S (by omega)]
 | succ d ih =>
  intro i W hi hW hT hc
  have hi' : i < (els S 9).length := by omega
  have hmem := List.getElem_mem hi'
  have hv := (mem_els.1 hmem).2
  have hvn := bit_lt hS hv
  have hr : rd (gi (els S 9)) (i : Int) = (((els S 9)[i] : Nat) : Int) := by rw [rd_gi, List.getD_eq_getElem?_getD, List.getElem?_eq_getElem hi']; rfl
  generalize hev : (els S 9)[i] = v at hr hv hvn hmem
  have hp : 2 ^ v < 2 ^ G.length := Nat.pow_lt_pow_right (by omega) hvn
  have hd : diff S (2 ^ v) < S := diff_lt hv
  have hdl : diff S (2 ^ v) < 2 ^ G.length := by omega
  have hdeg := degree_evV G hG (diff S (2 ^ v)) v hdl hvn
  obtain ⟨r, h1, h2⟩ := ih (i + 1) (W.set S (min (W.getD S 0) (max (W.getD (diff S (2 ^ v)) 0) (pc (nbset G (diff S (2 ^ v)) v) 9)))) (by omega) (by simpa using hW)
   (fun T hT' => by
    rw [getD_setV W _ _ _ (by omega), if_neg (by omega)]
    exact hT T hT')
   (fun k => by
    rw [getD_setV W _ _ _ (by omega), if_pos rfl]
    have hps := hT _ hd k
    have htake : (els S 9).take (i + 1) = (els S 9).take i ++ [v] := by rw [List.take_succ_eq_append_getElem hi', hev]
    rw [htake]
    constructor
    ·intro h
     by_cases hk : W.getD S 0 ≤ k
     ·rcases (hc k).1 hk with h | ⟨u, hu, h3⟩
      ·exact .inl h
      ·exact .inr ⟨u, List.mem_append_left _ hu, h3⟩
     ·refine .inr ⟨v, List.mem_append_right _ (List.mem_singleton.2 rfl), hps.1 (by omega), by omega⟩
    ·rintro (h | ⟨u, hu, h3, h4⟩)
     ·have := (hc k).2 (.inl h); omega
     ·rcases List.mem_append.1 hu with hu | hu
      ·have := (hc k).2 (.inr ⟨u, hu, h3, h4⟩); omega
      ·obtain rfl := List.mem_singleton.1 hu
       have := hps.2 h3
       omega)
  refine ⟨r, Ev.step (f := fun k => (width_town_degree.f k (gi G) (v : Int) ((diff S (2 ^ v) : Nat) : Int)).bind fun t => width_town_widths.l1 k (gi G) ((gi W).set (S : Int).toNat (mn (rd (gi W) (S : Int)) (mx (rd (gi W) ((diff S (2 ^ v) : Nat) : Int)) t))) (S : Int) (gi (els S 9)) ((els S 9).length : Int) ((i + 1 : Nat) : Int)) (fun k => ?_) (Ev.bind hdeg ?_), h2⟩
  ·rw [width_town_widths.l1, if_pos (by omega), if_pos (by omega), if_pos (by rw [gi_length]; omega), if_pos (by omega), if_pos (by rw [gi_length]; omega), hr, if_pos (by omega), s_one v (by omega),
    b_andNot S (2 ^ v) (bigV hS5) (bigV (smallV G hn hp)), if_pos (by omega), if_pos (by rw [gi_length]; omega), wrap_succ i (by omega)]
  ·simp only [rd_gi, mx_natV, mn_natV, Int.toNat_natCast, gi_set]
   exact h1
theorem widths_l0V (G : List Nat) (hG : Gr 9 G) : ∀ d S (W : List Nat), S + d = 2 ^ G.length → 0 < S → W.length = 2 ^ G.length → (∀ T, T < S → PSV G T (W.getD T 0)) →
  ∃ r, Ev (fun k => width_town_widths.l0 k (gi G) (gi W) (S : Int)) r ∧ GoodV G r := by
 have h29 : 2 ^ G.length ≤ 2 ^ 9 := Nat.pow_le_pow_right (by omega) hG.most
 intro d
 induction d with
 | zero =>
  intro S W hS h0 hW hT
  refine ⟨gi W, Ev.step (f := fun _ => some (gi W)) (fun k => ?_) (Ev.some rfl), W, rfl, hW, fun T h => hT T (by omega)⟩
  rw [width_town_widths.l0, if_neg (by rw [gi_length]; omega)]
 | succ d ih =>
  intro S W hS h0 hW hT
  have hSn : S < 2 ^ G.length := by omega
  have hS5 := smallV G hG.most hSn
  obtain ⟨r, h1, h2⟩ := widths_l1V G hG S hSn (by omega) (fun W' hW' hT' => ih (S + 1) W' (by omega) (by omega) hW' hT') (els S 9).length 0 (W.set S G.length) (by omega) (by simpa using hW)
   (fun T hT' => by
    rw [getD_setV W _ _ _ (by omega), if_neg (by omega)]
    exact hT T hT')
   (fun k => by
    rw [getD_setV W _ _ _ (by omega), if_pos rfl]
    simp)
  refine ⟨r, Ev.step (fun k => by rw [width_town_widths.l0, if_pos (by rw [gi_length]; omega), if_pos (by omega)]) (Ev.bind (nodes_evV S hS5) ?_), h2⟩
  simp only [Int.toNat_natCast, gi_length]
  have e : (gi W).set S (G.length : Int) = gi (W.set S G.length) := gi_set W S G.length
  rw [e]
  exact h1
theorem widths_evV (G : List Nat) (hG : Gr 9 G) : ∃ r, Ev (fun k => width_town_widths.f k (gi G)) r ∧ GoodV G r := by
 have h29 : 2 ^ G.length ≤ 2 ^ 9 := Nat.pow_le_pow_right (by omega) hG.most
 have h2p := Nat.two_pow_pos G.length
 have hn := hG.most
 obtain ⟨r, h1, h2⟩ := widths_l0V G hG (2 ^ G.length - 1) 1 (List.replicate (2 ^ G.length) 0) (by omega) (by omega) (by simp)
  (fun T hT k => by
   have : T = 0 := by omega
   subst this
   have e : (List.replicate (2 ^ G.length) 0).getD 0 0 = 0 := by
    rw [List.getD_eq_getElem?_getD, List.getElem?_replicate]; split <;> rfl
   rw [e]
   exact ⟨fun _ => elimG_zero G k, fun _ => Nat.zero_le k⟩)
 refine ⟨r, Ev.congr (fun k => ?_) h1, h2⟩
 unfold width_town_widths.f
 rw [gi_length, s_one _ (by omega), if_pos (by omega), Int.toNat_natCast, if_pos (by omega)]
 have e : List.replicate (2 ^ G.length) (0 : Int) = gi (List.replicate (2 ^ G.length) 0) := by simp [gi]
 rw [e]
 rfl
theorem width_evV (G : List Nat) (hG : Gr 9 G) : ∃ W : Nat, IsWidth G W ∧ Ev (fun k => width_town_width.f k (gi G)) (W : Int) := by
 have h2p := Nat.two_pow_pos G.length
 obtain ⟨r, h1, W, rfl, hW, hg⟩ := widths_evV G hG
 refine ⟨W.getD (2 ^ G.length - 1) 0, hg _ (by omega), ?_⟩
 unfold width_town_width.f
 refine Ev.bind h1 (Ev.bind1 (all_eqV G hG.most) ?_)
 refine Ev.if_pos (by omega) (Ev.if_pos (by rw [gi_length]; omega) (Ev.some ?_))
 rw [rd_gi]
theorem Width_evV (G : List Nat) (hG : Gr 9 G) : ∃ W : Nat, IsWidth G W ∧ Ev (fun k => width_Width.f k (gi G)) ((W : Int), 0) := by
 obtain ⟨W, h1, h2⟩ := width_evV G hG
 have hc : chk 9 (gi G) = true := (chk_iff 9 (by omega) _).2 ⟨G, rfl, hG⟩
 have hr := read_evV (gi G) (by rw [gi_length]; have := hG.most; omega)
 rw [hc] at hr
 refine ⟨W, h1, ?_⟩
 unfold width_Width.f
 exact Ev.bind hr (Ev.if_pos rfl (Ev.bind h2 (Ev.some rfl)))
end Go.Proofs.YtijfddobandcdaaDoor.X
end
section
/- A path decomposition is a tree decomposition in which the parent of each bag is the one before it. -/
namespace Go.Proofs.YtijfddobandcdaaDoor.X
open Go.RowKit YtijfddobandcdaaDoorW.PrintWords YtijfddobandcdaaDoorW.PrintLast YtijfddobandcdaaDoorW.PrintMore YtijfddobandcdaaDoor.T
def par (n : Nat) : List Int := (List.range n).map fun (i : Nat) => (i : Int) - 1
theorem par_length (n : Nat) : (par n).length = n := by simp [par]
theorem par_succ (n : Nat) : par (n + 1) = par n ++ [(n : Int) - 1] := by simp [par, List.range_succ]
theorem par_rd {n i : Nat} (h : i < n) : rd (par n) (i : Int) = (i : Int) - 1 := by
 unfold rd par
 rw [Int.toNat_natCast, List.getD_eq_getElem?_getD, List.getElem?_map, List.getElem?_range h]
 rfl
theorem par_tl1 (G B : List Nat) (hB : ∀ b ∈ B, b < 2 ^ G.length) : ∀ (d i ro ac : Nat), i + d = B.length → tl1 (gi B) (par B.length) B.length (2 ^ G.length - 1) d i ro ac = some (ro + (if i = 0 ∧ 0 < d then 1 else 0), ac ||| unions (B.drop i))
 | 0, i, ro, ac, h => by
  rw [List.drop_eq_nil_of_le (by omega)]
  simp [tl1, unions]
 | d + 1, i, ro, ac, h => by
  have hi : i < B.length := by omega
  have hb := hB _ (List.getElem_mem hi)
  have hr : rd (gi B) (i : Int) = ((B[i] : Nat) : Int) := by rw [rd_gi, List.getD_eq_getElem?_getD, List.getElem?_eq_getElem hi]; rfl
  have hp := par_rd hi
  rw [tl1, hp, hr, if_neg (by omega), if_neg (by omega), if_neg (by omega), if_neg (by omega), par_tl1 G B hB d (i + 1) _ _ (by omega), List.drop_eq_getElem_cons hi]
  simp only [unions, Int.toNat_natCast, Nat.or_assoc]
  congr 2
  by_cases h0 : i = 0
  ·subst h0; simp
  ·rw [if_neg (by omega), if_neg (by omega), if_neg (by omega)]
theorem par_cyc (n : Nat) : ∀ (d : Nat) (at_ : Int), at_ < (d : Int) → at_ < (n : Int) → cycB (par n) d at_ = false
 | 0, at_, h, _ => by simp [cycB]; omega
 | d + 1, at_, h, h2 => by
  rw [cycB]
  by_cases h0 : at_ < 0
  ·rw [if_pos h0]
  ·rw [if_neg h0]
   obtain ⟨i, rfl⟩ := Int.eq_ofNat_of_zero_le (show 0 ≤ at_ by omega)
   rw [par_rd (n := n) (i := i) (by omega)]
   exact par_cyc n d _ (by omega) (by omega)
theorem par_any (n : Nat) : (par n).any (cycB (par n) n) = false := by
 rw [List.any_eq_false]
 intro x hx
 unfold par at hx
 obtain ⟨i, hi, rfl⟩ := List.mem_map.1 hx
 have := List.mem_range.1 hi
 rw [par_cyc n n _ (by omega) (by omega)]
 simp
theorem par_tops (B : List Nat) (v : Nat) : ∀ (d i t : Nat), i + d = B.length → topsF (gi B) (par B.length) v d i t = t + starts (ahead v B i) (marks v (B.drop i))
 | 0, i, t, h => by
  rw [List.drop_eq_nil_of_le (by omega)]
  simp [topsF, marks, starts]
 | d + 1, i, t, h => by
  have hi : i < B.length := by omega
  have hr : rd (gi B) (i : Int) = ((B[i] : Nat) : Int) := by rw [rd_gi, List.getD_eq_getElem?_getD, List.getElem?_eq_getElem hi]; rfl
  have hp := par_rd hi
  have hnext : ahead v B (i + 1) = B[i].testBit v := by
   unfold ahead
   rw [if_neg (by omega), Nat.add_sub_cancel, List.getD_eq_getElem?_getD, List.getElem?_eq_getElem hi]
   rfl
  have hcond : (decide ((i : Int) - 1 < 0) || !bitI (rd (gi B) ((i : Int) - 1)) v) = !ahead v B i := by
   unfold ahead
   by_cases h0 : i = 0
   ·subst h0; simp
   ·rw [if_neg h0, decide_eq_false (by omega)]
    have e : ((i : Int) - 1) = ((i - 1 : Nat) : Int) := by omega
    rw [e, rd_gi]
    simp [bitI]
  rw [topsF, hr, hp, hcond, par_tops B v d (i + 1) _ (by omega), hnext, List.drop_eq_getElem_cons hi]
  simp only [marks, List.map_cons, starts, bitI, Int.toNat_natCast]
  have key : ∀ (p q : Bool) (X : Bool → Nat), (if (p && !q) = true then t + 1 else t) + X p = t + ((if p = true ∧ q = false then 1 else 0) + X p) := by
   intro p q X
   cases p <;> cases q <;> simp <;> omega
  exact key _ _ fun x => starts x (List.map (fun b => b.testBit v) (List.drop (i + 1) B))
theorem path_nb (B : List Nat) (v : Nat) : ∀ L : List Nat, (∀ u ∈ L, ∃ b ∈ B, bset b v ∧ bset b u) → nbF (gi B) v L = true
 | [], _ => rfl
 | u :: L, h => by
  rw [nbF, path_nb B v L (fun u hu => h u (List.mem_cons_of_mem _ hu)), Bool.and_true, List.any_eq_true]
  obtain ⟨b, hb, h1, h2⟩ := h u (List.mem_cons_self ..)
  refine ⟨(b : Int), gi_mem.2 hb, ?_⟩
  unfold bothB
  rw [Int.toNat_natCast, show b.testBit u = true from h2, show b.testBit v = true from h1]
  rfl
theorem path_tl2 {G B : List Nat} (hG : Gr 7 G) (h : PathDec G B) : ∀ (d v : Nat), v + d = G.length → tl2 G (gi B) (par B.length) d v = true
 | 0, v, _ => rfl
 | d + 1, v, hv => by
  have hvl : v < G.length := by omega
  have ht := par_tops B v B.length 0 0 (by omega)
  rw [List.drop_zero, show ahead v B 0 = false from rfl, (starts_one _).2 (h.run v hvl)] at ht
  have hn : nbF (gi B) v (els (G.getD v 0) 9) = true := path_nb B v _ fun u hu => h.edge v u hvl (by
   have := (mem_els.1 hu).2
   exact this)
  rw [tl2, gi_length, ht, if_pos rfl, hn, path_tl2 hG h d (v + 1) (by omega)]
  rfl
theorem path_tree {G B : List Nat} (hG : Gr 7 G) (h : PathDec G B) : treeB G (gi B) (par B.length) = true := by
 have h1 := h.pos
 have h2 := h.most
 unfold treeB
 rw [gi_length, par_length, if_neg (by omega), if_neg (by omega), if_pos rfl, par_tl1 G B h.lt B.length 0 0 0 (by omega)]
 unfold treeB2
 rw [if_pos ⟨rfl, h1⟩, List.drop_zero, Nat.zero_or, path_all h]
 dsimp only
 rw [if_pos rfl, if_pos rfl, par_length, par_any, path_tl2 hG h _ _ (by omega)]
 rfl
theorem treeWidth_l0 (G : List Nat) (hn : G.length ≤ 7) (B : List Nat) (hB : ∀ b ∈ B, b < 2 ^ G.length) (h30 : B.length ≤ 30) : ∀ (d i m : Nat), i + d = B.length → m ≤ 9 →
  Ev (fun k => width_Tree_width.l0 k (m : Int) (gi B) (B.length : Int) (i : Int)) (((max m (mostOf (B.drop i)) : Nat) : Int) - 1) := by
 intro d
 induction d with
 | zero =>
  intro i m hi hm
  refine Ev.step (f := fun _ => some ((m : Int) - 1)) (fun k => by rw [width_Tree_width.l0, if_neg (by omega), w64_small _ (by omega) (by omega)]) (Ev.some ?_)
  rw [List.drop_eq_nil_of_le (by omega)]
  simp [mostOf]
 | succ d ih =>
  intro i m hi hm
  have hi' : i < B.length := by omega
  have hb2 := hB _ (List.getElem_mem hi')
  have hr : rd (gi B) (i : Int) = ((B[i] : Nat) : Int) := by rw [rd_gi, List.getD_eq_getElem?_getD, List.getElem?_eq_getElem hi']; rfl
  have hp := pc_le B[i] 9
  refine Ev.step (f := fun k => (width_count.f ((B[i] : Nat) : Int)).bind fun t => width_Tree_width.l0 k (mx (m : Int) t) (gi B) (B.length : Int) ((i + 1 : Nat) : Int)) (fun k => ?_) ?_
  ·rw [width_Tree_width.l0, if_pos (by omega), if_pos (by omega), if_pos (by rw [gi_length]; omega), hr, wrap_succ i (by omega)]
  ·refine Ev.bind1 (count_eqV _ (small G (by omega) hb2)) ?_
   rw [mx_nat]
   have := ih (i + 1) (max m (pc B[i] 9)) (by omega) (by omega)
   rw [List.drop_eq_getElem_cons hi']
   have e : max m (mostOf (B[i] :: B.drop (i + 1))) = max (max m (pc B[i] 9)) (mostOf (B.drop (i + 1))) := by
    simp only [mostOf, List.foldr_cons]
    omega
   rw [e]
   exact this
theorem WCheck_path {G B : List Nat} (hG : Gr 7 G) (hG9 : Gr 9 G) (h : PathDec G B) : Ev (fun k => width_Check.f k (gi G) (gi B) (par B.length)) (((mostOf B : Nat) : Int) - 1, true, 0) := by
 have hr := read_evV (gi G) (by rw [gi_length]; have := hG.most; omega)
 rw [(chk_iff 9 (by omega) _).2 ⟨G, rfl, hG9⟩] at hr
 have ht : width_town_tree.f (gi G) (gi B) (par B.length) = some true := by
  unfold width_town_tree.f
  rw [if_pos ((chk_iff 7 (by omega) _).2 ⟨G, rfl, hG⟩), gi_toNat, path_tree hG h]
 have hw := treeWidth_l0 G hG.most B h.lt h.most B.length 0 0 (by omega) (by omega)
 rw [List.drop_zero, Nat.zero_max] at hw
 have hw2 : Ev (fun k => width_Tree_width.f k (gi B) (par B.length)) (((mostOf B : Nat) : Int) - 1) := by
  unfold width_Tree_width.f
  rw [gi_length]
  exact hw
 unfold width_Check.f
 exact Ev.bind hr (Ev.if_pos rfl (Ev.bind1 ht (Ev.if_pos rfl (Ev.bind hw2 (Ev.some rfl)))))
end Go.Proofs.YtijfddobandcdaaDoor.X
end
section
namespace Go.Proofs.YtijfddobandcdaaDoor.X
open Go.RowKit YtijfddobandcdaaDoorW.PrintWords YtijfddobandcdaaDoorW.PrintLast YtijfddobandcdaaDoorW.PrintMore
attribute [local go_sem] max2_int min2_int max_two min_two max_three min_three max_four min_four
/-! ### sweep_town_isLayout: function 55 -/
def sweep_town_isLayout.l0 : Nat → List Int → List Int → Int → List Int → Int → Int → Option (Bool)
 | 0, _, _, _, _, _, _ => none
 | k + 1, x0, x1, x5, x8, x9, x10 => if x10 < x9 then (if 0 ≤ x10 then (if x10 < (x8.length : Int) then (if (rd x8 x10) < 0 then (some false) else (if (rd x8 x10) ≥ (x0.length : Int) then (some false) else (if 0 ≤ (rd x8 x10) then (sweep_town_isLayout.l0 k x0 x1 (Go.bits .or .i64 x5 (shl .i64 1 (rd x8 x10))) x8 x9 (wrap64 (x10 + 1))) else (none)))) else (none)) else (none)) else (if (x1.length : Int) = (x0.length : Int) then ((sweep_town_all.f x0).bind fun t235 => (some (x5 == t235))) else (some false))
end Go.Proofs.YtijfddobandcdaaDoor.X
end
section
namespace Go.Proofs.YtijfddobandcdaaDoor.X
open Go.RowKit YtijfddobandcdaaDoorW.PrintWords YtijfddobandcdaaDoorW.PrintLast YtijfddobandcdaaDoorW.PrintMore
attribute [local go_sem] max2_int min2_int max_two min_two max_three min_three max_four min_four
/-! ### sweep_town_bags: function 52 -/
def sweep_town_bags.l0 : Nat → List Int → List Int → Int → List Int → Int → Int → Option (List Int)
 | 0, _, _, _, _, _, _ => none
 | k + 1, x0, x5, x6, x9, x10, x11 => if x11 < x10 then (if 0 ≤ x11 then (if x11 < (x9.length : Int) then ((sweep_town_border.f x0 x6).bind fun t194 => (if 0 ≤ (rd x9 x11) then (if x5.length < 17592186044416 then (sweep_town_bags.l0 k x0 (x5 ++ [Go.bits .or .i64 t194 (shl .i64 1 (rd x9 x11))]) (Go.bits .or .i64 x6 (shl .i64 1 (rd x9 x11))) x9 x10 (wrap64 (x11 + 1))) else (none)) else (none))) else (none)) else (none)) else (some x5)
end Go.Proofs.YtijfddobandcdaaDoor.X
end
section
namespace Go.Proofs.YtijfddobandcdaaDoor.X
open Go.RowKit YtijfddobandcdaaDoorW.PrintWords YtijfddobandcdaaDoorW.PrintLast YtijfddobandcdaaDoorW.PrintMore
attribute [local go_sem] max2_int min2_int max_two min_two max_three min_three max_four min_four
/-! ### lampblackref02_IsOrder: function 30 -/
def lampblackref02_IsOrder.l0 : Nat → List Int → Int → Int → List Int → Int → Int → Option (Bool)
 | 0, _, _, _, _, _, _ => none
 | k + 1, x0, x1, x5, x8, x9, x10 => if x10 < x9 then (if 0 ≤ x10 then (if x10 < (x8.length : Int) then (if (rd x8 x10) < 0 then (some false) else (if (rd x8 x10) ≥ x1 then (some false) else (if 0 ≤ (rd x8 x10) then (if (Go.bits .and .i64 (shr .i64 x5 (rd x8 x10)) 1) = 1 then (some false) else (lampblackref02_IsOrder.l0 k x0 x1 (Go.bits .or .i64 x5 (shl .i64 1 (rd x8 x10))) x8 x9 (wrap64 (x10 + 1)))) else (none)))) else (none)) else (none)) else (some ((x0.length : Int) == x1))
end Go.Proofs.YtijfddobandcdaaDoor.X
end
section
namespace Go.Proofs.YtijfddobandcdaaDoor.X
open Go.RowKit YtijfddobandcdaaDoorW.PrintWords YtijfddobandcdaaDoorW.PrintLast YtijfddobandcdaaDoorW.PrintMore
attribute [local go_sem] max2_int min2_int max_two min_two max_three min_three max_four min_four
/-! ### lampblackref03_Bags: function 33 -/
def lampblackref03_Bags.l0 : Nat → List Int → List Int → Int → List Int → Int → Int → Option (List Int)
 | 0, _, _, _, _, _, _ => none
 | k + 1, x0, x5, x6, x9, x10, x11 => if x11 < x10 then (if 0 ≤ x11 then (if x11 < (x9.length : Int) then ((lampblackref03_Border.f k x0 x6).bind fun t287 => (if 0 ≤ (rd x9 x11) then (if x5.length < 17592186044416 then (lampblackref03_Bags.l0 k x0 (x5 ++ [Go.bits .or .i64 t287 (shl .i64 1 (rd x9 x11))]) (Go.bits .or .i64 x6 (shl .i64 1 (rd x9 x11))) x9 x10 (wrap64 (x11 + 1))) else (none)) else (none))) else (none)) else (none)) else (some x5)
end Go.Proofs.YtijfddobandcdaaDoor.X
end
section
namespace Go.Proofs.YtijfddobandcdaaDoor.X
open Go.RowKit YtijfddobandcdaaDoorW.PrintWords YtijfddobandcdaaDoorW.PrintLast YtijfddobandcdaaDoorW.PrintMore
attribute [local go_sem] max2_int min2_int max_two min_two max_three min_three max_four min_four
/-! ### slices_Equal_int_int: function 29 -/
def slices_Equal_int_int.l0 : Nat → List Int → List Int → Int → Int → Option (Bool)
 | 0, _, _, _, _ => none
 | k + 1, x0, x1, x12, x13 => if x13 < x12 then (if 0 ≤ x13 then (if x13 < (x0.length : Int) then (if x13 < (x1.length : Int) then (if (rd x0 x13) = (rd x1 x13) then (slices_Equal_int_int.l0 k x0 x1 x12 (wrap64 (x13 + 1))) else (some false)) else (none)) else (none)) else (none)) else (some true)
end Go.Proofs.YtijfddobandcdaaDoor.X
end
section
/- IsOrder, isLayout, Border, bags, Equal: what they compute. -/
namespace Go.Proofs.YtijfddobandcdaaDoor.X
open Go.RowKit YtijfddobandcdaaDoorW.PrintWords YtijfddobandcdaaDoorW.PrintLast YtijfddobandcdaaDoorW.PrintMore YtijfddobandcdaaDoor.T
theorem list_eq (l : List Int) (hl : l.length < 2 ^ 44) : ∃ m, lampblacklaw03_list.f l = some m ∧ (l.length ≤ 140 → m = l) ∧ (140 < l.length → m.length = 140) ∧ m.length ≤ 140 := by
 have hm : mn (l.length : Int) 140 = ((min l.length 140 : Nat) : Int) := mn_nat l.length 140
 refine ⟨l.take (min l.length 140), ?_, fun h => List.take_of_length_le (by omega), fun h => by rw [List.length_take]; omega, by rw [List.length_take]; omega⟩
 unfold lampblacklaw03_list.f slices_Clone_int_int.f
 simp only [hm, Int.toNat_natCast]
 rw [if_pos (by omega), if_pos (by omega)]
 simp only [Option.bind_some, List.length_nil, List.nil_append]
 rw [if_pos (by rw [List.length_take]; omega)]
 rfl
end Go.Proofs.YtijfddobandcdaaDoor.X
end
section
/- SweepWider, without Go and memory: the path width is at least the width, and at most one less than the number of nodes; a path decomposition is a tree decomposition in which the parent of each Bag is the one before it, of the same width. -/
namespace Go.Proofs.YtijfddobandcdaaDoor.Pure
open Go.RowKit YtijfddobandcdaaDoorW.PrintWords YtijfddobandcdaaDoorW.PrintLast YtijfddobandcdaaDoorW.PrintMore YtijfddobandcdaaDoor.T YtijfddobandcdaaDoor.X
theorem wider_l0 (G : List Nat) (hG : Gr 7 G) (hG9 : Gr 9 G) (B : List Nat) (h : PathDec G B) (w : Nat) (hw : w + 1 ≤ mostOf B) (e : lampblacklaw03_Few.f (gi G) = some (gi G)) : ∀ (d i : Nat), i + d = B.length →
  Ev (fun k => lampblacklaw03_SweepWider.l0 k (gi G) (w : Int) (((mostOf B : Nat) : Int) - 1) (B.length : Int) (i : Int) (gi B) (par i)) true := by
 have h30 := h.most
 intro d
 induction d with
 | zero =>
  intro i hi
  have hi' : i = B.length := by omega
  subst hi'
  refine Ev.step (f := fun k => (lampblacklaw03_Few.f (gi G)).bind fun t754 => ((width_Check.f k t754 (gi B) (par B.length)).bind fun bt757 => (if bt757.2.1 = true then (if bt757.2.2 = 0 then (if (((mostOf B : Nat) : Int) - 1) = bt757.1 then (if (((mostOf B : Nat) : Int) - 1) ≥ (w : Int) then ((lampblacklaw03_awake.f k).bind fun t760 => (some t760)) else (some false)) else (some false)) else (some false)) else (some false)))) (fun k => by rw [lampblacklaw03_SweepWider.l0, if_neg (by omega)]) ?_
  refine Ev.bind1 e (Ev.bind (WCheck_path hG hG9 h) (Ev.if_pos rfl (Ev.if_pos rfl (Ev.if_pos rfl (Ev.if_pos ?_ (Ev.bind awake_ev (Ev.some rfl)))))))
  omega
 | succ d ih =>
  intro i hi
  refine Ev.step (f := fun k => lampblacklaw03_SweepWider.l0 k (gi G) (w : Int) (((mostOf B : Nat) : Int) - 1) (B.length : Int) ((i + 1 : Nat) : Int) (gi B) (par (i + 1))) (fun k => ?_) (ih (i + 1) (by omega))
  rw [lampblacklaw03_SweepWider.l0, if_pos (by omega), if_pos (by rw [par_length]; omega), wrap_succ i (by omega), w64_small ((i : Int) - 1) (by omega) (by omega), par_succ]
theorem SweepWider : ∀ (l0 l1 : List Int), l0.length ≤ maxLen → l0.length * 8 ≤ 140737488351232 → (∀ x ∈ l0, (Lit.int .i64 x).wf = true) → l1.length ≤ maxLen → l1.length * 8 ≤ 140737488351232 → (∀ x ∈ l1, (Lit.int .i64 x).wf = true) → ∃ k, lampblacklaw03_SweepWider.f k l0 l1 = some true := by
 intro g l _ hg _ _ hl _
 apply Ev.rounds
 obtain ⟨h, e, e1, e2, e3⟩ := few_eq g (by omega)
 obtain ⟨m, f, f1, f2, f3⟩ := list_eq l (by omega)
 unfold lampblacklaw03_SweepWider.f
 refine Ev.bind1 e ?_
 by_cases hc : chk 7 g = true
 ·obtain ⟨G, rfl, hG⟩ := (chk_iff 7 (by omega) _).1 hc
  have hn := hG.most
  have hpos := hG.pos
  have hG9 : Gr 9 G := ⟨hG.pos, by omega, hG.lt, hG.irr, hG.symm⟩
  rw [e1 hc] at e ⊢
  obtain ⟨L, w, hL, hw, _⟩ := Layout_ev G hG
  obtain ⟨t, ht, hW⟩ := Width_evV G hG9
  have htw := width_le_vs hG (by omega) ht hw
  have hwn := vs_most hG (by omega) hpos hw
  have hwr : wrap64 (((gi G).length : Int) - 1) = (G.length : Int) - 1 := by rw [gi_length]; exact w64_small _ (by omega) (by omega)
  have hd : decide ((w : Int) > wrap64 (((gi G).length : Int) - 1)) = false := by rw [hwr]; exact decide_eq_false (by omega)
  refine Ev.bind hL (Ev.if_pos rfl (Ev.bind1 e (Ev.bind hW (Ev.bind1 e (Ev.bind1 f ?_)))))
  have htw2 : ¬ ((t : Int) > (w : Int)) := by omega
  by_cases hp : IsPathL G m
  ·obtain ⟨B, rfl, hB⟩ := hp
   have h30 := hB.most
   have hlB : l = gi B := by
    by_cases hl140 : l.length ≤ 140
    ·exact (f1 hl140).symm
    ·have := f2 (by omega)
     rw [gi_length] at this
     omega
   have hj : Ev (fun k => lampblacklaw03_SweepWider.j0 k (gi G) l (w : Int) (((mostOf B : Nat) : Int) - 1) true false) true := by
    refine Ev.step (fun k => by rw [lampblacklaw03_SweepWider.j0, if_neg (by simp), if_pos rfl]) ?_
    refine Ev.bind1 f ?_
    rw [hlB, gi_length]
    exact wider_l0 G hG hG9 B hB w (vs_lt_most hG (by omega) hB hw) e B.length 0 (by omega)
   refine Ev.bind (Check_yes G hG B hB) (Ev.if_pos rfl (Ev.if_pos rfl (Ev.if_neg htw2 ?_)))
   rw [hd]
   exact hj
  ·have hj : Ev (fun k => lampblacklaw03_SweepWider.j0 k (gi G) l (w : Int) 0 false false) true := by
    refine Ev.step (fun k => by rw [lampblacklaw03_SweepWider.j0, if_neg (by simp), if_neg (by simp)]) ?_
    exact Ev.bind awake_ev (Ev.some rfl)
   refine Ev.bind (Check_no G hG m (by omega) hp) (Ev.if_pos rfl (Ev.if_pos rfl (Ev.if_neg htw2 ?_)))
   rw [hd]
   exact hj
 ·have hc' : chk 7 g = false := by simpa using hc
  exact Ev.bind (Layout_bad h (by omega) (e2 hc')) (Ev.if_neg (by simp) (Ev.if_pos rfl (Ev.bind awake_ev (Ev.some rfl))))
end Go.Proofs.YtijfddobandcdaaDoor.Pure
end
