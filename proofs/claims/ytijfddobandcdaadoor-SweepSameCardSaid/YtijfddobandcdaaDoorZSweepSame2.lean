/- Part 2 of what SweepSame rests on: contracts of the functions that it reaches, and what they compute, in plain words. -/
import Derived.Test.YtijfddobandcdaaDoorZSweepSame0
import Derived.Test.YtijfddobandcdaaDoorZSweepSame1
set_option linter.unusedVariables false
set_option linter.unusedSimpArgs false
section
namespace Go.Proofs.YtijfddobandcdaaDoor.X
open Go.RowKit YtijfddobandcdaaDoorW.PrintWords YtijfddobandcdaaDoorW.PrintLast YtijfddobandcdaaDoorW.PrintMore
attribute [local go_sem] max2_int min2_int max_two min_two max_three min_three max_four min_four
/-! ### slices_Min_int_int: function 75 -/
def slices_Min_int_int.l0 : Nat → List Int → Int → Int → Option (Int)
 | 0, _, _, _ => none
 | k + 1, x0, x3, x4 => if x4 < (x0.length : Int) then (if 0 ≤ x4 then (slices_Min_int_int.l0 k x0 (mn x3 (rd x0 x4)) (wrap64 (x4 + 1))) else (none)) else (some x3)
def slices_Min_int_int.f (k : Nat) (l0 : List Int) : Option (Int) := if (l0.length : Int) < 1 then (none) else (if 0 < (l0.length : Int) then (slices_Min_int_int.l0 k l0 (rd l0 0) 1) else (none))
set_option maxHeartbeats 8000000 in
set_option maxRecDepth 100000 in
theorem slices_Min_int_int.calls (k : Nat) (A0 : Option Addr) (c0 : Nat) (l0 : List Int) (r : Int) (w : World) (hr0 : Kd.C (Kd.int .i64) w A0 l0.length l0) (hc0 : l0.length ≤ c0) (h : slices_Min_int_int.f k l0 = some r) :
  Calls Tryd.prog 75 #[.slice A0 l0.length c0] w fun e w' => e = .returned (.int .i64 r) ∧ Below w.heap.size w w' := by
 have HR0 := Aside0.mk hr0
 have HC0 := Aside0.mk hc0
 clear hr0 hc0
 have HB := Aside0.mk (Below.refl w.heap.size w)
 have H : (if (l0.length : Int) < 1 then (none) else (if 0 < (l0.length : Int) then (slices_Min_int_int.l0 k l0 (rd l0 0) 1) else (none))) = some r := h
 clear h
 by_cases c2 : (l0.length : Int) < 1
 ·rw [if_pos c2] at H
  exact absurd H (by simp)
 ·rw [if_neg c2] at H
  have c2b0 : decide ((l0.length : Int) < 1) = false := decide_eq_false c2
  have c2b1 : decide (l0.length < 1) = false := decide_eq_false (by omega)
  clear c2
  by_cases c3 : 0 < (l0.length : Int)
  ·rw [if_pos c3] at H
   have c3b0 : decide (0 < (l0.length : Int)) = true := decide_eq_true c3
   have c3b1 : decide (0 < l0.length) = true := decide_eq_true (by omega)
   clear c3
   have H' := Aside0.mk H
   clear H
   have p349 : 0 ≤ (0 : Int) := (by omega)
   have q349 : 0 < (l0.length : Int) := of_decide_eq_true (by first | (with_reducible assumption) | assumption)
   obtain ⟨ad349, e349, hx349_0⟩ := Kd.at_int HR0.out 0 p349 q349
   cases e349
   have qi349 : (0 < l0.length) = True := eq_true (by omega)
   (try rw [show ((0 : Int)).toNat = 0 from rfl] at hx349_0)
   (try rw [Addr.add_zero'] at hx349_0)
   replace p349 := eq_true p349
   replace q349 := eq_true q349
   go_enter Tryd.func75, Tryd.ntmps75
   go_wp2
   go_loopg [3, 4] k (fun kq v3 v4 w' => ∃ (x3_1 : Int) (x4_1 : Int), v3 = .int .i64 x3_1 ∧ v4 = .int .i64 x4_1 ∧ Aside0 (slices_Min_int_int.l0 kq l0 x3_1 x4_1 = some r) ∧ Aside0 (kq ≤ k) ∧ Aside0 (Below w.heap.size w w'))
   case atStart => exact ⟨(rd l0 0), (1), (by first | rfl | (simp; done) | (simp [*]; done)), (by first | rfl | (simp; done) | (simp [*]; done)), H', ⟨Nat.le_refl _⟩, ⟨by repeat (first | (with_reducible first | exact HB.out | apply below_alloc | apply pw_below_drewN | apply below_drew1) | exact HB.out)⟩⟩
   case round =>
    clear H'
    try clear c2
    try clear c2b0
    try clear c2b1
    try clear p2
    try clear c3
    try clear c3b0
    try clear c3b1
    try clear p3
    try clear q3
    try clear hx3
    try clear qi3
    try clear hx349_0
    try clear p349
    try clear q349
    obtain ⟨x3_1, x4_1, rfl, rfl, HA, HK1, HB⟩ := hrel
    cases gk with
    | zero => exact absurd HA.out (by simp [slices_Min_int_int.l0])
    | succ k1 =>
     have H := HA.out
     clear HA
     simp only [slices_Min_int_int.l0] at H
     by_cases c4 : x4_1 < (l0.length : Int)
     ·rw [if_pos c4] at H
      have c4b0 : decide (x4_1 < (l0.length : Int)) = true := decide_eq_true c4
      clear c4
      by_cases c5 : 0 ≤ x4_1
      ·rw [if_pos c5] at H
       have c5b0 : decide (0 ≤ x4_1) = true := decide_eq_true c5
       clear c5
       obtain ⟨ji6, hji6⟩ : ∃ j_ : Int, (mn x3_1 (rd l0 x4_1)) = j_ := ⟨_, rfl⟩
       replace H : (slices_Min_int_int.l0 k1 l0 ji6 (wrap64 (x4_1 + 1))) = some r := by first | (rw [hji6] at H; exact H) | (simp only [hji6] at H ⊢; exact H)
       have hji6_ : (if (rd l0 x4_1) < x3_1 then (rd l0 x4_1) else x3_1) = ji6 := hji6
       have H' := Aside0.mk H
       clear H
       have p350 : 0 ≤ (x4_1 : Int) := of_decide_eq_true (by first | (with_reducible assumption) | assumption)
       have q350 : x4_1 < (l0.length : Int) := of_decide_eq_true (by first | (with_reducible assumption) | assumption)
       obtain ⟨ad350, e350, hx350_0⟩ := Kd.at_int HR0.out x4_1 p350 q350
       obtain rfl : ad349 = ad350 := (by injection e350)
       replace hx350_0 := (HB.out.cell (World.block_lt_of_cell? w _ hx350_0)).trans hx350_0
       replace p350 := eq_true p350
       replace q350 := eq_true q350
       go_wp2
       go_roundg k1
       case measure => have := HK1.out; omega
       case rel => exact ⟨(ji6), (wrap64 (x4_1 + 1)), (by first | rfl | (simp; done) | (simp only [← hji6] <;> (first | rfl | simp)) | (simp [*]; done)), (by first | rfl | (simp; done) | (simp [*]; done)), H', ⟨by have := HK1.out; omega⟩, ⟨by repeat (first | (with_reducible first | exact HB.out | apply below_alloc | apply pw_below_drewN | apply below_drew1) | exact HB.out)⟩⟩
      ·rw [if_neg c5] at H
       exact absurd H (by simp)
     ·rw [if_neg c4] at H
      have c4b0 : decide (x4_1 < (l0.length : Int)) = false := decide_eq_false c4
      clear c4
      obtain rfl := Option.some.inj H
      go_wp2
      go_ret
      exact ⟨by first | rfl | (simp [errW_none, errW_some] <;> rfl) | (simp [*, errW_none, errW_some] <;> rfl), by repeat (first | (with_reducible first | exact HB.out | apply below_alloc | apply pw_below_drewN | apply below_drew1) | exact HB.out)⟩
  ·rw [if_neg c3] at H
   exact absurd H (by simp)
end Go.Proofs.YtijfddobandcdaaDoor.X
end
section
namespace Go.Proofs.YtijfddobandcdaaDoor.X
open Go.RowKit YtijfddobandcdaaDoorW.PrintWords YtijfddobandcdaaDoorW.PrintLast YtijfddobandcdaaDoorW.PrintMore
attribute [local go_sem] max2_int min2_int max_two min_two max_three min_three max_four min_four
/-! ### sweep_town_isPath: function 62 -/
mutual
def sweep_town_isPath.j0 : Nat → List Int → List Int → Bool → Option (Bool)
 | 0, _, _, _ => none
 | k + 1, x0, x1, x29 => if x29 = true then (some false) else (sweep_town_isPath.l0 k x1 x0 (x0.length : Int) 0)
def sweep_town_isPath.l0 : Nat → List Int → List Int → Int → Int → Option (Bool)
 | 0, _, _, _, _ => none
 | k + 1, x1, x30, x31, x32 => if x32 < x31 then (if 0 ≤ x32 then (if x32 < (x30.length : Int) then (sweep_town_isPath.l1 k x1 x32 (rd x30 x32) 0 x30 x31 x32 x1 (x1.length : Int) 0) else (none)) else (none)) else (some true)
def sweep_town_isPath.l1 : Nat → List Int → Int → Int → Int → List Int → Int → Int → List Int → Int → Int → Option (Bool)
 | 0, _, _, _, _, _, _, _, _, _, _ => none
 | k + 1, x1, x5, x6, x7, x30, x31, x32, x37, x38, x39 => if x39 < x38 then (if 0 ≤ x39 then (if x39 < (x37.length : Int) then (if 0 ≤ x5 then (if (Go.bits .and .i64 (shr .i64 (rd x37 x39) x5) 1) = 1 then (if x39 = 0 then (sweep_town_isPath.j3 k x1 x5 x6 x7 (rd x37 x39) x30 x31 x32 x37 x38 x39 true) else (if 0 ≤ (wrap64 (x39 - 1)) then (if (wrap64 (x39 - 1)) < (x1.length : Int) then (sweep_town_isPath.j3 k x1 x5 x6 x7 (rd x37 x39) x30 x31 x32 x37 x38 x39 ((Go.bits .and .i64 (shr .i64 (rd x1 (wrap64 (x39 - 1))) x5) 1) == 0)) else (none)) else (none))) else (sweep_town_isPath.j3 k x1 x5 x6 x7 (rd x37 x39) x30 x31 x32 x37 x38 x39 false)) else (none)) else (none)) else (none)) else (if x7 = 1 then (if x6 = 0 then (sweep_town_isPath.l0 k x1 x30 x31 (wrap64 (x32 + 1))) else (some false)) else (some false))
def sweep_town_isPath.j3 : Nat → List Int → Int → Int → Int → Int → List Int → Int → Int → List Int → Int → Int → Bool → Option (Bool)
 | 0, _, _, _, _, _, _, _, _, _, _, _, _ => none
 | k + 1, x1, x5, x6, x7, x9, x30, x31, x32, x37, x38, x39, x63 => if x63 = true then (if 0 ≤ x5 then (if (Go.bits .and .i64 (shr .i64 x9 x5) 1) = 1 then (sweep_town_isPath.l1 k x1 x5 (Go.bits .andNot .i64 x6 x9) (wrap64 (x7 + 1)) x30 x31 x32 x37 x38 (wrap64 (x39 + 1))) else (sweep_town_isPath.l1 k x1 x5 x6 (wrap64 (x7 + 1)) x30 x31 x32 x37 x38 (wrap64 (x39 + 1)))) else (none)) else (if 0 ≤ x5 then (if (Go.bits .and .i64 (shr .i64 x9 x5) 1) = 1 then (sweep_town_isPath.l1 k x1 x5 (Go.bits .andNot .i64 x6 x9) x7 x30 x31 x32 x37 x38 (wrap64 (x39 + 1))) else (sweep_town_isPath.l1 k x1 x5 x6 x7 x30 x31 x32 x37 x38 (wrap64 (x39 + 1)))) else (none))
end
def sweep_town_isPath.f (k : Nat) (l0 : List Int) (l1 : List Int) : Option (Bool) := if (l1.length : Int) < 1 then (sweep_town_isPath.j0 k l0 l1 true) else (if (l1.length : Int) > 30 then (sweep_town_isPath.j0 k l0 l1 true) else ((slices_Min_int_int.f k l1).bind fun t353 => (if t353 < 0 then (sweep_town_isPath.j0 k l0 l1 true) else ((slices_Max_int_int.f k l1).bind fun t354 => ((sweep_town_all.f l0).bind fun t355 => (sweep_town_isPath.j0 k l0 l1 (decide (t354 > t355))))))))
set_option maxHeartbeats 8000000 in
set_option maxRecDepth 100000 in
theorem sweep_town_isPath.calls (k : Nat) (A0 : Option Addr) (c0 : Nat) (l0 : List Int) (A1 : Option Addr) (c1 : Nat) (l1 : List Int) (r : Bool) (w : World) (hr0 : Kd.C (Kd.int .i64) w A0 l0.length l0) (hc0 : l0.length ≤ c0) (hr1 : Kd.C (Kd.int .i64) w A1 l1.length l1) (hc1 : l1.length ≤ c1) (h : sweep_town_isPath.f k l0 l1 = some r) :
  Calls Tryd.prog 62 #[.slice A0 l0.length c0, .slice A1 l1.length c1] w fun e w' => e = .returned (.bool r) ∧ Below w.heap.size w w' := by
 have HR0 := Aside0.mk hr0
 have HC0 := Aside0.mk hc0
 clear hr0 hc0
 have HR1 := Aside0.mk hr1
 have HC1 := Aside0.mk hc1
 clear hr1 hc1
 have HB := Aside0.mk (Below.refl w.heap.size w)
 have H : (if (l1.length : Int) < 1 then (sweep_town_isPath.j0 k l0 l1 true) else (if (l1.length : Int) > 30 then (sweep_town_isPath.j0 k l0 l1 true) else ((slices_Min_int_int.f k l1).bind fun t353 => (if t353 < 0 then (sweep_town_isPath.j0 k l0 l1 true) else ((slices_Max_int_int.f k l1).bind fun t354 => ((sweep_town_all.f l0).bind fun t355 => (sweep_town_isPath.j0 k l0 l1 (decide (t354 > t355))))))))) = some r := h
 clear h
 have HC3 := Aside0.mk H
 clear H
 go_enter Tryd.func62, Tryd.ntmps62
 go_upto_region 1 with (fail)
 go_cut [29] (fun v29 wc => ∃ (kq : Nat) (x29_2 : Bool), v29 = .bool x29_2 ∧ Aside0 (sweep_town_isPath.j0 kq l0 l1 x29_2 = some r) ∧ Aside0 (kq ≤ k) ∧ Aside0 (Below w.heap.size w wc))
 case first =>
  have H := HC3.out
  clear HC3
  by_cases c4 : (l1.length : Int) < 1
  ·rw [if_pos c4] at H
   have c4b0 : decide ((l1.length : Int) < 1) = true := decide_eq_true c4
   have c4b1 : decide (l1.length < 1) = true := decide_eq_true (by omega)
   clear c4
   (first | rw [c4b0] | (simp only [i64_w, i32_w]; rw [c4b0]) | skip)
   have H' := Aside0.mk H
   clear H
   go_wp2
   go_meet
   case rel => exact ⟨_, (true), (by first | rfl | (simp; done) | (simp [*]; done)), H', ⟨by first | omega | exact Nat.le_refl _⟩, ⟨by repeat (first | (with_reducible first | exact HB.out | apply below_alloc | apply pw_below_drewN | apply below_drew1) | exact HB.out)⟩⟩
  ·rw [if_neg c4] at H
   have c4b0 : decide ((l1.length : Int) < 1) = false := decide_eq_false c4
   have c4b1 : decide (l1.length < 1) = false := decide_eq_false (by omega)
   clear c4
   (first | rw [c4b0] | (simp only [i64_w, i32_w]; rw [c4b0]) | skip)
   by_cases c5 : (l1.length : Int) > 30
   ·rw [if_pos c5] at H
    have c5b0 : decide (30 < (l1.length : Int)) = true := decide_eq_true c5
    have c5b1 : decide (30 < l1.length) = true := decide_eq_true (by omega)
    clear c5
    have H' := Aside0.mk H
    clear H
    go_wp2
    go_meet
    case rel => exact ⟨_, (true), (by first | rfl | (simp; done) | (simp [*]; done)), H', ⟨by first | omega | exact Nat.le_refl _⟩, ⟨by repeat (first | (with_reducible first | exact HB.out | apply below_alloc | apply pw_below_drewN | apply below_drew1) | exact HB.out)⟩⟩
   ·rw [if_neg c5] at H
    have c5b0 : decide (30 < (l1.length : Int)) = false := decide_eq_false c5
    have c5b1 : decide (30 < l1.length) = false := decide_eq_false (by omega)
    clear c5
    replace H := Option.bind_eq_some_iff.mp H
    obtain ⟨t353, A60, H⟩ := H
    replace H : (if t353 < 0 then (sweep_town_isPath.j0 k l0 l1 true) else ((slices_Max_int_int.f k l1).bind fun t354 => ((sweep_town_all.f l0).bind fun t355 => (sweep_town_isPath.j0 k l0 l1 (decide (t354 > t355)))))) = some r := H
    have A6 := Aside0.mk A60
    clear A60
    by_cases c7 : t353 < 0
    ·rw [if_pos c7] at H
     have c7b0 : decide (t353 < 0) = true := decide_eq_true c7
     clear c7
     have H' := Aside0.mk H
     clear H
     go_wp2_with (first | (go_at_call 75; (with_reducible refine (slices_Min_int_int.calls k _ _ l1 t353 _ ?side1 ?side2 A6.out).mono ?_); (case side1 => exact Qsc (Kd.C_below HR1.out HB.out)); (case side2 => exact HC1.out); rintro e w8 ⟨rfl, hb⟩; have n0_ := Aside0.mk (below_step (Qaw) hb); clear HB; have HB := n0_; clear n0_; (try clear hb); (try clear hb2); (try clear hk); (try clear hi)))
     go_meet
     case rel => exact ⟨_, (true), (by first | rfl | (simp; done) | (simp [*]; done)), H', ⟨by first | omega | exact Nat.le_refl _⟩, ⟨by repeat (first | (with_reducible first | exact HB.out | apply below_alloc | apply pw_below_drewN | apply below_drew1) | exact HB.out)⟩⟩
    ·rw [if_neg c7] at H
     have c7b0 : decide (t353 < 0) = false := decide_eq_false c7
     clear c7
     replace H := Option.bind_eq_some_iff.mp H
     obtain ⟨t354, A90, H⟩ := H
     replace H : ((sweep_town_all.f l0).bind fun t355 => (sweep_town_isPath.j0 k l0 l1 (decide (t354 > t355)))) = some r := H
     have A9 := Aside0.mk A90
     clear A90
     replace H := Option.bind_eq_some_iff.mp H
     obtain ⟨t355, A100, H⟩ := H
     replace H : (sweep_town_isPath.j0 k l0 l1 (decide (t354 > t355))) = some r := H
     have A10 := Aside0.mk A100
     clear A100
     have H' := Aside0.mk H
     clear H
     go_wp2_with (first | (go_at_call 75; (with_reducible refine (slices_Min_int_int.calls k _ _ l1 t353 _ ?side1 ?side2 A6.out).mono ?_); (case side1 => exact Qsc (Kd.C_below HR1.out HB.out)); (case side2 => exact HC1.out); rintro e w11 ⟨rfl, hb⟩; have n0_ := Aside0.mk (below_step (Qaw) hb); clear HB; have HB := n0_; clear n0_; (try clear hb); (try clear hb2); (try clear hk); (try clear hi)) | (go_at_call 76; (with_reducible refine (slices_Max_int_int.calls k _ _ l1 t354 _ ?side1 ?side2 A9.out).mono ?_); (case side1 => exact Qsc (Kd.C_below HR1.out HB.out)); (case side2 => exact HC1.out); rintro e w12 ⟨rfl, hb⟩; have n0_ := Aside0.mk (below_step (Qaw) hb); clear HB; have HB := n0_; clear n0_; (try clear hb); (try clear hb2); (try clear hk); (try clear hi)) | (go_at_call 61; (with_reducible refine (sweep_town_all.calls _ _ l0 t355 _ ?side1 ?side2 A10.out).mono ?_); (case side1 => exact Qsc (Kd.C_below HR0.out HB.out)); (case side2 => exact HC0.out); rintro e w' ⟨rfl, ⟨nd, rfl⟩⟩))
     go_meet
     case rel => exact ⟨_, (decide (t354 > t355)), (by first | rfl | (simp; done) | (simp [*]; done)), H', ⟨by first | omega | exact Nat.le_refl _⟩, ⟨by repeat (first | (with_reducible first | exact HB.out | apply below_alloc | apply pw_below_drewN | apply below_drew1) | exact HB.out)⟩⟩
 case rest =>
  clear HC3
  try clear c1
  try clear p2
  try clear c4
  try clear c4b0
  try clear c4b1
  try clear c5
  try clear c5b0
  try clear c5b1
  try clear c6
  try clear c7
  try clear c7b0
  obtain ⟨kq, x29_2, rfl, HA, HJ2, HB⟩ := hcut
  cases kq with
  | zero => exact absurd HA.out (by simp [sweep_town_isPath.j0])
  | succ kj2 =>
   have H := HA.out
   clear HA
   simp only [sweep_town_isPath.j0] at H
   by_cases c13 : x29_2 = true
   ·subst c13
    have H1 : (some false) = some r := by rw [if_pos rfl] at H; exact H
    clear H
    have H := H1
    clear H1
    obtain rfl := Option.some.inj H
    go_wp2
    go_ret
    exact ⟨by first | rfl | (simp [errW_none, errW_some] <;> rfl) | (simp [*, errW_none, errW_some] <;> rfl), by repeat (first | (with_reducible first | exact HB.out | apply below_alloc | apply pw_below_drewN | apply below_drew1) | exact HB.out)⟩
   ·replace c13 := Bool.eq_false_iff.mpr c13
    subst c13
    have H1 : (sweep_town_isPath.l0 kj2 l1 l0 (l0.length : Int) 0) = some r := by rw [if_neg (show ¬ (false = true) by decide)] at H; exact H
    clear H
    have H := H1
    clear H1
    have H' := Aside0.mk H
    clear H
    go_wp2
    go_loopg [32] kj2 (fun kq v32 w' => ∃ (x32_2 : Int), v32 = .int .i64 x32_2 ∧ Aside0 (sweep_town_isPath.l0 kq l1 l0 (l0.length : Int) x32_2 = some r) ∧ Aside0 (kq ≤ kj2) ∧ Aside0 (Below w.heap.size w w'))
    case atStart => exact ⟨(0), (by first | rfl | (simp; done) | (simp [*]; done)), H', ⟨Nat.le_refl _⟩, ⟨by repeat (first | (with_reducible first | exact HB.out | apply below_alloc | apply pw_below_drewN | apply below_drew1) | exact HB.out)⟩⟩
    case round =>
     clear H'
     try clear c1
     try clear p2
     try clear c4
     try clear c4b0
     try clear c4b1
     try clear c5
     try clear c5b0
     try clear c5b1
     try clear c6
     try clear c7
     try clear c7b0
     try clear c13
     try clear p2
     obtain ⟨x32_2, rfl, HA, HK2, HB⟩ := hrel
     cases gk with
     | zero => exact absurd HA.out (by simp [sweep_town_isPath.l0])
     | succ k2 =>
      have H := HA.out
      clear HA
      simp only [sweep_town_isPath.l0] at H
      by_cases c14 : x32_2 < (l0.length : Int)
      ·rw [if_pos c14] at H
       have c14b0 : decide (x32_2 < (l0.length : Int)) = true := decide_eq_true c14
       clear c14
       by_cases c15 : 0 ≤ x32_2
       ·rw [if_pos c15] at H
        have c15b0 : decide (0 ≤ x32_2) = true := decide_eq_true c15
        clear c15
        by_cases c16 : x32_2 < (l0.length : Int)
        ·rw [if_pos c16] at H
         have c16b0 : decide (x32_2 < (l0.length : Int)) = true := decide_eq_true c16
         clear c16
         have H' := Aside0.mk H
         clear H
         have p356 : 0 ≤ (x32_2 : Int) := of_decide_eq_true (by first | (with_reducible assumption) | assumption)
         have q356 : x32_2 < (l0.length : Int) := of_decide_eq_true (by first | (with_reducible assumption) | assumption)
         obtain ⟨ad356, e356, hx356_0⟩ := Kd.at_int HR0.out x32_2 p356 q356
         cases e356
         replace hx356_0 := (HB.out.cell (World.block_lt_of_cell? w _ hx356_0)).trans hx356_0
         replace p356 := eq_true p356
         replace q356 := eq_true q356
         go_wp2
         go_loopg [6, 7, 39] k2 (fun kq v6 v7 v39 w' => ∃ (x6_3 : Int) (x7_3 : Int) (x39_3 : Int), v6 = .int .i64 x6_3 ∧ v7 = .int .i64 x7_3 ∧ v39 = .int .i64 x39_3 ∧ Aside0 (sweep_town_isPath.l1 kq l1 x32_2 x6_3 x7_3 l0 (l0.length : Int) x32_2 l1 (l1.length : Int) x39_3 = some r) ∧ Aside0 (kq ≤ k2) ∧ Aside0 (Below w.heap.size w w'))
         case atStart => exact ⟨(rd l0 x32_2), (0), (0), (by first | rfl | (simp; done) | (simp [*]; done)), (by first | rfl | (simp; done) | (simp [*]; done)), (by first | rfl | (simp; done) | (simp [*]; done)), H', ⟨Nat.le_refl _⟩, ⟨by repeat (first | (with_reducible first | exact HB.out | apply below_alloc | apply pw_below_drewN | apply below_drew1) | exact HB.out)⟩⟩
         case round =>
          clear H'
          try clear c1
          try clear p2
          try clear p3
          try clear q3
          try clear hx3
          try clear c4
          try clear c4b0
          try clear c4b1
          try clear c5
          try clear c5b0
          try clear c5b1
          try clear c6
          try clear c7
          try clear c7b0
          try clear c13
          try clear c14
          try clear c14b0
          try clear c15
          try clear c15b0
          try clear c16
          try clear c16b0
          try clear hx356_0
          try clear p2
          try clear p356
          try clear q356
          obtain ⟨x6_3, x7_3, x39_3, rfl, rfl, rfl, HA, HK3, HB⟩ := hrel
          cases gk with
          | zero => exact absurd HA.out (by simp [sweep_town_isPath.l1])
          | succ k3 =>
           have H := HA.out
           clear HA
           simp only [sweep_town_isPath.l1] at H
           by_cases c17 : x39_3 < (l1.length : Int)
           ·rw [if_pos c17] at H
            have c17b0 : decide (x39_3 < (l1.length : Int)) = true := decide_eq_true c17
            clear c17
            by_cases c18 : 0 ≤ x39_3
            ·rw [if_pos c18] at H
             have c18b0 : decide (0 ≤ x39_3) = true := decide_eq_true c18
             clear c18
             by_cases c19 : x39_3 < (l1.length : Int)
             ·rw [if_pos c19] at H
              have c19b0 : decide (x39_3 < (l1.length : Int)) = true := decide_eq_true c19
              clear c19
              have HC20 := Aside0.mk H
              clear H
              have p357 : 0 ≤ (x39_3 : Int) := of_decide_eq_true (by first | (with_reducible assumption) | assumption)
              have q357 : x39_3 < (l1.length : Int) := of_decide_eq_true (by first | (with_reducible assumption) | assumption)
              obtain ⟨ad357, e357, hx357_0⟩ := Kd.at_int HR1.out x39_3 p357 q357
              cases e357
              replace hx357_0 := (HB.out.cell (World.block_lt_of_cell? w _ hx357_0)).trans hx357_0
              replace p357 := eq_true p357
              replace q357 := eq_true q357
              go_upto_region 10 with (fail)
              go_cut [63] (fun v63 wc => ∃ (kq : Nat) (x63_19 : Bool), v63 = .bool x63_19 ∧ Aside0 (sweep_town_isPath.j3 kq l1 x32_2 x6_3 x7_3 (rd l1 x39_3) l0 (l0.length : Int) x32_2 l1 (l1.length : Int) x39_3 x63_19 = some r) ∧ Aside0 (kq ≤ k3) ∧ Aside0 (Below w.heap.size w wc))
              case first =>
               have H := HC20.out
               clear HC20
               by_cases c21 : 0 ≤ x32_2
               ·rw [if_pos c21] at H
                have c21b0 := eq_true c21
                have c21b1 : decide (0 ≤ x32_2) = true := decide_eq_true c21
                clear c21
                obtain ⟨ji22, hji22⟩ : ∃ j_ : Int, (shr .i64 (rd l1 x39_3) x32_2) = j_ := ⟨_, rfl⟩
                replace H : (if (Go.bits .and .i64 (ji22) 1) = 1 then (if x39_3 = 0 then (sweep_town_isPath.j3 k3 l1 x32_2 x6_3 x7_3 (rd l1 x39_3) l0 (l0.length : Int) x32_2 l1 (l1.length : Int) x39_3 true) else (if 0 ≤ (wrap64 (x39_3 - 1)) then (if (wrap64 (x39_3 - 1)) < (l1.length : Int) then (sweep_town_isPath.j3 k3 l1 x32_2 x6_3 x7_3 (rd l1 x39_3) l0 (l0.length : Int) x32_2 l1 (l1.length : Int) x39_3 ((Go.bits .and .i64 (shr .i64 (rd l1 (wrap64 (x39_3 - 1))) x32_2) 1) == 0)) else (none)) else (none))) else (sweep_town_isPath.j3 k3 l1 x32_2 x6_3 x7_3 (rd l1 x39_3) l0 (l0.length : Int) x32_2 l1 (l1.length : Int) x39_3 false)) = some r := by first | (rw [hji22] at H; exact H) | (simp only [hji22] at H ⊢; exact H)
                have hji22_ : ((rd l1 x39_3) / 2 ^ min x32_2.toNat 64) = ji22 := hji22
                have hji22z : x32_2 ≤ 64 → ((rd l1 x39_3) / 2 ^ x32_2.toNat) = ji22 := shr_small hji22
                by_cases c23 : (Go.bits .and .i64 (ji22) 1) = 1
                ·rw [if_pos c23] at H
                 have c23b0 : ((Go.bits .and .i64 (ji22) 1) == 1) = true := beq_iff_eq.mpr c23
                 have c23b1 : ((Go.bits .and .i64 (ji22) 1) != 1) = false := bne_eq_false_iff_eq.mpr c23
                 clear c23
                 (first | rw [c23b0] | (simp only [i64_w, i32_w]; rw [c23b0]) | skip)
                 by_cases c24 : x39_3 = 0
                 ·rw [if_pos c24] at H
                  have c24b0 : (x39_3 == 0) = true := beq_iff_eq.mpr c24
                  have c24b1 : (x39_3 != 0) = false := bne_eq_false_iff_eq.mpr c24
                  clear c24
                  have H' := Aside0.mk H
                  clear H
                  go_wp2
                  go_meet
                  case rel => exact ⟨_, (true), (by first | rfl | (simp; done) | (simp [*]; done)), H', ⟨by have := HJ2.out; have := HK2.out; have := HK3.out; first | omega | exact Nat.le_refl _⟩, ⟨by repeat (first | (with_reducible first | exact HB.out | apply below_alloc | apply pw_below_drewN | apply below_drew1) | exact HB.out)⟩⟩
                 ·rw [if_neg c24] at H
                  have c24b0 : (x39_3 == 0) = false := beq_eq_false_iff_ne.mpr c24
                  have c24b1 : (x39_3 != 0) = true := bne_iff_ne.mpr c24
                  obtain ⟨ji25, hji25⟩ : ∃ j_ : Int, (wrap64 (x39_3 - 1)) = j_ := ⟨_, rfl⟩
                  replace H : (if 0 ≤ (ji25) then (if (ji25) < (l1.length : Int) then (sweep_town_isPath.j3 k3 l1 x32_2 x6_3 x7_3 (rd l1 x39_3) l0 (l0.length : Int) x32_2 l1 (l1.length : Int) x39_3 ((Go.bits .and .i64 (shr .i64 (rd l1 (ji25)) x32_2) 1) == 0)) else (none)) else (none)) = some r := by first | (rw [hji25] at H; exact H) | (simp only [hji25] at H ⊢; exact H)
                  have hji25w : (IntKind.i64.wrap (x39_3 - 1)) = ji25 := (i64_w _).trans hji25
                  by_cases c26 : 0 ≤ (ji25)
                  ·rw [if_pos c26] at H
                   have c26b0 : decide (0 ≤ (ji25)) = true := decide_eq_true c26
                   clear c26
                   by_cases c27 : (ji25) < (l1.length : Int)
                   ·rw [if_pos c27] at H
                    have c27b0 : decide ((ji25) < (l1.length : Int)) = true := decide_eq_true c27
                    clear c27
                    have c28b0 := eq_true (of_decide_eq_true (by first | (with_reducible assumption) | assumption) : 0 ≤ x32_2)
                    obtain ⟨ji29, hji29⟩ : ∃ j_ : Int, (shr .i64 (rd l1 (ji25)) x32_2) = j_ := ⟨_, rfl⟩
                    replace H : (sweep_town_isPath.j3 k3 l1 x32_2 x6_3 x7_3 (rd l1 x39_3) l0 (l0.length : Int) x32_2 l1 (l1.length : Int) x39_3 ((Go.bits .and .i64 (ji29) 1) == 0)) = some r := by first | (rw [hji29] at H; exact H) | (simp only [hji29] at H ⊢; exact H)
                    have hji29_ : ((rd l1 (ji25)) / 2 ^ min x32_2.toNat 64) = ji29 := hji29
                    have hji29z : x32_2 ≤ 64 → ((rd l1 (ji25)) / 2 ^ x32_2.toNat) = ji29 := shr_small hji29
                    have H' := Aside0.mk H
                    clear H
                    have p358 : 0 ≤ ((ji25) : Int) := of_decide_eq_true (by first | (with_reducible assumption) | assumption)
                    have q358 : (ji25) < (l1.length : Int) := of_decide_eq_true (by first | (with_reducible assumption) | assumption)
                    obtain ⟨ad358, e358, hx358_0⟩ := Kd.at_int HR1.out (ji25) p358 q358
                    obtain rfl : ad357 = ad358 := (by injection e358)
                    replace hx358_0 := (HB.out.cell (World.block_lt_of_cell? w _ hx358_0)).trans hx358_0
                    replace p358 := eq_true p358
                    replace q358 := eq_true q358
                    go_wp2
                    go_meet
                    case rel => exact ⟨_, (((Go.bits .and .i64 (ji29) 1) == 0)), (by first | rfl | (simp; done) | (simp only [← hji29] <;> (first | rfl | simp)) | (simp [*]; done)), H', ⟨by have := HJ2.out; have := HK2.out; have := HK3.out; first | omega | exact Nat.le_refl _⟩, ⟨by repeat (first | (with_reducible first | exact HB.out | apply below_alloc | apply pw_below_drewN | apply below_drew1) | exact HB.out)⟩⟩
                   ·rw [if_neg c27] at H
                    exact absurd H (by simp)
                  ·rw [if_neg c26] at H
                   exact absurd H (by simp)
                ·rw [if_neg c23] at H
                 have c23b0 : ((Go.bits .and .i64 (ji22) 1) == 1) = false := beq_eq_false_iff_ne.mpr c23
                 have c23b1 : ((Go.bits .and .i64 (ji22) 1) != 1) = true := bne_iff_ne.mpr c23
                 (first | rw [c23b0] | (simp only [i64_w, i32_w]; rw [c23b0]) | skip)
                 have H' := Aside0.mk H
                 clear H
                 go_wp2
                 go_meet
                 case rel => exact ⟨_, (false), (by first | rfl | (simp; done) | (simp [*]; done)), H', ⟨by have := HJ2.out; have := HK2.out; have := HK3.out; first | omega | exact Nat.le_refl _⟩, ⟨by repeat (first | (with_reducible first | exact HB.out | apply below_alloc | apply pw_below_drewN | apply below_drew1) | exact HB.out)⟩⟩
               ·rw [if_neg c21] at H
                exact absurd H (by simp)
              case rest =>
               clear HC20
               try clear c1
               try clear c2
               try clear p2
               try clear p3
               try clear q3
               try clear hx3
               try clear c4
               try clear c4b0
               try clear c4b1
               try clear c5
               try clear c5b0
               try clear c5b1
               try clear c6
               try clear p6
               try clear c7
               try clear c7b0
               try clear c13
               try clear c14
               try clear c14b0
               try clear c15
               try clear c15b0
               try clear c16
               try clear c16b0
               try clear c17
               try clear c17b0
               try clear c18
               try clear c18b0
               try clear c19
               try clear c19b0
               try clear c21
               try clear c21b0
               try clear c21b1
               try clear c23
               try clear c23b0
               try clear c23b1
               try clear c24
               try clear c24b0
               try clear c24b1
               try clear c26
               try clear c26b0
               try clear c27
               try clear c27b0
               try clear c28
               try clear c28b0
               try clear hx356_0
               try clear hx357_0
               try clear hx358_0
               try clear p2
               try clear p3
               try clear p356
               try clear p357
               try clear p358
               try clear q3
               try clear q356
               try clear q357
               try clear q358
               obtain ⟨kq, x63_19, rfl, HA, HJ19, HB⟩ := hcut
               cases kq with
               | zero => exact absurd HA.out (by simp [sweep_town_isPath.j3])
               | succ kj19 =>
                have H := HA.out
                clear HA
                simp only [sweep_town_isPath.j3] at H
                by_cases c30 : x63_19 = true
                ·subst c30
                 have H1 : (if 0 ≤ x32_2 then (if (Go.bits .and .i64 (shr .i64 (rd l1 x39_3) x32_2) 1) = 1 then (sweep_town_isPath.l1 kj19 l1 x32_2 (Go.bits .andNot .i64 x6_3 (rd l1 x39_3)) (wrap64 (x7_3 + 1)) l0 (l0.length : Int) x32_2 l1 (l1.length : Int) (wrap64 (x39_3 + 1))) else (sweep_town_isPath.l1 kj19 l1 x32_2 x6_3 (wrap64 (x7_3 + 1)) l0 (l0.length : Int) x32_2 l1 (l1.length : Int) (wrap64 (x39_3 + 1)))) else (none)) = some r := by rw [if_pos rfl] at H; exact H
                 clear H
                 have H := H1
                 clear H1
                 by_cases c31 : 0 ≤ x32_2
                 ·rw [if_pos c31] at H
                  have c31b0 := eq_true c31
                  have c31b1 : decide (0 ≤ x32_2) = true := decide_eq_true c31
                  clear c31
                  obtain ⟨ji32, hji32⟩ : ∃ j_ : Int, (shr .i64 (rd l1 x39_3) x32_2) = j_ := ⟨_, rfl⟩
                  replace H : (if (Go.bits .and .i64 (ji32) 1) = 1 then (sweep_town_isPath.l1 kj19 l1 x32_2 (Go.bits .andNot .i64 x6_3 (rd l1 x39_3)) (wrap64 (x7_3 + 1)) l0 (l0.length : Int) x32_2 l1 (l1.length : Int) (wrap64 (x39_3 + 1))) else (sweep_town_isPath.l1 kj19 l1 x32_2 x6_3 (wrap64 (x7_3 + 1)) l0 (l0.length : Int) x32_2 l1 (l1.length : Int) (wrap64 (x39_3 + 1)))) = some r := by first | (rw [hji32] at H; exact H) | (simp only [hji32] at H ⊢; exact H)
                  have hji32_ : ((rd l1 x39_3) / 2 ^ min x32_2.toNat 64) = ji32 := hji32
                  have hji32z : x32_2 ≤ 64 → ((rd l1 x39_3) / 2 ^ x32_2.toNat) = ji32 := shr_small hji32
                  by_cases c33 : (Go.bits .and .i64 (ji32) 1) = 1
                  ·rw [if_pos c33] at H
                   have c33b0 : ((Go.bits .and .i64 (ji32) 1) == 1) = true := beq_iff_eq.mpr c33
                   have c33b1 : ((Go.bits .and .i64 (ji32) 1) != 1) = false := bne_eq_false_iff_eq.mpr c33
                   clear c33
                   have H' := Aside0.mk H
                   clear H
                   go_wp2
                   go_roundg kj19
                   case measure => have := HJ2.out; have := HK2.out; have := HK3.out; have := HJ19.out; omega
                   case rel => exact ⟨(Go.bits .andNot .i64 x6_3 (rd l1 x39_3)), (wrap64 (x7_3 + 1)), (wrap64 (x39_3 + 1)), (by first | rfl | (simp; done) | (simp [*]; done)), (by first | rfl | (simp; done) | (simp [*]; done)), (by first | rfl | (simp; done) | (simp [*]; done)), H', ⟨by have := HJ2.out; have := HK2.out; have := HK3.out; have := HJ19.out; omega⟩, ⟨by repeat (first | (with_reducible first | exact HB.out | apply below_alloc | apply pw_below_drewN | apply below_drew1) | exact HB.out)⟩⟩
                  ·rw [if_neg c33] at H
                   have c33b0 : ((Go.bits .and .i64 (ji32) 1) == 1) = false := beq_eq_false_iff_ne.mpr c33
                   have c33b1 : ((Go.bits .and .i64 (ji32) 1) != 1) = true := bne_iff_ne.mpr c33
                   have H' := Aside0.mk H
                   clear H
                   go_wp2
                   go_roundg kj19
                   case measure => have := HJ2.out; have := HK2.out; have := HK3.out; have := HJ19.out; omega
                   case rel => exact ⟨(x6_3), (wrap64 (x7_3 + 1)), (wrap64 (x39_3 + 1)), (by first | rfl | (simp; done) | (simp [*]; done)), (by first | rfl | (simp; done) | (simp [*]; done)), (by first | rfl | (simp; done) | (simp [*]; done)), H', ⟨by have := HJ2.out; have := HK2.out; have := HK3.out; have := HJ19.out; omega⟩, ⟨by repeat (first | (with_reducible first | exact HB.out | apply below_alloc | apply pw_below_drewN | apply below_drew1) | exact HB.out)⟩⟩
                 ·rw [if_neg c31] at H
                  exact absurd H (by simp)
                ·replace c30 := Bool.eq_false_iff.mpr c30
                 subst c30
                 have H1 : (if 0 ≤ x32_2 then (if (Go.bits .and .i64 (shr .i64 (rd l1 x39_3) x32_2) 1) = 1 then (sweep_town_isPath.l1 kj19 l1 x32_2 (Go.bits .andNot .i64 x6_3 (rd l1 x39_3)) x7_3 l0 (l0.length : Int) x32_2 l1 (l1.length : Int) (wrap64 (x39_3 + 1))) else (sweep_town_isPath.l1 kj19 l1 x32_2 x6_3 x7_3 l0 (l0.length : Int) x32_2 l1 (l1.length : Int) (wrap64 (x39_3 + 1)))) else (none)) = some r := by rw [if_neg (show ¬ (false = true) by decide)] at H; exact H
                 clear H
                 have H := H1
                 clear H1
                 by_cases c34 : 0 ≤ x32_2
                 ·rw [if_pos c34] at H
                  have c34b0 := eq_true c34
                  have c34b1 : decide (0 ≤ x32_2) = true := decide_eq_true c34
                  clear c34
                  obtain ⟨ji35, hji35⟩ : ∃ j_ : Int, (shr .i64 (rd l1 x39_3) x32_2) = j_ := ⟨_, rfl⟩
                  replace H : (if (Go.bits .and .i64 (ji35) 1) = 1 then (sweep_town_isPath.l1 kj19 l1 x32_2 (Go.bits .andNot .i64 x6_3 (rd l1 x39_3)) x7_3 l0 (l0.length : Int) x32_2 l1 (l1.length : Int) (wrap64 (x39_3 + 1))) else (sweep_town_isPath.l1 kj19 l1 x32_2 x6_3 x7_3 l0 (l0.length : Int) x32_2 l1 (l1.length : Int) (wrap64 (x39_3 + 1)))) = some r := by first | (rw [hji35] at H; exact H) | (simp only [hji35] at H ⊢; exact H)
                  have hji35_ : ((rd l1 x39_3) / 2 ^ min x32_2.toNat 64) = ji35 := hji35
                  have hji35z : x32_2 ≤ 64 → ((rd l1 x39_3) / 2 ^ x32_2.toNat) = ji35 := shr_small hji35
                  by_cases c36 : (Go.bits .and .i64 (ji35) 1) = 1
                  ·rw [if_pos c36] at H
                   have c36b0 : ((Go.bits .and .i64 (ji35) 1) == 1) = true := beq_iff_eq.mpr c36
                   have c36b1 : ((Go.bits .and .i64 (ji35) 1) != 1) = false := bne_eq_false_iff_eq.mpr c36
                   clear c36
                   have H' := Aside0.mk H
                   clear H
                   go_wp2
                   go_roundg kj19
                   case measure => have := HJ2.out; have := HK2.out; have := HK3.out; have := HJ19.out; omega
                   case rel => exact ⟨(Go.bits .andNot .i64 x6_3 (rd l1 x39_3)), (x7_3), (wrap64 (x39_3 + 1)), (by first | rfl | (simp; done) | (simp [*]; done)), (by first | rfl | (simp; done) | (simp [*]; done)), (by first | rfl | (simp; done) | (simp [*]; done)), H', ⟨by have := HJ2.out; have := HK2.out; have := HK3.out; have := HJ19.out; omega⟩, ⟨by repeat (first | (with_reducible first | exact HB.out | apply below_alloc | apply pw_below_drewN | apply below_drew1) | exact HB.out)⟩⟩
                  ·rw [if_neg c36] at H
                   have c36b0 : ((Go.bits .and .i64 (ji35) 1) == 1) = false := beq_eq_false_iff_ne.mpr c36
                   have c36b1 : ((Go.bits .and .i64 (ji35) 1) != 1) = true := bne_iff_ne.mpr c36
                   have H' := Aside0.mk H
                   clear H
                   go_wp2
                   go_roundg kj19
                   case measure => have := HJ2.out; have := HK2.out; have := HK3.out; have := HJ19.out; omega
                   case rel => exact ⟨(x6_3), (x7_3), (wrap64 (x39_3 + 1)), (by first | rfl | (simp; done) | (simp [*]; done)), (by first | rfl | (simp; done) | (simp [*]; done)), (by first | rfl | (simp; done) | (simp [*]; done)), H', ⟨by have := HJ2.out; have := HK2.out; have := HK3.out; have := HJ19.out; omega⟩, ⟨by repeat (first | (with_reducible first | exact HB.out | apply below_alloc | apply pw_below_drewN | apply below_drew1) | exact HB.out)⟩⟩
                 ·rw [if_neg c34] at H
                  exact absurd H (by simp)
             ·rw [if_neg c19] at H
              exact absurd H (by simp)
            ·rw [if_neg c18] at H
             exact absurd H (by simp)
           ·rw [if_neg c17] at H
            have c17b0 : decide (x39_3 < (l1.length : Int)) = false := decide_eq_false c17
            clear c17
            by_cases c37 : x7_3 = 1
            ·rw [if_pos c37] at H
             have c37b0 : (x7_3 == 1) = true := beq_iff_eq.mpr c37
             have c37b1 : (x7_3 != 1) = false := bne_eq_false_iff_eq.mpr c37
             clear c37
             by_cases c38 : x6_3 = 0
             ·rw [if_pos c38] at H
              have c38b0 : (x6_3 == 0) = true := beq_iff_eq.mpr c38
              have c38b1 : (x6_3 != 0) = false := bne_eq_false_iff_eq.mpr c38
              clear c38
              have H' := Aside0.mk H
              clear H
              go_wp2
              go_roundg k3
              case measure => have := HJ2.out; have := HK2.out; have := HK3.out; omega
              case rel => exact ⟨(wrap64 (x32_2 + 1)), (by first | rfl | (simp; done) | (simp [*]; done)), H', ⟨by have := HJ2.out; have := HK2.out; have := HK3.out; omega⟩, ⟨by repeat (first | (with_reducible first | exact HB.out | apply below_alloc | apply pw_below_drewN | apply below_drew1) | exact HB.out)⟩⟩
             ·rw [if_neg c38] at H
              have c38b0 : (x6_3 == 0) = false := beq_eq_false_iff_ne.mpr c38
              have c38b1 : (x6_3 != 0) = true := bne_iff_ne.mpr c38
              obtain rfl := Option.some.inj H
              go_wp2
              go_ret
              exact ⟨by first | rfl | (simp [errW_none, errW_some] <;> rfl) | (simp [*, errW_none, errW_some] <;> rfl), by repeat (first | (with_reducible first | exact HB.out | apply below_alloc | apply pw_below_drewN | apply below_drew1) | exact HB.out)⟩
            ·rw [if_neg c37] at H
             have c37b0 : (x7_3 == 1) = false := beq_eq_false_iff_ne.mpr c37
             have c37b1 : (x7_3 != 1) = true := bne_iff_ne.mpr c37
             obtain rfl := Option.some.inj H
             go_wp2
             go_ret
             exact ⟨by first | rfl | (simp [errW_none, errW_some] <;> rfl) | (simp [*, errW_none, errW_some] <;> rfl), by repeat (first | (with_reducible first | exact HB.out | apply below_alloc | apply pw_below_drewN | apply below_drew1) | exact HB.out)⟩
        ·rw [if_neg c16] at H
         exact absurd H (by simp)
       ·rw [if_neg c15] at H
        exact absurd H (by simp)
      ·rw [if_neg c14] at H
       have c14b0 : decide (x32_2 < (l0.length : Int)) = false := decide_eq_false c14
       clear c14
       obtain rfl := Option.some.inj H
       go_wp2
       go_ret
       exact ⟨by first | rfl | (simp [errW_none, errW_some] <;> rfl) | (simp [*, errW_none, errW_some] <;> rfl), by repeat (first | (with_reducible first | exact HB.out | apply below_alloc | apply pw_below_drewN | apply below_drew1) | exact HB.out)⟩
end Go.Proofs.YtijfddobandcdaaDoor.X
end
section
namespace Go.Proofs.YtijfddobandcdaaDoor.X
open Go.RowKit YtijfddobandcdaaDoorW.PrintWords YtijfddobandcdaaDoorW.PrintLast YtijfddobandcdaaDoorW.PrintMore
attribute [local go_sem] max2_int min2_int max_two min_two max_three min_three max_four min_four
/-! ### sweep_Follow: function 41 -/
def sweep_Follow.f (k : Nat) (l0 : List Int) (l1 : List Int) : Option ((List (S85)) × Int) := (sweep_read.f k l0).bind fun bt477 => (if bt477.2 = true then ((sweep_town_isPath.f k bt477.1 l1).bind fun t481 => (if t481 = true then ((sweep_follow.f l1).bind fun t482 => (some (t482, 0))) else (some (([] : List (S85)), 2)))) else (some (([] : List (S85)), 2)))
set_option maxHeartbeats 8000000 in
set_option maxRecDepth 100000 in
theorem sweep_Follow.calls (k : Nat) (A0 : Option Addr) (c0 : Nat) (l0 : List Int) (A1 : Option Addr) (c1 : Nat) (l1 : List Int) (r1 : List (S85)) (r2 : Int) (w : World) (hGL : GL w) (hr0 : Kd.C (Kd.int .i64) w A0 l0.length l0) (hc0 : l0.length ≤ c0) (hr1 : Kd.C (Kd.int .i64) w A1 l1.length l1) (hc1 : l1.length ≤ c1) (h : sweep_Follow.f k l0 l1 = some (r1, r2)) :
  Calls Tryd.prog 41 #[.slice A0 l0.length c0, .slice A1 l1.length c1] w fun e w' => ∃ v0_ : Value, e = .returned (.tuple #[v0_, .int .i64 r2]) ∧ Kd.R k85 85 w' w.heap.size (fun _ => True) v0_ r1 ∧ Below w.heap.size w w' := by
 have HGL := Aside0.mk hGL
 clear hGL
 have HR0 := Aside0.mk hr0
 have HC0 := Aside0.mk hc0
 clear hr0 hc0
 have HR1 := Aside0.mk hr1
 have HC1 := Aside0.mk hc1
 clear hr1 hc1
 have HB := Aside0.mk (Below.refl w.heap.size w)
 have H : ((sweep_read.f k l0).bind fun bt477 => (if bt477.2 = true then ((sweep_town_isPath.f k bt477.1 l1).bind fun t481 => (if t481 = true then ((sweep_follow.f l1).bind fun t482 => (some (t482, 0))) else (some (([] : List (S85)), 2)))) else (some (([] : List (S85)), 2)))) = some (r1, r2) := h
 clear h
 replace H := Option.bind_eq_some_iff.mp H
 obtain ⟨⟨t477, t480⟩, A30, H⟩ := H
 replace H : (if t480 = true then ((sweep_town_isPath.f k t477 l1).bind fun t481 => (if t481 = true then ((sweep_follow.f l1).bind fun t482 => (some (t482, 0))) else (some (([] : List (S85)), 2)))) else (some (([] : List (S85)), 2))) = some (r1, r2) := H
 have A3 := Aside0.mk A30
 clear A30
 by_cases c4 : t480 = true
 ·subst c4
  have H1 : ((sweep_town_isPath.f k t477 l1).bind fun t481 => (if t481 = true then ((sweep_follow.f l1).bind fun t482 => (some (t482, 0))) else (some (([] : List (S85)), 2)))) = some (r1, r2) := by rw [if_pos rfl] at H; exact H
  clear H
  have H := H1
  clear H1
  replace H := Option.bind_eq_some_iff.mp H
  obtain ⟨t481, A50, H⟩ := H
  replace H : (if t481 = true then ((sweep_follow.f l1).bind fun t482 => (some (t482, 0))) else (some (([] : List (S85)), 2))) = some (r1, r2) := H
  have A5 := Aside0.mk A50
  clear A50
  by_cases c6 : t481 = true
  ·subst c6
   have H1 : ((sweep_follow.f l1).bind fun t482 => (some (t482, 0))) = some (r1, r2) := by rw [if_pos rfl] at H; exact H
   clear H
   have H := H1
   clear H1
   replace H := Option.bind_eq_some_iff.mp H
   obtain ⟨t482, A70, H⟩ := H
   replace H : (some (t482, 0)) = some (r1, r2) := H
   have A7 := Aside0.mk A70
   clear A70
   simp only [Option.some.injEq, Prod.mk.injEq] at H
   obtain ⟨rfl, rfl⟩ := H
   go_enter Tryd.func41, Tryd.ntmps41
   go_wp2_with (first | ((with_reducible refine gate_callee (f := 49) rfl ?_); refine goesL_ (some 10) rfl rfl Tryd.func49 (by kernel_rfl) rfl #[.slice A0 l0.length c0] rfl (Qls) ?_; (with_reducible refine (sweep_read.calls k (fun k_ => k_ < w.heap.size) _ _ l0 t477 true _ ?side1 A3.out).mono ?_); (case side1 => exact Kd.V_mk HC0.out (Kd.F_below (Kd.C_F (Kd.heap_int .i64) HR0.out) (Qaw))); rintro e w8 ⟨v478, rfl, ho0, hb⟩; refine ⟨_, rfl, ?_⟩; have n0_ := Aside0.mk (Kd.V_lower (Kd.V_mono (ok' := fun k_ => True) ho0 (fun k_ hk_ => trivial)) (below_size (Qaw))); have n1_ := Aside0.mk (below_step (Qaw) hb); clear HB; have HO479 := n0_; have HB := n1_; clear n0_ n1_; (try clear hb); (try clear hb2); (try clear hk); (try clear hi); (try clear ho0); obtain ⟨Ao9, co9, eo9⟩ := Kd.V_slice HO479.out; subst eo9) | (go_at_call 62; (with_reducible refine (sweep_town_isPath.calls k _ _ t477 _ _ l1 true _ ?side1 ?side2 ?side3 ?side4 A5.out).mono ?_); (case side1 => exact Qsc (Kd.V_reads' HO479.out).2.2); (case side2 => exact (Kd.V_reads' HO479.out).2.1); (case side3 => exact Qsc (Kd.C_below HR1.out HB.out)); (case side4 => exact HC1.out); rintro e w10 ⟨rfl, hb⟩; have n0_ := Aside0.mk (Kd.V_below (by (with_reducible repeat (first | apply Kd.V_alloc | apply Kd.V_drewN | apply Kd.V_drew)); exact HO479.out) hb); have n1_ := Aside0.mk (below_step (Qaw) hb); clear HO479; clear HB; have HO479 := n0_; have HB := n1_; clear n0_ n1_; (try clear hb); (try clear hb2); (try clear hk); (try clear hi)) | ((with_reducible refine gate_callee (f := 51) rfl ?_); refine goesL_ (some 22) rfl rfl Tryd.func51 (by kernel_rfl) rfl #[.slice A1 l1.length c1] rfl (Qls) ?_; (with_reducible refine (sweep_follow.calls (hGL := (Qlg)) _ _ l1 t482 _ ?side1 ?side2 A7.out).mono ?_); (case side1 => exact Qsc (Kd.C_below HR1.out HB.out)); (case side2 => exact HC1.out); rintro e w11 ⟨v483, rfl, ho0, hb⟩; refine ⟨_, rfl, ?_⟩; have n0_ := Aside0.mk (Kd.V_elder' (by (with_reducible repeat (first | apply Kd.V_alloc | apply Kd.V_drewN | apply Kd.V_drew)); exact HO479.out) (Kd.R_base ho0) hb); have n1_ := Aside0.mk (Kd.R_lower ho0 (below_size (Qaw))); have n2_ := Aside0.mk (below_step (Qaw) hb); clear HO479; clear HB; have HO479 := n0_; have HO484 := n1_; have HB := n2_; clear n0_ n1_ n2_; (try clear hb); (try clear hb2); (try clear hk); (try clear hi); (try clear ho0)))
   go_ret2
   exact ⟨_, by first | rfl | (simp [errW_none, errW_some] <;> rfl) | (simp [*, errW_none, errW_some] <;> rfl), by (with_reducible repeat (first | apply Kd.R_alloc | apply Kd.R_drewN | apply Kd.R_drew)); exact HO484.out, by repeat (first | (with_reducible first | exact HB.out | apply below_alloc | apply pw_below_drewN | apply below_drew1) | exact HB.out)⟩
  ·replace c6 := Bool.eq_false_iff.mpr c6
   subst c6
   have H1 : (some (([] : List (S85)), 2)) = some (r1, r2) := by rw [if_neg (show ¬ (false = true) by decide)] at H; exact H
   clear H
   have H := H1
   clear H1
   simp only [Option.some.injEq, Prod.mk.injEq] at H
   obtain ⟨rfl, rfl⟩ := H
   go_enter Tryd.func41, Tryd.ntmps41
   go_wp2_with (first | ((with_reducible refine gate_callee (f := 49) rfl ?_); refine goesL_ (some 10) rfl rfl Tryd.func49 (by kernel_rfl) rfl #[.slice A0 l0.length c0] rfl (Qls) ?_; (with_reducible refine (sweep_read.calls k (fun k_ => k_ < w.heap.size) _ _ l0 t477 true _ ?side1 A3.out).mono ?_); (case side1 => exact Kd.V_mk HC0.out (Kd.F_below (Kd.C_F (Kd.heap_int .i64) HR0.out) (Qaw))); rintro e w12 ⟨v478, rfl, ho0, hb⟩; refine ⟨_, rfl, ?_⟩; have n0_ := Aside0.mk (Kd.V_lower (Kd.V_mono (ok' := fun k_ => True) ho0 (fun k_ hk_ => trivial)) (below_size (Qaw))); have n1_ := Aside0.mk (below_step (Qaw) hb); clear HB; have HO479 := n0_; have HB := n1_; clear n0_ n1_; (try clear hb); (try clear hb2); (try clear hk); (try clear hi); (try clear ho0); obtain ⟨Ao13, co13, eo13⟩ := Kd.V_slice HO479.out; subst eo13) | (go_at_call 62; (with_reducible refine (sweep_town_isPath.calls k _ _ t477 _ _ l1 false _ ?side1 ?side2 ?side3 ?side4 A5.out).mono ?_); (case side1 => exact Qsc (Kd.V_reads' HO479.out).2.2); (case side2 => exact (Kd.V_reads' HO479.out).2.1); (case side3 => exact Qsc (Kd.C_below HR1.out HB.out)); (case side4 => exact HC1.out); rintro e w14 ⟨rfl, hb⟩; have n0_ := Aside0.mk (Kd.V_below (by (with_reducible repeat (first | apply Kd.V_alloc | apply Kd.V_drewN | apply Kd.V_drew)); exact HO479.out) hb); have n1_ := Aside0.mk (below_step (Qaw) hb); clear HO479; clear HB; have HO479 := n0_; have HB := n1_; clear n0_ n1_; (try clear hb); (try clear hb2); (try clear hk); (try clear hi)))
   go_ret2
   exact ⟨_, by first | rfl | (simp [errW_none, errW_some] <;> rfl) | (simp [*, errW_none, errW_some] <;> rfl), by first | exact Kd.R_nil _ _ _ _ _ | exact Kd.N_nil _ _ _ _ _ | exact Kd.V_nil _ _ _ _ _ | exact Kd.Q_nil _ _ _ _ _ | exact Kd.S_nil _ _ _ _ _, by repeat (first | (with_reducible first | exact HB.out | apply below_alloc | apply pw_below_drewN | apply below_drew1) | exact HB.out)⟩
 ·replace c4 := Bool.eq_false_iff.mpr c4
  subst c4
  have H1 : (some (([] : List (S85)), 2)) = some (r1, r2) := by rw [if_neg (show ¬ (false = true) by decide)] at H; exact H
  clear H
  have H := H1
  clear H1
  simp only [Option.some.injEq, Prod.mk.injEq] at H
  obtain ⟨rfl, rfl⟩ := H
  go_enter Tryd.func41, Tryd.ntmps41
  go_wp2_with (first | ((with_reducible refine gate_callee (f := 49) rfl ?_); refine goesL_ (some 10) rfl rfl Tryd.func49 (by kernel_rfl) rfl #[.slice A0 l0.length c0] rfl (Qls) ?_; (with_reducible refine (sweep_read.calls k (fun k_ => k_ < w.heap.size) _ _ l0 t477 false _ ?side1 A3.out).mono ?_); (case side1 => exact Kd.V_mk HC0.out (Kd.F_below (Kd.C_F (Kd.heap_int .i64) HR0.out) (Qaw))); rintro e w15 ⟨v478, rfl, ho0, hb⟩; refine ⟨_, rfl, ?_⟩; have n0_ := Aside0.mk (Kd.V_lower (Kd.V_mono (ok' := fun k_ => True) ho0 (fun k_ hk_ => trivial)) (below_size (Qaw))); have n1_ := Aside0.mk (below_step (Qaw) hb); clear HB; have HO479 := n0_; have HB := n1_; clear n0_ n1_; (try clear hb); (try clear hb2); (try clear hk); (try clear hi); (try clear ho0)))
  go_ret2
  exact ⟨_, by first | rfl | (simp [errW_none, errW_some] <;> rfl) | (simp [*, errW_none, errW_some] <;> rfl), by first | exact Kd.R_nil _ _ _ _ _ | exact Kd.N_nil _ _ _ _ _ | exact Kd.V_nil _ _ _ _ _ | exact Kd.Q_nil _ _ _ _ _ | exact Kd.S_nil _ _ _ _ _, by repeat (first | (with_reducible first | exact HB.out | apply below_alloc | apply pw_below_drewN | apply below_drew1) | exact HB.out)⟩
end Go.Proofs.YtijfddobandcdaaDoor.X
end
section
namespace Go.Proofs.YtijfddobandcdaaDoor.X
open Go.RowKit YtijfddobandcdaaDoorW.PrintWords YtijfddobandcdaaDoorW.PrintLast YtijfddobandcdaaDoorW.PrintMore
attribute [local go_sem] max2_int min2_int max_two min_two max_three min_three max_four min_four
/-! ### sweep_Plan: function 23 -/
def sweep_Plan.f (k : Nat) (l0 : List Int) : Option ((List (S85)) × Int) := (sweep_read.f k l0).bind fun bt198 => (if bt198.2 = true then ((sweep_town_layout.f bt198.1).bind fun bt202 => ((sweep_town_bags.f k bt198.1 bt202.1).bind fun t206 => ((sweep_follow.f t206).bind fun t209 => (some (t209, 0))))) else (some (([] : List (S85)), 2)))
set_option maxHeartbeats 8000000 in
set_option maxRecDepth 100000 in
theorem sweep_Plan.calls (k : Nat) (A0 : Option Addr) (c0 : Nat) (l0 : List Int) (r1 : List (S85)) (r2 : Int) (w : World) (hGL : GL w) (hr0 : Kd.C (Kd.int .i64) w A0 l0.length l0) (hc0 : l0.length ≤ c0) (h : sweep_Plan.f k l0 = some (r1, r2)) :
  Calls Tryd.prog 23 #[.slice A0 l0.length c0] w fun e w' => ∃ v0_ : Value, e = .returned (.tuple #[v0_, .int .i64 r2]) ∧ Kd.R k85 85 w' w.heap.size (fun _ => True) v0_ r1 ∧ Below w.heap.size w w' := by
 have HGL := Aside0.mk hGL
 clear hGL
 have HR0 := Aside0.mk hr0
 have HC0 := Aside0.mk hc0
 clear hr0 hc0
 have HB := Aside0.mk (Below.refl w.heap.size w)
 have H : ((sweep_read.f k l0).bind fun bt198 => (if bt198.2 = true then ((sweep_town_layout.f bt198.1).bind fun bt202 => ((sweep_town_bags.f k bt198.1 bt202.1).bind fun t206 => ((sweep_follow.f t206).bind fun t209 => (some (t209, 0))))) else (some (([] : List (S85)), 2)))) = some (r1, r2) := h
 clear h
 replace H := Option.bind_eq_some_iff.mp H
 obtain ⟨⟨t198, t201⟩, A20, H⟩ := H
 replace H : (if t201 = true then ((sweep_town_layout.f t198).bind fun bt202 => ((sweep_town_bags.f k t198 bt202.1).bind fun t206 => ((sweep_follow.f t206).bind fun t209 => (some (t209, 0))))) else (some (([] : List (S85)), 2))) = some (r1, r2) := H
 have A2 := Aside0.mk A20
 clear A20
 by_cases c3 : t201 = true
 ·subst c3
  have H1 : ((sweep_town_layout.f t198).bind fun bt202 => ((sweep_town_bags.f k t198 bt202.1).bind fun t206 => ((sweep_follow.f t206).bind fun t209 => (some (t209, 0))))) = some (r1, r2) := by rw [if_pos rfl] at H; exact H
  clear H
  have H := H1
  clear H1
  replace H := Option.bind_eq_some_iff.mp H
  obtain ⟨⟨t202, t203⟩, A40, H⟩ := H
  replace H : ((sweep_town_bags.f k t198 t202).bind fun t206 => ((sweep_follow.f t206).bind fun t209 => (some (t209, 0)))) = some (r1, r2) := H
  have A4 := Aside0.mk A40
  clear A40
  replace H := Option.bind_eq_some_iff.mp H
  obtain ⟨t206, A50, H⟩ := H
  replace H : ((sweep_follow.f t206).bind fun t209 => (some (t209, 0))) = some (r1, r2) := H
  have A5 := Aside0.mk A50
  clear A50
  replace H := Option.bind_eq_some_iff.mp H
  obtain ⟨t209, A60, H⟩ := H
  replace H : (some (t209, 0)) = some (r1, r2) := H
  have A6 := Aside0.mk A60
  clear A60
  simp only [Option.some.injEq, Prod.mk.injEq] at H
  obtain ⟨rfl, rfl⟩ := H
  go_enter Tryd.func23, Tryd.ntmps23
  go_wp2_with (first | ((with_reducible refine gate_callee (f := 49) rfl ?_); refine goesL_ (some 10) rfl rfl Tryd.func49 (by kernel_rfl) rfl #[.slice A0 l0.length c0] rfl (Qls) ?_; (with_reducible refine (sweep_read.calls k (fun k_ => k_ < w.heap.size) _ _ l0 t198 true _ ?side1 A2.out).mono ?_); (case side1 => exact Kd.V_mk HC0.out (Kd.F_below (Kd.C_F (Kd.heap_int .i64) HR0.out) (Qaw))); rintro e w7 ⟨v199, rfl, ho0, hb⟩; refine ⟨_, rfl, ?_⟩; have n0_ := Aside0.mk (Kd.V_lower (Kd.V_mono (ok' := fun k_ => True) ho0 (fun k_ hk_ => trivial)) (below_size (Qaw))); have n1_ := Aside0.mk (below_step (Qaw) hb); clear HB; have HO200 := n0_; have HB := n1_; clear n0_ n1_; (try clear hb); (try clear hb2); (try clear hk); (try clear hi); (try clear ho0); obtain ⟨Ao8, co8, eo8⟩ := Kd.V_slice HO200.out; subst eo8) | ((with_reducible refine gate_callee (f := 50) rfl ?_); refine goesL_ (some 17) rfl rfl Tryd.func50 (by kernel_rfl) rfl #[.slice Ao8 t198.length co8] rfl (Qls) ?_; (with_reducible refine (sweep_town_layout.calls (hGL := (Qlg)) _ _ t198 t202 t203 _ ?side1 ?side2 A4.out).mono ?_); (case side1 => exact Qsc (Kd.V_reads' HO200.out).2.2); (case side2 => exact (Kd.V_reads' HO200.out).2.1); rintro e w9 ⟨v204, rfl, ho0, hb⟩; refine ⟨_, rfl, ?_⟩; have n0_ := Aside0.mk (Kd.V_elder' (by (with_reducible repeat (first | apply Kd.V_alloc | apply Kd.V_drewN | apply Kd.V_drew)); exact HO200.out) (Kd.R_base ho0) hb); have n1_ := Aside0.mk (Kd.R_lower ho0 (below_size (Qaw))); have n2_ := Aside0.mk (below_step (Qaw) hb); clear HO200; clear HB; have HO200 := n0_; have HO205 := n1_; have HB := n2_; clear n0_ n1_ n2_; (try clear hb); (try clear hb2); (try clear hk); (try clear hi); (try clear ho0); obtain ⟨Ao10, co10, eo10⟩ := Kd.R_slice HO205.out; subst eo10) | ((with_reducible refine gate_callee (f := 52) rfl ?_); refine goesL_ (some 22) rfl rfl Tryd.func52 (by kernel_rfl) rfl #[.slice Ao8 t198.length co8, .slice Ao10 t202.length co10] rfl (Qls) ?_; (with_reducible refine (sweep_town_bags.calls (hGL := (Qlg)) k _ _ t198 _ _ t202 t206 _ ?side1 ?side2 ?side3 ?side4 A5.out).mono ?_); (case side1 => exact Qsc (Kd.V_reads' HO200.out).2.2); (case side2 => exact (Kd.V_reads' HO200.out).2.1); (case side3 => exact Qsc (Kd.R_reads' HO205.out).2.2); (case side4 => exact (Kd.R_reads' HO205.out).2.1); rintro e w11 ⟨v207, rfl, ho0, hb⟩; refine ⟨_, rfl, ?_⟩; have n0_ := Aside0.mk (Kd.V_elder' (by (with_reducible repeat (first | apply Kd.V_alloc | apply Kd.V_drewN | apply Kd.V_drew)); exact HO200.out) (Kd.R_base ho0) hb); have n1_ := Aside0.mk (Kd.R_elder' (Qro HO205.out) (Kd.R_base ho0) hb); have n2_ := Aside0.mk (Kd.R_lower (Kd.R_new' ho0 (Kd.R_lt (Qro HO205.out))) (below_size (Qaw))); have n3_ := Aside0.mk (below_step (Qaw) hb); clear HO200; clear HO205; clear HB; have HO200 := n0_; have HO205 := n1_; have HO208 := n2_; have HB := n3_; clear n0_ n1_ n2_ n3_; (try clear hb); (try clear hb2); (try clear hk); (try clear hi); (try clear ho0); obtain ⟨Ao12, co12, eo12⟩ := Kd.R_slice HO208.out; subst eo12) | ((with_reducible refine gate_callee (f := 51) rfl ?_); refine goesL_ (some 23) rfl rfl Tryd.func51 (by kernel_rfl) rfl #[.slice Ao12 t206.length co12] rfl (Qls) ?_; (with_reducible refine (sweep_follow.calls (hGL := (Qlg)) _ _ t206 t209 _ ?side1 ?side2 A6.out).mono ?_); (case side1 => exact Qsc (Kd.R_reads' HO208.out).2.2); (case side2 => exact (Kd.R_reads' HO208.out).2.1); rintro e w13 ⟨v210, rfl, ho0, hb⟩; refine ⟨_, rfl, ?_⟩; have n0_ := Aside0.mk (Kd.V_elder' (by (with_reducible repeat (first | apply Kd.V_alloc | apply Kd.V_drewN | apply Kd.V_drew)); exact HO200.out) (Kd.R_base ho0) hb); have n1_ := Aside0.mk (Kd.R_below (Qro HO205.out) hb); have n2_ := Aside0.mk (Kd.R_below (Qro HO208.out) hb); have n3_ := Aside0.mk (Kd.R_lower ho0 (below_size (Qaw))); have n4_ := Aside0.mk (below_step (Qaw) hb); clear HO200; clear HO205; clear HO208; clear HB; have HO200 := n0_; have HO205 := n1_; have HO208 := n2_; have HO211 := n3_; have HB := n4_; clear n0_ n1_ n2_ n3_ n4_; (try clear hb); (try clear hb2); (try clear hk); (try clear hi); (try clear ho0)))
  go_ret2
  exact ⟨_, by first | rfl | (simp [errW_none, errW_some] <;> rfl) | (simp [*, errW_none, errW_some] <;> rfl), by (with_reducible repeat (first | apply Kd.R_alloc | apply Kd.R_drewN | apply Kd.R_drew)); exact HO211.out, by repeat (first | (with_reducible first | exact HB.out | apply below_alloc | apply pw_below_drewN | apply below_drew1) | exact HB.out)⟩
 ·replace c3 := Bool.eq_false_iff.mpr c3
  subst c3
  have H1 : (some (([] : List (S85)), 2)) = some (r1, r2) := by rw [if_neg (show ¬ (false = true) by decide)] at H; exact H
  clear H
  have H := H1
  clear H1
  simp only [Option.some.injEq, Prod.mk.injEq] at H
  obtain ⟨rfl, rfl⟩ := H
  go_enter Tryd.func23, Tryd.ntmps23
  go_wp2_with (first | ((with_reducible refine gate_callee (f := 49) rfl ?_); refine goesL_ (some 10) rfl rfl Tryd.func49 (by kernel_rfl) rfl #[.slice A0 l0.length c0] rfl (Qls) ?_; (with_reducible refine (sweep_read.calls k (fun k_ => k_ < w.heap.size) _ _ l0 t198 false _ ?side1 A2.out).mono ?_); (case side1 => exact Kd.V_mk HC0.out (Kd.F_below (Kd.C_F (Kd.heap_int .i64) HR0.out) (Qaw))); rintro e w14 ⟨v199, rfl, ho0, hb⟩; refine ⟨_, rfl, ?_⟩; have n0_ := Aside0.mk (Kd.V_lower (Kd.V_mono (ok' := fun k_ => True) ho0 (fun k_ hk_ => trivial)) (below_size (Qaw))); have n1_ := Aside0.mk (below_step (Qaw) hb); clear HB; have HO200 := n0_; have HB := n1_; clear n0_ n1_; (try clear hb); (try clear hb2); (try clear hk); (try clear hi); (try clear ho0)))
  go_ret2
  exact ⟨_, by first | rfl | (simp [errW_none, errW_some] <;> rfl) | (simp [*, errW_none, errW_some] <;> rfl), by first | exact Kd.R_nil _ _ _ _ _ | exact Kd.N_nil _ _ _ _ _ | exact Kd.V_nil _ _ _ _ _ | exact Kd.Q_nil _ _ _ _ _ | exact Kd.S_nil _ _ _ _ _, by repeat (first | (with_reducible first | exact HB.out | apply below_alloc | apply pw_below_drewN | apply below_drew1) | exact HB.out)⟩
end Go.Proofs.YtijfddobandcdaaDoor.X
end
section
namespace Go.Proofs.YtijfddobandcdaaDoor.X
open Go.RowKit YtijfddobandcdaaDoorW.PrintWords YtijfddobandcdaaDoorW.PrintLast YtijfddobandcdaaDoorW.PrintMore
attribute [local go_sem] max2_int min2_int max_two min_two max_three min_three max_four min_four
/-! ### lampblacklaw03_SweepSame: function 15 -/
def lampblacklaw03_SweepSame.j0 : Nat → List Int → List Int → Int → Bool → Option (Bool)
 | 0, _, _, _, _ => none
 | k + 1, x0, x1, x6, x90 => if x90 = true then (some false) else ((lampblacklaw03_Few.f x0).bind fun t641 => ((lampblacklaw03_list.f x1).bind fun t644 => ((sweep_Bags.f k t641 t644).bind fun bt647 => (if bt647.2 = 0 then ((lampblacklaw03_Few.f x0).bind fun t652 => ((sweep_Follow.f k t652 bt647.1).bind fun bt655 => ((lampblacklaw03_Few.f x0).bind fun t659 => ((lampblacklaw03_list.f x1).bind fun t662 => ((sweep_Breadth.f k t659 t662).bind fun bt665 => ((lampblacklaw03_Few.f x0).bind fun t667 => ((sweep_Play.f t667 bt655.1).bind fun bt670 => (if bt655.2 = 0 then (if bt665.2 = 0 then (if bt670.2.2.2 = 0 then (if bt670.2.2.1 = true then (if bt670.2.1 = true then (some false) else (if bt670.1 = (wrap64 (bt665.1 + 1)) then (if bt665.1 ≥ x6 then ((lampblacklaw03_awake.f k).bind fun t674 => (some t674)) else (some false)) else (some false))) else (some false)) else (some false)) else (some false)) else (some false))))))))) else (if bt647.2 = 2 then ((lampblacklaw03_awake.f k).bind fun t651 => (some t651)) else (some false))))))
def lampblacklaw03_SweepSame.f (k : Nat) (l0 : List Int) (l1 : List Int) : Option (Bool) := (lampblacklaw03_Few.f l0).bind fun t613 => ((sweep_Layout.f k t613).bind fun bt616 => ((lampblacklaw03_Few.f l0).bind fun t621 => ((sweep_Plan.f k t621).bind fun bt624 => ((lampblacklaw03_Few.f l0).bind fun t628 => ((sweep_Least.f k t628).bind fun bt631 => (if bt616.2.2 = 0 then ((lampblacklaw03_Few.f l0).bind fun t634 => ((sweep_Play.f t634 bt624.1).bind fun bt637 => (if bt624.2 = 0 then (if bt631.2 = 0 then (if bt637.2.2.2 = 0 then (if bt637.2.2.1 = true then (if bt637.2.1 = true then (lampblacklaw03_SweepSame.j0 k l0 l1 bt616.2.1 true) else (if bt637.1 = (wrap64 (bt616.2.1 + 1)) then (lampblacklaw03_SweepSame.j0 k l0 l1 bt616.2.1 (bt631.1 != (wrap64 (bt616.2.1 + 1)))) else (lampblacklaw03_SweepSame.j0 k l0 l1 bt616.2.1 true))) else (lampblacklaw03_SweepSame.j0 k l0 l1 bt616.2.1 true)) else (lampblacklaw03_SweepSame.j0 k l0 l1 bt616.2.1 true)) else (lampblacklaw03_SweepSame.j0 k l0 l1 bt616.2.1 true)) else (lampblacklaw03_SweepSame.j0 k l0 l1 bt616.2.1 true)))) else (if bt616.2.2 = 2 then (if bt624.2 = 2 then (if bt631.2 = 2 then ((lampblacklaw03_awake.f k).bind fun t633 => (some t633)) else (some false)) else (some false)) else (some false))))))))
set_option maxHeartbeats 8000000 in
set_option maxRecDepth 100000 in
theorem lampblacklaw03_SweepSame.calls (k : Nat) (A0 : Option Addr) (c0 : Nat) (l0 : List Int) (A1 : Option Addr) (c1 : Nat) (l1 : List Int) (r : Bool) (w : World) (hGL : GL w) (hr0 : Kd.C (Kd.int .i64) w A0 l0.length l0) (hc0 : l0.length ≤ c0) (hr1 : Kd.C (Kd.int .i64) w A1 l1.length l1) (hc1 : l1.length ≤ c1) (h : lampblacklaw03_SweepSame.f k l0 l1 = some r) :
  Calls Tryd.prog 15 #[.slice A0 l0.length c0, .slice A1 l1.length c1] w fun e w' => e = .returned (.bool r) ∧ Below w.heap.size w w' := by
 have HGL := Aside0.mk hGL
 clear hGL
 have HR0 := Aside0.mk hr0
 have HC0 := Aside0.mk hc0
 clear hr0 hc0
 have HR1 := Aside0.mk hr1
 have HC1 := Aside0.mk hc1
 clear hr1 hc1
 have HB := Aside0.mk (Below.refl w.heap.size w)
 have H : ((lampblacklaw03_Few.f l0).bind fun t613 => ((sweep_Layout.f k t613).bind fun bt616 => ((lampblacklaw03_Few.f l0).bind fun t621 => ((sweep_Plan.f k t621).bind fun bt624 => ((lampblacklaw03_Few.f l0).bind fun t628 => ((sweep_Least.f k t628).bind fun bt631 => (if bt616.2.2 = 0 then ((lampblacklaw03_Few.f l0).bind fun t634 => ((sweep_Play.f t634 bt624.1).bind fun bt637 => (if bt624.2 = 0 then (if bt631.2 = 0 then (if bt637.2.2.2 = 0 then (if bt637.2.2.1 = true then (if bt637.2.1 = true then (lampblacklaw03_SweepSame.j0 k l0 l1 bt616.2.1 true) else (if bt637.1 = (wrap64 (bt616.2.1 + 1)) then (lampblacklaw03_SweepSame.j0 k l0 l1 bt616.2.1 (bt631.1 != (wrap64 (bt616.2.1 + 1)))) else (lampblacklaw03_SweepSame.j0 k l0 l1 bt616.2.1 true))) else (lampblacklaw03_SweepSame.j0 k l0 l1 bt616.2.1 true)) else (lampblacklaw03_SweepSame.j0 k l0 l1 bt616.2.1 true)) else (lampblacklaw03_SweepSame.j0 k l0 l1 bt616.2.1 true)) else (lampblacklaw03_SweepSame.j0 k l0 l1 bt616.2.1 true)))) else (if bt616.2.2 = 2 then (if bt624.2 = 2 then (if bt631.2 = 2 then ((lampblacklaw03_awake.f k).bind fun t633 => (some t633)) else (some false)) else (some false)) else (some false))))))))) = some r := h
 clear h
 replace H := Option.bind_eq_some_iff.mp H
 obtain ⟨t613, A30, H⟩ := H
 replace H : ((sweep_Layout.f k t613).bind fun bt616 => ((lampblacklaw03_Few.f l0).bind fun t621 => ((sweep_Plan.f k t621).bind fun bt624 => ((lampblacklaw03_Few.f l0).bind fun t628 => ((sweep_Least.f k t628).bind fun bt631 => (if bt616.2.2 = 0 then ((lampblacklaw03_Few.f l0).bind fun t634 => ((sweep_Play.f t634 bt624.1).bind fun bt637 => (if bt624.2 = 0 then (if bt631.2 = 0 then (if bt637.2.2.2 = 0 then (if bt637.2.2.1 = true then (if bt637.2.1 = true then (lampblacklaw03_SweepSame.j0 k l0 l1 bt616.2.1 true) else (if bt637.1 = (wrap64 (bt616.2.1 + 1)) then (lampblacklaw03_SweepSame.j0 k l0 l1 bt616.2.1 (bt631.1 != (wrap64 (bt616.2.1 + 1)))) else (lampblacklaw03_SweepSame.j0 k l0 l1 bt616.2.1 true))) else (lampblacklaw03_SweepSame.j0 k l0 l1 bt616.2.1 true)) else (lampblacklaw03_SweepSame.j0 k l0 l1 bt616.2.1 true)) else (lampblacklaw03_SweepSame.j0 k l0 l1 bt616.2.1 true)) else (lampblacklaw03_SweepSame.j0 k l0 l1 bt616.2.1 true)))) else (if bt616.2.2 = 2 then (if bt624.2 = 2 then (if bt631.2 = 2 then ((lampblacklaw03_awake.f k).bind fun t633 => (some t633)) else (some false)) else (some false)) else (some false)))))))) = some r := H
 have A3 := Aside0.mk A30
 clear A30
 replace H := Option.bind_eq_some_iff.mp H
 obtain ⟨⟨t616, t617, t618⟩, A40, H⟩ := H
 replace H : ((lampblacklaw03_Few.f l0).bind fun t621 => ((sweep_Plan.f k t621).bind fun bt624 => ((lampblacklaw03_Few.f l0).bind fun t628 => ((sweep_Least.f k t628).bind fun bt631 => (if t618 = 0 then ((lampblacklaw03_Few.f l0).bind fun t634 => ((sweep_Play.f t634 bt624.1).bind fun bt637 => (if bt624.2 = 0 then (if bt631.2 = 0 then (if bt637.2.2.2 = 0 then (if bt637.2.2.1 = true then (if bt637.2.1 = true then (lampblacklaw03_SweepSame.j0 k l0 l1 t617 true) else (if bt637.1 = (wrap64 (t617 + 1)) then (lampblacklaw03_SweepSame.j0 k l0 l1 t617 (bt631.1 != (wrap64 (t617 + 1)))) else (lampblacklaw03_SweepSame.j0 k l0 l1 t617 true))) else (lampblacklaw03_SweepSame.j0 k l0 l1 t617 true)) else (lampblacklaw03_SweepSame.j0 k l0 l1 t617 true)) else (lampblacklaw03_SweepSame.j0 k l0 l1 t617 true)) else (lampblacklaw03_SweepSame.j0 k l0 l1 t617 true)))) else (if t618 = 2 then (if bt624.2 = 2 then (if bt631.2 = 2 then ((lampblacklaw03_awake.f k).bind fun t633 => (some t633)) else (some false)) else (some false)) else (some false))))))) = some r := H
 have A4 := Aside0.mk A40
 clear A40
 replace H := Option.bind_eq_some_iff.mp H
 obtain ⟨t621, A50, H⟩ := H
 replace H : ((sweep_Plan.f k t621).bind fun bt624 => ((lampblacklaw03_Few.f l0).bind fun t628 => ((sweep_Least.f k t628).bind fun bt631 => (if t618 = 0 then ((lampblacklaw03_Few.f l0).bind fun t634 => ((sweep_Play.f t634 bt624.1).bind fun bt637 => (if bt624.2 = 0 then (if bt631.2 = 0 then (if bt637.2.2.2 = 0 then (if bt637.2.2.1 = true then (if bt637.2.1 = true then (lampblacklaw03_SweepSame.j0 k l0 l1 t617 true) else (if bt637.1 = (wrap64 (t617 + 1)) then (lampblacklaw03_SweepSame.j0 k l0 l1 t617 (bt631.1 != (wrap64 (t617 + 1)))) else (lampblacklaw03_SweepSame.j0 k l0 l1 t617 true))) else (lampblacklaw03_SweepSame.j0 k l0 l1 t617 true)) else (lampblacklaw03_SweepSame.j0 k l0 l1 t617 true)) else (lampblacklaw03_SweepSame.j0 k l0 l1 t617 true)) else (lampblacklaw03_SweepSame.j0 k l0 l1 t617 true)))) else (if t618 = 2 then (if bt624.2 = 2 then (if bt631.2 = 2 then ((lampblacklaw03_awake.f k).bind fun t633 => (some t633)) else (some false)) else (some false)) else (some false)))))) = some r := H
 have A5 := Aside0.mk A50
 clear A50
 replace H := Option.bind_eq_some_iff.mp H
 obtain ⟨⟨t624, t625⟩, A60, H⟩ := H
 replace H : ((lampblacklaw03_Few.f l0).bind fun t628 => ((sweep_Least.f k t628).bind fun bt631 => (if t618 = 0 then ((lampblacklaw03_Few.f l0).bind fun t634 => ((sweep_Play.f t634 t624).bind fun bt637 => (if t625 = 0 then (if bt631.2 = 0 then (if bt637.2.2.2 = 0 then (if bt637.2.2.1 = true then (if bt637.2.1 = true then (lampblacklaw03_SweepSame.j0 k l0 l1 t617 true) else (if bt637.1 = (wrap64 (t617 + 1)) then (lampblacklaw03_SweepSame.j0 k l0 l1 t617 (bt631.1 != (wrap64 (t617 + 1)))) else (lampblacklaw03_SweepSame.j0 k l0 l1 t617 true))) else (lampblacklaw03_SweepSame.j0 k l0 l1 t617 true)) else (lampblacklaw03_SweepSame.j0 k l0 l1 t617 true)) else (lampblacklaw03_SweepSame.j0 k l0 l1 t617 true)) else (lampblacklaw03_SweepSame.j0 k l0 l1 t617 true)))) else (if t618 = 2 then (if t625 = 2 then (if bt631.2 = 2 then ((lampblacklaw03_awake.f k).bind fun t633 => (some t633)) else (some false)) else (some false)) else (some false))))) = some r := H
 have A6 := Aside0.mk A60
 clear A60
 replace H := Option.bind_eq_some_iff.mp H
 obtain ⟨t628, A70, H⟩ := H
 replace H : ((sweep_Least.f k t628).bind fun bt631 => (if t618 = 0 then ((lampblacklaw03_Few.f l0).bind fun t634 => ((sweep_Play.f t634 t624).bind fun bt637 => (if t625 = 0 then (if bt631.2 = 0 then (if bt637.2.2.2 = 0 then (if bt637.2.2.1 = true then (if bt637.2.1 = true then (lampblacklaw03_SweepSame.j0 k l0 l1 t617 true) else (if bt637.1 = (wrap64 (t617 + 1)) then (lampblacklaw03_SweepSame.j0 k l0 l1 t617 (bt631.1 != (wrap64 (t617 + 1)))) else (lampblacklaw03_SweepSame.j0 k l0 l1 t617 true))) else (lampblacklaw03_SweepSame.j0 k l0 l1 t617 true)) else (lampblacklaw03_SweepSame.j0 k l0 l1 t617 true)) else (lampblacklaw03_SweepSame.j0 k l0 l1 t617 true)) else (lampblacklaw03_SweepSame.j0 k l0 l1 t617 true)))) else (if t618 = 2 then (if t625 = 2 then (if bt631.2 = 2 then ((lampblacklaw03_awake.f k).bind fun t633 => (some t633)) else (some false)) else (some false)) else (some false)))) = some r := H
 have A7 := Aside0.mk A70
 clear A70
 replace H := Option.bind_eq_some_iff.mp H
 obtain ⟨⟨t631, t632⟩, A80, H⟩ := H
 replace H : (if t618 = 0 then ((lampblacklaw03_Few.f l0).bind fun t634 => ((sweep_Play.f t634 t624).bind fun bt637 => (if t625 = 0 then (if t632 = 0 then (if bt637.2.2.2 = 0 then (if bt637.2.2.1 = true then (if bt637.2.1 = true then (lampblacklaw03_SweepSame.j0 k l0 l1 t617 true) else (if bt637.1 = (wrap64 (t617 + 1)) then (lampblacklaw03_SweepSame.j0 k l0 l1 t617 (t631 != (wrap64 (t617 + 1)))) else (lampblacklaw03_SweepSame.j0 k l0 l1 t617 true))) else (lampblacklaw03_SweepSame.j0 k l0 l1 t617 true)) else (lampblacklaw03_SweepSame.j0 k l0 l1 t617 true)) else (lampblacklaw03_SweepSame.j0 k l0 l1 t617 true)) else (lampblacklaw03_SweepSame.j0 k l0 l1 t617 true)))) else (if t618 = 2 then (if t625 = 2 then (if t632 = 2 then ((lampblacklaw03_awake.f k).bind fun t633 => (some t633)) else (some false)) else (some false)) else (some false))) = some r := H
 have A8 := Aside0.mk A80
 clear A80
 by_cases c9 : t618 = 0
 ·rw [if_pos c9] at H
  have c9b0 : (t618 == 0) = true := beq_iff_eq.mpr c9
  have c9b1 : (t618 != 0) = false := bne_eq_false_iff_eq.mpr c9
  clear c9
  replace H := Option.bind_eq_some_iff.mp H
  obtain ⟨t634, A100, H⟩ := H
  replace H : ((sweep_Play.f t634 t624).bind fun bt637 => (if t625 = 0 then (if t632 = 0 then (if bt637.2.2.2 = 0 then (if bt637.2.2.1 = true then (if bt637.2.1 = true then (lampblacklaw03_SweepSame.j0 k l0 l1 t617 true) else (if bt637.1 = (wrap64 (t617 + 1)) then (lampblacklaw03_SweepSame.j0 k l0 l1 t617 (t631 != (wrap64 (t617 + 1)))) else (lampblacklaw03_SweepSame.j0 k l0 l1 t617 true))) else (lampblacklaw03_SweepSame.j0 k l0 l1 t617 true)) else (lampblacklaw03_SweepSame.j0 k l0 l1 t617 true)) else (lampblacklaw03_SweepSame.j0 k l0 l1 t617 true)) else (lampblacklaw03_SweepSame.j0 k l0 l1 t617 true))) = some r := H
  have A10 := Aside0.mk A100
  clear A100
  replace H := Option.bind_eq_some_iff.mp H
  obtain ⟨⟨t637, t638, t639, t640⟩, A110, H⟩ := H
  replace H : (if t625 = 0 then (if t632 = 0 then (if t640 = 0 then (if t639 = true then (if t638 = true then (lampblacklaw03_SweepSame.j0 k l0 l1 t617 true) else (if t637 = (wrap64 (t617 + 1)) then (lampblacklaw03_SweepSame.j0 k l0 l1 t617 (t631 != (wrap64 (t617 + 1)))) else (lampblacklaw03_SweepSame.j0 k l0 l1 t617 true))) else (lampblacklaw03_SweepSame.j0 k l0 l1 t617 true)) else (lampblacklaw03_SweepSame.j0 k l0 l1 t617 true)) else (lampblacklaw03_SweepSame.j0 k l0 l1 t617 true)) else (lampblacklaw03_SweepSame.j0 k l0 l1 t617 true)) = some r := H
  have A11 := Aside0.mk A110
  clear A110
  have HC12 := Aside0.mk H
  clear H
  go_enter Tryd.func15, Tryd.ntmps15
  go_upto_region 7 with (first | ((with_reducible refine gate_callee (f := 18) rfl ?_); refine goesL_ (some 21) rfl rfl Tryd.func18 (by kernel_rfl) rfl #[.slice A0 l0.length c0] rfl (Qls) ?_; (with_reducible refine (lampblacklaw03_Few.calls _ _ l0 t613 _ ?side1 ?side2 A3.out).mono ?_); (case side1 => exact Qsc HR0.out); (case side2 => exact HC0.out); rintro e w13 ⟨v614, rfl, ho0, hb⟩; refine ⟨_, rfl, ?_⟩; have n0_ := Aside0.mk (Kd.R_lower ho0 (below_size (Qaw))); have n1_ := Aside0.mk (below_step (Qaw) hb); clear HB; have HO615 := n0_; have HB := n1_; clear n0_ n1_; (try clear hb); (try clear hb2); (try clear hk); (try clear hi); (try clear ho0); obtain ⟨Ao14, co14, eo14⟩ := Kd.R_slice HO615.out; subst eo14) | ((with_reducible refine gate_callee (f := 22) rfl ?_); refine goesL_ (some 22) rfl rfl Tryd.func22 (by kernel_rfl) rfl #[.slice Ao14 t613.length co14] rfl (Qls) ?_; (with_reducible refine (sweep_Layout.calls (hGL := (Qlg)) k _ _ t613 t616 t617 t618 _ ?side1 ?side2 A4.out).mono ?_); (case side1 => exact Qsc (Kd.R_reads' HO615.out).2.2); (case side2 => exact (Kd.R_reads' HO615.out).2.1); rintro e w15 ⟨v619, rfl, ho0, hb⟩; refine ⟨_, rfl, ?_⟩; have n0_ := Aside0.mk (Kd.R_elder' (Qro HO615.out) (Kd.R_base ho0) hb); have n1_ := Aside0.mk (Kd.R_lower (Kd.R_new' ho0 (Kd.R_lt (Qro HO615.out))) (below_size (Qaw))); have n2_ := Aside0.mk (below_step (Qaw) hb); clear HO615; clear HB; have HO615 := n0_; have HO620 := n1_; have HB := n2_; clear n0_ n1_ n2_; (try clear hb); (try clear hb2); (try clear hk); (try clear hi); (try clear ho0)) | ((with_reducible refine gate_callee (f := 18) rfl ?_); refine goesL_ (some 28) rfl rfl Tryd.func18 (by kernel_rfl) rfl #[.slice A0 l0.length c0] rfl (Qls) ?_; (with_reducible refine (lampblacklaw03_Few.calls _ _ l0 t621 _ ?side1 ?side2 A5.out).mono ?_); (case side1 => exact Qsc (Kd.C_below HR0.out HB.out)); (case side2 => exact HC0.out); rintro e w16 ⟨v622, rfl, ho0, hb⟩; refine ⟨_, rfl, ?_⟩; have n0_ := Aside0.mk (Kd.R_elder' (Qro HO615.out) (Kd.R_base ho0) hb); have n1_ := Aside0.mk (Kd.R_elder' (Qro HO620.out) (Kd.R_base ho0) hb); have n2_ := Aside0.mk (Kd.R_lower (Kd.R_new' (Kd.R_new' ho0 (Kd.R_lt (Qro HO615.out))) (Kd.R_lt (Qro HO620.out))) (below_size (Qaw))); have n3_ := Aside0.mk (below_step (Qaw) hb); clear HO615; clear HO620; clear HB; have HO615 := n0_; have HO620 := n1_; have HO623 := n2_; have HB := n3_; clear n0_ n1_ n2_ n3_; (try clear hb); (try clear hb2); (try clear hk); (try clear hi); (try clear ho0); obtain ⟨Ao17, co17, eo17⟩ := Kd.R_slice HO623.out; subst eo17) | ((with_reducible refine gate_callee (f := 23) rfl ?_); refine goesL_ (some 29) rfl rfl Tryd.func23 (by kernel_rfl) rfl #[.slice Ao17 t621.length co17] rfl (Qls) ?_; (with_reducible refine (sweep_Plan.calls (hGL := (Qlg)) k _ _ t621 t624 t625 _ ?side1 ?side2 A6.out).mono ?_); (case side1 => exact Qsc (Kd.R_reads' HO623.out).2.2); (case side2 => exact (Kd.R_reads' HO623.out).2.1); rintro e w18 ⟨v626, rfl, ho0, hb⟩; refine ⟨_, rfl, ?_⟩; have n0_ := Aside0.mk (Kd.R_below (Qro HO615.out) hb); have n1_ := Aside0.mk (Kd.R_below (Qro HO620.out) hb); have n2_ := Aside0.mk (Kd.R_below (Qro HO623.out) hb); have n3_ := Aside0.mk (Kd.R_lower ho0 (below_size (Qaw))); have n4_ := Aside0.mk (below_step (Qaw) hb); clear HO615; clear HO620; clear HO623; clear HB; have HO615 := n0_; have HO620 := n1_; have HO623 := n2_; have HO627 := n3_; have HB := n4_; clear n0_ n1_ n2_ n3_ n4_; (try clear hb); (try clear hb2); (try clear hk); (try clear hi); (try clear ho0)) | ((with_reducible refine gate_callee (f := 18) rfl ?_); refine goesL_ (some 34) rfl rfl Tryd.func18 (by kernel_rfl) rfl #[.slice A0 l0.length c0] rfl (Qls) ?_; (with_reducible refine (lampblacklaw03_Few.calls _ _ l0 t628 _ ?side1 ?side2 A7.out).mono ?_); (case side1 => exact Qsc (Kd.C_below HR0.out HB.out)); (case side2 => exact HC0.out); rintro e w19 ⟨v629, rfl, ho0, hb⟩; refine ⟨_, rfl, ?_⟩; have n0_ := Aside0.mk (Kd.R_elder' (Qro HO615.out) (Kd.R_base ho0) hb); have n1_ := Aside0.mk (Kd.R_elder' (Qro HO620.out) (Kd.R_base ho0) hb); have n2_ := Aside0.mk (Kd.R_elder' (Qro HO623.out) (Kd.R_base ho0) hb); have n3_ := Aside0.mk (Kd.R_below (Qro HO627.out) hb); have n4_ := Aside0.mk (Kd.R_lower (Kd.R_new' (Kd.R_new' (Kd.R_new' ho0 (Kd.R_lt (Qro HO615.out))) (Kd.R_lt (Qro HO620.out))) (Kd.R_lt (Qro HO623.out))) (below_size (Qaw))); have n5_ := Aside0.mk (below_step (Qaw) hb); clear HO615; clear HO620; clear HO623; clear HO627; clear HB; have HO615 := n0_; have HO620 := n1_; have HO623 := n2_; have HO627 := n3_; have HO630 := n4_; have HB := n5_; clear n0_ n1_ n2_ n3_ n4_ n5_; (try clear hb); (try clear hb2); (try clear hk); (try clear hi); (try clear ho0); obtain ⟨Ao20, co20, eo20⟩ := Kd.R_slice HO630.out; subst eo20) | ((with_reducible refine gate_callee (f := 17) rfl ?_); refine goesL_ (some 35) rfl rfl Tryd.func17 (by kernel_rfl) rfl #[.slice Ao20 t628.length co20] rfl (Qls) ?_; (with_reducible refine (sweep_Least.calls (hGL := (Qlg)) k _ _ t628 t631 t632 _ ?side1 ?side2 A8.out).mono ?_); (case side1 => exact Qsc (Kd.R_reads' HO630.out).2.2); (case side2 => exact (Kd.R_reads' HO630.out).2.1); rintro e w21 ⟨rfl, hb⟩; refine ⟨_, rfl, ?_⟩; have n0_ := Aside0.mk (Kd.R_below (Qro HO615.out) hb); have n1_ := Aside0.mk (Kd.R_below (Qro HO620.out) hb); have n2_ := Aside0.mk (Kd.R_below (Qro HO623.out) hb); have n3_ := Aside0.mk (Kd.R_below (Qro HO627.out) hb); have n4_ := Aside0.mk (Kd.R_below (Qro HO630.out) hb); have n5_ := Aside0.mk (below_step (Qaw) hb); clear HO615; clear HO620; clear HO623; clear HO627; clear HO630; clear HB; have HO615 := n0_; have HO620 := n1_; have HO623 := n2_; have HO627 := n3_; have HO630 := n4_; have HB := n5_; clear n0_ n1_ n2_ n3_ n4_ n5_; (try clear hb); (try clear hb2); (try clear hk); (try clear hi)) | ((with_reducible refine gate_callee (f := 18) rfl ?_); refine goesL_ (some 55) rfl rfl Tryd.func18 (by kernel_rfl) rfl #[.slice A0 l0.length c0] rfl (Qls) ?_; (with_reducible refine (lampblacklaw03_Few.calls _ _ l0 t634 _ ?side1 ?side2 A10.out).mono ?_); (case side1 => exact Qsc (Kd.C_below HR0.out HB.out)); (case side2 => exact HC0.out); rintro e w22 ⟨v635, rfl, ho0, hb⟩; refine ⟨_, rfl, ?_⟩; have n0_ := Aside0.mk (Kd.R_elder' (Qro HO615.out) (Kd.R_base ho0) hb); have n1_ := Aside0.mk (Kd.R_elder' (Qro HO620.out) (Kd.R_base ho0) hb); have n2_ := Aside0.mk (Kd.R_elder' (Qro HO623.out) (Kd.R_base ho0) hb); have n3_ := Aside0.mk (Kd.R_below (Qro HO627.out) hb); have n4_ := Aside0.mk (Kd.R_elder' (Qro HO630.out) (Kd.R_base ho0) hb); have n5_ := Aside0.mk (Kd.R_lower (Kd.R_new' (Kd.R_new' (Kd.R_new' (Kd.R_new' ho0 (Kd.R_lt (Qro HO615.out))) (Kd.R_lt (Qro HO620.out))) (Kd.R_lt (Qro HO623.out))) (Kd.R_lt (Qro HO630.out))) (below_size (Qaw))); have n6_ := Aside0.mk (below_step (Qaw) hb); clear HO615; clear HO620; clear HO623; clear HO627; clear HO630; clear HB; have HO615 := n0_; have HO620 := n1_; have HO623 := n2_; have HO627 := n3_; have HO630 := n4_; have HO636 := n5_; have HB := n6_; clear n0_ n1_ n2_ n3_ n4_ n5_ n6_; (try clear hb); (try clear hb2); (try clear hk); (try clear hi); (try clear ho0); obtain ⟨Ao23, co23, eo23⟩ := Kd.R_slice HO636.out; subst eo23; obtain ⟨Ao24, co24, eo24⟩ := Kd.R_slice HO627.out; subst eo24) | ((with_reducible refine gate_callee (f := 38) rfl ?_); refine goesL_ (some 57) rfl rfl Tryd.func38 (by kernel_rfl) rfl #[.slice Ao23 t634.length co23, .slice Ao24 t624.length co24] rfl (Qls) ?_; (with_reducible refine (sweep_Play.calls (hGL := (Qlg)) _ _ t634 _ _ t624 t637 t638 t639 t640 _ ?side1 ?side2 ?side3 ?side4 A11.out).mono ?_); (case side1 => exact Qsc (Kd.R_reads' HO636.out).2.2); (case side2 => exact (Kd.R_reads' HO636.out).2.1); (case side3 => exact Qsc (Kd.R_reads' HO627.out).2.2); (case side4 => exact (Kd.R_reads' HO627.out).2.1); rintro e w25 ⟨rfl, hb⟩; refine ⟨_, rfl, ?_⟩; have n0_ := Aside0.mk (Kd.R_below (Qro HO615.out) hb); have n1_ := Aside0.mk (Kd.R_below (Qro HO620.out) hb); have n2_ := Aside0.mk (Kd.R_below (Qro HO623.out) hb); have n3_ := Aside0.mk (Kd.R_below (Qro HO627.out) hb); have n4_ := Aside0.mk (Kd.R_below (Qro HO630.out) hb); have n5_ := Aside0.mk (Kd.R_below (Qro HO636.out) hb); have n6_ := Aside0.mk (below_step (Qaw) hb); clear HO615; clear HO620; clear HO623; clear HO627; clear HO630; clear HO636; clear HB; have HO615 := n0_; have HO620 := n1_; have HO623 := n2_; have HO627 := n3_; have HO630 := n4_; have HO636 := n5_; have HB := n6_; clear n0_ n1_ n2_ n3_ n4_ n5_ n6_; (try clear hb); (try clear hb2); (try clear hk); (try clear hi)))
  (try simp only [Act.put, List.setIfInBounds_toArray, List.set_cons_zero, List.set_cons_succ])
  go_cut [90] (fun v90 wc => ∃ (kq : Nat) (x90_11 : Bool), v90 = .bool x90_11 ∧ Aside0 (lampblacklaw03_SweepSame.j0 kq l0 l1 t617 x90_11 = some r) ∧ Aside0 (kq ≤ k) ∧ Aside0 (Below w.heap.size w wc))
  case first =>
   have H := HC12.out
   clear HC12
   by_cases c26 : t625 = 0
   ·rw [if_pos c26] at H
    have c26b0 : (t625 == 0) = true := beq_iff_eq.mpr c26
    have c26b1 : (t625 != 0) = false := bne_eq_false_iff_eq.mpr c26
    clear c26
    (first | rw [c26b0] | (simp only [i64_w, i32_w]; rw [c26b0]) | skip)
    by_cases c27 : t632 = 0
    ·rw [if_pos c27] at H
     have c27b0 : (t632 == 0) = true := beq_iff_eq.mpr c27
     have c27b1 : (t632 != 0) = false := bne_eq_false_iff_eq.mpr c27
     clear c27
     by_cases c28 : t640 = 0
     ·rw [if_pos c28] at H
      have c28b0 : (t640 == 0) = true := beq_iff_eq.mpr c28
      have c28b1 : (t640 != 0) = false := bne_eq_false_iff_eq.mpr c28
      clear c28
      by_cases c29 : t639 = true
      ·subst c29
       have H1 : (if t638 = true then (lampblacklaw03_SweepSame.j0 k l0 l1 t617 true) else (if t637 = (wrap64 (t617 + 1)) then (lampblacklaw03_SweepSame.j0 k l0 l1 t617 (t631 != (wrap64 (t617 + 1)))) else (lampblacklaw03_SweepSame.j0 k l0 l1 t617 true))) = some r := by rw [if_pos rfl] at H; exact H
       clear H
       have H := H1
       clear H1
       by_cases c30 : t638 = true
       ·subst c30
        have H1 : (lampblacklaw03_SweepSame.j0 k l0 l1 t617 true) = some r := by rw [if_pos rfl] at H; exact H
        clear H
        have H := H1
        clear H1
        have H' := Aside0.mk H
        clear H
        go_wp2
        go_meet
        case rel => exact ⟨_, (true), (by first | rfl | (simp; done) | (simp [*]; done)), H', ⟨by first | omega | exact Nat.le_refl _⟩, ⟨by repeat (first | (with_reducible first | exact HB.out | apply below_alloc | apply pw_below_drewN | apply below_drew1) | exact HB.out)⟩⟩
       ·replace c30 := Bool.eq_false_iff.mpr c30
        subst c30
        have H1 : (if t637 = (wrap64 (t617 + 1)) then (lampblacklaw03_SweepSame.j0 k l0 l1 t617 (t631 != (wrap64 (t617 + 1)))) else (lampblacklaw03_SweepSame.j0 k l0 l1 t617 true)) = some r := by rw [if_neg (show ¬ (false = true) by decide)] at H; exact H
        clear H
        have H := H1
        clear H1
        by_cases c31 : t637 = (wrap64 (t617 + 1))
        ·rw [if_pos c31] at H
         have c31b0 : (t637 == (wrap64 (t617 + 1))) = true := beq_iff_eq.mpr c31
         have c31b1 : (t637 != (wrap64 (t617 + 1))) = false := bne_eq_false_iff_eq.mpr c31
         clear c31
         have H' := Aside0.mk H
         clear H
         go_wp2
         go_meet
         case rel => exact ⟨_, ((t631 != (wrap64 (t617 + 1)))), (by first | rfl | (simp; done) | (simp [*]; done)), H', ⟨by first | omega | exact Nat.le_refl _⟩, ⟨by repeat (first | (with_reducible first | exact HB.out | apply below_alloc | apply pw_below_drewN | apply below_drew1) | exact HB.out)⟩⟩
        ·rw [if_neg c31] at H
         have c31b0 : (t637 == (wrap64 (t617 + 1))) = false := beq_eq_false_iff_ne.mpr c31
         have c31b1 : (t637 != (wrap64 (t617 + 1))) = true := bne_iff_ne.mpr c31
         have H' := Aside0.mk H
         clear H
         go_wp2
         go_meet
         case rel => exact ⟨_, (true), (by first | rfl | (simp; done) | (simp [*]; done)), H', ⟨by first | omega | exact Nat.le_refl _⟩, ⟨by repeat (first | (with_reducible first | exact HB.out | apply below_alloc | apply pw_below_drewN | apply below_drew1) | exact HB.out)⟩⟩
      ·replace c29 := Bool.eq_false_iff.mpr c29
       subst c29
       have H1 : (lampblacklaw03_SweepSame.j0 k l0 l1 t617 true) = some r := by rw [if_neg (show ¬ (false = true) by decide)] at H; exact H
       clear H
       have H := H1
       clear H1
       have H' := Aside0.mk H
       clear H
       go_wp2
       go_meet
       case rel => exact ⟨_, (true), (by first | rfl | (simp; done) | (simp [*]; done)), H', ⟨by first | omega | exact Nat.le_refl _⟩, ⟨by repeat (first | (with_reducible first | exact HB.out | apply below_alloc | apply pw_below_drewN | apply below_drew1) | exact HB.out)⟩⟩
     ·rw [if_neg c28] at H
      have c28b0 : (t640 == 0) = false := beq_eq_false_iff_ne.mpr c28
      have c28b1 : (t640 != 0) = true := bne_iff_ne.mpr c28
      have H' := Aside0.mk H
      clear H
      go_wp2
      go_meet
      case rel => exact ⟨_, (true), (by first | rfl | (simp; done) | (simp [*]; done)), H', ⟨by first | omega | exact Nat.le_refl _⟩, ⟨by repeat (first | (with_reducible first | exact HB.out | apply below_alloc | apply pw_below_drewN | apply below_drew1) | exact HB.out)⟩⟩
    ·rw [if_neg c27] at H
     have c27b0 : (t632 == 0) = false := beq_eq_false_iff_ne.mpr c27
     have c27b1 : (t632 != 0) = true := bne_iff_ne.mpr c27
     have H' := Aside0.mk H
     clear H
     go_wp2
     go_meet
     case rel => exact ⟨_, (true), (by first | rfl | (simp; done) | (simp [*]; done)), H', ⟨by first | omega | exact Nat.le_refl _⟩, ⟨by repeat (first | (with_reducible first | exact HB.out | apply below_alloc | apply pw_below_drewN | apply below_drew1) | exact HB.out)⟩⟩
   ·rw [if_neg c26] at H
    have c26b0 : (t625 == 0) = false := beq_eq_false_iff_ne.mpr c26
    have c26b1 : (t625 != 0) = true := bne_iff_ne.mpr c26
    (first | rw [c26b0] | (simp only [i64_w, i32_w]; rw [c26b0]) | skip)
    have H' := Aside0.mk H
    clear H
    go_wp2
    go_meet
    case rel => exact ⟨_, (true), (by first | rfl | (simp; done) | (simp [*]; done)), H', ⟨by first | omega | exact Nat.le_refl _⟩, ⟨by repeat (first | (with_reducible first | exact HB.out | apply below_alloc | apply pw_below_drewN | apply below_drew1) | exact HB.out)⟩⟩
  case rest =>
   clear HC12
   try clear c1
   try clear c2
   try clear p2
   try clear c3
   try clear p6
   try clear c9
   try clear c9b0
   try clear c9b1
   try clear c15
   try clear c17
   try clear c18
   try clear c22
   try clear c23
   try clear c26
   try clear c26b0
   try clear c26b1
   try clear c27
   try clear c27b0
   try clear c27b1
   try clear c28
   try clear c28b0
   try clear c28b1
   try clear c29
   try clear c30
   try clear c31
   try clear c31b0
   try clear c31b1
   obtain ⟨kq, x90_11, rfl, HA, HJ11, HB⟩ := hcut
   cases kq with
   | zero => exact absurd HA.out (by simp [lampblacklaw03_SweepSame.j0])
   | succ kj11 =>
    have H := HA.out
    clear HA
    simp only [lampblacklaw03_SweepSame.j0] at H
    by_cases c32 : x90_11 = true
    ·subst c32
     have H1 : (some false) = some r := by rw [if_pos rfl] at H; exact H
     clear H
     have H := H1
     clear H1
     obtain rfl := Option.some.inj H
     go_wp2
     go_ret
     exact ⟨by first | rfl | (simp [errW_none, errW_some] <;> rfl) | (simp [*, errW_none, errW_some] <;> rfl), by repeat (first | (with_reducible first | exact HB.out | apply below_alloc | apply pw_below_drewN | apply below_drew1) | exact HB.out)⟩
    ·replace c32 := Bool.eq_false_iff.mpr c32
     subst c32
     have H1 : ((lampblacklaw03_Few.f l0).bind fun t641 => ((lampblacklaw03_list.f l1).bind fun t644 => ((sweep_Bags.f kj11 t641 t644).bind fun bt647 => (if bt647.2 = 0 then ((lampblacklaw03_Few.f l0).bind fun t652 => ((sweep_Follow.f kj11 t652 bt647.1).bind fun bt655 => ((lampblacklaw03_Few.f l0).bind fun t659 => ((lampblacklaw03_list.f l1).bind fun t662 => ((sweep_Breadth.f kj11 t659 t662).bind fun bt665 => ((lampblacklaw03_Few.f l0).bind fun t667 => ((sweep_Play.f t667 bt655.1).bind fun bt670 => (if bt655.2 = 0 then (if bt665.2 = 0 then (if bt670.2.2.2 = 0 then (if bt670.2.2.1 = true then (if bt670.2.1 = true then (some false) else (if bt670.1 = (wrap64 (bt665.1 + 1)) then (if bt665.1 ≥ t617 then ((lampblacklaw03_awake.f kj11).bind fun t674 => (some t674)) else (some false)) else (some false))) else (some false)) else (some false)) else (some false)) else (some false))))))))) else (if bt647.2 = 2 then ((lampblacklaw03_awake.f kj11).bind fun t651 => (some t651)) else (some false)))))) = some r := by rw [if_neg (show ¬ (false = true) by decide)] at H; exact H
     clear H
     have H := H1
     clear H1
     replace H := Option.bind_eq_some_iff.mp H
     obtain ⟨t641, A330, H⟩ := H
     replace H : ((lampblacklaw03_list.f l1).bind fun t644 => ((sweep_Bags.f kj11 t641 t644).bind fun bt647 => (if bt647.2 = 0 then ((lampblacklaw03_Few.f l0).bind fun t652 => ((sweep_Follow.f kj11 t652 bt647.1).bind fun bt655 => ((lampblacklaw03_Few.f l0).bind fun t659 => ((lampblacklaw03_list.f l1).bind fun t662 => ((sweep_Breadth.f kj11 t659 t662).bind fun bt665 => ((lampblacklaw03_Few.f l0).bind fun t667 => ((sweep_Play.f t667 bt655.1).bind fun bt670 => (if bt655.2 = 0 then (if bt665.2 = 0 then (if bt670.2.2.2 = 0 then (if bt670.2.2.1 = true then (if bt670.2.1 = true then (some false) else (if bt670.1 = (wrap64 (bt665.1 + 1)) then (if bt665.1 ≥ t617 then ((lampblacklaw03_awake.f kj11).bind fun t674 => (some t674)) else (some false)) else (some false))) else (some false)) else (some false)) else (some false)) else (some false))))))))) else (if bt647.2 = 2 then ((lampblacklaw03_awake.f kj11).bind fun t651 => (some t651)) else (some false))))) = some r := H
     have A33 := Aside0.mk A330
     clear A330
     replace H := Option.bind_eq_some_iff.mp H
     obtain ⟨t644, A340, H⟩ := H
     replace H : ((sweep_Bags.f kj11 t641 t644).bind fun bt647 => (if bt647.2 = 0 then ((lampblacklaw03_Few.f l0).bind fun t652 => ((sweep_Follow.f kj11 t652 bt647.1).bind fun bt655 => ((lampblacklaw03_Few.f l0).bind fun t659 => ((lampblacklaw03_list.f l1).bind fun t662 => ((sweep_Breadth.f kj11 t659 t662).bind fun bt665 => ((lampblacklaw03_Few.f l0).bind fun t667 => ((sweep_Play.f t667 bt655.1).bind fun bt670 => (if bt655.2 = 0 then (if bt665.2 = 0 then (if bt670.2.2.2 = 0 then (if bt670.2.2.1 = true then (if bt670.2.1 = true then (some false) else (if bt670.1 = (wrap64 (bt665.1 + 1)) then (if bt665.1 ≥ t617 then ((lampblacklaw03_awake.f kj11).bind fun t674 => (some t674)) else (some false)) else (some false))) else (some false)) else (some false)) else (some false)) else (some false))))))))) else (if bt647.2 = 2 then ((lampblacklaw03_awake.f kj11).bind fun t651 => (some t651)) else (some false)))) = some r := H
     have A34 := Aside0.mk A340
     clear A340
     replace H := Option.bind_eq_some_iff.mp H
     obtain ⟨⟨t647, t648⟩, A350, H⟩ := H
     replace H : (if t648 = 0 then ((lampblacklaw03_Few.f l0).bind fun t652 => ((sweep_Follow.f kj11 t652 t647).bind fun bt655 => ((lampblacklaw03_Few.f l0).bind fun t659 => ((lampblacklaw03_list.f l1).bind fun t662 => ((sweep_Breadth.f kj11 t659 t662).bind fun bt665 => ((lampblacklaw03_Few.f l0).bind fun t667 => ((sweep_Play.f t667 bt655.1).bind fun bt670 => (if bt655.2 = 0 then (if bt665.2 = 0 then (if bt670.2.2.2 = 0 then (if bt670.2.2.1 = true then (if bt670.2.1 = true then (some false) else (if bt670.1 = (wrap64 (bt665.1 + 1)) then (if bt665.1 ≥ t617 then ((lampblacklaw03_awake.f kj11).bind fun t674 => (some t674)) else (some false)) else (some false))) else (some false)) else (some false)) else (some false)) else (some false))))))))) else (if t648 = 2 then ((lampblacklaw03_awake.f kj11).bind fun t651 => (some t651)) else (some false))) = some r := H
     have A35 := Aside0.mk A350
     clear A350
     by_cases c36 : t648 = 0
     ·rw [if_pos c36] at H
      have c36b0 : (t648 == 0) = true := beq_iff_eq.mpr c36
      have c36b1 : (t648 != 0) = false := bne_eq_false_iff_eq.mpr c36
      clear c36
      replace H := Option.bind_eq_some_iff.mp H
      obtain ⟨t652, A370, H⟩ := H
      replace H : ((sweep_Follow.f kj11 t652 t647).bind fun bt655 => ((lampblacklaw03_Few.f l0).bind fun t659 => ((lampblacklaw03_list.f l1).bind fun t662 => ((sweep_Breadth.f kj11 t659 t662).bind fun bt665 => ((lampblacklaw03_Few.f l0).bind fun t667 => ((sweep_Play.f t667 bt655.1).bind fun bt670 => (if bt655.2 = 0 then (if bt665.2 = 0 then (if bt670.2.2.2 = 0 then (if bt670.2.2.1 = true then (if bt670.2.1 = true then (some false) else (if bt670.1 = (wrap64 (bt665.1 + 1)) then (if bt665.1 ≥ t617 then ((lampblacklaw03_awake.f kj11).bind fun t674 => (some t674)) else (some false)) else (some false))) else (some false)) else (some false)) else (some false)) else (some false)))))))) = some r := H
      have A37 := Aside0.mk A370
      clear A370
      replace H := Option.bind_eq_some_iff.mp H
      obtain ⟨⟨t655, t656⟩, A380, H⟩ := H
      replace H : ((lampblacklaw03_Few.f l0).bind fun t659 => ((lampblacklaw03_list.f l1).bind fun t662 => ((sweep_Breadth.f kj11 t659 t662).bind fun bt665 => ((lampblacklaw03_Few.f l0).bind fun t667 => ((sweep_Play.f t667 t655).bind fun bt670 => (if t656 = 0 then (if bt665.2 = 0 then (if bt670.2.2.2 = 0 then (if bt670.2.2.1 = true then (if bt670.2.1 = true then (some false) else (if bt670.1 = (wrap64 (bt665.1 + 1)) then (if bt665.1 ≥ t617 then ((lampblacklaw03_awake.f kj11).bind fun t674 => (some t674)) else (some false)) else (some false))) else (some false)) else (some false)) else (some false)) else (some false))))))) = some r := H
      have A38 := Aside0.mk A380
      clear A380
      replace H := Option.bind_eq_some_iff.mp H
      obtain ⟨t659, A390, H⟩ := H
      replace H : ((lampblacklaw03_list.f l1).bind fun t662 => ((sweep_Breadth.f kj11 t659 t662).bind fun bt665 => ((lampblacklaw03_Few.f l0).bind fun t667 => ((sweep_Play.f t667 t655).bind fun bt670 => (if t656 = 0 then (if bt665.2 = 0 then (if bt670.2.2.2 = 0 then (if bt670.2.2.1 = true then (if bt670.2.1 = true then (some false) else (if bt670.1 = (wrap64 (bt665.1 + 1)) then (if bt665.1 ≥ t617 then ((lampblacklaw03_awake.f kj11).bind fun t674 => (some t674)) else (some false)) else (some false))) else (some false)) else (some false)) else (some false)) else (some false)))))) = some r := H
      have A39 := Aside0.mk A390
      clear A390
      replace H := Option.bind_eq_some_iff.mp H
      obtain ⟨t662, A400, H⟩ := H
      replace H : ((sweep_Breadth.f kj11 t659 t662).bind fun bt665 => ((lampblacklaw03_Few.f l0).bind fun t667 => ((sweep_Play.f t667 t655).bind fun bt670 => (if t656 = 0 then (if bt665.2 = 0 then (if bt670.2.2.2 = 0 then (if bt670.2.2.1 = true then (if bt670.2.1 = true then (some false) else (if bt670.1 = (wrap64 (bt665.1 + 1)) then (if bt665.1 ≥ t617 then ((lampblacklaw03_awake.f kj11).bind fun t674 => (some t674)) else (some false)) else (some false))) else (some false)) else (some false)) else (some false)) else (some false))))) = some r := H
      have A40 := Aside0.mk A400
      clear A400
      replace H := Option.bind_eq_some_iff.mp H
      obtain ⟨⟨t665, t666⟩, A410, H⟩ := H
      replace H : ((lampblacklaw03_Few.f l0).bind fun t667 => ((sweep_Play.f t667 t655).bind fun bt670 => (if t656 = 0 then (if t666 = 0 then (if bt670.2.2.2 = 0 then (if bt670.2.2.1 = true then (if bt670.2.1 = true then (some false) else (if bt670.1 = (wrap64 (t665 + 1)) then (if t665 ≥ t617 then ((lampblacklaw03_awake.f kj11).bind fun t674 => (some t674)) else (some false)) else (some false))) else (some false)) else (some false)) else (some false)) else (some false)))) = some r := H
      have A41 := Aside0.mk A410
      clear A410
      replace H := Option.bind_eq_some_iff.mp H
      obtain ⟨t667, A420, H⟩ := H
      replace H : ((sweep_Play.f t667 t655).bind fun bt670 => (if t656 = 0 then (if t666 = 0 then (if bt670.2.2.2 = 0 then (if bt670.2.2.1 = true then (if bt670.2.1 = true then (some false) else (if bt670.1 = (wrap64 (t665 + 1)) then (if t665 ≥ t617 then ((lampblacklaw03_awake.f kj11).bind fun t674 => (some t674)) else (some false)) else (some false))) else (some false)) else (some false)) else (some false)) else (some false))) = some r := H
      have A42 := Aside0.mk A420
      clear A420
      replace H := Option.bind_eq_some_iff.mp H
      obtain ⟨⟨t670, t671, t672, t673⟩, A430, H⟩ := H
      replace H : (if t656 = 0 then (if t666 = 0 then (if t673 = 0 then (if t672 = true then (if t671 = true then (some false) else (if t670 = (wrap64 (t665 + 1)) then (if t665 ≥ t617 then ((lampblacklaw03_awake.f kj11).bind fun t674 => (some t674)) else (some false)) else (some false))) else (some false)) else (some false)) else (some false)) else (some false)) = some r := H
      have A43 := Aside0.mk A430
      clear A430
      by_cases c44 : t656 = 0
      ·rw [if_pos c44] at H
       have c44b0 : (t656 == 0) = true := beq_iff_eq.mpr c44
       have c44b1 : (t656 != 0) = false := bne_eq_false_iff_eq.mpr c44
       clear c44
       by_cases c45 : t666 = 0
       ·rw [if_pos c45] at H
        have c45b0 : (t666 == 0) = true := beq_iff_eq.mpr c45
        have c45b1 : (t666 != 0) = false := bne_eq_false_iff_eq.mpr c45
        clear c45
        by_cases c46 : t673 = 0
        ·rw [if_pos c46] at H
         have c46b0 : (t673 == 0) = true := beq_iff_eq.mpr c46
         have c46b1 : (t673 != 0) = false := bne_eq_false_iff_eq.mpr c46
         clear c46
         by_cases c47 : t672 = true
         ·subst c47
          have H1 : (if t671 = true then (some false) else (if t670 = (wrap64 (t665 + 1)) then (if t665 ≥ t617 then ((lampblacklaw03_awake.f kj11).bind fun t674 => (some t674)) else (some false)) else (some false))) = some r := by rw [if_pos rfl] at H; exact H
          clear H
          have H := H1
          clear H1
          by_cases c48 : t671 = true
          ·subst c48
           have H1 : (some false) = some r := by rw [if_pos rfl] at H; exact H
           clear H
           have H := H1
           clear H1
           obtain rfl := Option.some.inj H
           go_wp2_with (first | ((with_reducible refine gate_callee (f := 18) rfl ?_); refine goesL_ (some 93) rfl rfl Tryd.func18 (by kernel_rfl) rfl #[.slice A0 l0.length c0] rfl (Qls) ?_; (with_reducible refine (lampblacklaw03_Few.calls _ _ l0 t641 _ ?side1 ?side2 A33.out).mono ?_); (case side1 => exact Qsc (Kd.C_below HR0.out HB.out)); (case side2 => exact HC0.out); rintro e w49 ⟨v642, rfl, ho0, hb⟩; refine ⟨_, rfl, ?_⟩; have n0_ := Aside0.mk (Kd.R_lower ho0 (below_size (Qaw))); have n1_ := Aside0.mk (below_step (Qaw) hb); clear HB; have HO643 := n0_; have HB := n1_; clear n0_ n1_; (try clear hb); (try clear hb2); (try clear hk); (try clear hi); (try clear ho0)) | ((with_reducible refine gate_callee (f := 27) rfl ?_); refine goesL_ (some 95) rfl rfl Tryd.func27 (by kernel_rfl) rfl #[.slice A1 l1.length c1] rfl (Qls) ?_; (with_reducible refine (lampblacklaw03_list.calls _ _ l1 t644 _ ?side1 ?side2 A34.out).mono ?_); (case side1 => exact Qsc (Kd.C_below HR1.out HB.out)); (case side2 => exact HC1.out); rintro e w50 ⟨v645, rfl, ho0, hb⟩; refine ⟨_, rfl, ?_⟩; have n0_ := Aside0.mk (Kd.R_elder' (Qro HO643.out) (Kd.R_base ho0) hb); have n1_ := Aside0.mk (Kd.R_lower (Kd.R_new' ho0 (Kd.R_lt (Qro HO643.out))) (below_size (Qaw))); have n2_ := Aside0.mk (below_step (Qaw) hb); clear HO643; clear HB; have HO643 := n0_; have HO646 := n1_; have HB := n2_; clear n0_ n1_ n2_; (try clear hb); (try clear hb2); (try clear hk); (try clear hi); (try clear ho0); obtain ⟨Ao51, co51, eo51⟩ := Kd.R_slice HO643.out; subst eo51; obtain ⟨Ao52, co52, eo52⟩ := Kd.R_slice HO646.out; subst eo52) | ((with_reducible refine gate_callee (f := 32) rfl ?_); refine goesL_ (some 96) rfl rfl Tryd.func32 (by kernel_rfl) rfl #[.slice Ao51 t641.length co51, .slice Ao52 t644.length co52] rfl (Qls) ?_; (with_reducible refine (sweep_Bags.calls (hGL := (Qlg)) kj11 _ _ t641 _ _ t644 t647 t648 _ ?side1 ?side2 ?side3 ?side4 A35.out).mono ?_); (case side1 => exact Qsc (Kd.R_reads' HO643.out).2.2); (case side2 => exact (Kd.R_reads' HO643.out).2.1); (case side3 => exact Qsc (Kd.R_reads' HO646.out).2.2); (case side4 => exact (Kd.R_reads' HO646.out).2.1); rintro e w53 ⟨v649, rfl, ho0, hb⟩; refine ⟨_, rfl, ?_⟩; have n0_ := Aside0.mk (Kd.R_elder' (Qro HO643.out) (Kd.R_base ho0) hb); have n1_ := Aside0.mk (Kd.R_elder' (Qro HO646.out) (Kd.R_base ho0) hb); have n2_ := Aside0.mk (Kd.R_lower (Kd.R_new' (Kd.R_new' ho0 (Kd.R_lt (Qro HO643.out))) (Kd.R_lt (Qro HO646.out))) (below_size (Qaw))); have n3_ := Aside0.mk (below_step (Qaw) hb); clear HO643; clear HO646; clear HB; have HO643 := n0_; have HO646 := n1_; have HO650 := n2_; have HB := n3_; clear n0_ n1_ n2_ n3_; (try clear hb); (try clear hb2); (try clear hk); (try clear hi); (try clear ho0)) | ((with_reducible refine gate_callee (f := 18) rfl ?_); refine goesL_ (some 108) rfl rfl Tryd.func18 (by kernel_rfl) rfl #[.slice A0 l0.length c0] rfl (Qls) ?_; (with_reducible refine (lampblacklaw03_Few.calls _ _ l0 t652 _ ?side1 ?side2 A37.out).mono ?_); (case side1 => exact Qsc (Kd.C_below HR0.out HB.out)); (case side2 => exact HC0.out); rintro e w54 ⟨v653, rfl, ho0, hb⟩; refine ⟨_, rfl, ?_⟩; have n0_ := Aside0.mk (Kd.R_elder' (Qro HO643.out) (Kd.R_base ho0) hb); have n1_ := Aside0.mk (Kd.R_elder' (Qro HO646.out) (Kd.R_base ho0) hb); have n2_ := Aside0.mk (Kd.R_elder' (Qro HO650.out) (Kd.R_base ho0) hb); have n3_ := Aside0.mk (Kd.R_lower (Kd.R_new' (Kd.R_new' (Kd.R_new' ho0 (Kd.R_lt (Qro HO643.out))) (Kd.R_lt (Qro HO646.out))) (Kd.R_lt (Qro HO650.out))) (below_size (Qaw))); have n4_ := Aside0.mk (below_step (Qaw) hb); clear HO643; clear HO646; clear HO650; clear HB; have HO643 := n0_; have HO646 := n1_; have HO650 := n2_; have HO654 := n3_; have HB := n4_; clear n0_ n1_ n2_ n3_ n4_; (try clear hb); (try clear hb2); (try clear hk); (try clear hi); (try clear ho0); obtain ⟨Ao55, co55, eo55⟩ := Kd.R_slice HO654.out; subst eo55; obtain ⟨Ao56, co56, eo56⟩ := Kd.R_slice HO650.out; subst eo56) | ((with_reducible refine gate_callee (f := 41) rfl ?_); refine goesL_ (some 110) rfl rfl Tryd.func41 (by kernel_rfl) rfl #[.slice Ao55 t652.length co55, .slice Ao56 t647.length co56] rfl (Qls) ?_; (with_reducible refine (sweep_Follow.calls (hGL := (Qlg)) kj11 _ _ t652 _ _ t647 t655 t656 _ ?side1 ?side2 ?side3 ?side4 A38.out).mono ?_); (case side1 => exact Qsc (Kd.R_reads' HO654.out).2.2); (case side2 => exact (Kd.R_reads' HO654.out).2.1); (case side3 => exact Qsc (Kd.R_reads' HO650.out).2.2); (case side4 => exact (Kd.R_reads' HO650.out).2.1); rintro e w57 ⟨v657, rfl, ho0, hb⟩; refine ⟨_, rfl, ?_⟩; have n0_ := Aside0.mk (Kd.R_below (Qro HO643.out) hb); have n1_ := Aside0.mk (Kd.R_below (Qro HO646.out) hb); have n2_ := Aside0.mk (Kd.R_below (Qro HO650.out) hb); have n3_ := Aside0.mk (Kd.R_below (Qro HO654.out) hb); have n4_ := Aside0.mk (Kd.R_lower ho0 (below_size (Qaw))); have n5_ := Aside0.mk (below_step (Qaw) hb); clear HO643; clear HO646; clear HO650; clear HO654; clear HB; have HO643 := n0_; have HO646 := n1_; have HO650 := n2_; have HO654 := n3_; have HO658 := n4_; have HB := n5_; clear n0_ n1_ n2_ n3_ n4_ n5_; (try clear hb); (try clear hb2); (try clear hk); (try clear hi); (try clear ho0)) | ((with_reducible refine gate_callee (f := 18) rfl ?_); refine goesL_ (some 115) rfl rfl Tryd.func18 (by kernel_rfl) rfl #[.slice A0 l0.length c0] rfl (Qls) ?_; (with_reducible refine (lampblacklaw03_Few.calls _ _ l0 t659 _ ?side1 ?side2 A39.out).mono ?_); (case side1 => exact Qsc (Kd.C_below HR0.out HB.out)); (case side2 => exact HC0.out); rintro e w58 ⟨v660, rfl, ho0, hb⟩; refine ⟨_, rfl, ?_⟩; have n0_ := Aside0.mk (Kd.R_elder' (Qro HO643.out) (Kd.R_base ho0) hb); have n1_ := Aside0.mk (Kd.R_elder' (Qro HO646.out) (Kd.R_base ho0) hb); have n2_ := Aside0.mk (Kd.R_elder' (Qro HO650.out) (Kd.R_base ho0) hb); have n3_ := Aside0.mk (Kd.R_elder' (Qro HO654.out) (Kd.R_base ho0) hb); have n4_ := Aside0.mk (Kd.R_below (Qro HO658.out) hb); have n5_ := Aside0.mk (Kd.R_lower (Kd.R_new' (Kd.R_new' (Kd.R_new' (Kd.R_new' ho0 (Kd.R_lt (Qro HO643.out))) (Kd.R_lt (Qro HO646.out))) (Kd.R_lt (Qro HO650.out))) (Kd.R_lt (Qro HO654.out))) (below_size (Qaw))); have n6_ := Aside0.mk (below_step (Qaw) hb); clear HO643; clear HO646; clear HO650; clear HO654; clear HO658; clear HB; have HO643 := n0_; have HO646 := n1_; have HO650 := n2_; have HO654 := n3_; have HO658 := n4_; have HO661 := n5_; have HB := n6_; clear n0_ n1_ n2_ n3_ n4_ n5_ n6_; (try clear hb); (try clear hb2); (try clear hk); (try clear hi); (try clear ho0)) | ((with_reducible refine gate_callee (f := 27) rfl ?_); refine goesL_ (some 117) rfl rfl Tryd.func27 (by kernel_rfl) rfl #[.slice A1 l1.length c1] rfl (Qls) ?_; (with_reducible refine (lampblacklaw03_list.calls _ _ l1 t662 _ ?side1 ?side2 A40.out).mono ?_); (case side1 => exact Qsc (Kd.C_below HR1.out HB.out)); (case side2 => exact HC1.out); rintro e w59 ⟨v663, rfl, ho0, hb⟩; refine ⟨_, rfl, ?_⟩; have n0_ := Aside0.mk (Kd.R_elder' (Qro HO643.out) (Kd.R_base ho0) hb); have n1_ := Aside0.mk (Kd.R_elder' (Qro HO646.out) (Kd.R_base ho0) hb); have n2_ := Aside0.mk (Kd.R_elder' (Qro HO650.out) (Kd.R_base ho0) hb); have n3_ := Aside0.mk (Kd.R_elder' (Qro HO654.out) (Kd.R_base ho0) hb); have n4_ := Aside0.mk (Kd.R_below (Qro HO658.out) hb); have n5_ := Aside0.mk (Kd.R_elder' (Qro HO661.out) (Kd.R_base ho0) hb); have n6_ := Aside0.mk (Kd.R_lower (Kd.R_new' (Kd.R_new' (Kd.R_new' (Kd.R_new' (Kd.R_new' ho0 (Kd.R_lt (Qro HO643.out))) (Kd.R_lt (Qro HO646.out))) (Kd.R_lt (Qro HO650.out))) (Kd.R_lt (Qro HO654.out))) (Kd.R_lt (Qro HO661.out))) (below_size (Qaw))); have n7_ := Aside0.mk (below_step (Qaw) hb); clear HO643; clear HO646; clear HO650; clear HO654; clear HO658; clear HO661; clear HB; have HO643 := n0_; have HO646 := n1_; have HO650 := n2_; have HO654 := n3_; have HO658 := n4_; have HO661 := n5_; have HO664 := n6_; have HB := n7_; clear n0_ n1_ n2_ n3_ n4_ n5_ n6_ n7_; (try clear hb); (try clear hb2); (try clear hk); (try clear hi); (try clear ho0); obtain ⟨Ao60, co60, eo60⟩ := Kd.R_slice HO661.out; subst eo60; obtain ⟨Ao61, co61, eo61⟩ := Kd.R_slice HO664.out; subst eo61) | ((with_reducible refine gate_callee (f := 26) rfl ?_); refine goesL_ (some 118) rfl rfl Tryd.func26 (by kernel_rfl) rfl #[.slice Ao60 t659.length co60, .slice Ao61 t662.length co61] rfl (Qls) ?_; (with_reducible refine (sweep_Breadth.calls (hGL := (Qlg)) kj11 _ _ t659 _ _ t662 t665 t666 _ ?side1 ?side2 ?side3 ?side4 A41.out).mono ?_); (case side1 => exact Qsc (Kd.R_reads' HO661.out).2.2); (case side2 => exact (Kd.R_reads' HO661.out).2.1); (case side3 => exact Qsc (Kd.R_reads' HO664.out).2.2); (case side4 => exact (Kd.R_reads' HO664.out).2.1); rintro e w62 ⟨rfl, hb⟩; refine ⟨_, rfl, ?_⟩; have n0_ := Aside0.mk (Kd.R_below (Qro HO643.out) hb); have n1_ := Aside0.mk (Kd.R_below (Qro HO646.out) hb); have n2_ := Aside0.mk (Kd.R_below (Qro HO650.out) hb); have n3_ := Aside0.mk (Kd.R_below (Qro HO654.out) hb); have n4_ := Aside0.mk (Kd.R_below (Qro HO658.out) hb); have n5_ := Aside0.mk (Kd.R_below (Qro HO661.out) hb); have n6_ := Aside0.mk (Kd.R_below (Qro HO664.out) hb); have n7_ := Aside0.mk (below_step (Qaw) hb); clear HO643; clear HO646; clear HO650; clear HO654; clear HO658; clear HO661; clear HO664; clear HB; have HO643 := n0_; have HO646 := n1_; have HO650 := n2_; have HO654 := n3_; have HO658 := n4_; have HO661 := n5_; have HO664 := n6_; have HB := n7_; clear n0_ n1_ n2_ n3_ n4_ n5_ n6_ n7_; (try clear hb); (try clear hb2); (try clear hk); (try clear hi)) | ((with_reducible refine gate_callee (f := 18) rfl ?_); refine goesL_ (some 123) rfl rfl Tryd.func18 (by kernel_rfl) rfl #[.slice A0 l0.length c0] rfl (Qls) ?_; (with_reducible refine (lampblacklaw03_Few.calls _ _ l0 t667 _ ?side1 ?side2 A42.out).mono ?_); (case side1 => exact Qsc (Kd.C_below HR0.out HB.out)); (case side2 => exact HC0.out); rintro e w63 ⟨v668, rfl, ho0, hb⟩; refine ⟨_, rfl, ?_⟩; have n0_ := Aside0.mk (Kd.R_elder' (Qro HO643.out) (Kd.R_base ho0) hb); have n1_ := Aside0.mk (Kd.R_elder' (Qro HO646.out) (Kd.R_base ho0) hb); have n2_ := Aside0.mk (Kd.R_elder' (Qro HO650.out) (Kd.R_base ho0) hb); have n3_ := Aside0.mk (Kd.R_elder' (Qro HO654.out) (Kd.R_base ho0) hb); have n4_ := Aside0.mk (Kd.R_below (Qro HO658.out) hb); have n5_ := Aside0.mk (Kd.R_elder' (Qro HO661.out) (Kd.R_base ho0) hb); have n6_ := Aside0.mk (Kd.R_elder' (Qro HO664.out) (Kd.R_base ho0) hb); have n7_ := Aside0.mk (Kd.R_lower (Kd.R_new' (Kd.R_new' (Kd.R_new' (Kd.R_new' (Kd.R_new' (Kd.R_new' ho0 (Kd.R_lt (Qro HO643.out))) (Kd.R_lt (Qro HO646.out))) (Kd.R_lt (Qro HO650.out))) (Kd.R_lt (Qro HO654.out))) (Kd.R_lt (Qro HO661.out))) (Kd.R_lt (Qro HO664.out))) (below_size (Qaw))); have n8_ := Aside0.mk (below_step (Qaw) hb); clear HO643; clear HO646; clear HO650; clear HO654; clear HO658; clear HO661; clear HO664; clear HB; have HO643 := n0_; have HO646 := n1_; have HO650 := n2_; have HO654 := n3_; have HO658 := n4_; have HO661 := n5_; have HO664 := n6_; have HO669 := n7_; have HB := n8_; clear n0_ n1_ n2_ n3_ n4_ n5_ n6_ n7_ n8_; (try clear hb); (try clear hb2); (try clear hk); (try clear hi); (try clear ho0); obtain ⟨Ao64, co64, eo64⟩ := Kd.R_slice HO669.out; subst eo64; obtain ⟨Ao65, co65, eo65⟩ := Kd.R_slice HO658.out; subst eo65) | ((with_reducible refine gate_callee (f := 38) rfl ?_); refine goesL_ (some 125) rfl rfl Tryd.func38 (by kernel_rfl) rfl #[.slice Ao64 t667.length co64, .slice Ao65 t655.length co65] rfl (Qls) ?_; (with_reducible refine (sweep_Play.calls (hGL := (Qlg)) _ _ t667 _ _ t655 t670 true true t673 _ ?side1 ?side2 ?side3 ?side4 A43.out).mono ?_); (case side1 => exact Qsc (Kd.R_reads' HO669.out).2.2); (case side2 => exact (Kd.R_reads' HO669.out).2.1); (case side3 => exact Qsc (Kd.R_reads' HO658.out).2.2); (case side4 => exact (Kd.R_reads' HO658.out).2.1); rintro e w66 ⟨rfl, hb⟩; refine ⟨_, rfl, ?_⟩; have n0_ := Aside0.mk (Kd.R_below (Qro HO643.out) hb); have n1_ := Aside0.mk (Kd.R_below (Qro HO646.out) hb); have n2_ := Aside0.mk (Kd.R_below (Qro HO650.out) hb); have n3_ := Aside0.mk (Kd.R_below (Qro HO654.out) hb); have n4_ := Aside0.mk (Kd.R_below (Qro HO658.out) hb); have n5_ := Aside0.mk (Kd.R_below (Qro HO661.out) hb); have n6_ := Aside0.mk (Kd.R_below (Qro HO664.out) hb); have n7_ := Aside0.mk (Kd.R_below (Qro HO669.out) hb); have n8_ := Aside0.mk (below_step (Qaw) hb); clear HO643; clear HO646; clear HO650; clear HO654; clear HO658; clear HO661; clear HO664; clear HO669; clear HB; have HO643 := n0_; have HO646 := n1_; have HO650 := n2_; have HO654 := n3_; have HO658 := n4_; have HO661 := n5_; have HO664 := n6_; have HO669 := n7_; have HB := n8_; clear n0_ n1_ n2_ n3_ n4_ n5_ n6_ n7_ n8_; (try clear hb); (try clear hb2); (try clear hk); (try clear hi)))
           go_ret
           exact ⟨by first | rfl | (simp [errW_none, errW_some] <;> rfl) | (simp [*, errW_none, errW_some] <;> rfl), by repeat (first | (with_reducible first | exact HB.out | apply below_alloc | apply pw_below_drewN | apply below_drew1) | exact HB.out)⟩
          ·replace c48 := Bool.eq_false_iff.mpr c48
           subst c48
           have H1 : (if t670 = (wrap64 (t665 + 1)) then (if t665 ≥ t617 then ((lampblacklaw03_awake.f kj11).bind fun t674 => (some t674)) else (some false)) else (some false)) = some r := by rw [if_neg (show ¬ (false = true) by decide)] at H; exact H
           clear H
           have H := H1
           clear H1
           by_cases c67 : t670 = (wrap64 (t665 + 1))
           ·rw [if_pos c67] at H
            have c67b0 : (t670 == (wrap64 (t665 + 1))) = true := beq_iff_eq.mpr c67
            have c67b1 : (t670 != (wrap64 (t665 + 1))) = false := bne_eq_false_iff_eq.mpr c67
            clear c67
            by_cases c68 : t665 ≥ t617
            ·rw [if_pos c68] at H
             have c68b0 : decide (t617 ≤ t665) = true := decide_eq_true c68
             clear c68
             replace H := Option.bind_eq_some_iff.mp H
             obtain ⟨t674, A690, H⟩ := H
             replace H : (some t674) = some r := H
             have A69 := Aside0.mk A690
             clear A690
             obtain rfl := Option.some.inj H
             go_wp2_with (first | ((with_reducible refine gate_callee (f := 18) rfl ?_); refine goesL_ (some 93) rfl rfl Tryd.func18 (by kernel_rfl) rfl #[.slice A0 l0.length c0] rfl (Qls) ?_; (with_reducible refine (lampblacklaw03_Few.calls _ _ l0 t641 _ ?side1 ?side2 A33.out).mono ?_); (case side1 => exact Qsc (Kd.C_below HR0.out HB.out)); (case side2 => exact HC0.out); rintro e w70 ⟨v642, rfl, ho0, hb⟩; refine ⟨_, rfl, ?_⟩; have n0_ := Aside0.mk (Kd.R_lower ho0 (below_size (Qaw))); have n1_ := Aside0.mk (below_step (Qaw) hb); clear HB; have HO643 := n0_; have HB := n1_; clear n0_ n1_; (try clear hb); (try clear hb2); (try clear hk); (try clear hi); (try clear ho0)) | ((with_reducible refine gate_callee (f := 27) rfl ?_); refine goesL_ (some 95) rfl rfl Tryd.func27 (by kernel_rfl) rfl #[.slice A1 l1.length c1] rfl (Qls) ?_; (with_reducible refine (lampblacklaw03_list.calls _ _ l1 t644 _ ?side1 ?side2 A34.out).mono ?_); (case side1 => exact Qsc (Kd.C_below HR1.out HB.out)); (case side2 => exact HC1.out); rintro e w71 ⟨v645, rfl, ho0, hb⟩; refine ⟨_, rfl, ?_⟩; have n0_ := Aside0.mk (Kd.R_elder' (Qro HO643.out) (Kd.R_base ho0) hb); have n1_ := Aside0.mk (Kd.R_lower (Kd.R_new' ho0 (Kd.R_lt (Qro HO643.out))) (below_size (Qaw))); have n2_ := Aside0.mk (below_step (Qaw) hb); clear HO643; clear HB; have HO643 := n0_; have HO646 := n1_; have HB := n2_; clear n0_ n1_ n2_; (try clear hb); (try clear hb2); (try clear hk); (try clear hi); (try clear ho0); obtain ⟨Ao72, co72, eo72⟩ := Kd.R_slice HO643.out; subst eo72; obtain ⟨Ao73, co73, eo73⟩ := Kd.R_slice HO646.out; subst eo73) | ((with_reducible refine gate_callee (f := 32) rfl ?_); refine goesL_ (some 96) rfl rfl Tryd.func32 (by kernel_rfl) rfl #[.slice Ao72 t641.length co72, .slice Ao73 t644.length co73] rfl (Qls) ?_; (with_reducible refine (sweep_Bags.calls (hGL := (Qlg)) kj11 _ _ t641 _ _ t644 t647 t648 _ ?side1 ?side2 ?side3 ?side4 A35.out).mono ?_); (case side1 => exact Qsc (Kd.R_reads' HO643.out).2.2); (case side2 => exact (Kd.R_reads' HO643.out).2.1); (case side3 => exact Qsc (Kd.R_reads' HO646.out).2.2); (case side4 => exact (Kd.R_reads' HO646.out).2.1); rintro e w74 ⟨v649, rfl, ho0, hb⟩; refine ⟨_, rfl, ?_⟩; have n0_ := Aside0.mk (Kd.R_elder' (Qro HO643.out) (Kd.R_base ho0) hb); have n1_ := Aside0.mk (Kd.R_elder' (Qro HO646.out) (Kd.R_base ho0) hb); have n2_ := Aside0.mk (Kd.R_lower (Kd.R_new' (Kd.R_new' ho0 (Kd.R_lt (Qro HO643.out))) (Kd.R_lt (Qro HO646.out))) (below_size (Qaw))); have n3_ := Aside0.mk (below_step (Qaw) hb); clear HO643; clear HO646; clear HB; have HO643 := n0_; have HO646 := n1_; have HO650 := n2_; have HB := n3_; clear n0_ n1_ n2_ n3_; (try clear hb); (try clear hb2); (try clear hk); (try clear hi); (try clear ho0)) | ((with_reducible refine gate_callee (f := 18) rfl ?_); refine goesL_ (some 108) rfl rfl Tryd.func18 (by kernel_rfl) rfl #[.slice A0 l0.length c0] rfl (Qls) ?_; (with_reducible refine (lampblacklaw03_Few.calls _ _ l0 t652 _ ?side1 ?side2 A37.out).mono ?_); (case side1 => exact Qsc (Kd.C_below HR0.out HB.out)); (case side2 => exact HC0.out); rintro e w75 ⟨v653, rfl, ho0, hb⟩; refine ⟨_, rfl, ?_⟩; have n0_ := Aside0.mk (Kd.R_elder' (Qro HO643.out) (Kd.R_base ho0) hb); have n1_ := Aside0.mk (Kd.R_elder' (Qro HO646.out) (Kd.R_base ho0) hb); have n2_ := Aside0.mk (Kd.R_elder' (Qro HO650.out) (Kd.R_base ho0) hb); have n3_ := Aside0.mk (Kd.R_lower (Kd.R_new' (Kd.R_new' (Kd.R_new' ho0 (Kd.R_lt (Qro HO643.out))) (Kd.R_lt (Qro HO646.out))) (Kd.R_lt (Qro HO650.out))) (below_size (Qaw))); have n4_ := Aside0.mk (below_step (Qaw) hb); clear HO643; clear HO646; clear HO650; clear HB; have HO643 := n0_; have HO646 := n1_; have HO650 := n2_; have HO654 := n3_; have HB := n4_; clear n0_ n1_ n2_ n3_ n4_; (try clear hb); (try clear hb2); (try clear hk); (try clear hi); (try clear ho0); obtain ⟨Ao76, co76, eo76⟩ := Kd.R_slice HO654.out; subst eo76; obtain ⟨Ao77, co77, eo77⟩ := Kd.R_slice HO650.out; subst eo77) | ((with_reducible refine gate_callee (f := 41) rfl ?_); refine goesL_ (some 110) rfl rfl Tryd.func41 (by kernel_rfl) rfl #[.slice Ao76 t652.length co76, .slice Ao77 t647.length co77] rfl (Qls) ?_; (with_reducible refine (sweep_Follow.calls (hGL := (Qlg)) kj11 _ _ t652 _ _ t647 t655 t656 _ ?side1 ?side2 ?side3 ?side4 A38.out).mono ?_); (case side1 => exact Qsc (Kd.R_reads' HO654.out).2.2); (case side2 => exact (Kd.R_reads' HO654.out).2.1); (case side3 => exact Qsc (Kd.R_reads' HO650.out).2.2); (case side4 => exact (Kd.R_reads' HO650.out).2.1); rintro e w78 ⟨v657, rfl, ho0, hb⟩; refine ⟨_, rfl, ?_⟩; have n0_ := Aside0.mk (Kd.R_below (Qro HO643.out) hb); have n1_ := Aside0.mk (Kd.R_below (Qro HO646.out) hb); have n2_ := Aside0.mk (Kd.R_below (Qro HO650.out) hb); have n3_ := Aside0.mk (Kd.R_below (Qro HO654.out) hb); have n4_ := Aside0.mk (Kd.R_lower ho0 (below_size (Qaw))); have n5_ := Aside0.mk (below_step (Qaw) hb); clear HO643; clear HO646; clear HO650; clear HO654; clear HB; have HO643 := n0_; have HO646 := n1_; have HO650 := n2_; have HO654 := n3_; have HO658 := n4_; have HB := n5_; clear n0_ n1_ n2_ n3_ n4_ n5_; (try clear hb); (try clear hb2); (try clear hk); (try clear hi); (try clear ho0)) | ((with_reducible refine gate_callee (f := 18) rfl ?_); refine goesL_ (some 115) rfl rfl Tryd.func18 (by kernel_rfl) rfl #[.slice A0 l0.length c0] rfl (Qls) ?_; (with_reducible refine (lampblacklaw03_Few.calls _ _ l0 t659 _ ?side1 ?side2 A39.out).mono ?_); (case side1 => exact Qsc (Kd.C_below HR0.out HB.out)); (case side2 => exact HC0.out); rintro e w79 ⟨v660, rfl, ho0, hb⟩; refine ⟨_, rfl, ?_⟩; have n0_ := Aside0.mk (Kd.R_elder' (Qro HO643.out) (Kd.R_base ho0) hb); have n1_ := Aside0.mk (Kd.R_elder' (Qro HO646.out) (Kd.R_base ho0) hb); have n2_ := Aside0.mk (Kd.R_elder' (Qro HO650.out) (Kd.R_base ho0) hb); have n3_ := Aside0.mk (Kd.R_elder' (Qro HO654.out) (Kd.R_base ho0) hb); have n4_ := Aside0.mk (Kd.R_below (Qro HO658.out) hb); have n5_ := Aside0.mk (Kd.R_lower (Kd.R_new' (Kd.R_new' (Kd.R_new' (Kd.R_new' ho0 (Kd.R_lt (Qro HO643.out))) (Kd.R_lt (Qro HO646.out))) (Kd.R_lt (Qro HO650.out))) (Kd.R_lt (Qro HO654.out))) (below_size (Qaw))); have n6_ := Aside0.mk (below_step (Qaw) hb); clear HO643; clear HO646; clear HO650; clear HO654; clear HO658; clear HB; have HO643 := n0_; have HO646 := n1_; have HO650 := n2_; have HO654 := n3_; have HO658 := n4_; have HO661 := n5_; have HB := n6_; clear n0_ n1_ n2_ n3_ n4_ n5_ n6_; (try clear hb); (try clear hb2); (try clear hk); (try clear hi); (try clear ho0)) | ((with_reducible refine gate_callee (f := 27) rfl ?_); refine goesL_ (some 117) rfl rfl Tryd.func27 (by kernel_rfl) rfl #[.slice A1 l1.length c1] rfl (Qls) ?_; (with_reducible refine (lampblacklaw03_list.calls _ _ l1 t662 _ ?side1 ?side2 A40.out).mono ?_); (case side1 => exact Qsc (Kd.C_below HR1.out HB.out)); (case side2 => exact HC1.out); rintro e w80 ⟨v663, rfl, ho0, hb⟩; refine ⟨_, rfl, ?_⟩; have n0_ := Aside0.mk (Kd.R_elder' (Qro HO643.out) (Kd.R_base ho0) hb); have n1_ := Aside0.mk (Kd.R_elder' (Qro HO646.out) (Kd.R_base ho0) hb); have n2_ := Aside0.mk (Kd.R_elder' (Qro HO650.out) (Kd.R_base ho0) hb); have n3_ := Aside0.mk (Kd.R_elder' (Qro HO654.out) (Kd.R_base ho0) hb); have n4_ := Aside0.mk (Kd.R_below (Qro HO658.out) hb); have n5_ := Aside0.mk (Kd.R_elder' (Qro HO661.out) (Kd.R_base ho0) hb); have n6_ := Aside0.mk (Kd.R_lower (Kd.R_new' (Kd.R_new' (Kd.R_new' (Kd.R_new' (Kd.R_new' ho0 (Kd.R_lt (Qro HO643.out))) (Kd.R_lt (Qro HO646.out))) (Kd.R_lt (Qro HO650.out))) (Kd.R_lt (Qro HO654.out))) (Kd.R_lt (Qro HO661.out))) (below_size (Qaw))); have n7_ := Aside0.mk (below_step (Qaw) hb); clear HO643; clear HO646; clear HO650; clear HO654; clear HO658; clear HO661; clear HB; have HO643 := n0_; have HO646 := n1_; have HO650 := n2_; have HO654 := n3_; have HO658 := n4_; have HO661 := n5_; have HO664 := n6_; have HB := n7_; clear n0_ n1_ n2_ n3_ n4_ n5_ n6_ n7_; (try clear hb); (try clear hb2); (try clear hk); (try clear hi); (try clear ho0); obtain ⟨Ao81, co81, eo81⟩ := Kd.R_slice HO661.out; subst eo81; obtain ⟨Ao82, co82, eo82⟩ := Kd.R_slice HO664.out; subst eo82) | ((with_reducible refine gate_callee (f := 26) rfl ?_); refine goesL_ (some 118) rfl rfl Tryd.func26 (by kernel_rfl) rfl #[.slice Ao81 t659.length co81, .slice Ao82 t662.length co82] rfl (Qls) ?_; (with_reducible refine (sweep_Breadth.calls (hGL := (Qlg)) kj11 _ _ t659 _ _ t662 t665 t666 _ ?side1 ?side2 ?side3 ?side4 A41.out).mono ?_); (case side1 => exact Qsc (Kd.R_reads' HO661.out).2.2); (case side2 => exact (Kd.R_reads' HO661.out).2.1); (case side3 => exact Qsc (Kd.R_reads' HO664.out).2.2); (case side4 => exact (Kd.R_reads' HO664.out).2.1); rintro e w83 ⟨rfl, hb⟩; refine ⟨_, rfl, ?_⟩; have n0_ := Aside0.mk (Kd.R_below (Qro HO643.out) hb); have n1_ := Aside0.mk (Kd.R_below (Qro HO646.out) hb); have n2_ := Aside0.mk (Kd.R_below (Qro HO650.out) hb); have n3_ := Aside0.mk (Kd.R_below (Qro HO654.out) hb); have n4_ := Aside0.mk (Kd.R_below (Qro HO658.out) hb); have n5_ := Aside0.mk (Kd.R_below (Qro HO661.out) hb); have n6_ := Aside0.mk (Kd.R_below (Qro HO664.out) hb); have n7_ := Aside0.mk (below_step (Qaw) hb); clear HO643; clear HO646; clear HO650; clear HO654; clear HO658; clear HO661; clear HO664; clear HB; have HO643 := n0_; have HO646 := n1_; have HO650 := n2_; have HO654 := n3_; have HO658 := n4_; have HO661 := n5_; have HO664 := n6_; have HB := n7_; clear n0_ n1_ n2_ n3_ n4_ n5_ n6_ n7_; (try clear hb); (try clear hb2); (try clear hk); (try clear hi)) | ((with_reducible refine gate_callee (f := 18) rfl ?_); refine goesL_ (some 123) rfl rfl Tryd.func18 (by kernel_rfl) rfl #[.slice A0 l0.length c0] rfl (Qls) ?_; (with_reducible refine (lampblacklaw03_Few.calls _ _ l0 t667 _ ?side1 ?side2 A42.out).mono ?_); (case side1 => exact Qsc (Kd.C_below HR0.out HB.out)); (case side2 => exact HC0.out); rintro e w84 ⟨v668, rfl, ho0, hb⟩; refine ⟨_, rfl, ?_⟩; have n0_ := Aside0.mk (Kd.R_elder' (Qro HO643.out) (Kd.R_base ho0) hb); have n1_ := Aside0.mk (Kd.R_elder' (Qro HO646.out) (Kd.R_base ho0) hb); have n2_ := Aside0.mk (Kd.R_elder' (Qro HO650.out) (Kd.R_base ho0) hb); have n3_ := Aside0.mk (Kd.R_elder' (Qro HO654.out) (Kd.R_base ho0) hb); have n4_ := Aside0.mk (Kd.R_below (Qro HO658.out) hb); have n5_ := Aside0.mk (Kd.R_elder' (Qro HO661.out) (Kd.R_base ho0) hb); have n6_ := Aside0.mk (Kd.R_elder' (Qro HO664.out) (Kd.R_base ho0) hb); have n7_ := Aside0.mk (Kd.R_lower (Kd.R_new' (Kd.R_new' (Kd.R_new' (Kd.R_new' (Kd.R_new' (Kd.R_new' ho0 (Kd.R_lt (Qro HO643.out))) (Kd.R_lt (Qro HO646.out))) (Kd.R_lt (Qro HO650.out))) (Kd.R_lt (Qro HO654.out))) (Kd.R_lt (Qro HO661.out))) (Kd.R_lt (Qro HO664.out))) (below_size (Qaw))); have n8_ := Aside0.mk (below_step (Qaw) hb); clear HO643; clear HO646; clear HO650; clear HO654; clear HO658; clear HO661; clear HO664; clear HB; have HO643 := n0_; have HO646 := n1_; have HO650 := n2_; have HO654 := n3_; have HO658 := n4_; have HO661 := n5_; have HO664 := n6_; have HO669 := n7_; have HB := n8_; clear n0_ n1_ n2_ n3_ n4_ n5_ n6_ n7_ n8_; (try clear hb); (try clear hb2); (try clear hk); (try clear hi); (try clear ho0); obtain ⟨Ao85, co85, eo85⟩ := Kd.R_slice HO669.out; subst eo85; obtain ⟨Ao86, co86, eo86⟩ := Kd.R_slice HO658.out; subst eo86) | ((with_reducible refine gate_callee (f := 38) rfl ?_); refine goesL_ (some 125) rfl rfl Tryd.func38 (by kernel_rfl) rfl #[.slice Ao85 t667.length co85, .slice Ao86 t655.length co86] rfl (Qls) ?_; (with_reducible refine (sweep_Play.calls (hGL := (Qlg)) _ _ t667 _ _ t655 t670 false true t673 _ ?side1 ?side2 ?side3 ?side4 A43.out).mono ?_); (case side1 => exact Qsc (Kd.R_reads' HO669.out).2.2); (case side2 => exact (Kd.R_reads' HO669.out).2.1); (case side3 => exact Qsc (Kd.R_reads' HO658.out).2.2); (case side4 => exact (Kd.R_reads' HO658.out).2.1); rintro e w87 ⟨rfl, hb⟩; refine ⟨_, rfl, ?_⟩; have n0_ := Aside0.mk (Kd.R_below (Qro HO643.out) hb); have n1_ := Aside0.mk (Kd.R_below (Qro HO646.out) hb); have n2_ := Aside0.mk (Kd.R_below (Qro HO650.out) hb); have n3_ := Aside0.mk (Kd.R_below (Qro HO654.out) hb); have n4_ := Aside0.mk (Kd.R_below (Qro HO658.out) hb); have n5_ := Aside0.mk (Kd.R_below (Qro HO661.out) hb); have n6_ := Aside0.mk (Kd.R_below (Qro HO664.out) hb); have n7_ := Aside0.mk (Kd.R_below (Qro HO669.out) hb); have n8_ := Aside0.mk (below_step (Qaw) hb); clear HO643; clear HO646; clear HO650; clear HO654; clear HO658; clear HO661; clear HO664; clear HO669; clear HB; have HO643 := n0_; have HO646 := n1_; have HO650 := n2_; have HO654 := n3_; have HO658 := n4_; have HO661 := n5_; have HO664 := n6_; have HO669 := n7_; have HB := n8_; clear n0_ n1_ n2_ n3_ n4_ n5_ n6_ n7_ n8_; (try clear hb); (try clear hb2); (try clear hk); (try clear hi)) | (go_at_call 20; (with_reducible refine (lampblacklaw03_awake.calls (hGL := (Qlg)) kj11  t674 _ A69.out).mono ?_); rintro e w88 ⟨rfl, hb⟩; have n0_ := Aside0.mk (Kd.R_below (Qro HO643.out) hb); have n1_ := Aside0.mk (Kd.R_below (Qro HO646.out) hb); have n2_ := Aside0.mk (Kd.R_below (Qro HO650.out) hb); have n3_ := Aside0.mk (Kd.R_below (Qro HO654.out) hb); have n4_ := Aside0.mk (Kd.R_below (Qro HO658.out) hb); have n5_ := Aside0.mk (Kd.R_below (Qro HO661.out) hb); have n6_ := Aside0.mk (Kd.R_below (Qro HO664.out) hb); have n7_ := Aside0.mk (Kd.R_below (Qro HO669.out) hb); have n8_ := Aside0.mk (below_step (Qaw) hb); clear HO643; clear HO646; clear HO650; clear HO654; clear HO658; clear HO661; clear HO664; clear HO669; clear HB; have HO643 := n0_; have HO646 := n1_; have HO650 := n2_; have HO654 := n3_; have HO658 := n4_; have HO661 := n5_; have HO664 := n6_; have HO669 := n7_; have HB := n8_; clear n0_ n1_ n2_ n3_ n4_ n5_ n6_ n7_ n8_; (try clear hb); (try clear hb2); (try clear hk); (try clear hi)))
             go_ret
             exact ⟨by first | rfl | (simp [errW_none, errW_some] <;> rfl) | (simp [*, errW_none, errW_some] <;> rfl), by repeat (first | (with_reducible first | exact HB.out | apply below_alloc | apply pw_below_drewN | apply below_drew1) | exact HB.out)⟩
            ·rw [if_neg c68] at H
             have c68b0 : decide (t617 ≤ t665) = false := decide_eq_false c68
             clear c68
             obtain rfl := Option.some.inj H
             go_wp2_with (first | ((with_reducible refine gate_callee (f := 18) rfl ?_); refine goesL_ (some 93) rfl rfl Tryd.func18 (by kernel_rfl) rfl #[.slice A0 l0.length c0] rfl (Qls) ?_; (with_reducible refine (lampblacklaw03_Few.calls _ _ l0 t641 _ ?side1 ?side2 A33.out).mono ?_); (case side1 => exact Qsc (Kd.C_below HR0.out HB.out)); (case side2 => exact HC0.out); rintro e w89 ⟨v642, rfl, ho0, hb⟩; refine ⟨_, rfl, ?_⟩; have n0_ := Aside0.mk (Kd.R_lower ho0 (below_size (Qaw))); have n1_ := Aside0.mk (below_step (Qaw) hb); clear HB; have HO643 := n0_; have HB := n1_; clear n0_ n1_; (try clear hb); (try clear hb2); (try clear hk); (try clear hi); (try clear ho0)) | ((with_reducible refine gate_callee (f := 27) rfl ?_); refine goesL_ (some 95) rfl rfl Tryd.func27 (by kernel_rfl) rfl #[.slice A1 l1.length c1] rfl (Qls) ?_; (with_reducible refine (lampblacklaw03_list.calls _ _ l1 t644 _ ?side1 ?side2 A34.out).mono ?_); (case side1 => exact Qsc (Kd.C_below HR1.out HB.out)); (case side2 => exact HC1.out); rintro e w90 ⟨v645, rfl, ho0, hb⟩; refine ⟨_, rfl, ?_⟩; have n0_ := Aside0.mk (Kd.R_elder' (Qro HO643.out) (Kd.R_base ho0) hb); have n1_ := Aside0.mk (Kd.R_lower (Kd.R_new' ho0 (Kd.R_lt (Qro HO643.out))) (below_size (Qaw))); have n2_ := Aside0.mk (below_step (Qaw) hb); clear HO643; clear HB; have HO643 := n0_; have HO646 := n1_; have HB := n2_; clear n0_ n1_ n2_; (try clear hb); (try clear hb2); (try clear hk); (try clear hi); (try clear ho0); obtain ⟨Ao91, co91, eo91⟩ := Kd.R_slice HO643.out; subst eo91; obtain ⟨Ao92, co92, eo92⟩ := Kd.R_slice HO646.out; subst eo92) | ((with_reducible refine gate_callee (f := 32) rfl ?_); refine goesL_ (some 96) rfl rfl Tryd.func32 (by kernel_rfl) rfl #[.slice Ao91 t641.length co91, .slice Ao92 t644.length co92] rfl (Qls) ?_; (with_reducible refine (sweep_Bags.calls (hGL := (Qlg)) kj11 _ _ t641 _ _ t644 t647 t648 _ ?side1 ?side2 ?side3 ?side4 A35.out).mono ?_); (case side1 => exact Qsc (Kd.R_reads' HO643.out).2.2); (case side2 => exact (Kd.R_reads' HO643.out).2.1); (case side3 => exact Qsc (Kd.R_reads' HO646.out).2.2); (case side4 => exact (Kd.R_reads' HO646.out).2.1); rintro e w93 ⟨v649, rfl, ho0, hb⟩; refine ⟨_, rfl, ?_⟩; have n0_ := Aside0.mk (Kd.R_elder' (Qro HO643.out) (Kd.R_base ho0) hb); have n1_ := Aside0.mk (Kd.R_elder' (Qro HO646.out) (Kd.R_base ho0) hb); have n2_ := Aside0.mk (Kd.R_lower (Kd.R_new' (Kd.R_new' ho0 (Kd.R_lt (Qro HO643.out))) (Kd.R_lt (Qro HO646.out))) (below_size (Qaw))); have n3_ := Aside0.mk (below_step (Qaw) hb); clear HO643; clear HO646; clear HB; have HO643 := n0_; have HO646 := n1_; have HO650 := n2_; have HB := n3_; clear n0_ n1_ n2_ n3_; (try clear hb); (try clear hb2); (try clear hk); (try clear hi); (try clear ho0)) | ((with_reducible refine gate_callee (f := 18) rfl ?_); refine goesL_ (some 108) rfl rfl Tryd.func18 (by kernel_rfl) rfl #[.slice A0 l0.length c0] rfl (Qls) ?_; (with_reducible refine (lampblacklaw03_Few.calls _ _ l0 t652 _ ?side1 ?side2 A37.out).mono ?_); (case side1 => exact Qsc (Kd.C_below HR0.out HB.out)); (case side2 => exact HC0.out); rintro e w94 ⟨v653, rfl, ho0, hb⟩; refine ⟨_, rfl, ?_⟩; have n0_ := Aside0.mk (Kd.R_elder' (Qro HO643.out) (Kd.R_base ho0) hb); have n1_ := Aside0.mk (Kd.R_elder' (Qro HO646.out) (Kd.R_base ho0) hb); have n2_ := Aside0.mk (Kd.R_elder' (Qro HO650.out) (Kd.R_base ho0) hb); have n3_ := Aside0.mk (Kd.R_lower (Kd.R_new' (Kd.R_new' (Kd.R_new' ho0 (Kd.R_lt (Qro HO643.out))) (Kd.R_lt (Qro HO646.out))) (Kd.R_lt (Qro HO650.out))) (below_size (Qaw))); have n4_ := Aside0.mk (below_step (Qaw) hb); clear HO643; clear HO646; clear HO650; clear HB; have HO643 := n0_; have HO646 := n1_; have HO650 := n2_; have HO654 := n3_; have HB := n4_; clear n0_ n1_ n2_ n3_ n4_; (try clear hb); (try clear hb2); (try clear hk); (try clear hi); (try clear ho0); obtain ⟨Ao95, co95, eo95⟩ := Kd.R_slice HO654.out; subst eo95; obtain ⟨Ao96, co96, eo96⟩ := Kd.R_slice HO650.out; subst eo96) | ((with_reducible refine gate_callee (f := 41) rfl ?_); refine goesL_ (some 110) rfl rfl Tryd.func41 (by kernel_rfl) rfl #[.slice Ao95 t652.length co95, .slice Ao96 t647.length co96] rfl (Qls) ?_; (with_reducible refine (sweep_Follow.calls (hGL := (Qlg)) kj11 _ _ t652 _ _ t647 t655 t656 _ ?side1 ?side2 ?side3 ?side4 A38.out).mono ?_); (case side1 => exact Qsc (Kd.R_reads' HO654.out).2.2); (case side2 => exact (Kd.R_reads' HO654.out).2.1); (case side3 => exact Qsc (Kd.R_reads' HO650.out).2.2); (case side4 => exact (Kd.R_reads' HO650.out).2.1); rintro e w97 ⟨v657, rfl, ho0, hb⟩; refine ⟨_, rfl, ?_⟩; have n0_ := Aside0.mk (Kd.R_below (Qro HO643.out) hb); have n1_ := Aside0.mk (Kd.R_below (Qro HO646.out) hb); have n2_ := Aside0.mk (Kd.R_below (Qro HO650.out) hb); have n3_ := Aside0.mk (Kd.R_below (Qro HO654.out) hb); have n4_ := Aside0.mk (Kd.R_lower ho0 (below_size (Qaw))); have n5_ := Aside0.mk (below_step (Qaw) hb); clear HO643; clear HO646; clear HO650; clear HO654; clear HB; have HO643 := n0_; have HO646 := n1_; have HO650 := n2_; have HO654 := n3_; have HO658 := n4_; have HB := n5_; clear n0_ n1_ n2_ n3_ n4_ n5_; (try clear hb); (try clear hb2); (try clear hk); (try clear hi); (try clear ho0)) | ((with_reducible refine gate_callee (f := 18) rfl ?_); refine goesL_ (some 115) rfl rfl Tryd.func18 (by kernel_rfl) rfl #[.slice A0 l0.length c0] rfl (Qls) ?_; (with_reducible refine (lampblacklaw03_Few.calls _ _ l0 t659 _ ?side1 ?side2 A39.out).mono ?_); (case side1 => exact Qsc (Kd.C_below HR0.out HB.out)); (case side2 => exact HC0.out); rintro e w98 ⟨v660, rfl, ho0, hb⟩; refine ⟨_, rfl, ?_⟩; have n0_ := Aside0.mk (Kd.R_elder' (Qro HO643.out) (Kd.R_base ho0) hb); have n1_ := Aside0.mk (Kd.R_elder' (Qro HO646.out) (Kd.R_base ho0) hb); have n2_ := Aside0.mk (Kd.R_elder' (Qro HO650.out) (Kd.R_base ho0) hb); have n3_ := Aside0.mk (Kd.R_elder' (Qro HO654.out) (Kd.R_base ho0) hb); have n4_ := Aside0.mk (Kd.R_below (Qro HO658.out) hb); have n5_ := Aside0.mk (Kd.R_lower (Kd.R_new' (Kd.R_new' (Kd.R_new' (Kd.R_new' ho0 (Kd.R_lt (Qro HO643.out))) (Kd.R_lt (Qro HO646.out))) (Kd.R_lt (Qro HO650.out))) (Kd.R_lt (Qro HO654.out))) (below_size (Qaw))); have n6_ := Aside0.mk (below_step (Qaw) hb); clear HO643; clear HO646; clear HO650; clear HO654; clear HO658; clear HB; have HO643 := n0_; have HO646 := n1_; have HO650 := n2_; have HO654 := n3_; have HO658 := n4_; have HO661 := n5_; have HB := n6_; clear n0_ n1_ n2_ n3_ n4_ n5_ n6_; (try clear hb); (try clear hb2); (try clear hk); (try clear hi); (try clear ho0)) | ((with_reducible refine gate_callee (f := 27) rfl ?_); refine goesL_ (some 117) rfl rfl Tryd.func27 (by kernel_rfl) rfl #[.slice A1 l1.length c1] rfl (Qls) ?_; (with_reducible refine (lampblacklaw03_list.calls _ _ l1 t662 _ ?side1 ?side2 A40.out).mono ?_); (case side1 => exact Qsc (Kd.C_below HR1.out HB.out)); (case side2 => exact HC1.out); rintro e w99 ⟨v663, rfl, ho0, hb⟩; refine ⟨_, rfl, ?_⟩; have n0_ := Aside0.mk (Kd.R_elder' (Qro HO643.out) (Kd.R_base ho0) hb); have n1_ := Aside0.mk (Kd.R_elder' (Qro HO646.out) (Kd.R_base ho0) hb); have n2_ := Aside0.mk (Kd.R_elder' (Qro HO650.out) (Kd.R_base ho0) hb); have n3_ := Aside0.mk (Kd.R_elder' (Qro HO654.out) (Kd.R_base ho0) hb); have n4_ := Aside0.mk (Kd.R_below (Qro HO658.out) hb); have n5_ := Aside0.mk (Kd.R_elder' (Qro HO661.out) (Kd.R_base ho0) hb); have n6_ := Aside0.mk (Kd.R_lower (Kd.R_new' (Kd.R_new' (Kd.R_new' (Kd.R_new' (Kd.R_new' ho0 (Kd.R_lt (Qro HO643.out))) (Kd.R_lt (Qro HO646.out))) (Kd.R_lt (Qro HO650.out))) (Kd.R_lt (Qro HO654.out))) (Kd.R_lt (Qro HO661.out))) (below_size (Qaw))); have n7_ := Aside0.mk (below_step (Qaw) hb); clear HO643; clear HO646; clear HO650; clear HO654; clear HO658; clear HO661; clear HB; have HO643 := n0_; have HO646 := n1_; have HO650 := n2_; have HO654 := n3_; have HO658 := n4_; have HO661 := n5_; have HO664 := n6_; have HB := n7_; clear n0_ n1_ n2_ n3_ n4_ n5_ n6_ n7_; (try clear hb); (try clear hb2); (try clear hk); (try clear hi); (try clear ho0); obtain ⟨Ao100, co100, eo100⟩ := Kd.R_slice HO661.out; subst eo100; obtain ⟨Ao101, co101, eo101⟩ := Kd.R_slice HO664.out; subst eo101) | ((with_reducible refine gate_callee (f := 26) rfl ?_); refine goesL_ (some 118) rfl rfl Tryd.func26 (by kernel_rfl) rfl #[.slice Ao100 t659.length co100, .slice Ao101 t662.length co101] rfl (Qls) ?_; (with_reducible refine (sweep_Breadth.calls (hGL := (Qlg)) kj11 _ _ t659 _ _ t662 t665 t666 _ ?side1 ?side2 ?side3 ?side4 A41.out).mono ?_); (case side1 => exact Qsc (Kd.R_reads' HO661.out).2.2); (case side2 => exact (Kd.R_reads' HO661.out).2.1); (case side3 => exact Qsc (Kd.R_reads' HO664.out).2.2); (case side4 => exact (Kd.R_reads' HO664.out).2.1); rintro e w102 ⟨rfl, hb⟩; refine ⟨_, rfl, ?_⟩; have n0_ := Aside0.mk (Kd.R_below (Qro HO643.out) hb); have n1_ := Aside0.mk (Kd.R_below (Qro HO646.out) hb); have n2_ := Aside0.mk (Kd.R_below (Qro HO650.out) hb); have n3_ := Aside0.mk (Kd.R_below (Qro HO654.out) hb); have n4_ := Aside0.mk (Kd.R_below (Qro HO658.out) hb); have n5_ := Aside0.mk (Kd.R_below (Qro HO661.out) hb); have n6_ := Aside0.mk (Kd.R_below (Qro HO664.out) hb); have n7_ := Aside0.mk (below_step (Qaw) hb); clear HO643; clear HO646; clear HO650; clear HO654; clear HO658; clear HO661; clear HO664; clear HB; have HO643 := n0_; have HO646 := n1_; have HO650 := n2_; have HO654 := n3_; have HO658 := n4_; have HO661 := n5_; have HO664 := n6_; have HB := n7_; clear n0_ n1_ n2_ n3_ n4_ n5_ n6_ n7_; (try clear hb); (try clear hb2); (try clear hk); (try clear hi)) | ((with_reducible refine gate_callee (f := 18) rfl ?_); refine goesL_ (some 123) rfl rfl Tryd.func18 (by kernel_rfl) rfl #[.slice A0 l0.length c0] rfl (Qls) ?_; (with_reducible refine (lampblacklaw03_Few.calls _ _ l0 t667 _ ?side1 ?side2 A42.out).mono ?_); (case side1 => exact Qsc (Kd.C_below HR0.out HB.out)); (case side2 => exact HC0.out); rintro e w103 ⟨v668, rfl, ho0, hb⟩; refine ⟨_, rfl, ?_⟩; have n0_ := Aside0.mk (Kd.R_elder' (Qro HO643.out) (Kd.R_base ho0) hb); have n1_ := Aside0.mk (Kd.R_elder' (Qro HO646.out) (Kd.R_base ho0) hb); have n2_ := Aside0.mk (Kd.R_elder' (Qro HO650.out) (Kd.R_base ho0) hb); have n3_ := Aside0.mk (Kd.R_elder' (Qro HO654.out) (Kd.R_base ho0) hb); have n4_ := Aside0.mk (Kd.R_below (Qro HO658.out) hb); have n5_ := Aside0.mk (Kd.R_elder' (Qro HO661.out) (Kd.R_base ho0) hb); have n6_ := Aside0.mk (Kd.R_elder' (Qro HO664.out) (Kd.R_base ho0) hb); have n7_ := Aside0.mk (Kd.R_lower (Kd.R_new' (Kd.R_new' (Kd.R_new' (Kd.R_new' (Kd.R_new' (Kd.R_new' ho0 (Kd.R_lt (Qro HO643.out))) (Kd.R_lt (Qro HO646.out))) (Kd.R_lt (Qro HO650.out))) (Kd.R_lt (Qro HO654.out))) (Kd.R_lt (Qro HO661.out))) (Kd.R_lt (Qro HO664.out))) (below_size (Qaw))); have n8_ := Aside0.mk (below_step (Qaw) hb); clear HO643; clear HO646; clear HO650; clear HO654; clear HO658; clear HO661; clear HO664; clear HB; have HO643 := n0_; have HO646 := n1_; have HO650 := n2_; have HO654 := n3_; have HO658 := n4_; have HO661 := n5_; have HO664 := n6_; have HO669 := n7_; have HB := n8_; clear n0_ n1_ n2_ n3_ n4_ n5_ n6_ n7_ n8_; (try clear hb); (try clear hb2); (try clear hk); (try clear hi); (try clear ho0); obtain ⟨Ao104, co104, eo104⟩ := Kd.R_slice HO669.out; subst eo104; obtain ⟨Ao105, co105, eo105⟩ := Kd.R_slice HO658.out; subst eo105) | ((with_reducible refine gate_callee (f := 38) rfl ?_); refine goesL_ (some 125) rfl rfl Tryd.func38 (by kernel_rfl) rfl #[.slice Ao104 t667.length co104, .slice Ao105 t655.length co105] rfl (Qls) ?_; (with_reducible refine (sweep_Play.calls (hGL := (Qlg)) _ _ t667 _ _ t655 t670 false true t673 _ ?side1 ?side2 ?side3 ?side4 A43.out).mono ?_); (case side1 => exact Qsc (Kd.R_reads' HO669.out).2.2); (case side2 => exact (Kd.R_reads' HO669.out).2.1); (case side3 => exact Qsc (Kd.R_reads' HO658.out).2.2); (case side4 => exact (Kd.R_reads' HO658.out).2.1); rintro e w106 ⟨rfl, hb⟩; refine ⟨_, rfl, ?_⟩; have n0_ := Aside0.mk (Kd.R_below (Qro HO643.out) hb); have n1_ := Aside0.mk (Kd.R_below (Qro HO646.out) hb); have n2_ := Aside0.mk (Kd.R_below (Qro HO650.out) hb); have n3_ := Aside0.mk (Kd.R_below (Qro HO654.out) hb); have n4_ := Aside0.mk (Kd.R_below (Qro HO658.out) hb); have n5_ := Aside0.mk (Kd.R_below (Qro HO661.out) hb); have n6_ := Aside0.mk (Kd.R_below (Qro HO664.out) hb); have n7_ := Aside0.mk (Kd.R_below (Qro HO669.out) hb); have n8_ := Aside0.mk (below_step (Qaw) hb); clear HO643; clear HO646; clear HO650; clear HO654; clear HO658; clear HO661; clear HO664; clear HO669; clear HB; have HO643 := n0_; have HO646 := n1_; have HO650 := n2_; have HO654 := n3_; have HO658 := n4_; have HO661 := n5_; have HO664 := n6_; have HO669 := n7_; have HB := n8_; clear n0_ n1_ n2_ n3_ n4_ n5_ n6_ n7_ n8_; (try clear hb); (try clear hb2); (try clear hk); (try clear hi)))
             go_ret
             exact ⟨by first | rfl | (simp [errW_none, errW_some] <;> rfl) | (simp [*, errW_none, errW_some] <;> rfl), by repeat (first | (with_reducible first | exact HB.out | apply below_alloc | apply pw_below_drewN | apply below_drew1) | exact HB.out)⟩
           ·rw [if_neg c67] at H
            have c67b0 : (t670 == (wrap64 (t665 + 1))) = false := beq_eq_false_iff_ne.mpr c67
            have c67b1 : (t670 != (wrap64 (t665 + 1))) = true := bne_iff_ne.mpr c67
            obtain rfl := Option.some.inj H
            go_wp2_with (first | ((with_reducible refine gate_callee (f := 18) rfl ?_); refine goesL_ (some 93) rfl rfl Tryd.func18 (by kernel_rfl) rfl #[.slice A0 l0.length c0] rfl (Qls) ?_; (with_reducible refine (lampblacklaw03_Few.calls _ _ l0 t641 _ ?side1 ?side2 A33.out).mono ?_); (case side1 => exact Qsc (Kd.C_below HR0.out HB.out)); (case side2 => exact HC0.out); rintro e w107 ⟨v642, rfl, ho0, hb⟩; refine ⟨_, rfl, ?_⟩; have n0_ := Aside0.mk (Kd.R_lower ho0 (below_size (Qaw))); have n1_ := Aside0.mk (below_step (Qaw) hb); clear HB; have HO643 := n0_; have HB := n1_; clear n0_ n1_; (try clear hb); (try clear hb2); (try clear hk); (try clear hi); (try clear ho0)) | ((with_reducible refine gate_callee (f := 27) rfl ?_); refine goesL_ (some 95) rfl rfl Tryd.func27 (by kernel_rfl) rfl #[.slice A1 l1.length c1] rfl (Qls) ?_; (with_reducible refine (lampblacklaw03_list.calls _ _ l1 t644 _ ?side1 ?side2 A34.out).mono ?_); (case side1 => exact Qsc (Kd.C_below HR1.out HB.out)); (case side2 => exact HC1.out); rintro e w108 ⟨v645, rfl, ho0, hb⟩; refine ⟨_, rfl, ?_⟩; have n0_ := Aside0.mk (Kd.R_elder' (Qro HO643.out) (Kd.R_base ho0) hb); have n1_ := Aside0.mk (Kd.R_lower (Kd.R_new' ho0 (Kd.R_lt (Qro HO643.out))) (below_size (Qaw))); have n2_ := Aside0.mk (below_step (Qaw) hb); clear HO643; clear HB; have HO643 := n0_; have HO646 := n1_; have HB := n2_; clear n0_ n1_ n2_; (try clear hb); (try clear hb2); (try clear hk); (try clear hi); (try clear ho0); obtain ⟨Ao109, co109, eo109⟩ := Kd.R_slice HO643.out; subst eo109; obtain ⟨Ao110, co110, eo110⟩ := Kd.R_slice HO646.out; subst eo110) | ((with_reducible refine gate_callee (f := 32) rfl ?_); refine goesL_ (some 96) rfl rfl Tryd.func32 (by kernel_rfl) rfl #[.slice Ao109 t641.length co109, .slice Ao110 t644.length co110] rfl (Qls) ?_; (with_reducible refine (sweep_Bags.calls (hGL := (Qlg)) kj11 _ _ t641 _ _ t644 t647 t648 _ ?side1 ?side2 ?side3 ?side4 A35.out).mono ?_); (case side1 => exact Qsc (Kd.R_reads' HO643.out).2.2); (case side2 => exact (Kd.R_reads' HO643.out).2.1); (case side3 => exact Qsc (Kd.R_reads' HO646.out).2.2); (case side4 => exact (Kd.R_reads' HO646.out).2.1); rintro e w111 ⟨v649, rfl, ho0, hb⟩; refine ⟨_, rfl, ?_⟩; have n0_ := Aside0.mk (Kd.R_elder' (Qro HO643.out) (Kd.R_base ho0) hb); have n1_ := Aside0.mk (Kd.R_elder' (Qro HO646.out) (Kd.R_base ho0) hb); have n2_ := Aside0.mk (Kd.R_lower (Kd.R_new' (Kd.R_new' ho0 (Kd.R_lt (Qro HO643.out))) (Kd.R_lt (Qro HO646.out))) (below_size (Qaw))); have n3_ := Aside0.mk (below_step (Qaw) hb); clear HO643; clear HO646; clear HB; have HO643 := n0_; have HO646 := n1_; have HO650 := n2_; have HB := n3_; clear n0_ n1_ n2_ n3_; (try clear hb); (try clear hb2); (try clear hk); (try clear hi); (try clear ho0)) | ((with_reducible refine gate_callee (f := 18) rfl ?_); refine goesL_ (some 108) rfl rfl Tryd.func18 (by kernel_rfl) rfl #[.slice A0 l0.length c0] rfl (Qls) ?_; (with_reducible refine (lampblacklaw03_Few.calls _ _ l0 t652 _ ?side1 ?side2 A37.out).mono ?_); (case side1 => exact Qsc (Kd.C_below HR0.out HB.out)); (case side2 => exact HC0.out); rintro e w112 ⟨v653, rfl, ho0, hb⟩; refine ⟨_, rfl, ?_⟩; have n0_ := Aside0.mk (Kd.R_elder' (Qro HO643.out) (Kd.R_base ho0) hb); have n1_ := Aside0.mk (Kd.R_elder' (Qro HO646.out) (Kd.R_base ho0) hb); have n2_ := Aside0.mk (Kd.R_elder' (Qro HO650.out) (Kd.R_base ho0) hb); have n3_ := Aside0.mk (Kd.R_lower (Kd.R_new' (Kd.R_new' (Kd.R_new' ho0 (Kd.R_lt (Qro HO643.out))) (Kd.R_lt (Qro HO646.out))) (Kd.R_lt (Qro HO650.out))) (below_size (Qaw))); have n4_ := Aside0.mk (below_step (Qaw) hb); clear HO643; clear HO646; clear HO650; clear HB; have HO643 := n0_; have HO646 := n1_; have HO650 := n2_; have HO654 := n3_; have HB := n4_; clear n0_ n1_ n2_ n3_ n4_; (try clear hb); (try clear hb2); (try clear hk); (try clear hi); (try clear ho0); obtain ⟨Ao113, co113, eo113⟩ := Kd.R_slice HO654.out; subst eo113; obtain ⟨Ao114, co114, eo114⟩ := Kd.R_slice HO650.out; subst eo114) | ((with_reducible refine gate_callee (f := 41) rfl ?_); refine goesL_ (some 110) rfl rfl Tryd.func41 (by kernel_rfl) rfl #[.slice Ao113 t652.length co113, .slice Ao114 t647.length co114] rfl (Qls) ?_; (with_reducible refine (sweep_Follow.calls (hGL := (Qlg)) kj11 _ _ t652 _ _ t647 t655 t656 _ ?side1 ?side2 ?side3 ?side4 A38.out).mono ?_); (case side1 => exact Qsc (Kd.R_reads' HO654.out).2.2); (case side2 => exact (Kd.R_reads' HO654.out).2.1); (case side3 => exact Qsc (Kd.R_reads' HO650.out).2.2); (case side4 => exact (Kd.R_reads' HO650.out).2.1); rintro e w115 ⟨v657, rfl, ho0, hb⟩; refine ⟨_, rfl, ?_⟩; have n0_ := Aside0.mk (Kd.R_below (Qro HO643.out) hb); have n1_ := Aside0.mk (Kd.R_below (Qro HO646.out) hb); have n2_ := Aside0.mk (Kd.R_below (Qro HO650.out) hb); have n3_ := Aside0.mk (Kd.R_below (Qro HO654.out) hb); have n4_ := Aside0.mk (Kd.R_lower ho0 (below_size (Qaw))); have n5_ := Aside0.mk (below_step (Qaw) hb); clear HO643; clear HO646; clear HO650; clear HO654; clear HB; have HO643 := n0_; have HO646 := n1_; have HO650 := n2_; have HO654 := n3_; have HO658 := n4_; have HB := n5_; clear n0_ n1_ n2_ n3_ n4_ n5_; (try clear hb); (try clear hb2); (try clear hk); (try clear hi); (try clear ho0)) | ((with_reducible refine gate_callee (f := 18) rfl ?_); refine goesL_ (some 115) rfl rfl Tryd.func18 (by kernel_rfl) rfl #[.slice A0 l0.length c0] rfl (Qls) ?_; (with_reducible refine (lampblacklaw03_Few.calls _ _ l0 t659 _ ?side1 ?side2 A39.out).mono ?_); (case side1 => exact Qsc (Kd.C_below HR0.out HB.out)); (case side2 => exact HC0.out); rintro e w116 ⟨v660, rfl, ho0, hb⟩; refine ⟨_, rfl, ?_⟩; have n0_ := Aside0.mk (Kd.R_elder' (Qro HO643.out) (Kd.R_base ho0) hb); have n1_ := Aside0.mk (Kd.R_elder' (Qro HO646.out) (Kd.R_base ho0) hb); have n2_ := Aside0.mk (Kd.R_elder' (Qro HO650.out) (Kd.R_base ho0) hb); have n3_ := Aside0.mk (Kd.R_elder' (Qro HO654.out) (Kd.R_base ho0) hb); have n4_ := Aside0.mk (Kd.R_below (Qro HO658.out) hb); have n5_ := Aside0.mk (Kd.R_lower (Kd.R_new' (Kd.R_new' (Kd.R_new' (Kd.R_new' ho0 (Kd.R_lt (Qro HO643.out))) (Kd.R_lt (Qro HO646.out))) (Kd.R_lt (Qro HO650.out))) (Kd.R_lt (Qro HO654.out))) (below_size (Qaw))); have n6_ := Aside0.mk (below_step (Qaw) hb); clear HO643; clear HO646; clear HO650; clear HO654; clear HO658; clear HB; have HO643 := n0_; have HO646 := n1_; have HO650 := n2_; have HO654 := n3_; have HO658 := n4_; have HO661 := n5_; have HB := n6_; clear n0_ n1_ n2_ n3_ n4_ n5_ n6_; (try clear hb); (try clear hb2); (try clear hk); (try clear hi); (try clear ho0)) | ((with_reducible refine gate_callee (f := 27) rfl ?_); refine goesL_ (some 117) rfl rfl Tryd.func27 (by kernel_rfl) rfl #[.slice A1 l1.length c1] rfl (Qls) ?_; (with_reducible refine (lampblacklaw03_list.calls _ _ l1 t662 _ ?side1 ?side2 A40.out).mono ?_); (case side1 => exact Qsc (Kd.C_below HR1.out HB.out)); (case side2 => exact HC1.out); rintro e w117 ⟨v663, rfl, ho0, hb⟩; refine ⟨_, rfl, ?_⟩; have n0_ := Aside0.mk (Kd.R_elder' (Qro HO643.out) (Kd.R_base ho0) hb); have n1_ := Aside0.mk (Kd.R_elder' (Qro HO646.out) (Kd.R_base ho0) hb); have n2_ := Aside0.mk (Kd.R_elder' (Qro HO650.out) (Kd.R_base ho0) hb); have n3_ := Aside0.mk (Kd.R_elder' (Qro HO654.out) (Kd.R_base ho0) hb); have n4_ := Aside0.mk (Kd.R_below (Qro HO658.out) hb); have n5_ := Aside0.mk (Kd.R_elder' (Qro HO661.out) (Kd.R_base ho0) hb); have n6_ := Aside0.mk (Kd.R_lower (Kd.R_new' (Kd.R_new' (Kd.R_new' (Kd.R_new' (Kd.R_new' ho0 (Kd.R_lt (Qro HO643.out))) (Kd.R_lt (Qro HO646.out))) (Kd.R_lt (Qro HO650.out))) (Kd.R_lt (Qro HO654.out))) (Kd.R_lt (Qro HO661.out))) (below_size (Qaw))); have n7_ := Aside0.mk (below_step (Qaw) hb); clear HO643; clear HO646; clear HO650; clear HO654; clear HO658; clear HO661; clear HB; have HO643 := n0_; have HO646 := n1_; have HO650 := n2_; have HO654 := n3_; have HO658 := n4_; have HO661 := n5_; have HO664 := n6_; have HB := n7_; clear n0_ n1_ n2_ n3_ n4_ n5_ n6_ n7_; (try clear hb); (try clear hb2); (try clear hk); (try clear hi); (try clear ho0); obtain ⟨Ao118, co118, eo118⟩ := Kd.R_slice HO661.out; subst eo118; obtain ⟨Ao119, co119, eo119⟩ := Kd.R_slice HO664.out; subst eo119) | ((with_reducible refine gate_callee (f := 26) rfl ?_); refine goesL_ (some 118) rfl rfl Tryd.func26 (by kernel_rfl) rfl #[.slice Ao118 t659.length co118, .slice Ao119 t662.length co119] rfl (Qls) ?_; (with_reducible refine (sweep_Breadth.calls (hGL := (Qlg)) kj11 _ _ t659 _ _ t662 t665 t666 _ ?side1 ?side2 ?side3 ?side4 A41.out).mono ?_); (case side1 => exact Qsc (Kd.R_reads' HO661.out).2.2); (case side2 => exact (Kd.R_reads' HO661.out).2.1); (case side3 => exact Qsc (Kd.R_reads' HO664.out).2.2); (case side4 => exact (Kd.R_reads' HO664.out).2.1); rintro e w120 ⟨rfl, hb⟩; refine ⟨_, rfl, ?_⟩; have n0_ := Aside0.mk (Kd.R_below (Qro HO643.out) hb); have n1_ := Aside0.mk (Kd.R_below (Qro HO646.out) hb); have n2_ := Aside0.mk (Kd.R_below (Qro HO650.out) hb); have n3_ := Aside0.mk (Kd.R_below (Qro HO654.out) hb); have n4_ := Aside0.mk (Kd.R_below (Qro HO658.out) hb); have n5_ := Aside0.mk (Kd.R_below (Qro HO661.out) hb); have n6_ := Aside0.mk (Kd.R_below (Qro HO664.out) hb); have n7_ := Aside0.mk (below_step (Qaw) hb); clear HO643; clear HO646; clear HO650; clear HO654; clear HO658; clear HO661; clear HO664; clear HB; have HO643 := n0_; have HO646 := n1_; have HO650 := n2_; have HO654 := n3_; have HO658 := n4_; have HO661 := n5_; have HO664 := n6_; have HB := n7_; clear n0_ n1_ n2_ n3_ n4_ n5_ n6_ n7_; (try clear hb); (try clear hb2); (try clear hk); (try clear hi)) | ((with_reducible refine gate_callee (f := 18) rfl ?_); refine goesL_ (some 123) rfl rfl Tryd.func18 (by kernel_rfl) rfl #[.slice A0 l0.length c0] rfl (Qls) ?_; (with_reducible refine (lampblacklaw03_Few.calls _ _ l0 t667 _ ?side1 ?side2 A42.out).mono ?_); (case side1 => exact Qsc (Kd.C_below HR0.out HB.out)); (case side2 => exact HC0.out); rintro e w121 ⟨v668, rfl, ho0, hb⟩; refine ⟨_, rfl, ?_⟩; have n0_ := Aside0.mk (Kd.R_elder' (Qro HO643.out) (Kd.R_base ho0) hb); have n1_ := Aside0.mk (Kd.R_elder' (Qro HO646.out) (Kd.R_base ho0) hb); have n2_ := Aside0.mk (Kd.R_elder' (Qro HO650.out) (Kd.R_base ho0) hb); have n3_ := Aside0.mk (Kd.R_elder' (Qro HO654.out) (Kd.R_base ho0) hb); have n4_ := Aside0.mk (Kd.R_below (Qro HO658.out) hb); have n5_ := Aside0.mk (Kd.R_elder' (Qro HO661.out) (Kd.R_base ho0) hb); have n6_ := Aside0.mk (Kd.R_elder' (Qro HO664.out) (Kd.R_base ho0) hb); have n7_ := Aside0.mk (Kd.R_lower (Kd.R_new' (Kd.R_new' (Kd.R_new' (Kd.R_new' (Kd.R_new' (Kd.R_new' ho0 (Kd.R_lt (Qro HO643.out))) (Kd.R_lt (Qro HO646.out))) (Kd.R_lt (Qro HO650.out))) (Kd.R_lt (Qro HO654.out))) (Kd.R_lt (Qro HO661.out))) (Kd.R_lt (Qro HO664.out))) (below_size (Qaw))); have n8_ := Aside0.mk (below_step (Qaw) hb); clear HO643; clear HO646; clear HO650; clear HO654; clear HO658; clear HO661; clear HO664; clear HB; have HO643 := n0_; have HO646 := n1_; have HO650 := n2_; have HO654 := n3_; have HO658 := n4_; have HO661 := n5_; have HO664 := n6_; have HO669 := n7_; have HB := n8_; clear n0_ n1_ n2_ n3_ n4_ n5_ n6_ n7_ n8_; (try clear hb); (try clear hb2); (try clear hk); (try clear hi); (try clear ho0); obtain ⟨Ao122, co122, eo122⟩ := Kd.R_slice HO669.out; subst eo122; obtain ⟨Ao123, co123, eo123⟩ := Kd.R_slice HO658.out; subst eo123) | ((with_reducible refine gate_callee (f := 38) rfl ?_); refine goesL_ (some 125) rfl rfl Tryd.func38 (by kernel_rfl) rfl #[.slice Ao122 t667.length co122, .slice Ao123 t655.length co123] rfl (Qls) ?_; (with_reducible refine (sweep_Play.calls (hGL := (Qlg)) _ _ t667 _ _ t655 t670 false true t673 _ ?side1 ?side2 ?side3 ?side4 A43.out).mono ?_); (case side1 => exact Qsc (Kd.R_reads' HO669.out).2.2); (case side2 => exact (Kd.R_reads' HO669.out).2.1); (case side3 => exact Qsc (Kd.R_reads' HO658.out).2.2); (case side4 => exact (Kd.R_reads' HO658.out).2.1); rintro e w124 ⟨rfl, hb⟩; refine ⟨_, rfl, ?_⟩; have n0_ := Aside0.mk (Kd.R_below (Qro HO643.out) hb); have n1_ := Aside0.mk (Kd.R_below (Qro HO646.out) hb); have n2_ := Aside0.mk (Kd.R_below (Qro HO650.out) hb); have n3_ := Aside0.mk (Kd.R_below (Qro HO654.out) hb); have n4_ := Aside0.mk (Kd.R_below (Qro HO658.out) hb); have n5_ := Aside0.mk (Kd.R_below (Qro HO661.out) hb); have n6_ := Aside0.mk (Kd.R_below (Qro HO664.out) hb); have n7_ := Aside0.mk (Kd.R_below (Qro HO669.out) hb); have n8_ := Aside0.mk (below_step (Qaw) hb); clear HO643; clear HO646; clear HO650; clear HO654; clear HO658; clear HO661; clear HO664; clear HO669; clear HB; have HO643 := n0_; have HO646 := n1_; have HO650 := n2_; have HO654 := n3_; have HO658 := n4_; have HO661 := n5_; have HO664 := n6_; have HO669 := n7_; have HB := n8_; clear n0_ n1_ n2_ n3_ n4_ n5_ n6_ n7_ n8_; (try clear hb); (try clear hb2); (try clear hk); (try clear hi)))
            go_ret
            exact ⟨by first | rfl | (simp [errW_none, errW_some] <;> rfl) | (simp [*, errW_none, errW_some] <;> rfl), by repeat (first | (with_reducible first | exact HB.out | apply below_alloc | apply pw_below_drewN | apply below_drew1) | exact HB.out)⟩
         ·replace c47 := Bool.eq_false_iff.mpr c47
          subst c47
          have H1 : (some false) = some r := by rw [if_neg (show ¬ (false = true) by decide)] at H; exact H
          clear H
          have H := H1
          clear H1
          obtain rfl := Option.some.inj H
          go_wp2_with (first | ((with_reducible refine gate_callee (f := 18) rfl ?_); refine goesL_ (some 93) rfl rfl Tryd.func18 (by kernel_rfl) rfl #[.slice A0 l0.length c0] rfl (Qls) ?_; (with_reducible refine (lampblacklaw03_Few.calls _ _ l0 t641 _ ?side1 ?side2 A33.out).mono ?_); (case side1 => exact Qsc (Kd.C_below HR0.out HB.out)); (case side2 => exact HC0.out); rintro e w125 ⟨v642, rfl, ho0, hb⟩; refine ⟨_, rfl, ?_⟩; have n0_ := Aside0.mk (Kd.R_lower ho0 (below_size (Qaw))); have n1_ := Aside0.mk (below_step (Qaw) hb); clear HB; have HO643 := n0_; have HB := n1_; clear n0_ n1_; (try clear hb); (try clear hb2); (try clear hk); (try clear hi); (try clear ho0)) | ((with_reducible refine gate_callee (f := 27) rfl ?_); refine goesL_ (some 95) rfl rfl Tryd.func27 (by kernel_rfl) rfl #[.slice A1 l1.length c1] rfl (Qls) ?_; (with_reducible refine (lampblacklaw03_list.calls _ _ l1 t644 _ ?side1 ?side2 A34.out).mono ?_); (case side1 => exact Qsc (Kd.C_below HR1.out HB.out)); (case side2 => exact HC1.out); rintro e w126 ⟨v645, rfl, ho0, hb⟩; refine ⟨_, rfl, ?_⟩; have n0_ := Aside0.mk (Kd.R_elder' (Qro HO643.out) (Kd.R_base ho0) hb); have n1_ := Aside0.mk (Kd.R_lower (Kd.R_new' ho0 (Kd.R_lt (Qro HO643.out))) (below_size (Qaw))); have n2_ := Aside0.mk (below_step (Qaw) hb); clear HO643; clear HB; have HO643 := n0_; have HO646 := n1_; have HB := n2_; clear n0_ n1_ n2_; (try clear hb); (try clear hb2); (try clear hk); (try clear hi); (try clear ho0); obtain ⟨Ao127, co127, eo127⟩ := Kd.R_slice HO643.out; subst eo127; obtain ⟨Ao128, co128, eo128⟩ := Kd.R_slice HO646.out; subst eo128) | ((with_reducible refine gate_callee (f := 32) rfl ?_); refine goesL_ (some 96) rfl rfl Tryd.func32 (by kernel_rfl) rfl #[.slice Ao127 t641.length co127, .slice Ao128 t644.length co128] rfl (Qls) ?_; (with_reducible refine (sweep_Bags.calls (hGL := (Qlg)) kj11 _ _ t641 _ _ t644 t647 t648 _ ?side1 ?side2 ?side3 ?side4 A35.out).mono ?_); (case side1 => exact Qsc (Kd.R_reads' HO643.out).2.2); (case side2 => exact (Kd.R_reads' HO643.out).2.1); (case side3 => exact Qsc (Kd.R_reads' HO646.out).2.2); (case side4 => exact (Kd.R_reads' HO646.out).2.1); rintro e w129 ⟨v649, rfl, ho0, hb⟩; refine ⟨_, rfl, ?_⟩; have n0_ := Aside0.mk (Kd.R_elder' (Qro HO643.out) (Kd.R_base ho0) hb); have n1_ := Aside0.mk (Kd.R_elder' (Qro HO646.out) (Kd.R_base ho0) hb); have n2_ := Aside0.mk (Kd.R_lower (Kd.R_new' (Kd.R_new' ho0 (Kd.R_lt (Qro HO643.out))) (Kd.R_lt (Qro HO646.out))) (below_size (Qaw))); have n3_ := Aside0.mk (below_step (Qaw) hb); clear HO643; clear HO646; clear HB; have HO643 := n0_; have HO646 := n1_; have HO650 := n2_; have HB := n3_; clear n0_ n1_ n2_ n3_; (try clear hb); (try clear hb2); (try clear hk); (try clear hi); (try clear ho0)) | ((with_reducible refine gate_callee (f := 18) rfl ?_); refine goesL_ (some 108) rfl rfl Tryd.func18 (by kernel_rfl) rfl #[.slice A0 l0.length c0] rfl (Qls) ?_; (with_reducible refine (lampblacklaw03_Few.calls _ _ l0 t652 _ ?side1 ?side2 A37.out).mono ?_); (case side1 => exact Qsc (Kd.C_below HR0.out HB.out)); (case side2 => exact HC0.out); rintro e w130 ⟨v653, rfl, ho0, hb⟩; refine ⟨_, rfl, ?_⟩; have n0_ := Aside0.mk (Kd.R_elder' (Qro HO643.out) (Kd.R_base ho0) hb); have n1_ := Aside0.mk (Kd.R_elder' (Qro HO646.out) (Kd.R_base ho0) hb); have n2_ := Aside0.mk (Kd.R_elder' (Qro HO650.out) (Kd.R_base ho0) hb); have n3_ := Aside0.mk (Kd.R_lower (Kd.R_new' (Kd.R_new' (Kd.R_new' ho0 (Kd.R_lt (Qro HO643.out))) (Kd.R_lt (Qro HO646.out))) (Kd.R_lt (Qro HO650.out))) (below_size (Qaw))); have n4_ := Aside0.mk (below_step (Qaw) hb); clear HO643; clear HO646; clear HO650; clear HB; have HO643 := n0_; have HO646 := n1_; have HO650 := n2_; have HO654 := n3_; have HB := n4_; clear n0_ n1_ n2_ n3_ n4_; (try clear hb); (try clear hb2); (try clear hk); (try clear hi); (try clear ho0); obtain ⟨Ao131, co131, eo131⟩ := Kd.R_slice HO654.out; subst eo131; obtain ⟨Ao132, co132, eo132⟩ := Kd.R_slice HO650.out; subst eo132) | ((with_reducible refine gate_callee (f := 41) rfl ?_); refine goesL_ (some 110) rfl rfl Tryd.func41 (by kernel_rfl) rfl #[.slice Ao131 t652.length co131, .slice Ao132 t647.length co132] rfl (Qls) ?_; (with_reducible refine (sweep_Follow.calls (hGL := (Qlg)) kj11 _ _ t652 _ _ t647 t655 t656 _ ?side1 ?side2 ?side3 ?side4 A38.out).mono ?_); (case side1 => exact Qsc (Kd.R_reads' HO654.out).2.2); (case side2 => exact (Kd.R_reads' HO654.out).2.1); (case side3 => exact Qsc (Kd.R_reads' HO650.out).2.2); (case side4 => exact (Kd.R_reads' HO650.out).2.1); rintro e w133 ⟨v657, rfl, ho0, hb⟩; refine ⟨_, rfl, ?_⟩; have n0_ := Aside0.mk (Kd.R_below (Qro HO643.out) hb); have n1_ := Aside0.mk (Kd.R_below (Qro HO646.out) hb); have n2_ := Aside0.mk (Kd.R_below (Qro HO650.out) hb); have n3_ := Aside0.mk (Kd.R_below (Qro HO654.out) hb); have n4_ := Aside0.mk (Kd.R_lower ho0 (below_size (Qaw))); have n5_ := Aside0.mk (below_step (Qaw) hb); clear HO643; clear HO646; clear HO650; clear HO654; clear HB; have HO643 := n0_; have HO646 := n1_; have HO650 := n2_; have HO654 := n3_; have HO658 := n4_; have HB := n5_; clear n0_ n1_ n2_ n3_ n4_ n5_; (try clear hb); (try clear hb2); (try clear hk); (try clear hi); (try clear ho0)) | ((with_reducible refine gate_callee (f := 18) rfl ?_); refine goesL_ (some 115) rfl rfl Tryd.func18 (by kernel_rfl) rfl #[.slice A0 l0.length c0] rfl (Qls) ?_; (with_reducible refine (lampblacklaw03_Few.calls _ _ l0 t659 _ ?side1 ?side2 A39.out).mono ?_); (case side1 => exact Qsc (Kd.C_below HR0.out HB.out)); (case side2 => exact HC0.out); rintro e w134 ⟨v660, rfl, ho0, hb⟩; refine ⟨_, rfl, ?_⟩; have n0_ := Aside0.mk (Kd.R_elder' (Qro HO643.out) (Kd.R_base ho0) hb); have n1_ := Aside0.mk (Kd.R_elder' (Qro HO646.out) (Kd.R_base ho0) hb); have n2_ := Aside0.mk (Kd.R_elder' (Qro HO650.out) (Kd.R_base ho0) hb); have n3_ := Aside0.mk (Kd.R_elder' (Qro HO654.out) (Kd.R_base ho0) hb); have n4_ := Aside0.mk (Kd.R_below (Qro HO658.out) hb); have n5_ := Aside0.mk (Kd.R_lower (Kd.R_new' (Kd.R_new' (Kd.R_new' (Kd.R_new' ho0 (Kd.R_lt (Qro HO643.out))) (Kd.R_lt (Qro HO646.out))) (Kd.R_lt (Qro HO650.out))) (Kd.R_lt (Qro HO654.out))) (below_size (Qaw))); have n6_ := Aside0.mk (below_step (Qaw) hb); clear HO643; clear HO646; clear HO650; clear HO654; clear HO658; clear HB; have HO643 := n0_; have HO646 := n1_; have HO650 := n2_; have HO654 := n3_; have HO658 := n4_; have HO661 := n5_; have HB := n6_; clear n0_ n1_ n2_ n3_ n4_ n5_ n6_; (try clear hb); (try clear hb2); (try clear hk); (try clear hi); (try clear ho0)) | ((with_reducible refine gate_callee (f := 27) rfl ?_); refine goesL_ (some 117) rfl rfl Tryd.func27 (by kernel_rfl) rfl #[.slice A1 l1.length c1] rfl (Qls) ?_; (with_reducible refine (lampblacklaw03_list.calls _ _ l1 t662 _ ?side1 ?side2 A40.out).mono ?_); (case side1 => exact Qsc (Kd.C_below HR1.out HB.out)); (case side2 => exact HC1.out); rintro e w135 ⟨v663, rfl, ho0, hb⟩; refine ⟨_, rfl, ?_⟩; have n0_ := Aside0.mk (Kd.R_elder' (Qro HO643.out) (Kd.R_base ho0) hb); have n1_ := Aside0.mk (Kd.R_elder' (Qro HO646.out) (Kd.R_base ho0) hb); have n2_ := Aside0.mk (Kd.R_elder' (Qro HO650.out) (Kd.R_base ho0) hb); have n3_ := Aside0.mk (Kd.R_elder' (Qro HO654.out) (Kd.R_base ho0) hb); have n4_ := Aside0.mk (Kd.R_below (Qro HO658.out) hb); have n5_ := Aside0.mk (Kd.R_elder' (Qro HO661.out) (Kd.R_base ho0) hb); have n6_ := Aside0.mk (Kd.R_lower (Kd.R_new' (Kd.R_new' (Kd.R_new' (Kd.R_new' (Kd.R_new' ho0 (Kd.R_lt (Qro HO643.out))) (Kd.R_lt (Qro HO646.out))) (Kd.R_lt (Qro HO650.out))) (Kd.R_lt (Qro HO654.out))) (Kd.R_lt (Qro HO661.out))) (below_size (Qaw))); have n7_ := Aside0.mk (below_step (Qaw) hb); clear HO643; clear HO646; clear HO650; clear HO654; clear HO658; clear HO661; clear HB; have HO643 := n0_; have HO646 := n1_; have HO650 := n2_; have HO654 := n3_; have HO658 := n4_; have HO661 := n5_; have HO664 := n6_; have HB := n7_; clear n0_ n1_ n2_ n3_ n4_ n5_ n6_ n7_; (try clear hb); (try clear hb2); (try clear hk); (try clear hi); (try clear ho0); obtain ⟨Ao136, co136, eo136⟩ := Kd.R_slice HO661.out; subst eo136; obtain ⟨Ao137, co137, eo137⟩ := Kd.R_slice HO664.out; subst eo137) | ((with_reducible refine gate_callee (f := 26) rfl ?_); refine goesL_ (some 118) rfl rfl Tryd.func26 (by kernel_rfl) rfl #[.slice Ao136 t659.length co136, .slice Ao137 t662.length co137] rfl (Qls) ?_; (with_reducible refine (sweep_Breadth.calls (hGL := (Qlg)) kj11 _ _ t659 _ _ t662 t665 t666 _ ?side1 ?side2 ?side3 ?side4 A41.out).mono ?_); (case side1 => exact Qsc (Kd.R_reads' HO661.out).2.2); (case side2 => exact (Kd.R_reads' HO661.out).2.1); (case side3 => exact Qsc (Kd.R_reads' HO664.out).2.2); (case side4 => exact (Kd.R_reads' HO664.out).2.1); rintro e w138 ⟨rfl, hb⟩; refine ⟨_, rfl, ?_⟩; have n0_ := Aside0.mk (Kd.R_below (Qro HO643.out) hb); have n1_ := Aside0.mk (Kd.R_below (Qro HO646.out) hb); have n2_ := Aside0.mk (Kd.R_below (Qro HO650.out) hb); have n3_ := Aside0.mk (Kd.R_below (Qro HO654.out) hb); have n4_ := Aside0.mk (Kd.R_below (Qro HO658.out) hb); have n5_ := Aside0.mk (Kd.R_below (Qro HO661.out) hb); have n6_ := Aside0.mk (Kd.R_below (Qro HO664.out) hb); have n7_ := Aside0.mk (below_step (Qaw) hb); clear HO643; clear HO646; clear HO650; clear HO654; clear HO658; clear HO661; clear HO664; clear HB; have HO643 := n0_; have HO646 := n1_; have HO650 := n2_; have HO654 := n3_; have HO658 := n4_; have HO661 := n5_; have HO664 := n6_; have HB := n7_; clear n0_ n1_ n2_ n3_ n4_ n5_ n6_ n7_; (try clear hb); (try clear hb2); (try clear hk); (try clear hi)) | ((with_reducible refine gate_callee (f := 18) rfl ?_); refine goesL_ (some 123) rfl rfl Tryd.func18 (by kernel_rfl) rfl #[.slice A0 l0.length c0] rfl (Qls) ?_; (with_reducible refine (lampblacklaw03_Few.calls _ _ l0 t667 _ ?side1 ?side2 A42.out).mono ?_); (case side1 => exact Qsc (Kd.C_below HR0.out HB.out)); (case side2 => exact HC0.out); rintro e w139 ⟨v668, rfl, ho0, hb⟩; refine ⟨_, rfl, ?_⟩; have n0_ := Aside0.mk (Kd.R_elder' (Qro HO643.out) (Kd.R_base ho0) hb); have n1_ := Aside0.mk (Kd.R_elder' (Qro HO646.out) (Kd.R_base ho0) hb); have n2_ := Aside0.mk (Kd.R_elder' (Qro HO650.out) (Kd.R_base ho0) hb); have n3_ := Aside0.mk (Kd.R_elder' (Qro HO654.out) (Kd.R_base ho0) hb); have n4_ := Aside0.mk (Kd.R_below (Qro HO658.out) hb); have n5_ := Aside0.mk (Kd.R_elder' (Qro HO661.out) (Kd.R_base ho0) hb); have n6_ := Aside0.mk (Kd.R_elder' (Qro HO664.out) (Kd.R_base ho0) hb); have n7_ := Aside0.mk (Kd.R_lower (Kd.R_new' (Kd.R_new' (Kd.R_new' (Kd.R_new' (Kd.R_new' (Kd.R_new' ho0 (Kd.R_lt (Qro HO643.out))) (Kd.R_lt (Qro HO646.out))) (Kd.R_lt (Qro HO650.out))) (Kd.R_lt (Qro HO654.out))) (Kd.R_lt (Qro HO661.out))) (Kd.R_lt (Qro HO664.out))) (below_size (Qaw))); have n8_ := Aside0.mk (below_step (Qaw) hb); clear HO643; clear HO646; clear HO650; clear HO654; clear HO658; clear HO661; clear HO664; clear HB; have HO643 := n0_; have HO646 := n1_; have HO650 := n2_; have HO654 := n3_; have HO658 := n4_; have HO661 := n5_; have HO664 := n6_; have HO669 := n7_; have HB := n8_; clear n0_ n1_ n2_ n3_ n4_ n5_ n6_ n7_ n8_; (try clear hb); (try clear hb2); (try clear hk); (try clear hi); (try clear ho0); obtain ⟨Ao140, co140, eo140⟩ := Kd.R_slice HO669.out; subst eo140; obtain ⟨Ao141, co141, eo141⟩ := Kd.R_slice HO658.out; subst eo141) | ((with_reducible refine gate_callee (f := 38) rfl ?_); refine goesL_ (some 125) rfl rfl Tryd.func38 (by kernel_rfl) rfl #[.slice Ao140 t667.length co140, .slice Ao141 t655.length co141] rfl (Qls) ?_; (with_reducible refine (sweep_Play.calls (hGL := (Qlg)) _ _ t667 _ _ t655 t670 t671 false t673 _ ?side1 ?side2 ?side3 ?side4 A43.out).mono ?_); (case side1 => exact Qsc (Kd.R_reads' HO669.out).2.2); (case side2 => exact (Kd.R_reads' HO669.out).2.1); (case side3 => exact Qsc (Kd.R_reads' HO658.out).2.2); (case side4 => exact (Kd.R_reads' HO658.out).2.1); rintro e w142 ⟨rfl, hb⟩; refine ⟨_, rfl, ?_⟩; have n0_ := Aside0.mk (Kd.R_below (Qro HO643.out) hb); have n1_ := Aside0.mk (Kd.R_below (Qro HO646.out) hb); have n2_ := Aside0.mk (Kd.R_below (Qro HO650.out) hb); have n3_ := Aside0.mk (Kd.R_below (Qro HO654.out) hb); have n4_ := Aside0.mk (Kd.R_below (Qro HO658.out) hb); have n5_ := Aside0.mk (Kd.R_below (Qro HO661.out) hb); have n6_ := Aside0.mk (Kd.R_below (Qro HO664.out) hb); have n7_ := Aside0.mk (Kd.R_below (Qro HO669.out) hb); have n8_ := Aside0.mk (below_step (Qaw) hb); clear HO643; clear HO646; clear HO650; clear HO654; clear HO658; clear HO661; clear HO664; clear HO669; clear HB; have HO643 := n0_; have HO646 := n1_; have HO650 := n2_; have HO654 := n3_; have HO658 := n4_; have HO661 := n5_; have HO664 := n6_; have HO669 := n7_; have HB := n8_; clear n0_ n1_ n2_ n3_ n4_ n5_ n6_ n7_ n8_; (try clear hb); (try clear hb2); (try clear hk); (try clear hi)))
          go_ret
          exact ⟨by first | rfl | (simp [errW_none, errW_some] <;> rfl) | (simp [*, errW_none, errW_some] <;> rfl), by repeat (first | (with_reducible first | exact HB.out | apply below_alloc | apply pw_below_drewN | apply below_drew1) | exact HB.out)⟩
        ·rw [if_neg c46] at H
         have c46b0 : (t673 == 0) = false := beq_eq_false_iff_ne.mpr c46
         have c46b1 : (t673 != 0) = true := bne_iff_ne.mpr c46
         obtain rfl := Option.some.inj H
         go_wp2_with (first | ((with_reducible refine gate_callee (f := 18) rfl ?_); refine goesL_ (some 93) rfl rfl Tryd.func18 (by kernel_rfl) rfl #[.slice A0 l0.length c0] rfl (Qls) ?_; (with_reducible refine (lampblacklaw03_Few.calls _ _ l0 t641 _ ?side1 ?side2 A33.out).mono ?_); (case side1 => exact Qsc (Kd.C_below HR0.out HB.out)); (case side2 => exact HC0.out); rintro e w143 ⟨v642, rfl, ho0, hb⟩; refine ⟨_, rfl, ?_⟩; have n0_ := Aside0.mk (Kd.R_lower ho0 (below_size (Qaw))); have n1_ := Aside0.mk (below_step (Qaw) hb); clear HB; have HO643 := n0_; have HB := n1_; clear n0_ n1_; (try clear hb); (try clear hb2); (try clear hk); (try clear hi); (try clear ho0)) | ((with_reducible refine gate_callee (f := 27) rfl ?_); refine goesL_ (some 95) rfl rfl Tryd.func27 (by kernel_rfl) rfl #[.slice A1 l1.length c1] rfl (Qls) ?_; (with_reducible refine (lampblacklaw03_list.calls _ _ l1 t644 _ ?side1 ?side2 A34.out).mono ?_); (case side1 => exact Qsc (Kd.C_below HR1.out HB.out)); (case side2 => exact HC1.out); rintro e w144 ⟨v645, rfl, ho0, hb⟩; refine ⟨_, rfl, ?_⟩; have n0_ := Aside0.mk (Kd.R_elder' (Qro HO643.out) (Kd.R_base ho0) hb); have n1_ := Aside0.mk (Kd.R_lower (Kd.R_new' ho0 (Kd.R_lt (Qro HO643.out))) (below_size (Qaw))); have n2_ := Aside0.mk (below_step (Qaw) hb); clear HO643; clear HB; have HO643 := n0_; have HO646 := n1_; have HB := n2_; clear n0_ n1_ n2_; (try clear hb); (try clear hb2); (try clear hk); (try clear hi); (try clear ho0); obtain ⟨Ao145, co145, eo145⟩ := Kd.R_slice HO643.out; subst eo145; obtain ⟨Ao146, co146, eo146⟩ := Kd.R_slice HO646.out; subst eo146) | ((with_reducible refine gate_callee (f := 32) rfl ?_); refine goesL_ (some 96) rfl rfl Tryd.func32 (by kernel_rfl) rfl #[.slice Ao145 t641.length co145, .slice Ao146 t644.length co146] rfl (Qls) ?_; (with_reducible refine (sweep_Bags.calls (hGL := (Qlg)) kj11 _ _ t641 _ _ t644 t647 t648 _ ?side1 ?side2 ?side3 ?side4 A35.out).mono ?_); (case side1 => exact Qsc (Kd.R_reads' HO643.out).2.2); (case side2 => exact (Kd.R_reads' HO643.out).2.1); (case side3 => exact Qsc (Kd.R_reads' HO646.out).2.2); (case side4 => exact (Kd.R_reads' HO646.out).2.1); rintro e w147 ⟨v649, rfl, ho0, hb⟩; refine ⟨_, rfl, ?_⟩; have n0_ := Aside0.mk (Kd.R_elder' (Qro HO643.out) (Kd.R_base ho0) hb); have n1_ := Aside0.mk (Kd.R_elder' (Qro HO646.out) (Kd.R_base ho0) hb); have n2_ := Aside0.mk (Kd.R_lower (Kd.R_new' (Kd.R_new' ho0 (Kd.R_lt (Qro HO643.out))) (Kd.R_lt (Qro HO646.out))) (below_size (Qaw))); have n3_ := Aside0.mk (below_step (Qaw) hb); clear HO643; clear HO646; clear HB; have HO643 := n0_; have HO646 := n1_; have HO650 := n2_; have HB := n3_; clear n0_ n1_ n2_ n3_; (try clear hb); (try clear hb2); (try clear hk); (try clear hi); (try clear ho0)) | ((with_reducible refine gate_callee (f := 18) rfl ?_); refine goesL_ (some 108) rfl rfl Tryd.func18 (by kernel_rfl) rfl #[.slice A0 l0.length c0] rfl (Qls) ?_; (with_reducible refine (lampblacklaw03_Few.calls _ _ l0 t652 _ ?side1 ?side2 A37.out).mono ?_); (case side1 => exact Qsc (Kd.C_below HR0.out HB.out)); (case side2 => exact HC0.out); rintro e w148 ⟨v653, rfl, ho0, hb⟩; refine ⟨_, rfl, ?_⟩; have n0_ := Aside0.mk (Kd.R_elder' (Qro HO643.out) (Kd.R_base ho0) hb); have n1_ := Aside0.mk (Kd.R_elder' (Qro HO646.out) (Kd.R_base ho0) hb); have n2_ := Aside0.mk (Kd.R_elder' (Qro HO650.out) (Kd.R_base ho0) hb); have n3_ := Aside0.mk (Kd.R_lower (Kd.R_new' (Kd.R_new' (Kd.R_new' ho0 (Kd.R_lt (Qro HO643.out))) (Kd.R_lt (Qro HO646.out))) (Kd.R_lt (Qro HO650.out))) (below_size (Qaw))); have n4_ := Aside0.mk (below_step (Qaw) hb); clear HO643; clear HO646; clear HO650; clear HB; have HO643 := n0_; have HO646 := n1_; have HO650 := n2_; have HO654 := n3_; have HB := n4_; clear n0_ n1_ n2_ n3_ n4_; (try clear hb); (try clear hb2); (try clear hk); (try clear hi); (try clear ho0); obtain ⟨Ao149, co149, eo149⟩ := Kd.R_slice HO654.out; subst eo149; obtain ⟨Ao150, co150, eo150⟩ := Kd.R_slice HO650.out; subst eo150) | ((with_reducible refine gate_callee (f := 41) rfl ?_); refine goesL_ (some 110) rfl rfl Tryd.func41 (by kernel_rfl) rfl #[.slice Ao149 t652.length co149, .slice Ao150 t647.length co150] rfl (Qls) ?_; (with_reducible refine (sweep_Follow.calls (hGL := (Qlg)) kj11 _ _ t652 _ _ t647 t655 t656 _ ?side1 ?side2 ?side3 ?side4 A38.out).mono ?_); (case side1 => exact Qsc (Kd.R_reads' HO654.out).2.2); (case side2 => exact (Kd.R_reads' HO654.out).2.1); (case side3 => exact Qsc (Kd.R_reads' HO650.out).2.2); (case side4 => exact (Kd.R_reads' HO650.out).2.1); rintro e w151 ⟨v657, rfl, ho0, hb⟩; refine ⟨_, rfl, ?_⟩; have n0_ := Aside0.mk (Kd.R_below (Qro HO643.out) hb); have n1_ := Aside0.mk (Kd.R_below (Qro HO646.out) hb); have n2_ := Aside0.mk (Kd.R_below (Qro HO650.out) hb); have n3_ := Aside0.mk (Kd.R_below (Qro HO654.out) hb); have n4_ := Aside0.mk (Kd.R_lower ho0 (below_size (Qaw))); have n5_ := Aside0.mk (below_step (Qaw) hb); clear HO643; clear HO646; clear HO650; clear HO654; clear HB; have HO643 := n0_; have HO646 := n1_; have HO650 := n2_; have HO654 := n3_; have HO658 := n4_; have HB := n5_; clear n0_ n1_ n2_ n3_ n4_ n5_; (try clear hb); (try clear hb2); (try clear hk); (try clear hi); (try clear ho0)) | ((with_reducible refine gate_callee (f := 18) rfl ?_); refine goesL_ (some 115) rfl rfl Tryd.func18 (by kernel_rfl) rfl #[.slice A0 l0.length c0] rfl (Qls) ?_; (with_reducible refine (lampblacklaw03_Few.calls _ _ l0 t659 _ ?side1 ?side2 A39.out).mono ?_); (case side1 => exact Qsc (Kd.C_below HR0.out HB.out)); (case side2 => exact HC0.out); rintro e w152 ⟨v660, rfl, ho0, hb⟩; refine ⟨_, rfl, ?_⟩; have n0_ := Aside0.mk (Kd.R_elder' (Qro HO643.out) (Kd.R_base ho0) hb); have n1_ := Aside0.mk (Kd.R_elder' (Qro HO646.out) (Kd.R_base ho0) hb); have n2_ := Aside0.mk (Kd.R_elder' (Qro HO650.out) (Kd.R_base ho0) hb); have n3_ := Aside0.mk (Kd.R_elder' (Qro HO654.out) (Kd.R_base ho0) hb); have n4_ := Aside0.mk (Kd.R_below (Qro HO658.out) hb); have n5_ := Aside0.mk (Kd.R_lower (Kd.R_new' (Kd.R_new' (Kd.R_new' (Kd.R_new' ho0 (Kd.R_lt (Qro HO643.out))) (Kd.R_lt (Qro HO646.out))) (Kd.R_lt (Qro HO650.out))) (Kd.R_lt (Qro HO654.out))) (below_size (Qaw))); have n6_ := Aside0.mk (below_step (Qaw) hb); clear HO643; clear HO646; clear HO650; clear HO654; clear HO658; clear HB; have HO643 := n0_; have HO646 := n1_; have HO650 := n2_; have HO654 := n3_; have HO658 := n4_; have HO661 := n5_; have HB := n6_; clear n0_ n1_ n2_ n3_ n4_ n5_ n6_; (try clear hb); (try clear hb2); (try clear hk); (try clear hi); (try clear ho0)) | ((with_reducible refine gate_callee (f := 27) rfl ?_); refine goesL_ (some 117) rfl rfl Tryd.func27 (by kernel_rfl) rfl #[.slice A1 l1.length c1] rfl (Qls) ?_; (with_reducible refine (lampblacklaw03_list.calls _ _ l1 t662 _ ?side1 ?side2 A40.out).mono ?_); (case side1 => exact Qsc (Kd.C_below HR1.out HB.out)); (case side2 => exact HC1.out); rintro e w153 ⟨v663, rfl, ho0, hb⟩; refine ⟨_, rfl, ?_⟩; have n0_ := Aside0.mk (Kd.R_elder' (Qro HO643.out) (Kd.R_base ho0) hb); have n1_ := Aside0.mk (Kd.R_elder' (Qro HO646.out) (Kd.R_base ho0) hb); have n2_ := Aside0.mk (Kd.R_elder' (Qro HO650.out) (Kd.R_base ho0) hb); have n3_ := Aside0.mk (Kd.R_elder' (Qro HO654.out) (Kd.R_base ho0) hb); have n4_ := Aside0.mk (Kd.R_below (Qro HO658.out) hb); have n5_ := Aside0.mk (Kd.R_elder' (Qro HO661.out) (Kd.R_base ho0) hb); have n6_ := Aside0.mk (Kd.R_lower (Kd.R_new' (Kd.R_new' (Kd.R_new' (Kd.R_new' (Kd.R_new' ho0 (Kd.R_lt (Qro HO643.out))) (Kd.R_lt (Qro HO646.out))) (Kd.R_lt (Qro HO650.out))) (Kd.R_lt (Qro HO654.out))) (Kd.R_lt (Qro HO661.out))) (below_size (Qaw))); have n7_ := Aside0.mk (below_step (Qaw) hb); clear HO643; clear HO646; clear HO650; clear HO654; clear HO658; clear HO661; clear HB; have HO643 := n0_; have HO646 := n1_; have HO650 := n2_; have HO654 := n3_; have HO658 := n4_; have HO661 := n5_; have HO664 := n6_; have HB := n7_; clear n0_ n1_ n2_ n3_ n4_ n5_ n6_ n7_; (try clear hb); (try clear hb2); (try clear hk); (try clear hi); (try clear ho0); obtain ⟨Ao154, co154, eo154⟩ := Kd.R_slice HO661.out; subst eo154; obtain ⟨Ao155, co155, eo155⟩ := Kd.R_slice HO664.out; subst eo155) | ((with_reducible refine gate_callee (f := 26) rfl ?_); refine goesL_ (some 118) rfl rfl Tryd.func26 (by kernel_rfl) rfl #[.slice Ao154 t659.length co154, .slice Ao155 t662.length co155] rfl (Qls) ?_; (with_reducible refine (sweep_Breadth.calls (hGL := (Qlg)) kj11 _ _ t659 _ _ t662 t665 t666 _ ?side1 ?side2 ?side3 ?side4 A41.out).mono ?_); (case side1 => exact Qsc (Kd.R_reads' HO661.out).2.2); (case side2 => exact (Kd.R_reads' HO661.out).2.1); (case side3 => exact Qsc (Kd.R_reads' HO664.out).2.2); (case side4 => exact (Kd.R_reads' HO664.out).2.1); rintro e w156 ⟨rfl, hb⟩; refine ⟨_, rfl, ?_⟩; have n0_ := Aside0.mk (Kd.R_below (Qro HO643.out) hb); have n1_ := Aside0.mk (Kd.R_below (Qro HO646.out) hb); have n2_ := Aside0.mk (Kd.R_below (Qro HO650.out) hb); have n3_ := Aside0.mk (Kd.R_below (Qro HO654.out) hb); have n4_ := Aside0.mk (Kd.R_below (Qro HO658.out) hb); have n5_ := Aside0.mk (Kd.R_below (Qro HO661.out) hb); have n6_ := Aside0.mk (Kd.R_below (Qro HO664.out) hb); have n7_ := Aside0.mk (below_step (Qaw) hb); clear HO643; clear HO646; clear HO650; clear HO654; clear HO658; clear HO661; clear HO664; clear HB; have HO643 := n0_; have HO646 := n1_; have HO650 := n2_; have HO654 := n3_; have HO658 := n4_; have HO661 := n5_; have HO664 := n6_; have HB := n7_; clear n0_ n1_ n2_ n3_ n4_ n5_ n6_ n7_; (try clear hb); (try clear hb2); (try clear hk); (try clear hi)) | ((with_reducible refine gate_callee (f := 18) rfl ?_); refine goesL_ (some 123) rfl rfl Tryd.func18 (by kernel_rfl) rfl #[.slice A0 l0.length c0] rfl (Qls) ?_; (with_reducible refine (lampblacklaw03_Few.calls _ _ l0 t667 _ ?side1 ?side2 A42.out).mono ?_); (case side1 => exact Qsc (Kd.C_below HR0.out HB.out)); (case side2 => exact HC0.out); rintro e w157 ⟨v668, rfl, ho0, hb⟩; refine ⟨_, rfl, ?_⟩; have n0_ := Aside0.mk (Kd.R_elder' (Qro HO643.out) (Kd.R_base ho0) hb); have n1_ := Aside0.mk (Kd.R_elder' (Qro HO646.out) (Kd.R_base ho0) hb); have n2_ := Aside0.mk (Kd.R_elder' (Qro HO650.out) (Kd.R_base ho0) hb); have n3_ := Aside0.mk (Kd.R_elder' (Qro HO654.out) (Kd.R_base ho0) hb); have n4_ := Aside0.mk (Kd.R_below (Qro HO658.out) hb); have n5_ := Aside0.mk (Kd.R_elder' (Qro HO661.out) (Kd.R_base ho0) hb); have n6_ := Aside0.mk (Kd.R_elder' (Qro HO664.out) (Kd.R_base ho0) hb); have n7_ := Aside0.mk (Kd.R_lower (Kd.R_new' (Kd.R_new' (Kd.R_new' (Kd.R_new' (Kd.R_new' (Kd.R_new' ho0 (Kd.R_lt (Qro HO643.out))) (Kd.R_lt (Qro HO646.out))) (Kd.R_lt (Qro HO650.out))) (Kd.R_lt (Qro HO654.out))) (Kd.R_lt (Qro HO661.out))) (Kd.R_lt (Qro HO664.out))) (below_size (Qaw))); have n8_ := Aside0.mk (below_step (Qaw) hb); clear HO643; clear HO646; clear HO650; clear HO654; clear HO658; clear HO661; clear HO664; clear HB; have HO643 := n0_; have HO646 := n1_; have HO650 := n2_; have HO654 := n3_; have HO658 := n4_; have HO661 := n5_; have HO664 := n6_; have HO669 := n7_; have HB := n8_; clear n0_ n1_ n2_ n3_ n4_ n5_ n6_ n7_ n8_; (try clear hb); (try clear hb2); (try clear hk); (try clear hi); (try clear ho0); obtain ⟨Ao158, co158, eo158⟩ := Kd.R_slice HO669.out; subst eo158; obtain ⟨Ao159, co159, eo159⟩ := Kd.R_slice HO658.out; subst eo159) | ((with_reducible refine gate_callee (f := 38) rfl ?_); refine goesL_ (some 125) rfl rfl Tryd.func38 (by kernel_rfl) rfl #[.slice Ao158 t667.length co158, .slice Ao159 t655.length co159] rfl (Qls) ?_; (with_reducible refine (sweep_Play.calls (hGL := (Qlg)) _ _ t667 _ _ t655 t670 t671 t672 t673 _ ?side1 ?side2 ?side3 ?side4 A43.out).mono ?_); (case side1 => exact Qsc (Kd.R_reads' HO669.out).2.2); (case side2 => exact (Kd.R_reads' HO669.out).2.1); (case side3 => exact Qsc (Kd.R_reads' HO658.out).2.2); (case side4 => exact (Kd.R_reads' HO658.out).2.1); rintro e w160 ⟨rfl, hb⟩; refine ⟨_, rfl, ?_⟩; have n0_ := Aside0.mk (Kd.R_below (Qro HO643.out) hb); have n1_ := Aside0.mk (Kd.R_below (Qro HO646.out) hb); have n2_ := Aside0.mk (Kd.R_below (Qro HO650.out) hb); have n3_ := Aside0.mk (Kd.R_below (Qro HO654.out) hb); have n4_ := Aside0.mk (Kd.R_below (Qro HO658.out) hb); have n5_ := Aside0.mk (Kd.R_below (Qro HO661.out) hb); have n6_ := Aside0.mk (Kd.R_below (Qro HO664.out) hb); have n7_ := Aside0.mk (Kd.R_below (Qro HO669.out) hb); have n8_ := Aside0.mk (below_step (Qaw) hb); clear HO643; clear HO646; clear HO650; clear HO654; clear HO658; clear HO661; clear HO664; clear HO669; clear HB; have HO643 := n0_; have HO646 := n1_; have HO650 := n2_; have HO654 := n3_; have HO658 := n4_; have HO661 := n5_; have HO664 := n6_; have HO669 := n7_; have HB := n8_; clear n0_ n1_ n2_ n3_ n4_ n5_ n6_ n7_ n8_; (try clear hb); (try clear hb2); (try clear hk); (try clear hi)))
         go_ret
         exact ⟨by first | rfl | (simp [errW_none, errW_some] <;> rfl) | (simp [*, errW_none, errW_some] <;> rfl), by repeat (first | (with_reducible first | exact HB.out | apply below_alloc | apply pw_below_drewN | apply below_drew1) | exact HB.out)⟩
       ·rw [if_neg c45] at H
        have c45b0 : (t666 == 0) = false := beq_eq_false_iff_ne.mpr c45
        have c45b1 : (t666 != 0) = true := bne_iff_ne.mpr c45
        obtain rfl := Option.some.inj H
        go_wp2_with (first | ((with_reducible refine gate_callee (f := 18) rfl ?_); refine goesL_ (some 93) rfl rfl Tryd.func18 (by kernel_rfl) rfl #[.slice A0 l0.length c0] rfl (Qls) ?_; (with_reducible refine (lampblacklaw03_Few.calls _ _ l0 t641 _ ?side1 ?side2 A33.out).mono ?_); (case side1 => exact Qsc (Kd.C_below HR0.out HB.out)); (case side2 => exact HC0.out); rintro e w161 ⟨v642, rfl, ho0, hb⟩; refine ⟨_, rfl, ?_⟩; have n0_ := Aside0.mk (Kd.R_lower ho0 (below_size (Qaw))); have n1_ := Aside0.mk (below_step (Qaw) hb); clear HB; have HO643 := n0_; have HB := n1_; clear n0_ n1_; (try clear hb); (try clear hb2); (try clear hk); (try clear hi); (try clear ho0)) | ((with_reducible refine gate_callee (f := 27) rfl ?_); refine goesL_ (some 95) rfl rfl Tryd.func27 (by kernel_rfl) rfl #[.slice A1 l1.length c1] rfl (Qls) ?_; (with_reducible refine (lampblacklaw03_list.calls _ _ l1 t644 _ ?side1 ?side2 A34.out).mono ?_); (case side1 => exact Qsc (Kd.C_below HR1.out HB.out)); (case side2 => exact HC1.out); rintro e w162 ⟨v645, rfl, ho0, hb⟩; refine ⟨_, rfl, ?_⟩; have n0_ := Aside0.mk (Kd.R_elder' (Qro HO643.out) (Kd.R_base ho0) hb); have n1_ := Aside0.mk (Kd.R_lower (Kd.R_new' ho0 (Kd.R_lt (Qro HO643.out))) (below_size (Qaw))); have n2_ := Aside0.mk (below_step (Qaw) hb); clear HO643; clear HB; have HO643 := n0_; have HO646 := n1_; have HB := n2_; clear n0_ n1_ n2_; (try clear hb); (try clear hb2); (try clear hk); (try clear hi); (try clear ho0); obtain ⟨Ao163, co163, eo163⟩ := Kd.R_slice HO643.out; subst eo163; obtain ⟨Ao164, co164, eo164⟩ := Kd.R_slice HO646.out; subst eo164) | ((with_reducible refine gate_callee (f := 32) rfl ?_); refine goesL_ (some 96) rfl rfl Tryd.func32 (by kernel_rfl) rfl #[.slice Ao163 t641.length co163, .slice Ao164 t644.length co164] rfl (Qls) ?_; (with_reducible refine (sweep_Bags.calls (hGL := (Qlg)) kj11 _ _ t641 _ _ t644 t647 t648 _ ?side1 ?side2 ?side3 ?side4 A35.out).mono ?_); (case side1 => exact Qsc (Kd.R_reads' HO643.out).2.2); (case side2 => exact (Kd.R_reads' HO643.out).2.1); (case side3 => exact Qsc (Kd.R_reads' HO646.out).2.2); (case side4 => exact (Kd.R_reads' HO646.out).2.1); rintro e w165 ⟨v649, rfl, ho0, hb⟩; refine ⟨_, rfl, ?_⟩; have n0_ := Aside0.mk (Kd.R_elder' (Qro HO643.out) (Kd.R_base ho0) hb); have n1_ := Aside0.mk (Kd.R_elder' (Qro HO646.out) (Kd.R_base ho0) hb); have n2_ := Aside0.mk (Kd.R_lower (Kd.R_new' (Kd.R_new' ho0 (Kd.R_lt (Qro HO643.out))) (Kd.R_lt (Qro HO646.out))) (below_size (Qaw))); have n3_ := Aside0.mk (below_step (Qaw) hb); clear HO643; clear HO646; clear HB; have HO643 := n0_; have HO646 := n1_; have HO650 := n2_; have HB := n3_; clear n0_ n1_ n2_ n3_; (try clear hb); (try clear hb2); (try clear hk); (try clear hi); (try clear ho0)) | ((with_reducible refine gate_callee (f := 18) rfl ?_); refine goesL_ (some 108) rfl rfl Tryd.func18 (by kernel_rfl) rfl #[.slice A0 l0.length c0] rfl (Qls) ?_; (with_reducible refine (lampblacklaw03_Few.calls _ _ l0 t652 _ ?side1 ?side2 A37.out).mono ?_); (case side1 => exact Qsc (Kd.C_below HR0.out HB.out)); (case side2 => exact HC0.out); rintro e w166 ⟨v653, rfl, ho0, hb⟩; refine ⟨_, rfl, ?_⟩; have n0_ := Aside0.mk (Kd.R_elder' (Qro HO643.out) (Kd.R_base ho0) hb); have n1_ := Aside0.mk (Kd.R_elder' (Qro HO646.out) (Kd.R_base ho0) hb); have n2_ := Aside0.mk (Kd.R_elder' (Qro HO650.out) (Kd.R_base ho0) hb); have n3_ := Aside0.mk (Kd.R_lower (Kd.R_new' (Kd.R_new' (Kd.R_new' ho0 (Kd.R_lt (Qro HO643.out))) (Kd.R_lt (Qro HO646.out))) (Kd.R_lt (Qro HO650.out))) (below_size (Qaw))); have n4_ := Aside0.mk (below_step (Qaw) hb); clear HO643; clear HO646; clear HO650; clear HB; have HO643 := n0_; have HO646 := n1_; have HO650 := n2_; have HO654 := n3_; have HB := n4_; clear n0_ n1_ n2_ n3_ n4_; (try clear hb); (try clear hb2); (try clear hk); (try clear hi); (try clear ho0); obtain ⟨Ao167, co167, eo167⟩ := Kd.R_slice HO654.out; subst eo167; obtain ⟨Ao168, co168, eo168⟩ := Kd.R_slice HO650.out; subst eo168) | ((with_reducible refine gate_callee (f := 41) rfl ?_); refine goesL_ (some 110) rfl rfl Tryd.func41 (by kernel_rfl) rfl #[.slice Ao167 t652.length co167, .slice Ao168 t647.length co168] rfl (Qls) ?_; (with_reducible refine (sweep_Follow.calls (hGL := (Qlg)) kj11 _ _ t652 _ _ t647 t655 t656 _ ?side1 ?side2 ?side3 ?side4 A38.out).mono ?_); (case side1 => exact Qsc (Kd.R_reads' HO654.out).2.2); (case side2 => exact (Kd.R_reads' HO654.out).2.1); (case side3 => exact Qsc (Kd.R_reads' HO650.out).2.2); (case side4 => exact (Kd.R_reads' HO650.out).2.1); rintro e w169 ⟨v657, rfl, ho0, hb⟩; refine ⟨_, rfl, ?_⟩; have n0_ := Aside0.mk (Kd.R_below (Qro HO643.out) hb); have n1_ := Aside0.mk (Kd.R_below (Qro HO646.out) hb); have n2_ := Aside0.mk (Kd.R_below (Qro HO650.out) hb); have n3_ := Aside0.mk (Kd.R_below (Qro HO654.out) hb); have n4_ := Aside0.mk (Kd.R_lower ho0 (below_size (Qaw))); have n5_ := Aside0.mk (below_step (Qaw) hb); clear HO643; clear HO646; clear HO650; clear HO654; clear HB; have HO643 := n0_; have HO646 := n1_; have HO650 := n2_; have HO654 := n3_; have HO658 := n4_; have HB := n5_; clear n0_ n1_ n2_ n3_ n4_ n5_; (try clear hb); (try clear hb2); (try clear hk); (try clear hi); (try clear ho0)) | ((with_reducible refine gate_callee (f := 18) rfl ?_); refine goesL_ (some 115) rfl rfl Tryd.func18 (by kernel_rfl) rfl #[.slice A0 l0.length c0] rfl (Qls) ?_; (with_reducible refine (lampblacklaw03_Few.calls _ _ l0 t659 _ ?side1 ?side2 A39.out).mono ?_); (case side1 => exact Qsc (Kd.C_below HR0.out HB.out)); (case side2 => exact HC0.out); rintro e w170 ⟨v660, rfl, ho0, hb⟩; refine ⟨_, rfl, ?_⟩; have n0_ := Aside0.mk (Kd.R_elder' (Qro HO643.out) (Kd.R_base ho0) hb); have n1_ := Aside0.mk (Kd.R_elder' (Qro HO646.out) (Kd.R_base ho0) hb); have n2_ := Aside0.mk (Kd.R_elder' (Qro HO650.out) (Kd.R_base ho0) hb); have n3_ := Aside0.mk (Kd.R_elder' (Qro HO654.out) (Kd.R_base ho0) hb); have n4_ := Aside0.mk (Kd.R_below (Qro HO658.out) hb); have n5_ := Aside0.mk (Kd.R_lower (Kd.R_new' (Kd.R_new' (Kd.R_new' (Kd.R_new' ho0 (Kd.R_lt (Qro HO643.out))) (Kd.R_lt (Qro HO646.out))) (Kd.R_lt (Qro HO650.out))) (Kd.R_lt (Qro HO654.out))) (below_size (Qaw))); have n6_ := Aside0.mk (below_step (Qaw) hb); clear HO643; clear HO646; clear HO650; clear HO654; clear HO658; clear HB; have HO643 := n0_; have HO646 := n1_; have HO650 := n2_; have HO654 := n3_; have HO658 := n4_; have HO661 := n5_; have HB := n6_; clear n0_ n1_ n2_ n3_ n4_ n5_ n6_; (try clear hb); (try clear hb2); (try clear hk); (try clear hi); (try clear ho0)) | ((with_reducible refine gate_callee (f := 27) rfl ?_); refine goesL_ (some 117) rfl rfl Tryd.func27 (by kernel_rfl) rfl #[.slice A1 l1.length c1] rfl (Qls) ?_; (with_reducible refine (lampblacklaw03_list.calls _ _ l1 t662 _ ?side1 ?side2 A40.out).mono ?_); (case side1 => exact Qsc (Kd.C_below HR1.out HB.out)); (case side2 => exact HC1.out); rintro e w171 ⟨v663, rfl, ho0, hb⟩; refine ⟨_, rfl, ?_⟩; have n0_ := Aside0.mk (Kd.R_elder' (Qro HO643.out) (Kd.R_base ho0) hb); have n1_ := Aside0.mk (Kd.R_elder' (Qro HO646.out) (Kd.R_base ho0) hb); have n2_ := Aside0.mk (Kd.R_elder' (Qro HO650.out) (Kd.R_base ho0) hb); have n3_ := Aside0.mk (Kd.R_elder' (Qro HO654.out) (Kd.R_base ho0) hb); have n4_ := Aside0.mk (Kd.R_below (Qro HO658.out) hb); have n5_ := Aside0.mk (Kd.R_elder' (Qro HO661.out) (Kd.R_base ho0) hb); have n6_ := Aside0.mk (Kd.R_lower (Kd.R_new' (Kd.R_new' (Kd.R_new' (Kd.R_new' (Kd.R_new' ho0 (Kd.R_lt (Qro HO643.out))) (Kd.R_lt (Qro HO646.out))) (Kd.R_lt (Qro HO650.out))) (Kd.R_lt (Qro HO654.out))) (Kd.R_lt (Qro HO661.out))) (below_size (Qaw))); have n7_ := Aside0.mk (below_step (Qaw) hb); clear HO643; clear HO646; clear HO650; clear HO654; clear HO658; clear HO661; clear HB; have HO643 := n0_; have HO646 := n1_; have HO650 := n2_; have HO654 := n3_; have HO658 := n4_; have HO661 := n5_; have HO664 := n6_; have HB := n7_; clear n0_ n1_ n2_ n3_ n4_ n5_ n6_ n7_; (try clear hb); (try clear hb2); (try clear hk); (try clear hi); (try clear ho0); obtain ⟨Ao172, co172, eo172⟩ := Kd.R_slice HO661.out; subst eo172; obtain ⟨Ao173, co173, eo173⟩ := Kd.R_slice HO664.out; subst eo173) | ((with_reducible refine gate_callee (f := 26) rfl ?_); refine goesL_ (some 118) rfl rfl Tryd.func26 (by kernel_rfl) rfl #[.slice Ao172 t659.length co172, .slice Ao173 t662.length co173] rfl (Qls) ?_; (with_reducible refine (sweep_Breadth.calls (hGL := (Qlg)) kj11 _ _ t659 _ _ t662 t665 t666 _ ?side1 ?side2 ?side3 ?side4 A41.out).mono ?_); (case side1 => exact Qsc (Kd.R_reads' HO661.out).2.2); (case side2 => exact (Kd.R_reads' HO661.out).2.1); (case side3 => exact Qsc (Kd.R_reads' HO664.out).2.2); (case side4 => exact (Kd.R_reads' HO664.out).2.1); rintro e w174 ⟨rfl, hb⟩; refine ⟨_, rfl, ?_⟩; have n0_ := Aside0.mk (Kd.R_below (Qro HO643.out) hb); have n1_ := Aside0.mk (Kd.R_below (Qro HO646.out) hb); have n2_ := Aside0.mk (Kd.R_below (Qro HO650.out) hb); have n3_ := Aside0.mk (Kd.R_below (Qro HO654.out) hb); have n4_ := Aside0.mk (Kd.R_below (Qro HO658.out) hb); have n5_ := Aside0.mk (Kd.R_below (Qro HO661.out) hb); have n6_ := Aside0.mk (Kd.R_below (Qro HO664.out) hb); have n7_ := Aside0.mk (below_step (Qaw) hb); clear HO643; clear HO646; clear HO650; clear HO654; clear HO658; clear HO661; clear HO664; clear HB; have HO643 := n0_; have HO646 := n1_; have HO650 := n2_; have HO654 := n3_; have HO658 := n4_; have HO661 := n5_; have HO664 := n6_; have HB := n7_; clear n0_ n1_ n2_ n3_ n4_ n5_ n6_ n7_; (try clear hb); (try clear hb2); (try clear hk); (try clear hi)) | ((with_reducible refine gate_callee (f := 18) rfl ?_); refine goesL_ (some 123) rfl rfl Tryd.func18 (by kernel_rfl) rfl #[.slice A0 l0.length c0] rfl (Qls) ?_; (with_reducible refine (lampblacklaw03_Few.calls _ _ l0 t667 _ ?side1 ?side2 A42.out).mono ?_); (case side1 => exact Qsc (Kd.C_below HR0.out HB.out)); (case side2 => exact HC0.out); rintro e w175 ⟨v668, rfl, ho0, hb⟩; refine ⟨_, rfl, ?_⟩; have n0_ := Aside0.mk (Kd.R_elder' (Qro HO643.out) (Kd.R_base ho0) hb); have n1_ := Aside0.mk (Kd.R_elder' (Qro HO646.out) (Kd.R_base ho0) hb); have n2_ := Aside0.mk (Kd.R_elder' (Qro HO650.out) (Kd.R_base ho0) hb); have n3_ := Aside0.mk (Kd.R_elder' (Qro HO654.out) (Kd.R_base ho0) hb); have n4_ := Aside0.mk (Kd.R_below (Qro HO658.out) hb); have n5_ := Aside0.mk (Kd.R_elder' (Qro HO661.out) (Kd.R_base ho0) hb); have n6_ := Aside0.mk (Kd.R_elder' (Qro HO664.out) (Kd.R_base ho0) hb); have n7_ := Aside0.mk (Kd.R_lower (Kd.R_new' (Kd.R_new' (Kd.R_new' (Kd.R_new' (Kd.R_new' (Kd.R_new' ho0 (Kd.R_lt (Qro HO643.out))) (Kd.R_lt (Qro HO646.out))) (Kd.R_lt (Qro HO650.out))) (Kd.R_lt (Qro HO654.out))) (Kd.R_lt (Qro HO661.out))) (Kd.R_lt (Qro HO664.out))) (below_size (Qaw))); have n8_ := Aside0.mk (below_step (Qaw) hb); clear HO643; clear HO646; clear HO650; clear HO654; clear HO658; clear HO661; clear HO664; clear HB; have HO643 := n0_; have HO646 := n1_; have HO650 := n2_; have HO654 := n3_; have HO658 := n4_; have HO661 := n5_; have HO664 := n6_; have HO669 := n7_; have HB := n8_; clear n0_ n1_ n2_ n3_ n4_ n5_ n6_ n7_ n8_; (try clear hb); (try clear hb2); (try clear hk); (try clear hi); (try clear ho0); obtain ⟨Ao176, co176, eo176⟩ := Kd.R_slice HO669.out; subst eo176; obtain ⟨Ao177, co177, eo177⟩ := Kd.R_slice HO658.out; subst eo177) | ((with_reducible refine gate_callee (f := 38) rfl ?_); refine goesL_ (some 125) rfl rfl Tryd.func38 (by kernel_rfl) rfl #[.slice Ao176 t667.length co176, .slice Ao177 t655.length co177] rfl (Qls) ?_; (with_reducible refine (sweep_Play.calls (hGL := (Qlg)) _ _ t667 _ _ t655 t670 t671 t672 t673 _ ?side1 ?side2 ?side3 ?side4 A43.out).mono ?_); (case side1 => exact Qsc (Kd.R_reads' HO669.out).2.2); (case side2 => exact (Kd.R_reads' HO669.out).2.1); (case side3 => exact Qsc (Kd.R_reads' HO658.out).2.2); (case side4 => exact (Kd.R_reads' HO658.out).2.1); rintro e w178 ⟨rfl, hb⟩; refine ⟨_, rfl, ?_⟩; have n0_ := Aside0.mk (Kd.R_below (Qro HO643.out) hb); have n1_ := Aside0.mk (Kd.R_below (Qro HO646.out) hb); have n2_ := Aside0.mk (Kd.R_below (Qro HO650.out) hb); have n3_ := Aside0.mk (Kd.R_below (Qro HO654.out) hb); have n4_ := Aside0.mk (Kd.R_below (Qro HO658.out) hb); have n5_ := Aside0.mk (Kd.R_below (Qro HO661.out) hb); have n6_ := Aside0.mk (Kd.R_below (Qro HO664.out) hb); have n7_ := Aside0.mk (Kd.R_below (Qro HO669.out) hb); have n8_ := Aside0.mk (below_step (Qaw) hb); clear HO643; clear HO646; clear HO650; clear HO654; clear HO658; clear HO661; clear HO664; clear HO669; clear HB; have HO643 := n0_; have HO646 := n1_; have HO650 := n2_; have HO654 := n3_; have HO658 := n4_; have HO661 := n5_; have HO664 := n6_; have HO669 := n7_; have HB := n8_; clear n0_ n1_ n2_ n3_ n4_ n5_ n6_ n7_ n8_; (try clear hb); (try clear hb2); (try clear hk); (try clear hi)))
        go_ret
        exact ⟨by first | rfl | (simp [errW_none, errW_some] <;> rfl) | (simp [*, errW_none, errW_some] <;> rfl), by repeat (first | (with_reducible first | exact HB.out | apply below_alloc | apply pw_below_drewN | apply below_drew1) | exact HB.out)⟩
      ·rw [if_neg c44] at H
       have c44b0 : (t656 == 0) = false := beq_eq_false_iff_ne.mpr c44
       have c44b1 : (t656 != 0) = true := bne_iff_ne.mpr c44
       obtain rfl := Option.some.inj H
       go_wp2_with (first | ((with_reducible refine gate_callee (f := 18) rfl ?_); refine goesL_ (some 93) rfl rfl Tryd.func18 (by kernel_rfl) rfl #[.slice A0 l0.length c0] rfl (Qls) ?_; (with_reducible refine (lampblacklaw03_Few.calls _ _ l0 t641 _ ?side1 ?side2 A33.out).mono ?_); (case side1 => exact Qsc (Kd.C_below HR0.out HB.out)); (case side2 => exact HC0.out); rintro e w179 ⟨v642, rfl, ho0, hb⟩; refine ⟨_, rfl, ?_⟩; have n0_ := Aside0.mk (Kd.R_lower ho0 (below_size (Qaw))); have n1_ := Aside0.mk (below_step (Qaw) hb); clear HB; have HO643 := n0_; have HB := n1_; clear n0_ n1_; (try clear hb); (try clear hb2); (try clear hk); (try clear hi); (try clear ho0)) | ((with_reducible refine gate_callee (f := 27) rfl ?_); refine goesL_ (some 95) rfl rfl Tryd.func27 (by kernel_rfl) rfl #[.slice A1 l1.length c1] rfl (Qls) ?_; (with_reducible refine (lampblacklaw03_list.calls _ _ l1 t644 _ ?side1 ?side2 A34.out).mono ?_); (case side1 => exact Qsc (Kd.C_below HR1.out HB.out)); (case side2 => exact HC1.out); rintro e w180 ⟨v645, rfl, ho0, hb⟩; refine ⟨_, rfl, ?_⟩; have n0_ := Aside0.mk (Kd.R_elder' (Qro HO643.out) (Kd.R_base ho0) hb); have n1_ := Aside0.mk (Kd.R_lower (Kd.R_new' ho0 (Kd.R_lt (Qro HO643.out))) (below_size (Qaw))); have n2_ := Aside0.mk (below_step (Qaw) hb); clear HO643; clear HB; have HO643 := n0_; have HO646 := n1_; have HB := n2_; clear n0_ n1_ n2_; (try clear hb); (try clear hb2); (try clear hk); (try clear hi); (try clear ho0); obtain ⟨Ao181, co181, eo181⟩ := Kd.R_slice HO643.out; subst eo181; obtain ⟨Ao182, co182, eo182⟩ := Kd.R_slice HO646.out; subst eo182) | ((with_reducible refine gate_callee (f := 32) rfl ?_); refine goesL_ (some 96) rfl rfl Tryd.func32 (by kernel_rfl) rfl #[.slice Ao181 t641.length co181, .slice Ao182 t644.length co182] rfl (Qls) ?_; (with_reducible refine (sweep_Bags.calls (hGL := (Qlg)) kj11 _ _ t641 _ _ t644 t647 t648 _ ?side1 ?side2 ?side3 ?side4 A35.out).mono ?_); (case side1 => exact Qsc (Kd.R_reads' HO643.out).2.2); (case side2 => exact (Kd.R_reads' HO643.out).2.1); (case side3 => exact Qsc (Kd.R_reads' HO646.out).2.2); (case side4 => exact (Kd.R_reads' HO646.out).2.1); rintro e w183 ⟨v649, rfl, ho0, hb⟩; refine ⟨_, rfl, ?_⟩; have n0_ := Aside0.mk (Kd.R_elder' (Qro HO643.out) (Kd.R_base ho0) hb); have n1_ := Aside0.mk (Kd.R_elder' (Qro HO646.out) (Kd.R_base ho0) hb); have n2_ := Aside0.mk (Kd.R_lower (Kd.R_new' (Kd.R_new' ho0 (Kd.R_lt (Qro HO643.out))) (Kd.R_lt (Qro HO646.out))) (below_size (Qaw))); have n3_ := Aside0.mk (below_step (Qaw) hb); clear HO643; clear HO646; clear HB; have HO643 := n0_; have HO646 := n1_; have HO650 := n2_; have HB := n3_; clear n0_ n1_ n2_ n3_; (try clear hb); (try clear hb2); (try clear hk); (try clear hi); (try clear ho0)) | ((with_reducible refine gate_callee (f := 18) rfl ?_); refine goesL_ (some 108) rfl rfl Tryd.func18 (by kernel_rfl) rfl #[.slice A0 l0.length c0] rfl (Qls) ?_; (with_reducible refine (lampblacklaw03_Few.calls _ _ l0 t652 _ ?side1 ?side2 A37.out).mono ?_); (case side1 => exact Qsc (Kd.C_below HR0.out HB.out)); (case side2 => exact HC0.out); rintro e w184 ⟨v653, rfl, ho0, hb⟩; refine ⟨_, rfl, ?_⟩; have n0_ := Aside0.mk (Kd.R_elder' (Qro HO643.out) (Kd.R_base ho0) hb); have n1_ := Aside0.mk (Kd.R_elder' (Qro HO646.out) (Kd.R_base ho0) hb); have n2_ := Aside0.mk (Kd.R_elder' (Qro HO650.out) (Kd.R_base ho0) hb); have n3_ := Aside0.mk (Kd.R_lower (Kd.R_new' (Kd.R_new' (Kd.R_new' ho0 (Kd.R_lt (Qro HO643.out))) (Kd.R_lt (Qro HO646.out))) (Kd.R_lt (Qro HO650.out))) (below_size (Qaw))); have n4_ := Aside0.mk (below_step (Qaw) hb); clear HO643; clear HO646; clear HO650; clear HB; have HO643 := n0_; have HO646 := n1_; have HO650 := n2_; have HO654 := n3_; have HB := n4_; clear n0_ n1_ n2_ n3_ n4_; (try clear hb); (try clear hb2); (try clear hk); (try clear hi); (try clear ho0); obtain ⟨Ao185, co185, eo185⟩ := Kd.R_slice HO654.out; subst eo185; obtain ⟨Ao186, co186, eo186⟩ := Kd.R_slice HO650.out; subst eo186) | ((with_reducible refine gate_callee (f := 41) rfl ?_); refine goesL_ (some 110) rfl rfl Tryd.func41 (by kernel_rfl) rfl #[.slice Ao185 t652.length co185, .slice Ao186 t647.length co186] rfl (Qls) ?_; (with_reducible refine (sweep_Follow.calls (hGL := (Qlg)) kj11 _ _ t652 _ _ t647 t655 t656 _ ?side1 ?side2 ?side3 ?side4 A38.out).mono ?_); (case side1 => exact Qsc (Kd.R_reads' HO654.out).2.2); (case side2 => exact (Kd.R_reads' HO654.out).2.1); (case side3 => exact Qsc (Kd.R_reads' HO650.out).2.2); (case side4 => exact (Kd.R_reads' HO650.out).2.1); rintro e w187 ⟨v657, rfl, ho0, hb⟩; refine ⟨_, rfl, ?_⟩; have n0_ := Aside0.mk (Kd.R_below (Qro HO643.out) hb); have n1_ := Aside0.mk (Kd.R_below (Qro HO646.out) hb); have n2_ := Aside0.mk (Kd.R_below (Qro HO650.out) hb); have n3_ := Aside0.mk (Kd.R_below (Qro HO654.out) hb); have n4_ := Aside0.mk (Kd.R_lower ho0 (below_size (Qaw))); have n5_ := Aside0.mk (below_step (Qaw) hb); clear HO643; clear HO646; clear HO650; clear HO654; clear HB; have HO643 := n0_; have HO646 := n1_; have HO650 := n2_; have HO654 := n3_; have HO658 := n4_; have HB := n5_; clear n0_ n1_ n2_ n3_ n4_ n5_; (try clear hb); (try clear hb2); (try clear hk); (try clear hi); (try clear ho0)) | ((with_reducible refine gate_callee (f := 18) rfl ?_); refine goesL_ (some 115) rfl rfl Tryd.func18 (by kernel_rfl) rfl #[.slice A0 l0.length c0] rfl (Qls) ?_; (with_reducible refine (lampblacklaw03_Few.calls _ _ l0 t659 _ ?side1 ?side2 A39.out).mono ?_); (case side1 => exact Qsc (Kd.C_below HR0.out HB.out)); (case side2 => exact HC0.out); rintro e w188 ⟨v660, rfl, ho0, hb⟩; refine ⟨_, rfl, ?_⟩; have n0_ := Aside0.mk (Kd.R_elder' (Qro HO643.out) (Kd.R_base ho0) hb); have n1_ := Aside0.mk (Kd.R_elder' (Qro HO646.out) (Kd.R_base ho0) hb); have n2_ := Aside0.mk (Kd.R_elder' (Qro HO650.out) (Kd.R_base ho0) hb); have n3_ := Aside0.mk (Kd.R_elder' (Qro HO654.out) (Kd.R_base ho0) hb); have n4_ := Aside0.mk (Kd.R_below (Qro HO658.out) hb); have n5_ := Aside0.mk (Kd.R_lower (Kd.R_new' (Kd.R_new' (Kd.R_new' (Kd.R_new' ho0 (Kd.R_lt (Qro HO643.out))) (Kd.R_lt (Qro HO646.out))) (Kd.R_lt (Qro HO650.out))) (Kd.R_lt (Qro HO654.out))) (below_size (Qaw))); have n6_ := Aside0.mk (below_step (Qaw) hb); clear HO643; clear HO646; clear HO650; clear HO654; clear HO658; clear HB; have HO643 := n0_; have HO646 := n1_; have HO650 := n2_; have HO654 := n3_; have HO658 := n4_; have HO661 := n5_; have HB := n6_; clear n0_ n1_ n2_ n3_ n4_ n5_ n6_; (try clear hb); (try clear hb2); (try clear hk); (try clear hi); (try clear ho0)) | ((with_reducible refine gate_callee (f := 27) rfl ?_); refine goesL_ (some 117) rfl rfl Tryd.func27 (by kernel_rfl) rfl #[.slice A1 l1.length c1] rfl (Qls) ?_; (with_reducible refine (lampblacklaw03_list.calls _ _ l1 t662 _ ?side1 ?side2 A40.out).mono ?_); (case side1 => exact Qsc (Kd.C_below HR1.out HB.out)); (case side2 => exact HC1.out); rintro e w189 ⟨v663, rfl, ho0, hb⟩; refine ⟨_, rfl, ?_⟩; have n0_ := Aside0.mk (Kd.R_elder' (Qro HO643.out) (Kd.R_base ho0) hb); have n1_ := Aside0.mk (Kd.R_elder' (Qro HO646.out) (Kd.R_base ho0) hb); have n2_ := Aside0.mk (Kd.R_elder' (Qro HO650.out) (Kd.R_base ho0) hb); have n3_ := Aside0.mk (Kd.R_elder' (Qro HO654.out) (Kd.R_base ho0) hb); have n4_ := Aside0.mk (Kd.R_below (Qro HO658.out) hb); have n5_ := Aside0.mk (Kd.R_elder' (Qro HO661.out) (Kd.R_base ho0) hb); have n6_ := Aside0.mk (Kd.R_lower (Kd.R_new' (Kd.R_new' (Kd.R_new' (Kd.R_new' (Kd.R_new' ho0 (Kd.R_lt (Qro HO643.out))) (Kd.R_lt (Qro HO646.out))) (Kd.R_lt (Qro HO650.out))) (Kd.R_lt (Qro HO654.out))) (Kd.R_lt (Qro HO661.out))) (below_size (Qaw))); have n7_ := Aside0.mk (below_step (Qaw) hb); clear HO643; clear HO646; clear HO650; clear HO654; clear HO658; clear HO661; clear HB; have HO643 := n0_; have HO646 := n1_; have HO650 := n2_; have HO654 := n3_; have HO658 := n4_; have HO661 := n5_; have HO664 := n6_; have HB := n7_; clear n0_ n1_ n2_ n3_ n4_ n5_ n6_ n7_; (try clear hb); (try clear hb2); (try clear hk); (try clear hi); (try clear ho0); obtain ⟨Ao190, co190, eo190⟩ := Kd.R_slice HO661.out; subst eo190; obtain ⟨Ao191, co191, eo191⟩ := Kd.R_slice HO664.out; subst eo191) | ((with_reducible refine gate_callee (f := 26) rfl ?_); refine goesL_ (some 118) rfl rfl Tryd.func26 (by kernel_rfl) rfl #[.slice Ao190 t659.length co190, .slice Ao191 t662.length co191] rfl (Qls) ?_; (with_reducible refine (sweep_Breadth.calls (hGL := (Qlg)) kj11 _ _ t659 _ _ t662 t665 t666 _ ?side1 ?side2 ?side3 ?side4 A41.out).mono ?_); (case side1 => exact Qsc (Kd.R_reads' HO661.out).2.2); (case side2 => exact (Kd.R_reads' HO661.out).2.1); (case side3 => exact Qsc (Kd.R_reads' HO664.out).2.2); (case side4 => exact (Kd.R_reads' HO664.out).2.1); rintro e w192 ⟨rfl, hb⟩; refine ⟨_, rfl, ?_⟩; have n0_ := Aside0.mk (Kd.R_below (Qro HO643.out) hb); have n1_ := Aside0.mk (Kd.R_below (Qro HO646.out) hb); have n2_ := Aside0.mk (Kd.R_below (Qro HO650.out) hb); have n3_ := Aside0.mk (Kd.R_below (Qro HO654.out) hb); have n4_ := Aside0.mk (Kd.R_below (Qro HO658.out) hb); have n5_ := Aside0.mk (Kd.R_below (Qro HO661.out) hb); have n6_ := Aside0.mk (Kd.R_below (Qro HO664.out) hb); have n7_ := Aside0.mk (below_step (Qaw) hb); clear HO643; clear HO646; clear HO650; clear HO654; clear HO658; clear HO661; clear HO664; clear HB; have HO643 := n0_; have HO646 := n1_; have HO650 := n2_; have HO654 := n3_; have HO658 := n4_; have HO661 := n5_; have HO664 := n6_; have HB := n7_; clear n0_ n1_ n2_ n3_ n4_ n5_ n6_ n7_; (try clear hb); (try clear hb2); (try clear hk); (try clear hi)) | ((with_reducible refine gate_callee (f := 18) rfl ?_); refine goesL_ (some 123) rfl rfl Tryd.func18 (by kernel_rfl) rfl #[.slice A0 l0.length c0] rfl (Qls) ?_; (with_reducible refine (lampblacklaw03_Few.calls _ _ l0 t667 _ ?side1 ?side2 A42.out).mono ?_); (case side1 => exact Qsc (Kd.C_below HR0.out HB.out)); (case side2 => exact HC0.out); rintro e w193 ⟨v668, rfl, ho0, hb⟩; refine ⟨_, rfl, ?_⟩; have n0_ := Aside0.mk (Kd.R_elder' (Qro HO643.out) (Kd.R_base ho0) hb); have n1_ := Aside0.mk (Kd.R_elder' (Qro HO646.out) (Kd.R_base ho0) hb); have n2_ := Aside0.mk (Kd.R_elder' (Qro HO650.out) (Kd.R_base ho0) hb); have n3_ := Aside0.mk (Kd.R_elder' (Qro HO654.out) (Kd.R_base ho0) hb); have n4_ := Aside0.mk (Kd.R_below (Qro HO658.out) hb); have n5_ := Aside0.mk (Kd.R_elder' (Qro HO661.out) (Kd.R_base ho0) hb); have n6_ := Aside0.mk (Kd.R_elder' (Qro HO664.out) (Kd.R_base ho0) hb); have n7_ := Aside0.mk (Kd.R_lower (Kd.R_new' (Kd.R_new' (Kd.R_new' (Kd.R_new' (Kd.R_new' (Kd.R_new' ho0 (Kd.R_lt (Qro HO643.out))) (Kd.R_lt (Qro HO646.out))) (Kd.R_lt (Qro HO650.out))) (Kd.R_lt (Qro HO654.out))) (Kd.R_lt (Qro HO661.out))) (Kd.R_lt (Qro HO664.out))) (below_size (Qaw))); have n8_ := Aside0.mk (below_step (Qaw) hb); clear HO643; clear HO646; clear HO650; clear HO654; clear HO658; clear HO661; clear HO664; clear HB; have HO643 := n0_; have HO646 := n1_; have HO650 := n2_; have HO654 := n3_; have HO658 := n4_; have HO661 := n5_; have HO664 := n6_; have HO669 := n7_; have HB := n8_; clear n0_ n1_ n2_ n3_ n4_ n5_ n6_ n7_ n8_; (try clear hb); (try clear hb2); (try clear hk); (try clear hi); (try clear ho0); obtain ⟨Ao194, co194, eo194⟩ := Kd.R_slice HO669.out; subst eo194; obtain ⟨Ao195, co195, eo195⟩ := Kd.R_slice HO658.out; subst eo195) | ((with_reducible refine gate_callee (f := 38) rfl ?_); refine goesL_ (some 125) rfl rfl Tryd.func38 (by kernel_rfl) rfl #[.slice Ao194 t667.length co194, .slice Ao195 t655.length co195] rfl (Qls) ?_; (with_reducible refine (sweep_Play.calls (hGL := (Qlg)) _ _ t667 _ _ t655 t670 t671 t672 t673 _ ?side1 ?side2 ?side3 ?side4 A43.out).mono ?_); (case side1 => exact Qsc (Kd.R_reads' HO669.out).2.2); (case side2 => exact (Kd.R_reads' HO669.out).2.1); (case side3 => exact Qsc (Kd.R_reads' HO658.out).2.2); (case side4 => exact (Kd.R_reads' HO658.out).2.1); rintro e w196 ⟨rfl, hb⟩; refine ⟨_, rfl, ?_⟩; have n0_ := Aside0.mk (Kd.R_below (Qro HO643.out) hb); have n1_ := Aside0.mk (Kd.R_below (Qro HO646.out) hb); have n2_ := Aside0.mk (Kd.R_below (Qro HO650.out) hb); have n3_ := Aside0.mk (Kd.R_below (Qro HO654.out) hb); have n4_ := Aside0.mk (Kd.R_below (Qro HO658.out) hb); have n5_ := Aside0.mk (Kd.R_below (Qro HO661.out) hb); have n6_ := Aside0.mk (Kd.R_below (Qro HO664.out) hb); have n7_ := Aside0.mk (Kd.R_below (Qro HO669.out) hb); have n8_ := Aside0.mk (below_step (Qaw) hb); clear HO643; clear HO646; clear HO650; clear HO654; clear HO658; clear HO661; clear HO664; clear HO669; clear HB; have HO643 := n0_; have HO646 := n1_; have HO650 := n2_; have HO654 := n3_; have HO658 := n4_; have HO661 := n5_; have HO664 := n6_; have HO669 := n7_; have HB := n8_; clear n0_ n1_ n2_ n3_ n4_ n5_ n6_ n7_ n8_; (try clear hb); (try clear hb2); (try clear hk); (try clear hi)))
       go_ret
       exact ⟨by first | rfl | (simp [errW_none, errW_some] <;> rfl) | (simp [*, errW_none, errW_some] <;> rfl), by repeat (first | (with_reducible first | exact HB.out | apply below_alloc | apply pw_below_drewN | apply below_drew1) | exact HB.out)⟩
     ·rw [if_neg c36] at H
      have c36b0 : (t648 == 0) = false := beq_eq_false_iff_ne.mpr c36
      have c36b1 : (t648 != 0) = true := bne_iff_ne.mpr c36
      by_cases c197 : t648 = 2
      ·rw [if_pos c197] at H
       have c197b0 : (t648 == 2) = true := beq_iff_eq.mpr c197
       have c197b1 : (t648 != 2) = false := bne_eq_false_iff_eq.mpr c197
       clear c197
       replace H := Option.bind_eq_some_iff.mp H
       obtain ⟨t651, A1980, H⟩ := H
       replace H : (some t651) = some r := H
       have A198 := Aside0.mk A1980
       clear A1980
       obtain rfl := Option.some.inj H
       go_wp2_with (first | ((with_reducible refine gate_callee (f := 18) rfl ?_); refine goesL_ (some 93) rfl rfl Tryd.func18 (by kernel_rfl) rfl #[.slice A0 l0.length c0] rfl (Qls) ?_; (with_reducible refine (lampblacklaw03_Few.calls _ _ l0 t641 _ ?side1 ?side2 A33.out).mono ?_); (case side1 => exact Qsc (Kd.C_below HR0.out HB.out)); (case side2 => exact HC0.out); rintro e w199 ⟨v642, rfl, ho0, hb⟩; refine ⟨_, rfl, ?_⟩; have n0_ := Aside0.mk (Kd.R_lower ho0 (below_size (Qaw))); have n1_ := Aside0.mk (below_step (Qaw) hb); clear HB; have HO643 := n0_; have HB := n1_; clear n0_ n1_; (try clear hb); (try clear hb2); (try clear hk); (try clear hi); (try clear ho0)) | ((with_reducible refine gate_callee (f := 27) rfl ?_); refine goesL_ (some 95) rfl rfl Tryd.func27 (by kernel_rfl) rfl #[.slice A1 l1.length c1] rfl (Qls) ?_; (with_reducible refine (lampblacklaw03_list.calls _ _ l1 t644 _ ?side1 ?side2 A34.out).mono ?_); (case side1 => exact Qsc (Kd.C_below HR1.out HB.out)); (case side2 => exact HC1.out); rintro e w200 ⟨v645, rfl, ho0, hb⟩; refine ⟨_, rfl, ?_⟩; have n0_ := Aside0.mk (Kd.R_elder' (Qro HO643.out) (Kd.R_base ho0) hb); have n1_ := Aside0.mk (Kd.R_lower (Kd.R_new' ho0 (Kd.R_lt (Qro HO643.out))) (below_size (Qaw))); have n2_ := Aside0.mk (below_step (Qaw) hb); clear HO643; clear HB; have HO643 := n0_; have HO646 := n1_; have HB := n2_; clear n0_ n1_ n2_; (try clear hb); (try clear hb2); (try clear hk); (try clear hi); (try clear ho0); obtain ⟨Ao201, co201, eo201⟩ := Kd.R_slice HO643.out; subst eo201; obtain ⟨Ao202, co202, eo202⟩ := Kd.R_slice HO646.out; subst eo202) | ((with_reducible refine gate_callee (f := 32) rfl ?_); refine goesL_ (some 96) rfl rfl Tryd.func32 (by kernel_rfl) rfl #[.slice Ao201 t641.length co201, .slice Ao202 t644.length co202] rfl (Qls) ?_; (with_reducible refine (sweep_Bags.calls (hGL := (Qlg)) kj11 _ _ t641 _ _ t644 t647 t648 _ ?side1 ?side2 ?side3 ?side4 A35.out).mono ?_); (case side1 => exact Qsc (Kd.R_reads' HO643.out).2.2); (case side2 => exact (Kd.R_reads' HO643.out).2.1); (case side3 => exact Qsc (Kd.R_reads' HO646.out).2.2); (case side4 => exact (Kd.R_reads' HO646.out).2.1); rintro e w203 ⟨v649, rfl, ho0, hb⟩; refine ⟨_, rfl, ?_⟩; have n0_ := Aside0.mk (Kd.R_elder' (Qro HO643.out) (Kd.R_base ho0) hb); have n1_ := Aside0.mk (Kd.R_elder' (Qro HO646.out) (Kd.R_base ho0) hb); have n2_ := Aside0.mk (Kd.R_lower (Kd.R_new' (Kd.R_new' ho0 (Kd.R_lt (Qro HO643.out))) (Kd.R_lt (Qro HO646.out))) (below_size (Qaw))); have n3_ := Aside0.mk (below_step (Qaw) hb); clear HO643; clear HO646; clear HB; have HO643 := n0_; have HO646 := n1_; have HO650 := n2_; have HB := n3_; clear n0_ n1_ n2_ n3_; (try clear hb); (try clear hb2); (try clear hk); (try clear hi); (try clear ho0)) | (go_at_call 20; (with_reducible refine (lampblacklaw03_awake.calls (hGL := (Qlg)) kj11  t651 _ A198.out).mono ?_); rintro e w204 ⟨rfl, hb⟩; have n0_ := Aside0.mk (Kd.R_below (Qro HO643.out) hb); have n1_ := Aside0.mk (Kd.R_below (Qro HO646.out) hb); have n2_ := Aside0.mk (Kd.R_below (Qro HO650.out) hb); have n3_ := Aside0.mk (below_step (Qaw) hb); clear HO643; clear HO646; clear HO650; clear HB; have HO643 := n0_; have HO646 := n1_; have HO650 := n2_; have HB := n3_; clear n0_ n1_ n2_ n3_; (try clear hb); (try clear hb2); (try clear hk); (try clear hi)))
       go_ret
       exact ⟨by first | rfl | (simp [errW_none, errW_some] <;> rfl) | (simp [*, errW_none, errW_some] <;> rfl), by repeat (first | (with_reducible first | exact HB.out | apply below_alloc | apply pw_below_drewN | apply below_drew1) | exact HB.out)⟩
      ·rw [if_neg c197] at H
       have c197b0 : (t648 == 2) = false := beq_eq_false_iff_ne.mpr c197
       have c197b1 : (t648 != 2) = true := bne_iff_ne.mpr c197
       obtain rfl := Option.some.inj H
       go_wp2_with (first | ((with_reducible refine gate_callee (f := 18) rfl ?_); refine goesL_ (some 93) rfl rfl Tryd.func18 (by kernel_rfl) rfl #[.slice A0 l0.length c0] rfl (Qls) ?_; (with_reducible refine (lampblacklaw03_Few.calls _ _ l0 t641 _ ?side1 ?side2 A33.out).mono ?_); (case side1 => exact Qsc (Kd.C_below HR0.out HB.out)); (case side2 => exact HC0.out); rintro e w205 ⟨v642, rfl, ho0, hb⟩; refine ⟨_, rfl, ?_⟩; have n0_ := Aside0.mk (Kd.R_lower ho0 (below_size (Qaw))); have n1_ := Aside0.mk (below_step (Qaw) hb); clear HB; have HO643 := n0_; have HB := n1_; clear n0_ n1_; (try clear hb); (try clear hb2); (try clear hk); (try clear hi); (try clear ho0)) | ((with_reducible refine gate_callee (f := 27) rfl ?_); refine goesL_ (some 95) rfl rfl Tryd.func27 (by kernel_rfl) rfl #[.slice A1 l1.length c1] rfl (Qls) ?_; (with_reducible refine (lampblacklaw03_list.calls _ _ l1 t644 _ ?side1 ?side2 A34.out).mono ?_); (case side1 => exact Qsc (Kd.C_below HR1.out HB.out)); (case side2 => exact HC1.out); rintro e w206 ⟨v645, rfl, ho0, hb⟩; refine ⟨_, rfl, ?_⟩; have n0_ := Aside0.mk (Kd.R_elder' (Qro HO643.out) (Kd.R_base ho0) hb); have n1_ := Aside0.mk (Kd.R_lower (Kd.R_new' ho0 (Kd.R_lt (Qro HO643.out))) (below_size (Qaw))); have n2_ := Aside0.mk (below_step (Qaw) hb); clear HO643; clear HB; have HO643 := n0_; have HO646 := n1_; have HB := n2_; clear n0_ n1_ n2_; (try clear hb); (try clear hb2); (try clear hk); (try clear hi); (try clear ho0); obtain ⟨Ao207, co207, eo207⟩ := Kd.R_slice HO643.out; subst eo207; obtain ⟨Ao208, co208, eo208⟩ := Kd.R_slice HO646.out; subst eo208) | ((with_reducible refine gate_callee (f := 32) rfl ?_); refine goesL_ (some 96) rfl rfl Tryd.func32 (by kernel_rfl) rfl #[.slice Ao207 t641.length co207, .slice Ao208 t644.length co208] rfl (Qls) ?_; (with_reducible refine (sweep_Bags.calls (hGL := (Qlg)) kj11 _ _ t641 _ _ t644 t647 t648 _ ?side1 ?side2 ?side3 ?side4 A35.out).mono ?_); (case side1 => exact Qsc (Kd.R_reads' HO643.out).2.2); (case side2 => exact (Kd.R_reads' HO643.out).2.1); (case side3 => exact Qsc (Kd.R_reads' HO646.out).2.2); (case side4 => exact (Kd.R_reads' HO646.out).2.1); rintro e w209 ⟨v649, rfl, ho0, hb⟩; refine ⟨_, rfl, ?_⟩; have n0_ := Aside0.mk (Kd.R_elder' (Qro HO643.out) (Kd.R_base ho0) hb); have n1_ := Aside0.mk (Kd.R_elder' (Qro HO646.out) (Kd.R_base ho0) hb); have n2_ := Aside0.mk (Kd.R_lower (Kd.R_new' (Kd.R_new' ho0 (Kd.R_lt (Qro HO643.out))) (Kd.R_lt (Qro HO646.out))) (below_size (Qaw))); have n3_ := Aside0.mk (below_step (Qaw) hb); clear HO643; clear HO646; clear HB; have HO643 := n0_; have HO646 := n1_; have HO650 := n2_; have HB := n3_; clear n0_ n1_ n2_ n3_; (try clear hb); (try clear hb2); (try clear hk); (try clear hi); (try clear ho0)))
       go_ret
       exact ⟨by first | rfl | (simp [errW_none, errW_some] <;> rfl) | (simp [*, errW_none, errW_some] <;> rfl), by repeat (first | (with_reducible first | exact HB.out | apply below_alloc | apply pw_below_drewN | apply below_drew1) | exact HB.out)⟩
 ·rw [if_neg c9] at H
  have c9b0 : (t618 == 0) = false := beq_eq_false_iff_ne.mpr c9
  have c9b1 : (t618 != 0) = true := bne_iff_ne.mpr c9
  by_cases c210 : t618 = 2
  ·rw [if_pos c210] at H
   have c210b0 : (t618 == 2) = true := beq_iff_eq.mpr c210
   have c210b1 : (t618 != 2) = false := bne_eq_false_iff_eq.mpr c210
   clear c210
   by_cases c211 : t625 = 2
   ·rw [if_pos c211] at H
    have c211b0 : (t625 == 2) = true := beq_iff_eq.mpr c211
    have c211b1 : (t625 != 2) = false := bne_eq_false_iff_eq.mpr c211
    clear c211
    by_cases c212 : t632 = 2
    ·rw [if_pos c212] at H
     have c212b0 : (t632 == 2) = true := beq_iff_eq.mpr c212
     have c212b1 : (t632 != 2) = false := bne_eq_false_iff_eq.mpr c212
     clear c212
     replace H := Option.bind_eq_some_iff.mp H
     obtain ⟨t633, A2130, H⟩ := H
     replace H : (some t633) = some r := H
     have A213 := Aside0.mk A2130
     clear A2130
     obtain rfl := Option.some.inj H
     go_enter Tryd.func15, Tryd.ntmps15
     go_wp2_with (first | ((with_reducible refine gate_callee (f := 18) rfl ?_); refine goesL_ (some 21) rfl rfl Tryd.func18 (by kernel_rfl) rfl #[.slice A0 l0.length c0] rfl (Qls) ?_; (with_reducible refine (lampblacklaw03_Few.calls _ _ l0 t613 _ ?side1 ?side2 A3.out).mono ?_); (case side1 => exact Qsc HR0.out); (case side2 => exact HC0.out); rintro e w214 ⟨v614, rfl, ho0, hb⟩; refine ⟨_, rfl, ?_⟩; have n0_ := Aside0.mk (Kd.R_lower ho0 (below_size (Qaw))); have n1_ := Aside0.mk (below_step (Qaw) hb); clear HB; have HO615 := n0_; have HB := n1_; clear n0_ n1_; (try clear hb); (try clear hb2); (try clear hk); (try clear hi); (try clear ho0); obtain ⟨Ao215, co215, eo215⟩ := Kd.R_slice HO615.out; subst eo215) | ((with_reducible refine gate_callee (f := 22) rfl ?_); refine goesL_ (some 22) rfl rfl Tryd.func22 (by kernel_rfl) rfl #[.slice Ao215 t613.length co215] rfl (Qls) ?_; (with_reducible refine (sweep_Layout.calls (hGL := (Qlg)) k _ _ t613 t616 t617 t618 _ ?side1 ?side2 A4.out).mono ?_); (case side1 => exact Qsc (Kd.R_reads' HO615.out).2.2); (case side2 => exact (Kd.R_reads' HO615.out).2.1); rintro e w216 ⟨v619, rfl, ho0, hb⟩; refine ⟨_, rfl, ?_⟩; have n0_ := Aside0.mk (Kd.R_elder' (Qro HO615.out) (Kd.R_base ho0) hb); have n1_ := Aside0.mk (Kd.R_lower (Kd.R_new' ho0 (Kd.R_lt (Qro HO615.out))) (below_size (Qaw))); have n2_ := Aside0.mk (below_step (Qaw) hb); clear HO615; clear HB; have HO615 := n0_; have HO620 := n1_; have HB := n2_; clear n0_ n1_ n2_; (try clear hb); (try clear hb2); (try clear hk); (try clear hi); (try clear ho0)) | ((with_reducible refine gate_callee (f := 18) rfl ?_); refine goesL_ (some 28) rfl rfl Tryd.func18 (by kernel_rfl) rfl #[.slice A0 l0.length c0] rfl (Qls) ?_; (with_reducible refine (lampblacklaw03_Few.calls _ _ l0 t621 _ ?side1 ?side2 A5.out).mono ?_); (case side1 => exact Qsc (Kd.C_below HR0.out HB.out)); (case side2 => exact HC0.out); rintro e w217 ⟨v622, rfl, ho0, hb⟩; refine ⟨_, rfl, ?_⟩; have n0_ := Aside0.mk (Kd.R_elder' (Qro HO615.out) (Kd.R_base ho0) hb); have n1_ := Aside0.mk (Kd.R_elder' (Qro HO620.out) (Kd.R_base ho0) hb); have n2_ := Aside0.mk (Kd.R_lower (Kd.R_new' (Kd.R_new' ho0 (Kd.R_lt (Qro HO615.out))) (Kd.R_lt (Qro HO620.out))) (below_size (Qaw))); have n3_ := Aside0.mk (below_step (Qaw) hb); clear HO615; clear HO620; clear HB; have HO615 := n0_; have HO620 := n1_; have HO623 := n2_; have HB := n3_; clear n0_ n1_ n2_ n3_; (try clear hb); (try clear hb2); (try clear hk); (try clear hi); (try clear ho0); obtain ⟨Ao218, co218, eo218⟩ := Kd.R_slice HO623.out; subst eo218) | ((with_reducible refine gate_callee (f := 23) rfl ?_); refine goesL_ (some 29) rfl rfl Tryd.func23 (by kernel_rfl) rfl #[.slice Ao218 t621.length co218] rfl (Qls) ?_; (with_reducible refine (sweep_Plan.calls (hGL := (Qlg)) k _ _ t621 t624 t625 _ ?side1 ?side2 A6.out).mono ?_); (case side1 => exact Qsc (Kd.R_reads' HO623.out).2.2); (case side2 => exact (Kd.R_reads' HO623.out).2.1); rintro e w219 ⟨v626, rfl, ho0, hb⟩; refine ⟨_, rfl, ?_⟩; have n0_ := Aside0.mk (Kd.R_below (Qro HO615.out) hb); have n1_ := Aside0.mk (Kd.R_below (Qro HO620.out) hb); have n2_ := Aside0.mk (Kd.R_below (Qro HO623.out) hb); have n3_ := Aside0.mk (Kd.R_lower ho0 (below_size (Qaw))); have n4_ := Aside0.mk (below_step (Qaw) hb); clear HO615; clear HO620; clear HO623; clear HB; have HO615 := n0_; have HO620 := n1_; have HO623 := n2_; have HO627 := n3_; have HB := n4_; clear n0_ n1_ n2_ n3_ n4_; (try clear hb); (try clear hb2); (try clear hk); (try clear hi); (try clear ho0)) | ((with_reducible refine gate_callee (f := 18) rfl ?_); refine goesL_ (some 34) rfl rfl Tryd.func18 (by kernel_rfl) rfl #[.slice A0 l0.length c0] rfl (Qls) ?_; (with_reducible refine (lampblacklaw03_Few.calls _ _ l0 t628 _ ?side1 ?side2 A7.out).mono ?_); (case side1 => exact Qsc (Kd.C_below HR0.out HB.out)); (case side2 => exact HC0.out); rintro e w220 ⟨v629, rfl, ho0, hb⟩; refine ⟨_, rfl, ?_⟩; have n0_ := Aside0.mk (Kd.R_elder' (Qro HO615.out) (Kd.R_base ho0) hb); have n1_ := Aside0.mk (Kd.R_elder' (Qro HO620.out) (Kd.R_base ho0) hb); have n2_ := Aside0.mk (Kd.R_elder' (Qro HO623.out) (Kd.R_base ho0) hb); have n3_ := Aside0.mk (Kd.R_below (Qro HO627.out) hb); have n4_ := Aside0.mk (Kd.R_lower (Kd.R_new' (Kd.R_new' (Kd.R_new' ho0 (Kd.R_lt (Qro HO615.out))) (Kd.R_lt (Qro HO620.out))) (Kd.R_lt (Qro HO623.out))) (below_size (Qaw))); have n5_ := Aside0.mk (below_step (Qaw) hb); clear HO615; clear HO620; clear HO623; clear HO627; clear HB; have HO615 := n0_; have HO620 := n1_; have HO623 := n2_; have HO627 := n3_; have HO630 := n4_; have HB := n5_; clear n0_ n1_ n2_ n3_ n4_ n5_; (try clear hb); (try clear hb2); (try clear hk); (try clear hi); (try clear ho0); obtain ⟨Ao221, co221, eo221⟩ := Kd.R_slice HO630.out; subst eo221) | ((with_reducible refine gate_callee (f := 17) rfl ?_); refine goesL_ (some 35) rfl rfl Tryd.func17 (by kernel_rfl) rfl #[.slice Ao221 t628.length co221] rfl (Qls) ?_; (with_reducible refine (sweep_Least.calls (hGL := (Qlg)) k _ _ t628 t631 t632 _ ?side1 ?side2 A8.out).mono ?_); (case side1 => exact Qsc (Kd.R_reads' HO630.out).2.2); (case side2 => exact (Kd.R_reads' HO630.out).2.1); rintro e w222 ⟨rfl, hb⟩; refine ⟨_, rfl, ?_⟩; have n0_ := Aside0.mk (Kd.R_below (Qro HO615.out) hb); have n1_ := Aside0.mk (Kd.R_below (Qro HO620.out) hb); have n2_ := Aside0.mk (Kd.R_below (Qro HO623.out) hb); have n3_ := Aside0.mk (Kd.R_below (Qro HO627.out) hb); have n4_ := Aside0.mk (Kd.R_below (Qro HO630.out) hb); have n5_ := Aside0.mk (below_step (Qaw) hb); clear HO615; clear HO620; clear HO623; clear HO627; clear HO630; clear HB; have HO615 := n0_; have HO620 := n1_; have HO623 := n2_; have HO627 := n3_; have HO630 := n4_; have HB := n5_; clear n0_ n1_ n2_ n3_ n4_ n5_; (try clear hb); (try clear hb2); (try clear hk); (try clear hi)) | (go_at_call 20; (with_reducible refine (lampblacklaw03_awake.calls (hGL := (Qlg)) k  t633 _ A213.out).mono ?_); rintro e w223 ⟨rfl, hb⟩; have n0_ := Aside0.mk (Kd.R_below (Qro HO615.out) hb); have n1_ := Aside0.mk (Kd.R_below (Qro HO620.out) hb); have n2_ := Aside0.mk (Kd.R_below (Qro HO623.out) hb); have n3_ := Aside0.mk (Kd.R_below (Qro HO627.out) hb); have n4_ := Aside0.mk (Kd.R_below (Qro HO630.out) hb); have n5_ := Aside0.mk (below_step (Qaw) hb); clear HO615; clear HO620; clear HO623; clear HO627; clear HO630; clear HB; have HO615 := n0_; have HO620 := n1_; have HO623 := n2_; have HO627 := n3_; have HO630 := n4_; have HB := n5_; clear n0_ n1_ n2_ n3_ n4_ n5_; (try clear hb); (try clear hb2); (try clear hk); (try clear hi)))
     go_ret
     exact ⟨by first | rfl | (simp [errW_none, errW_some] <;> rfl) | (simp [*, errW_none, errW_some] <;> rfl), by repeat (first | (with_reducible first | exact HB.out | apply below_alloc | apply pw_below_drewN | apply below_drew1) | exact HB.out)⟩
    ·rw [if_neg c212] at H
     have c212b0 : (t632 == 2) = false := beq_eq_false_iff_ne.mpr c212
     have c212b1 : (t632 != 2) = true := bne_iff_ne.mpr c212
     obtain rfl := Option.some.inj H
     go_enter Tryd.func15, Tryd.ntmps15
     go_wp2_with (first | ((with_reducible refine gate_callee (f := 18) rfl ?_); refine goesL_ (some 21) rfl rfl Tryd.func18 (by kernel_rfl) rfl #[.slice A0 l0.length c0] rfl (Qls) ?_; (with_reducible refine (lampblacklaw03_Few.calls _ _ l0 t613 _ ?side1 ?side2 A3.out).mono ?_); (case side1 => exact Qsc HR0.out); (case side2 => exact HC0.out); rintro e w224 ⟨v614, rfl, ho0, hb⟩; refine ⟨_, rfl, ?_⟩; have n0_ := Aside0.mk (Kd.R_lower ho0 (below_size (Qaw))); have n1_ := Aside0.mk (below_step (Qaw) hb); clear HB; have HO615 := n0_; have HB := n1_; clear n0_ n1_; (try clear hb); (try clear hb2); (try clear hk); (try clear hi); (try clear ho0); obtain ⟨Ao225, co225, eo225⟩ := Kd.R_slice HO615.out; subst eo225) | ((with_reducible refine gate_callee (f := 22) rfl ?_); refine goesL_ (some 22) rfl rfl Tryd.func22 (by kernel_rfl) rfl #[.slice Ao225 t613.length co225] rfl (Qls) ?_; (with_reducible refine (sweep_Layout.calls (hGL := (Qlg)) k _ _ t613 t616 t617 t618 _ ?side1 ?side2 A4.out).mono ?_); (case side1 => exact Qsc (Kd.R_reads' HO615.out).2.2); (case side2 => exact (Kd.R_reads' HO615.out).2.1); rintro e w226 ⟨v619, rfl, ho0, hb⟩; refine ⟨_, rfl, ?_⟩; have n0_ := Aside0.mk (Kd.R_elder' (Qro HO615.out) (Kd.R_base ho0) hb); have n1_ := Aside0.mk (Kd.R_lower (Kd.R_new' ho0 (Kd.R_lt (Qro HO615.out))) (below_size (Qaw))); have n2_ := Aside0.mk (below_step (Qaw) hb); clear HO615; clear HB; have HO615 := n0_; have HO620 := n1_; have HB := n2_; clear n0_ n1_ n2_; (try clear hb); (try clear hb2); (try clear hk); (try clear hi); (try clear ho0)) | ((with_reducible refine gate_callee (f := 18) rfl ?_); refine goesL_ (some 28) rfl rfl Tryd.func18 (by kernel_rfl) rfl #[.slice A0 l0.length c0] rfl (Qls) ?_; (with_reducible refine (lampblacklaw03_Few.calls _ _ l0 t621 _ ?side1 ?side2 A5.out).mono ?_); (case side1 => exact Qsc (Kd.C_below HR0.out HB.out)); (case side2 => exact HC0.out); rintro e w227 ⟨v622, rfl, ho0, hb⟩; refine ⟨_, rfl, ?_⟩; have n0_ := Aside0.mk (Kd.R_elder' (Qro HO615.out) (Kd.R_base ho0) hb); have n1_ := Aside0.mk (Kd.R_elder' (Qro HO620.out) (Kd.R_base ho0) hb); have n2_ := Aside0.mk (Kd.R_lower (Kd.R_new' (Kd.R_new' ho0 (Kd.R_lt (Qro HO615.out))) (Kd.R_lt (Qro HO620.out))) (below_size (Qaw))); have n3_ := Aside0.mk (below_step (Qaw) hb); clear HO615; clear HO620; clear HB; have HO615 := n0_; have HO620 := n1_; have HO623 := n2_; have HB := n3_; clear n0_ n1_ n2_ n3_; (try clear hb); (try clear hb2); (try clear hk); (try clear hi); (try clear ho0); obtain ⟨Ao228, co228, eo228⟩ := Kd.R_slice HO623.out; subst eo228) | ((with_reducible refine gate_callee (f := 23) rfl ?_); refine goesL_ (some 29) rfl rfl Tryd.func23 (by kernel_rfl) rfl #[.slice Ao228 t621.length co228] rfl (Qls) ?_; (with_reducible refine (sweep_Plan.calls (hGL := (Qlg)) k _ _ t621 t624 t625 _ ?side1 ?side2 A6.out).mono ?_); (case side1 => exact Qsc (Kd.R_reads' HO623.out).2.2); (case side2 => exact (Kd.R_reads' HO623.out).2.1); rintro e w229 ⟨v626, rfl, ho0, hb⟩; refine ⟨_, rfl, ?_⟩; have n0_ := Aside0.mk (Kd.R_below (Qro HO615.out) hb); have n1_ := Aside0.mk (Kd.R_below (Qro HO620.out) hb); have n2_ := Aside0.mk (Kd.R_below (Qro HO623.out) hb); have n3_ := Aside0.mk (Kd.R_lower ho0 (below_size (Qaw))); have n4_ := Aside0.mk (below_step (Qaw) hb); clear HO615; clear HO620; clear HO623; clear HB; have HO615 := n0_; have HO620 := n1_; have HO623 := n2_; have HO627 := n3_; have HB := n4_; clear n0_ n1_ n2_ n3_ n4_; (try clear hb); (try clear hb2); (try clear hk); (try clear hi); (try clear ho0)) | ((with_reducible refine gate_callee (f := 18) rfl ?_); refine goesL_ (some 34) rfl rfl Tryd.func18 (by kernel_rfl) rfl #[.slice A0 l0.length c0] rfl (Qls) ?_; (with_reducible refine (lampblacklaw03_Few.calls _ _ l0 t628 _ ?side1 ?side2 A7.out).mono ?_); (case side1 => exact Qsc (Kd.C_below HR0.out HB.out)); (case side2 => exact HC0.out); rintro e w230 ⟨v629, rfl, ho0, hb⟩; refine ⟨_, rfl, ?_⟩; have n0_ := Aside0.mk (Kd.R_elder' (Qro HO615.out) (Kd.R_base ho0) hb); have n1_ := Aside0.mk (Kd.R_elder' (Qro HO620.out) (Kd.R_base ho0) hb); have n2_ := Aside0.mk (Kd.R_elder' (Qro HO623.out) (Kd.R_base ho0) hb); have n3_ := Aside0.mk (Kd.R_below (Qro HO627.out) hb); have n4_ := Aside0.mk (Kd.R_lower (Kd.R_new' (Kd.R_new' (Kd.R_new' ho0 (Kd.R_lt (Qro HO615.out))) (Kd.R_lt (Qro HO620.out))) (Kd.R_lt (Qro HO623.out))) (below_size (Qaw))); have n5_ := Aside0.mk (below_step (Qaw) hb); clear HO615; clear HO620; clear HO623; clear HO627; clear HB; have HO615 := n0_; have HO620 := n1_; have HO623 := n2_; have HO627 := n3_; have HO630 := n4_; have HB := n5_; clear n0_ n1_ n2_ n3_ n4_ n5_; (try clear hb); (try clear hb2); (try clear hk); (try clear hi); (try clear ho0); obtain ⟨Ao231, co231, eo231⟩ := Kd.R_slice HO630.out; subst eo231) | ((with_reducible refine gate_callee (f := 17) rfl ?_); refine goesL_ (some 35) rfl rfl Tryd.func17 (by kernel_rfl) rfl #[.slice Ao231 t628.length co231] rfl (Qls) ?_; (with_reducible refine (sweep_Least.calls (hGL := (Qlg)) k _ _ t628 t631 t632 _ ?side1 ?side2 A8.out).mono ?_); (case side1 => exact Qsc (Kd.R_reads' HO630.out).2.2); (case side2 => exact (Kd.R_reads' HO630.out).2.1); rintro e w232 ⟨rfl, hb⟩; refine ⟨_, rfl, ?_⟩; have n0_ := Aside0.mk (Kd.R_below (Qro HO615.out) hb); have n1_ := Aside0.mk (Kd.R_below (Qro HO620.out) hb); have n2_ := Aside0.mk (Kd.R_below (Qro HO623.out) hb); have n3_ := Aside0.mk (Kd.R_below (Qro HO627.out) hb); have n4_ := Aside0.mk (Kd.R_below (Qro HO630.out) hb); have n5_ := Aside0.mk (below_step (Qaw) hb); clear HO615; clear HO620; clear HO623; clear HO627; clear HO630; clear HB; have HO615 := n0_; have HO620 := n1_; have HO623 := n2_; have HO627 := n3_; have HO630 := n4_; have HB := n5_; clear n0_ n1_ n2_ n3_ n4_ n5_; (try clear hb); (try clear hb2); (try clear hk); (try clear hi)))
     go_ret
     exact ⟨by first | rfl | (simp [errW_none, errW_some] <;> rfl) | (simp [*, errW_none, errW_some] <;> rfl), by repeat (first | (with_reducible first | exact HB.out | apply below_alloc | apply pw_below_drewN | apply below_drew1) | exact HB.out)⟩
   ·rw [if_neg c211] at H
    have c211b0 : (t625 == 2) = false := beq_eq_false_iff_ne.mpr c211
    have c211b1 : (t625 != 2) = true := bne_iff_ne.mpr c211
    obtain rfl := Option.some.inj H
    go_enter Tryd.func15, Tryd.ntmps15
    go_wp2_with (first | ((with_reducible refine gate_callee (f := 18) rfl ?_); refine goesL_ (some 21) rfl rfl Tryd.func18 (by kernel_rfl) rfl #[.slice A0 l0.length c0] rfl (Qls) ?_; (with_reducible refine (lampblacklaw03_Few.calls _ _ l0 t613 _ ?side1 ?side2 A3.out).mono ?_); (case side1 => exact Qsc HR0.out); (case side2 => exact HC0.out); rintro e w233 ⟨v614, rfl, ho0, hb⟩; refine ⟨_, rfl, ?_⟩; have n0_ := Aside0.mk (Kd.R_lower ho0 (below_size (Qaw))); have n1_ := Aside0.mk (below_step (Qaw) hb); clear HB; have HO615 := n0_; have HB := n1_; clear n0_ n1_; (try clear hb); (try clear hb2); (try clear hk); (try clear hi); (try clear ho0); obtain ⟨Ao234, co234, eo234⟩ := Kd.R_slice HO615.out; subst eo234) | ((with_reducible refine gate_callee (f := 22) rfl ?_); refine goesL_ (some 22) rfl rfl Tryd.func22 (by kernel_rfl) rfl #[.slice Ao234 t613.length co234] rfl (Qls) ?_; (with_reducible refine (sweep_Layout.calls (hGL := (Qlg)) k _ _ t613 t616 t617 t618 _ ?side1 ?side2 A4.out).mono ?_); (case side1 => exact Qsc (Kd.R_reads' HO615.out).2.2); (case side2 => exact (Kd.R_reads' HO615.out).2.1); rintro e w235 ⟨v619, rfl, ho0, hb⟩; refine ⟨_, rfl, ?_⟩; have n0_ := Aside0.mk (Kd.R_elder' (Qro HO615.out) (Kd.R_base ho0) hb); have n1_ := Aside0.mk (Kd.R_lower (Kd.R_new' ho0 (Kd.R_lt (Qro HO615.out))) (below_size (Qaw))); have n2_ := Aside0.mk (below_step (Qaw) hb); clear HO615; clear HB; have HO615 := n0_; have HO620 := n1_; have HB := n2_; clear n0_ n1_ n2_; (try clear hb); (try clear hb2); (try clear hk); (try clear hi); (try clear ho0)) | ((with_reducible refine gate_callee (f := 18) rfl ?_); refine goesL_ (some 28) rfl rfl Tryd.func18 (by kernel_rfl) rfl #[.slice A0 l0.length c0] rfl (Qls) ?_; (with_reducible refine (lampblacklaw03_Few.calls _ _ l0 t621 _ ?side1 ?side2 A5.out).mono ?_); (case side1 => exact Qsc (Kd.C_below HR0.out HB.out)); (case side2 => exact HC0.out); rintro e w236 ⟨v622, rfl, ho0, hb⟩; refine ⟨_, rfl, ?_⟩; have n0_ := Aside0.mk (Kd.R_elder' (Qro HO615.out) (Kd.R_base ho0) hb); have n1_ := Aside0.mk (Kd.R_elder' (Qro HO620.out) (Kd.R_base ho0) hb); have n2_ := Aside0.mk (Kd.R_lower (Kd.R_new' (Kd.R_new' ho0 (Kd.R_lt (Qro HO615.out))) (Kd.R_lt (Qro HO620.out))) (below_size (Qaw))); have n3_ := Aside0.mk (below_step (Qaw) hb); clear HO615; clear HO620; clear HB; have HO615 := n0_; have HO620 := n1_; have HO623 := n2_; have HB := n3_; clear n0_ n1_ n2_ n3_; (try clear hb); (try clear hb2); (try clear hk); (try clear hi); (try clear ho0); obtain ⟨Ao237, co237, eo237⟩ := Kd.R_slice HO623.out; subst eo237) | ((with_reducible refine gate_callee (f := 23) rfl ?_); refine goesL_ (some 29) rfl rfl Tryd.func23 (by kernel_rfl) rfl #[.slice Ao237 t621.length co237] rfl (Qls) ?_; (with_reducible refine (sweep_Plan.calls (hGL := (Qlg)) k _ _ t621 t624 t625 _ ?side1 ?side2 A6.out).mono ?_); (case side1 => exact Qsc (Kd.R_reads' HO623.out).2.2); (case side2 => exact (Kd.R_reads' HO623.out).2.1); rintro e w238 ⟨v626, rfl, ho0, hb⟩; refine ⟨_, rfl, ?_⟩; have n0_ := Aside0.mk (Kd.R_below (Qro HO615.out) hb); have n1_ := Aside0.mk (Kd.R_below (Qro HO620.out) hb); have n2_ := Aside0.mk (Kd.R_below (Qro HO623.out) hb); have n3_ := Aside0.mk (Kd.R_lower ho0 (below_size (Qaw))); have n4_ := Aside0.mk (below_step (Qaw) hb); clear HO615; clear HO620; clear HO623; clear HB; have HO615 := n0_; have HO620 := n1_; have HO623 := n2_; have HO627 := n3_; have HB := n4_; clear n0_ n1_ n2_ n3_ n4_; (try clear hb); (try clear hb2); (try clear hk); (try clear hi); (try clear ho0)) | ((with_reducible refine gate_callee (f := 18) rfl ?_); refine goesL_ (some 34) rfl rfl Tryd.func18 (by kernel_rfl) rfl #[.slice A0 l0.length c0] rfl (Qls) ?_; (with_reducible refine (lampblacklaw03_Few.calls _ _ l0 t628 _ ?side1 ?side2 A7.out).mono ?_); (case side1 => exact Qsc (Kd.C_below HR0.out HB.out)); (case side2 => exact HC0.out); rintro e w239 ⟨v629, rfl, ho0, hb⟩; refine ⟨_, rfl, ?_⟩; have n0_ := Aside0.mk (Kd.R_elder' (Qro HO615.out) (Kd.R_base ho0) hb); have n1_ := Aside0.mk (Kd.R_elder' (Qro HO620.out) (Kd.R_base ho0) hb); have n2_ := Aside0.mk (Kd.R_elder' (Qro HO623.out) (Kd.R_base ho0) hb); have n3_ := Aside0.mk (Kd.R_below (Qro HO627.out) hb); have n4_ := Aside0.mk (Kd.R_lower (Kd.R_new' (Kd.R_new' (Kd.R_new' ho0 (Kd.R_lt (Qro HO615.out))) (Kd.R_lt (Qro HO620.out))) (Kd.R_lt (Qro HO623.out))) (below_size (Qaw))); have n5_ := Aside0.mk (below_step (Qaw) hb); clear HO615; clear HO620; clear HO623; clear HO627; clear HB; have HO615 := n0_; have HO620 := n1_; have HO623 := n2_; have HO627 := n3_; have HO630 := n4_; have HB := n5_; clear n0_ n1_ n2_ n3_ n4_ n5_; (try clear hb); (try clear hb2); (try clear hk); (try clear hi); (try clear ho0); obtain ⟨Ao240, co240, eo240⟩ := Kd.R_slice HO630.out; subst eo240) | ((with_reducible refine gate_callee (f := 17) rfl ?_); refine goesL_ (some 35) rfl rfl Tryd.func17 (by kernel_rfl) rfl #[.slice Ao240 t628.length co240] rfl (Qls) ?_; (with_reducible refine (sweep_Least.calls (hGL := (Qlg)) k _ _ t628 t631 t632 _ ?side1 ?side2 A8.out).mono ?_); (case side1 => exact Qsc (Kd.R_reads' HO630.out).2.2); (case side2 => exact (Kd.R_reads' HO630.out).2.1); rintro e w241 ⟨rfl, hb⟩; refine ⟨_, rfl, ?_⟩; have n0_ := Aside0.mk (Kd.R_below (Qro HO615.out) hb); have n1_ := Aside0.mk (Kd.R_below (Qro HO620.out) hb); have n2_ := Aside0.mk (Kd.R_below (Qro HO623.out) hb); have n3_ := Aside0.mk (Kd.R_below (Qro HO627.out) hb); have n4_ := Aside0.mk (Kd.R_below (Qro HO630.out) hb); have n5_ := Aside0.mk (below_step (Qaw) hb); clear HO615; clear HO620; clear HO623; clear HO627; clear HO630; clear HB; have HO615 := n0_; have HO620 := n1_; have HO623 := n2_; have HO627 := n3_; have HO630 := n4_; have HB := n5_; clear n0_ n1_ n2_ n3_ n4_ n5_; (try clear hb); (try clear hb2); (try clear hk); (try clear hi)))
    go_ret
    exact ⟨by first | rfl | (simp [errW_none, errW_some] <;> rfl) | (simp [*, errW_none, errW_some] <;> rfl), by repeat (first | (with_reducible first | exact HB.out | apply below_alloc | apply pw_below_drewN | apply below_drew1) | exact HB.out)⟩
  ·rw [if_neg c210] at H
   have c210b0 : (t618 == 2) = false := beq_eq_false_iff_ne.mpr c210
   have c210b1 : (t618 != 2) = true := bne_iff_ne.mpr c210
   obtain rfl := Option.some.inj H
   go_enter Tryd.func15, Tryd.ntmps15
   go_wp2_with (first | ((with_reducible refine gate_callee (f := 18) rfl ?_); refine goesL_ (some 21) rfl rfl Tryd.func18 (by kernel_rfl) rfl #[.slice A0 l0.length c0] rfl (Qls) ?_; (with_reducible refine (lampblacklaw03_Few.calls _ _ l0 t613 _ ?side1 ?side2 A3.out).mono ?_); (case side1 => exact Qsc HR0.out); (case side2 => exact HC0.out); rintro e w242 ⟨v614, rfl, ho0, hb⟩; refine ⟨_, rfl, ?_⟩; have n0_ := Aside0.mk (Kd.R_lower ho0 (below_size (Qaw))); have n1_ := Aside0.mk (below_step (Qaw) hb); clear HB; have HO615 := n0_; have HB := n1_; clear n0_ n1_; (try clear hb); (try clear hb2); (try clear hk); (try clear hi); (try clear ho0); obtain ⟨Ao243, co243, eo243⟩ := Kd.R_slice HO615.out; subst eo243) | ((with_reducible refine gate_callee (f := 22) rfl ?_); refine goesL_ (some 22) rfl rfl Tryd.func22 (by kernel_rfl) rfl #[.slice Ao243 t613.length co243] rfl (Qls) ?_; (with_reducible refine (sweep_Layout.calls (hGL := (Qlg)) k _ _ t613 t616 t617 t618 _ ?side1 ?side2 A4.out).mono ?_); (case side1 => exact Qsc (Kd.R_reads' HO615.out).2.2); (case side2 => exact (Kd.R_reads' HO615.out).2.1); rintro e w244 ⟨v619, rfl, ho0, hb⟩; refine ⟨_, rfl, ?_⟩; have n0_ := Aside0.mk (Kd.R_elder' (Qro HO615.out) (Kd.R_base ho0) hb); have n1_ := Aside0.mk (Kd.R_lower (Kd.R_new' ho0 (Kd.R_lt (Qro HO615.out))) (below_size (Qaw))); have n2_ := Aside0.mk (below_step (Qaw) hb); clear HO615; clear HB; have HO615 := n0_; have HO620 := n1_; have HB := n2_; clear n0_ n1_ n2_; (try clear hb); (try clear hb2); (try clear hk); (try clear hi); (try clear ho0)) | ((with_reducible refine gate_callee (f := 18) rfl ?_); refine goesL_ (some 28) rfl rfl Tryd.func18 (by kernel_rfl) rfl #[.slice A0 l0.length c0] rfl (Qls) ?_; (with_reducible refine (lampblacklaw03_Few.calls _ _ l0 t621 _ ?side1 ?side2 A5.out).mono ?_); (case side1 => exact Qsc (Kd.C_below HR0.out HB.out)); (case side2 => exact HC0.out); rintro e w245 ⟨v622, rfl, ho0, hb⟩; refine ⟨_, rfl, ?_⟩; have n0_ := Aside0.mk (Kd.R_elder' (Qro HO615.out) (Kd.R_base ho0) hb); have n1_ := Aside0.mk (Kd.R_elder' (Qro HO620.out) (Kd.R_base ho0) hb); have n2_ := Aside0.mk (Kd.R_lower (Kd.R_new' (Kd.R_new' ho0 (Kd.R_lt (Qro HO615.out))) (Kd.R_lt (Qro HO620.out))) (below_size (Qaw))); have n3_ := Aside0.mk (below_step (Qaw) hb); clear HO615; clear HO620; clear HB; have HO615 := n0_; have HO620 := n1_; have HO623 := n2_; have HB := n3_; clear n0_ n1_ n2_ n3_; (try clear hb); (try clear hb2); (try clear hk); (try clear hi); (try clear ho0); obtain ⟨Ao246, co246, eo246⟩ := Kd.R_slice HO623.out; subst eo246) | ((with_reducible refine gate_callee (f := 23) rfl ?_); refine goesL_ (some 29) rfl rfl Tryd.func23 (by kernel_rfl) rfl #[.slice Ao246 t621.length co246] rfl (Qls) ?_; (with_reducible refine (sweep_Plan.calls (hGL := (Qlg)) k _ _ t621 t624 t625 _ ?side1 ?side2 A6.out).mono ?_); (case side1 => exact Qsc (Kd.R_reads' HO623.out).2.2); (case side2 => exact (Kd.R_reads' HO623.out).2.1); rintro e w247 ⟨v626, rfl, ho0, hb⟩; refine ⟨_, rfl, ?_⟩; have n0_ := Aside0.mk (Kd.R_below (Qro HO615.out) hb); have n1_ := Aside0.mk (Kd.R_below (Qro HO620.out) hb); have n2_ := Aside0.mk (Kd.R_below (Qro HO623.out) hb); have n3_ := Aside0.mk (Kd.R_lower ho0 (below_size (Qaw))); have n4_ := Aside0.mk (below_step (Qaw) hb); clear HO615; clear HO620; clear HO623; clear HB; have HO615 := n0_; have HO620 := n1_; have HO623 := n2_; have HO627 := n3_; have HB := n4_; clear n0_ n1_ n2_ n3_ n4_; (try clear hb); (try clear hb2); (try clear hk); (try clear hi); (try clear ho0)) | ((with_reducible refine gate_callee (f := 18) rfl ?_); refine goesL_ (some 34) rfl rfl Tryd.func18 (by kernel_rfl) rfl #[.slice A0 l0.length c0] rfl (Qls) ?_; (with_reducible refine (lampblacklaw03_Few.calls _ _ l0 t628 _ ?side1 ?side2 A7.out).mono ?_); (case side1 => exact Qsc (Kd.C_below HR0.out HB.out)); (case side2 => exact HC0.out); rintro e w248 ⟨v629, rfl, ho0, hb⟩; refine ⟨_, rfl, ?_⟩; have n0_ := Aside0.mk (Kd.R_elder' (Qro HO615.out) (Kd.R_base ho0) hb); have n1_ := Aside0.mk (Kd.R_elder' (Qro HO620.out) (Kd.R_base ho0) hb); have n2_ := Aside0.mk (Kd.R_elder' (Qro HO623.out) (Kd.R_base ho0) hb); have n3_ := Aside0.mk (Kd.R_below (Qro HO627.out) hb); have n4_ := Aside0.mk (Kd.R_lower (Kd.R_new' (Kd.R_new' (Kd.R_new' ho0 (Kd.R_lt (Qro HO615.out))) (Kd.R_lt (Qro HO620.out))) (Kd.R_lt (Qro HO623.out))) (below_size (Qaw))); have n5_ := Aside0.mk (below_step (Qaw) hb); clear HO615; clear HO620; clear HO623; clear HO627; clear HB; have HO615 := n0_; have HO620 := n1_; have HO623 := n2_; have HO627 := n3_; have HO630 := n4_; have HB := n5_; clear n0_ n1_ n2_ n3_ n4_ n5_; (try clear hb); (try clear hb2); (try clear hk); (try clear hi); (try clear ho0); obtain ⟨Ao249, co249, eo249⟩ := Kd.R_slice HO630.out; subst eo249) | ((with_reducible refine gate_callee (f := 17) rfl ?_); refine goesL_ (some 35) rfl rfl Tryd.func17 (by kernel_rfl) rfl #[.slice Ao249 t628.length co249] rfl (Qls) ?_; (with_reducible refine (sweep_Least.calls (hGL := (Qlg)) k _ _ t628 t631 t632 _ ?side1 ?side2 A8.out).mono ?_); (case side1 => exact Qsc (Kd.R_reads' HO630.out).2.2); (case side2 => exact (Kd.R_reads' HO630.out).2.1); rintro e w250 ⟨rfl, hb⟩; refine ⟨_, rfl, ?_⟩; have n0_ := Aside0.mk (Kd.R_below (Qro HO615.out) hb); have n1_ := Aside0.mk (Kd.R_below (Qro HO620.out) hb); have n2_ := Aside0.mk (Kd.R_below (Qro HO623.out) hb); have n3_ := Aside0.mk (Kd.R_below (Qro HO627.out) hb); have n4_ := Aside0.mk (Kd.R_below (Qro HO630.out) hb); have n5_ := Aside0.mk (below_step (Qaw) hb); clear HO615; clear HO620; clear HO623; clear HO627; clear HO630; clear HB; have HO615 := n0_; have HO620 := n1_; have HO623 := n2_; have HO627 := n3_; have HO630 := n4_; have HB := n5_; clear n0_ n1_ n2_ n3_ n4_ n5_; (try clear hb); (try clear hb2); (try clear hk); (try clear hi)))
   go_ret
   exact ⟨by first | rfl | (simp [errW_none, errW_some] <;> rfl) | (simp [*, errW_none, errW_some] <;> rfl), by repeat (first | (with_reducible first | exact HB.out | apply below_alloc | apply pw_below_drewN | apply below_drew1) | exact HB.out)⟩
end Go.Proofs.YtijfddobandcdaaDoor.X
end
section
/- Lists that have the numbers below n, each once. -/
namespace Go.Proofs.YtijfddobandcdaaDoor.T
open Go.RowKit YtijfddobandcdaaDoorW.PrintWords YtijfddobandcdaaDoorW.PrintLast YtijfddobandcdaaDoorW.PrintMore
def IsOrd (n : Nat) (l : List Int) : Prop := ∃ P : List Nat, l = gi P ∧ P.Nodup ∧ (∀ v ∈ P, v < n) ∧ P.length = n
theorem gi_inj {a b : List Nat} (h : gi a = gi b) : a = b := by
 induction a generalizing b with
 | nil => cases b with
  | nil => rfl
  | cons => simp [gi] at h
 | cons x a ih => cases b with
  | nil => simp [gi] at h
  | cons y b =>
   simp only [gi, List.map_cons, List.cons.injEq] at h
   rw [ih (show gi a = gi b from h.2)]
   congr 1
   omega
theorem gi_snoc (P : List Nat) (v : Nat) : gi P ++ [(v : Int)] = gi (P ++ [v]) := by simp [gi]
theorem gi_mem {P : List Nat} {v : Nat} : (v : Int) ∈ gi P ↔ v ∈ P := by
 unfold gi
 rw [List.mem_map]
 exact ⟨fun ⟨a, h1, h2⟩ => by have : a = v := by omega
                              exact this ▸ h1, fun h => ⟨v, h, rfl⟩⟩
theorem split_dup {P : List Nat} (h : ¬ P.Nodup) : ∃ L x R, P = L ++ x :: R ∧ x ∈ R := by
 induction P with
 | nil => exact (h List.nodup_nil).elim
 | cons a P ih =>
  by_cases ha : a ∈ P
  ·exact ⟨[], a, P, rfl, ha⟩
  ·obtain ⟨L, x, R, h1, h2⟩ := ih fun hn => h (List.nodup_cons.2 ⟨ha, hn⟩)
   exact ⟨a :: L, x, R, by rw [h1]; rfl, h2⟩
theorem nodup_of_covers {P : List Nat} {n : Nat} (hl : P.length ≤ n) (h : ∀ j, j < n → j ∈ P) : P.Nodup := by
 apply Classical.byContradiction
 intro hn
 obtain ⟨L, x, R, e, hx⟩ := split_dup hn
 have := nodup_le (List.nodup_range (n := n)) (m := L ++ R) fun j hj => by
  have h1 := h j (List.mem_range.1 hj)
  rw [e] at h1
  rcases List.mem_append.1 h1 with h2 | h2
  ·exact List.mem_append_left _ h2
  ·rcases List.mem_cons.1 h2 with h3 | h3
   ·subst h3; exact List.mem_append_right _ hx
   ·exact List.mem_append_right _ h3
 rw [e] at hl
 simp at this hl
 omega
theorem covers_of_nodup {P : List Nat} {n : Nat} (hl : P.length = n) (hn : P.Nodup) (h : ∀ v ∈ P, v < n) (j : Nat) (hj : j < n) : j ∈ P := by
 apply Classical.byContradiction
 intro hno
 have := nodup_le (List.nodup_cons.2 ⟨hno, hn⟩) (m := List.range n) fun x hx => by
  rcases List.mem_cons.1 hx with e | e
  ·subst e; exact List.mem_range.2 hj
  ·exact List.mem_range.2 (h x e)
 simp at this
 omega
def lset : List Nat → Nat
 | [] => 0
 | v :: P => lset P ||| 2 ^ v
theorem lset_bit (P : List Nat) (j : Nat) : bset (lset P) j ↔ j ∈ P := by
 induction P with
 | nil => simp [lset, bset]
 | cons v P ih => rw [lset, or_bset, ih, two_pow_bit, List.mem_cons]; exact Or.comm
theorem lset_lt {P : List Nat} {n : Nat} (h : ∀ v ∈ P, v < n) : lset P < 2 ^ n := lt_of_bits fun j hj => h j ((lset_bit P j).1 hj)
theorem lset_snoc (P : List Nat) (v : Nat) : lset (P ++ [v]) = lset P ||| 2 ^ v := eq_of_bits fun j => by
 show bset _ _ ↔ bset _ _
 rw [lset_bit, or_bset, lset_bit, two_pow_bit, List.mem_append, List.mem_singleton]
theorem take_snoc {l : List Int} {i : Nat} {P : List Nat} (h : l.take i = gi P) (hi : i < l.length) (v : Nat) (hv : rd l (i : Int) = (v : Int)) : l.take (i + 1) = gi (P ++ [v]) := by
 rw [List.take_add_one, h, ← gi_snoc]
 congr 1
 unfold rd at hv
 rw [Int.toNat_natCast, List.getD_eq_getElem?_getD, List.getElem?_eq_getElem hi] at hv
 rw [List.getElem?_eq_getElem hi]
 simp at hv ⊢
 exact hv
theorem IsOrd.get {n : Nat} {l : List Int} (h : IsOrd n l) (i : Nat) (hi : i < l.length) : ∃ v : Nat, rd l (i : Int) = (v : Int) ∧ v < n := by
 obtain ⟨P, rfl, _, h3, _⟩ := h
 rw [gi_length] at hi
 refine ⟨P.getD i 0, rd_gi P i, h3 _ ?_⟩
 rw [List.getD_eq_getElem?_getD, List.getElem?_eq_getElem hi]
 exact List.getElem_mem hi
theorem IsOrd.of {n : Nat} {P : List Nat} (h1 : P.Nodup) (h2 : ∀ v ∈ P, v < n) : IsOrd n (gi P) ↔ P.length = n := by
 constructor
 ·rintro ⟨Q, e, _, _, h⟩
  rw [gi_inj e]; exact h
 ·intro h; exact ⟨P, rfl, h1, h2, h⟩
theorem IsOrd.length {n : Nat} {l : List Int} (h : IsOrd n l) : l.length = n := by
 obtain ⟨P, rfl, _, _, h⟩ := h
 rw [gi_length, h]
end Go.Proofs.YtijfddobandcdaaDoor.T
end
section
/- Path decompositions: bags in a row; the runs of a node; backward. -/
namespace Go.Proofs.YtijfddobandcdaaDoor.T
open Go.RowKit YtijfddobandcdaaDoorW.PrintWords YtijfddobandcdaaDoorW.PrintLast YtijfddobandcdaaDoorW.PrintMore
def starts (p : Bool) : List Bool → Nat
 | [] => 0
 | b :: L => (if b = true ∧ p = false then 1 else 0) + starts b L
theorem starts_true0 : ∀ L : List Bool, starts true L = 0 ↔ ∃ b c, L = List.replicate b true ++ List.replicate c false
 | [] => ⟨fun _ => ⟨0, 0, rfl⟩, fun _ => rfl⟩
 | true :: L => by
  simp only [starts]
  rw [if_neg (by simp), Nat.zero_add, starts_true0 L]
  constructor
  ·rintro ⟨b, c, rfl⟩; exact ⟨b + 1, c, by simp [List.replicate_succ]⟩
  ·rintro ⟨b, c, h⟩
   cases b with
   | zero => cases c <;> simp [List.replicate_succ] at h
   | succ b => simp [List.replicate_succ] at h; exact ⟨b, c, h⟩
 | false :: L => by
  simp only [starts]
  rw [if_neg (by simp), Nat.zero_add]
  have h0 : ∀ M : List Bool, starts false M = 0 ↔ ∃ c, M = List.replicate c false := by
   intro M
   induction M with
   | nil => exact ⟨fun _ => ⟨0, rfl⟩, fun _ => rfl⟩
   | cons x M ih =>
    cases x with
    | true => simp only [starts]; constructor
              ·intro h; simp at h
              ·rintro ⟨c, h⟩; cases c <;> simp [List.replicate_succ] at h
    | false => simp only [starts]; rw [if_neg (by simp), Nat.zero_add, ih]; constructor
               ·rintro ⟨c, rfl⟩; exact ⟨c + 1, by simp [List.replicate_succ]⟩
               ·rintro ⟨c, h⟩
                cases c with
                | zero => simp at h
                | succ c => simp [List.replicate_succ] at h; exact ⟨c, h⟩
  rw [h0 L]
  constructor
  ·rintro ⟨c, rfl⟩; exact ⟨0, c + 1, by simp [List.replicate_succ]⟩
  ·rintro ⟨b, c, h⟩
   cases b with
   | zero => cases c with
    | zero => simp at h
    | succ c => simp [List.replicate_succ] at h; exact ⟨c, h⟩
   | succ b => simp [List.replicate_succ] at h
def OneRun (L : List Bool) : Prop := ∃ a b c, L = List.replicate a false ++ (List.replicate (b + 1) true ++ List.replicate c false)
theorem starts_one : ∀ L : List Bool, starts false L = 1 ↔ OneRun L
 | [] => ⟨fun h => by simp [starts] at h, fun ⟨a, b, c, h⟩ => by simp [List.replicate_succ] at h⟩
 | true :: L => by
  simp only [starts]
  rw [if_pos (by simp)]
  have e : 1 + starts true L = 1 ↔ starts true L = 0 := by omega
  rw [e, starts_true0 L]
  constructor
  ·rintro ⟨b, c, rfl⟩; exact ⟨0, b, c, by simp [List.replicate_succ]⟩
  ·rintro ⟨a, b, c, h⟩
   cases a with
   | zero => simp [List.replicate_succ] at h; exact ⟨b, c, h⟩
   | succ a => simp [List.replicate_succ] at h
 | false :: L => by
  simp only [starts]
  rw [if_neg (by simp), Nat.zero_add, starts_one L]
  constructor
  ·rintro ⟨a, b, c, rfl⟩; exact ⟨a + 1, b, c, by simp [List.replicate_succ]⟩
  ·rintro ⟨a, b, c, h⟩
   cases a with
   | zero => simp [List.replicate_succ] at h
   | succ a => simp only [List.replicate_succ, List.cons_append, List.cons.injEq, true_and] at h; exact ⟨a, b, c, by rw [h, List.replicate_succ]; rfl⟩
def marks (v : Nat) (B : List Nat) : List Bool := B.map fun b => b.testBit v
structure PathDec (G : List Nat) (B : List Nat) : Prop where
 pos : 1 ≤ B.length
 most : B.length ≤ 30
 lt : ∀ b ∈ B, b < 2 ^ G.length
 run : ∀ v, v < G.length → OneRun (marks v B)
 edge : ∀ v u, v < G.length → Adj G v u → ∃ b ∈ B, bset b v ∧ bset b u
def mostOf (B : List Nat) : Nat := B.foldr (fun b m => max (pc b 9) m) 0
def left (v : Nat) : Nat → List Nat → Nat
 | s, [] => s
 | s, b :: B => left v (if b.testBit v then diff s b else s) B
theorem left_zero (v : Nat) : ∀ (B : List Nat) (s : Nat), left v s B = 0 ↔ ∀ u, bset s u → ∃ b ∈ B, bset b v ∧ bset b u
 | [], s => by
  simp only [left]
  constructor
  ·intro h u hu; rw [h] at hu; unfold bset at hu; simp at hu
  ·intro h
   apply Classical.byContradiction
   intro h0
   obtain ⟨i, hi⟩ := Nat.exists_testBit_of_ne_zero h0
   obtain ⟨b, hb, _⟩ := h i hi
   simp at hb
 | b :: B, s => by
  simp only [left]
  rw [left_zero v B]
  by_cases hb : b.testBit v = true
  ·rw [if_pos hb]
   constructor
   ·intro h u hu
    by_cases hbu : bset b u
    ·exact ⟨b, List.mem_cons_self, hb, hbu⟩
    ·obtain ⟨x, hx, h2⟩ := h u ((diff_bset _ _ _).2 ⟨hu, hbu⟩)
     exact ⟨x, List.mem_cons_of_mem _ hx, h2⟩
   ·intro h u hu
    obtain ⟨hu1, hu2⟩ := (diff_bset _ _ _).1 hu
    obtain ⟨x, hx, h2, h3⟩ := h u hu1
    rcases List.mem_cons.1 hx with e | e
    ·subst e; exact (hu2 h3).elim
    ·exact ⟨x, e, h2, h3⟩
  ·rw [if_neg hb]
   constructor
   ·intro h u hu
    obtain ⟨x, hx, h2⟩ := h u hu
    exact ⟨x, List.mem_cons_of_mem _ hx, h2⟩
   ·intro h u hu
    obtain ⟨x, hx, h2, h3⟩ := h u hu
    rcases List.mem_cons.1 hx with e | e
    ·subst e; exact (hb h2).elim
    ·exact ⟨x, e, h2, h3⟩
end Go.Proofs.YtijfddobandcdaaDoor.T
end
section
namespace Go.Proofs.YtijfddobandcdaaDoor.X
open Go.RowKit YtijfddobandcdaaDoorW.PrintWords YtijfddobandcdaaDoorW.PrintLast YtijfddobandcdaaDoorW.PrintMore
attribute [local go_sem] max2_int min2_int max_two min_two max_three min_three max_four min_four
/-! ### sweep_Check: function 36 -/
def sweep_Check.l0 : Nat → Int → List Int → Int → Int → Option (Int × Bool × Int)
 | 0, _, _, _, _ => none
 | k + 1, x9, x23, x24, x25 => if x25 < x24 then (if 0 ≤ x25 then (if x25 < (x23.length : Int) then ((sweep_count.f (rd x23 x25)).bind fun t365 => (sweep_Check.l0 k (mx x9 t365) x23 x24 (wrap64 (x25 + 1)))) else (none)) else (none)) else (some (wrap64 (x9 - 1), true, 0))
end Go.Proofs.YtijfddobandcdaaDoor.X
end
section
/- isPath, Check: path decompositions and their width. -/
namespace Go.Proofs.YtijfddobandcdaaDoor.X
open Go.RowKit YtijfddobandcdaaDoorW.PrintWords YtijfddobandcdaaDoorW.PrintLast YtijfddobandcdaaDoorW.PrintMore YtijfddobandcdaaDoor.T
theorem rd_mem {l : List Int} {i : Nat} (h : i < l.length) : rd l (i : Int) = l[i] := by unfold rd; rw [Int.toNat_natCast, List.getD_eq_getElem?_getD, List.getElem?_eq_getElem h]; rfl
theorem min_l0 (l : List Int) (hl : l.length < 2 ^ 60) : ∀ (d i : Nat) (m : Int), i + d = l.length → ∃ r, Ev (fun k => slices_Min_int_int.l0 k l m (i : Int)) r ∧ (r = m ∨ r ∈ l) ∧ r ≤ m ∧ ∀ x ∈ l.drop i, r ≤ x := by
 intro d
 induction d with
 | zero =>
  intro i m hi
  refine ⟨m, Ev.step (f := fun _ => some m) (fun k => by rw [slices_Min_int_int.l0, if_neg (by omega)]) (Ev.some rfl), .inl rfl, Int.le_refl _, ?_⟩
  rw [List.drop_eq_nil_of_le (by omega)]
  simp
 | succ d ih =>
  intro i m hi
  have hi' : i < l.length := by omega
  obtain ⟨r, h1, h2, h3, h4⟩ := ih (i + 1) (mn m l[i]) (by omega)
  have hmn : mn m l[i] ≤ m ∧ mn m l[i] ≤ l[i] ∧ (mn m l[i] = m ∨ mn m l[i] = l[i]) := by unfold mn; split <;> omega
  refine ⟨r, Ev.step (fun k => by rw [slices_Min_int_int.l0, if_pos (by omega), if_pos (by omega), rd_mem hi', wrap_succ i (by omega)]) h1, ?_, by omega, ?_⟩
  ·rcases h2 with h | h
   ·rcases hmn.2.2 with e | e
    ·exact .inl (by omega)
    ·exact .inr (by rw [h, e]; exact List.getElem_mem hi')
   ·exact .inr h
  ·rw [List.drop_eq_getElem_cons hi']
   intro x hx
   rcases List.mem_cons.1 hx with e | e
   ·rw [e]; omega
   ·exact h4 x e
theorem max_l0 (l : List Int) (hl : l.length < 2 ^ 60) : ∀ (d i : Nat) (m : Int), i + d = l.length → ∃ r, Ev (fun k => slices_Max_int_int.l0 k l m (i : Int)) r ∧ (r = m ∨ r ∈ l) ∧ m ≤ r ∧ ∀ x ∈ l.drop i, x ≤ r := by
 intro d
 induction d with
 | zero =>
  intro i m hi
  refine ⟨m, Ev.step (f := fun _ => some m) (fun k => by rw [slices_Max_int_int.l0, if_neg (by omega)]) (Ev.some rfl), .inl rfl, Int.le_refl _, ?_⟩
  rw [List.drop_eq_nil_of_le (by omega)]
  simp
 | succ d ih =>
  intro i m hi
  have hi' : i < l.length := by omega
  obtain ⟨r, h1, h2, h3, h4⟩ := ih (i + 1) (mx m l[i]) (by omega)
  have hmn : m ≤ mx m l[i] ∧ l[i] ≤ mx m l[i] ∧ (mx m l[i] = m ∨ mx m l[i] = l[i]) := by unfold mx; split <;> omega
  refine ⟨r, Ev.step (fun k => by rw [slices_Max_int_int.l0, if_pos (by omega), if_pos (by omega), rd_mem hi', wrap_succ i (by omega)]) h1, ?_, by omega, ?_⟩
  ·rcases h2 with h | h
   ·rcases hmn.2.2 with e | e
    ·exact .inl (by omega)
    ·exact .inr (by rw [h, e]; exact List.getElem_mem hi')
   ·exact .inr h
  ·rw [List.drop_eq_getElem_cons hi']
   intro x hx
   rcases List.mem_cons.1 hx with e | e
   ·rw [e]; omega
   ·exact h4 x e
theorem min_ev (l : List Int) (h1 : 1 ≤ l.length) (hl : l.length < 2 ^ 60) : ∃ r, Ev (fun k => slices_Min_int_int.f k l) r ∧ r ∈ l ∧ ∀ x ∈ l, r ≤ x := by
 obtain ⟨r, h2, h3, h4, h5⟩ := min_l0 l hl (l.length - 1) 1 (rd l 0) (by omega)
 have e : rd l 0 = l[0] := rd_mem (i := 0) (by omega)
 refine ⟨r, ?_, ?_, ?_⟩
 ·unfold slices_Min_int_int.f
  exact Ev.if_neg (by omega) (Ev.if_pos (by omega) h2)
 ·rcases h3 with h | h
  ·rw [h, e]; exact List.getElem_mem _
  ·exact h
 ·intro x hx
  rw [← List.drop_zero (l := l), List.drop_eq_getElem_cons (show 0 < l.length by omega)] at hx
  rcases List.mem_cons.1 hx with h | h
  ·rw [h, ← e]; exact h4
  ·exact h5 x h
theorem max_ev (l : List Int) (h1 : 1 ≤ l.length) (hl : l.length < 2 ^ 60) : ∃ r, Ev (fun k => slices_Max_int_int.f k l) r ∧ r ∈ l ∧ ∀ x ∈ l, x ≤ r := by
 obtain ⟨r, h2, h3, h4, h5⟩ := max_l0 l hl (l.length - 1) 1 (rd l 0) (by omega)
 have e : rd l 0 = l[0] := rd_mem (i := 0) (by omega)
 refine ⟨r, ?_, ?_, ?_⟩
 ·unfold slices_Max_int_int.f
  exact Ev.if_neg (by omega) (Ev.if_pos (by omega) h2)
 ·rcases h3 with h | h
  ·rw [h, e]; exact List.getElem_mem _
  ·exact h
 ·intro x hx
  rw [← List.drop_zero (l := l), List.drop_eq_getElem_cons (show 0 < l.length by omega)] at hx
  rcases List.mem_cons.1 hx with h | h
  ·rw [h, ← e]; exact h4
  ·exact h5 x h
def ahead (v : Nat) (B : List Nat) (i : Nat) : Bool := if i = 0 then false else (B.getD (i - 1) 0).testBit v
theorem isPath_l1 (G : List Nat) (hG : Gr 7 G) (B : List Nat) (hB : ∀ b ∈ B, b < 2 ^ G.length) (h30 : B.length ≤ 30) (v : Nat) (hv : v < G.length) (r : Bool)
  (cont : Ev (fun k => sweep_town_isPath.l0 k (gi B) (gi G) (G.length : Int) ((v + 1 : Nat) : Int)) r) : ∀ (d i s c : Nat), i + d = B.length → s < 2 ^ G.length → c ≤ i →
  Ev (fun k => sweep_town_isPath.l1 k (gi B) (v : Int) (s : Int) (c : Int) (gi G) (G.length : Int) (v : Int) (gi B) (B.length : Int) (i : Int)) (decide (c + starts (ahead v B i) (marks v (B.drop i)) = 1 ∧ T.left v s (B.drop i) = 0) && r) := by
 have hn := hG.most
 intro d
 induction d with
 | zero =>
  intro i s c hi hs hc
  rw [List.drop_eq_nil_of_le (by omega)]
  simp only [marks, List.map_nil, starts, T.left, Nat.add_zero]
  by_cases h1 : c = 1
  ·by_cases h2 : s = 0
   ·refine Ev.step (fun k => by rw [sweep_town_isPath.l1, if_neg (by omega), if_pos (by omega), if_pos (by omega), wrap_succ v (by omega)]) ?_
    rw [decide_eq_true ⟨h1, h2⟩, Bool.true_and]
    exact cont
   ·refine Ev.step (f := fun _ => some false) (fun k => by rw [sweep_town_isPath.l1, if_neg (by omega), if_pos (by omega), if_neg (by omega)]) (Ev.some ?_)
    rw [decide_eq_false (fun h => h2 h.2), Bool.false_and]
  ·refine Ev.step (f := fun _ => some false) (fun k => by rw [sweep_town_isPath.l1, if_neg (by omega), if_neg (by omega)]) (Ev.some ?_)
   rw [decide_eq_false (fun h => h1 h.1), Bool.false_and]
 | succ d ih =>
  intro i s c hi hs hc
  have HS := Aside0.mk hs
  clear hs
  have hi' : i < B.length := by omega
  have hwi := wrap_succ i (by omega)
  have hwc := wrap_succ c (by omega)
  have hb2 := hB _ (List.getElem_mem hi')
  have hr : rd (gi B) (i : Int) = ((B[i] : Nat) : Int) := by rw [rd_gi, List.getD_eq_getElem?_getD, List.getElem?_eq_getElem hi']; rfl
  have hb62 := big (small G (by omega) hb2)
  have hs62 := big (small G (by omega) HS.out)
  have hget : B.getD i 0 = B[i] := by rw [List.getD_eq_getElem?_getD, List.getElem?_eq_getElem hi']; rfl
  have hah : ahead v B (i + 1) = B[i].testBit v := by unfold ahead; rw [if_neg (by omega), Nat.add_sub_cancel, hget]
  rw [List.drop_eq_getElem_cons hi']
  simp only [marks, List.map_cons, starts, T.left]
  have hd := Aside0.mk (show diff s B[i] < 2 ^ G.length from Nat.lt_of_le_of_lt (diff_le _ _) HS.out)
  clear hb2
  by_cases hb : B[i].testBit v = true
  ·have hbit : Go.bits .and .i64 (shr .i64 ((B[i] : Nat) : Int) (v : Int)) 1 = 1 := (bit_one _ v hb62 (by omega)).2 hb
   rw [if_pos hb]
   have next : ∀ c' : Nat, c' ≤ i + 1 → Ev (fun k => sweep_town_isPath.l1 k (gi B) (v : Int) ((diff s B[i] : Nat) : Int) (c' : Int) (gi G) (G.length : Int) (v : Int) (gi B) (B.length : Int) ((i + 1 : Nat) : Int)) (decide (c' + starts (B[i].testBit v) ((B.drop (i + 1)).map fun b => b.testBit v) = 1 ∧ T.left v (diff s B[i]) (B.drop (i + 1)) = 0) && r) := fun c' h' => by
    have := ih (i + 1) (diff s B[i]) c' (by omega) hd.out h'
    rw [hah] at this
    exact this
   by_cases hp : ahead v B i = true
   ·have hi0 : i ≠ 0 := fun e => by rw [e] at hp; simp [ahead] at hp
    have hpr : (B.getD (i - 1) 0).testBit v = true := by unfold ahead at hp; rw [if_neg hi0] at hp; exact hp
    have hp2 : B.getD (i - 1) 0 < 2 ^ 62 := by
     rw [List.getD_eq_getElem?_getD, List.getElem?_eq_getElem (by omega)]
     exact big (small G (by omega) (hB _ (List.getElem_mem _)))
    refine Ev.step (f := fun k => sweep_town_isPath.j3 k (gi B) (v : Int) (s : Int) (c : Int) ((B[i] : Nat) : Int) (gi G) (G.length : Int) (v : Int) (gi B) (B.length : Int) (i : Int) false) (fun k => ?_) ?_
    ·rw [sweep_town_isPath.l1, if_pos (by omega), if_pos (by omega), if_pos (by rw [gi_length]; omega), if_pos (by omega), hr, if_pos hbit, if_neg (by omega), wrap_pred i (by omega) (by omega), if_pos (by omega), if_pos (by rw [gi_length]; omega), rd_gi, bit_at _ v hp2 (by omega), hpr]
     rfl
    ·refine Ev.step (fun k => by rw [sweep_town_isPath.j3, if_neg (by simp), if_pos (by omega), if_pos hbit, b_andNot _ _ hs62 hb62, hwi]) ?_
     have := next c (by omega)
     simpa [hp] using this
   ·have hp' : ahead v B i = false := by simpa using hp
    refine Ev.step (f := fun k => sweep_town_isPath.j3 k (gi B) (v : Int) (s : Int) (c : Int) ((B[i] : Nat) : Int) (gi G) (G.length : Int) (v : Int) (gi B) (B.length : Int) (i : Int) true) (fun k => ?_) ?_
    ·rw [sweep_town_isPath.l1, if_pos (by omega), if_pos (by omega), if_pos (by rw [gi_length]; omega), if_pos (by omega), hr, if_pos hbit]
     by_cases hi0 : i = 0
     ·rw [if_pos (by omega)]
     ·have hpr : (B.getD (i - 1) 0).testBit v = false := by unfold ahead at hp'; rw [if_neg hi0] at hp'; exact hp'
      have hp2 : B.getD (i - 1) 0 < 2 ^ 62 := by
       rw [List.getD_eq_getElem?_getD, List.getElem?_eq_getElem (by omega)]
       exact big (small G (by omega) (hB _ (List.getElem_mem _)))
      rw [if_neg (by omega), wrap_pred i (by omega) (by omega), if_pos (by omega), if_pos (by rw [gi_length]; omega), rd_gi, bit_at _ v hp2 (by omega), hpr]
      rfl
    ·refine Ev.step (fun k => by rw [sweep_town_isPath.j3, if_pos rfl, if_pos (by omega), if_pos hbit, b_andNot _ _ hs62 hb62, hwi, hwc]) ?_
     have := next (c + 1) (by omega)
     rw [hb] at this
     rw [hp', hb, if_pos ⟨rfl, rfl⟩, ← Nat.add_assoc]
     exact this
  ·have hb' : B[i].testBit v = false := by simpa using hb
   have hbit : ¬ Go.bits .and .i64 (shr .i64 ((B[i] : Nat) : Int) (v : Int)) 1 = 1 := fun h => hb ((bit_one _ v hb62 (by omega)).1 h)
   rw [if_neg hb]
   refine Ev.step (f := fun k => sweep_town_isPath.j3 k (gi B) (v : Int) (s : Int) (c : Int) ((B[i] : Nat) : Int) (gi G) (G.length : Int) (v : Int) (gi B) (B.length : Int) (i : Int) false) (fun k => ?_) ?_
   ·rw [sweep_town_isPath.l1, if_pos (by omega), if_pos (by omega), if_pos (by rw [gi_length]; omega), if_pos (by omega), hr, if_neg hbit]
   ·refine Ev.step (fun k => by rw [sweep_town_isPath.j3, if_neg (by simp), if_pos (by omega), if_neg hbit, hwi]) ?_
    have := ih (i + 1) s c (by omega) HS.out (by omega)
    rw [hah, hb'] at this
    rw [hb', if_neg (by simp), Nat.zero_add]
    exact this
def fits (G B : List Nat) (v : Nat) : Bool := decide (starts false (marks v B) = 1 ∧ T.left v (G.getD v 0) B = 0)
theorem isPath_l0 (G : List Nat) (hG : Gr 7 G) (B : List Nat) (hB : ∀ b ∈ B, b < 2 ^ G.length) (h30 : B.length ≤ 30) : ∀ (d v : Nat), v + d = G.length →
  Ev (fun k => sweep_town_isPath.l0 k (gi B) (gi G) (G.length : Int) (v : Int)) (allFrom (fits G B) G.length d v) := by
 have hn := hG.most
 intro d
 induction d with
 | zero => intro v hv; exact Ev.step (f := fun _ => some true) (fun k => by rw [sweep_town_isPath.l0, if_neg (by omega)]) (Ev.some rfl)
 | succ d ih =>
  intro v hv
  have := isPath_l1 G hG B hB h30 v (by omega) _ (ih (v + 1) (by omega)) B.length 0 (G.getD v 0) 0 (by omega) (hG.row v) (Nat.le_refl _)
  refine Ev.step (fun k => by rw [sweep_town_isPath.l0, if_pos (by omega), if_pos (by omega), if_pos (by rw [gi_length]; omega), rd_gi, gi_length]) ?_
  simp only [allFrom, fits]
  rw [Nat.zero_add, List.drop_zero] at this
  exact this
theorem fits_iff (G B : List Nat) (h1 : 1 ≤ B.length) (h30 : B.length ≤ 30) (hB : ∀ b ∈ B, b < 2 ^ G.length) : allFrom (fits G B) G.length G.length 0 = true ↔ PathDec G B := by
 rw [allFrom_iff]
 simp only [fits, decide_eq_true_eq, starts_one, left_zero]
 constructor
 ·intro h
  exact ⟨h1, h30, hB, fun v hv => (h v (by omega) (by omega)).1, fun v u hv ha => (h v (by omega) (by omega)).2 u ha⟩
 ·intro h v _ hv
  exact ⟨h.run v (by omega), fun u ha => h.edge v u (by omega) ha⟩
def IsPathL (G : List Nat) (l : List Int) : Prop := ∃ B, l = gi B ∧ PathDec G B
theorem isPath_ev (G : List Nat) (hG : Gr 7 G) (l : List Int) (hl : l.length < 2 ^ 60) : ∃ r, Ev (fun k => sweep_town_isPath.f k (gi G) l) r ∧ (r = true ↔ IsPathL G l) := by
 have hn := hG.most
 have bad : ¬ IsPathL G l → Ev (fun k => sweep_town_isPath.f k (gi G) l) false → ∃ r, Ev (fun k => sweep_town_isPath.f k (gi G) l) r ∧ (r = true ↔ IsPathL G l) := fun h1 h2 => ⟨false, h2, by simp [h1]⟩
 have stop : Ev (fun k => sweep_town_isPath.j0 k (gi G) l true) false := Ev.step (f := fun _ => some false) (fun k => by rw [sweep_town_isPath.j0, if_pos rfl]) (Ev.some rfl)
 have h29 : 2 ^ G.length ≤ 2 ^ 9 := Nat.pow_le_pow_right (by omega) (by omega)
 have h2p := Nat.two_pow_pos G.length
 have hall : sweep_town_all.f (gi G) = some ((2 ^ G.length - 1 : Nat) : Int) := by
  unfold sweep_town_all.f
  rw [gi_length, s_one _ (by omega), w64_small _ (by omega) (by omega)]
  congr 1
  omega
 by_cases h1 : 1 ≤ l.length
 ·by_cases h30 : l.length ≤ 30
  ·obtain ⟨mi, hmi, hmi2, hmi3⟩ := min_ev l h1 (by omega)
   obtain ⟨ma, hma, hma2, hma3⟩ := max_ev l h1 (by omega)
   by_cases h0 : mi < 0
   ·refine bad ?_ ?_
    ·rintro ⟨B, rfl, _⟩
     unfold gi at hmi2
     obtain ⟨x, _, hx⟩ := List.mem_map.1 hmi2
     omega
    ·unfold sweep_town_isPath.f
     exact Ev.if_neg (by omega) (Ev.if_neg (by omega) (Ev.bind hmi (Ev.if_pos h0 stop)))
   ·obtain ⟨B, rfl⟩ := gi_nonneg l (fun x hx => by have := hmi3 x hx; omega)
    rw [gi_length] at h1 h30
    by_cases h2 : ma > ((2 ^ G.length - 1 : Nat) : Int)
    ·refine bad ?_ ?_
     ·rintro ⟨B', e, h⟩
      rw [← gi_inj e] at h
      obtain ⟨x, hx, rfl⟩ := List.mem_map.1 hma2
      have := h.lt x hx
      omega
     ·unfold sweep_town_isPath.f
      refine Ev.if_neg (by rw [gi_length]; omega) (Ev.if_neg (by rw [gi_length]; omega) (Ev.bind hmi (Ev.if_neg h0 (Ev.bind hma (Ev.bind1 hall ?_)))))
      rw [decide_eq_true h2]
      exact stop
    ·have hB : ∀ b ∈ B, b < 2 ^ G.length := fun b hb => by have := hma3 b (gi_mem.2 hb); omega
     refine ⟨allFrom (fits G B) G.length G.length 0, ?_, ?_⟩
     ·unfold sweep_town_isPath.f
      refine Ev.if_neg (by rw [gi_length]; omega) (Ev.if_neg (by rw [gi_length]; omega) (Ev.bind hmi (Ev.if_neg h0 (Ev.bind hma (Ev.bind1 hall ?_)))))
      rw [decide_eq_false h2]
      refine Ev.step (fun k => by rw [sweep_town_isPath.j0, if_neg (by simp)]) ?_
      rw [gi_length]
      exact isPath_l0 G hG B hB h30 G.length 0 (by omega)
     ·rw [fits_iff G B h1 h30 hB]
      exact ⟨fun h => ⟨B, rfl, h⟩, fun ⟨B', e, h⟩ => by rw [gi_inj e]; exact h⟩
  ·refine bad ?_ ?_
   ·rintro ⟨B, rfl, h⟩
    have := h.most
    rw [gi_length] at h30
    omega
   ·unfold sweep_town_isPath.f
    exact Ev.if_neg (by omega) (Ev.if_pos (by omega) stop)
 ·refine bad ?_ ?_
  ·rintro ⟨B, rfl, h⟩
   have := h.pos
   rw [gi_length] at h1
   omega
  ·unfold sweep_town_isPath.f
   exact Ev.if_pos (by omega) stop
end Go.Proofs.YtijfddobandcdaaDoor.X
end
section
namespace Go.Proofs.YtijfddobandcdaaDoor.X
open Go.RowKit YtijfddobandcdaaDoorW.PrintWords YtijfddobandcdaaDoorW.PrintLast YtijfddobandcdaaDoorW.PrintMore
attribute [local go_sem] max2_int min2_int max_two min_two max_three min_three max_four min_four
/-! ### lampblackref02_IsOrder: function 30 -/
def lampblackref02_IsOrder.l0 : Nat → List Int → Int → Int → List Int → Int → Int → Option (Bool)
 | 0, _, _, _, _, _, _ => none
 | k + 1, x0, x1, x5, x8, x9, x10 => if x10 < x9 then (if 0 ≤ x10 then (if x10 < (x8.length : Int) then (if (rd x8 x10) < 0 then (some false) else (if (rd x8 x10) ≥ x1 then (some false) else (if 0 ≤ (rd x8 x10) then (if (Go.bits .and .i64 (shr .i64 x5 (rd x8 x10)) 1) = 1 then (some false) else (lampblackref02_IsOrder.l0 k x0 x1 (Go.bits .or .i64 x5 (shl .i64 1 (rd x8 x10))) x8 x9 (wrap64 (x10 + 1)))) else (none)))) else (none)) else (none)) else (some ((x0.length : Int) == x1))
end Go.Proofs.YtijfddobandcdaaDoor.X
end
section
namespace Go.Proofs.YtijfddobandcdaaDoor.X
open Go.RowKit YtijfddobandcdaaDoorW.PrintWords YtijfddobandcdaaDoorW.PrintLast YtijfddobandcdaaDoorW.PrintMore
attribute [local go_sem] max2_int min2_int max_two min_two max_three min_three max_four min_four
/-! ### lampblackref03_Bags: function 33 -/
def lampblackref03_Bags.l0 : Nat → List Int → List Int → Int → List Int → Int → Int → Option (List Int)
 | 0, _, _, _, _, _, _ => none
 | k + 1, x0, x5, x6, x9, x10, x11 => if x11 < x10 then (if 0 ≤ x11 then (if x11 < (x9.length : Int) then ((lampblackref03_Border.f k x0 x6).bind fun t287 => (if 0 ≤ (rd x9 x11) then (if x5.length < 17592186044416 then (lampblackref03_Bags.l0 k x0 (x5 ++ [Go.bits .or .i64 t287 (shl .i64 1 (rd x9 x11))]) (Go.bits .or .i64 x6 (shl .i64 1 (rd x9 x11))) x9 x10 (wrap64 (x11 + 1))) else (none)) else (none))) else (none)) else (none)) else (some x5)
def lampblackref03_Bags.T6 : Bool × List (List Nat × List Nat) := (true, [([], []), ([], []), ([], []), ([1, 2], [1, 2]), ([], []), ([4], [4]), ([3, 5], [3, 5]), ([6], [6]), ([0, 7, 3], [0, 7]), ([8, 8, 0, 1, 2, 3, 4, 5, 6, 7, 8], [0, 8])])
def lampblackref03_Bags.B6 : List Nat := [0, 0, 0, 6, 0, 16, 62, 126, 255, 511]
theorem lampblackref03_Bags.tab6 : rtab .any (opsOf Tryd.f33 6) = lampblackref03_Bags.T6 := by kernel_rfl
theorem lampblackref03_Bags.bits6 : waitsOk lampblackref03_Bags.T6.2 lampblackref03_Bags.B6 = true := by kernel_rfl
end Go.Proofs.YtijfddobandcdaaDoor.X
end
section
namespace Go.Proofs.YtijfddobandcdaaDoor.X
open Go.RowKit YtijfddobandcdaaDoorW.PrintWords YtijfddobandcdaaDoorW.PrintLast YtijfddobandcdaaDoorW.PrintMore
attribute [local go_sem] max2_int min2_int max_two min_two max_three min_three max_four min_four
/-! ### slices_Equal_int_int: function 29 -/
def slices_Equal_int_int.l0 : Nat → List Int → List Int → Int → Int → Option (Bool)
 | 0, _, _, _, _ => none
 | k + 1, x0, x1, x12, x13 => if x13 < x12 then (if 0 ≤ x13 then (if x13 < (x0.length : Int) then (if x13 < (x1.length : Int) then (if (rd x0 x13) = (rd x1 x13) then (slices_Equal_int_int.l0 k x0 x1 x12 (wrap64 (x13 + 1))) else (some false)) else (none)) else (none)) else (none)) else (some true)
end Go.Proofs.YtijfddobandcdaaDoor.X
end
section
/- IsOrder, isLayout, Border, bags, Equal: what they compute. -/
namespace Go.Proofs.YtijfddobandcdaaDoor.X
open Go.RowKit YtijfddobandcdaaDoorW.PrintWords YtijfddobandcdaaDoorW.PrintLast YtijfddobandcdaaDoorW.PrintMore YtijfddobandcdaaDoor.T
theorem isLayout_l0 (G : List Nat) (hG : Gr 7 G) (l : List Int) (hl : l.length < 2 ^ 60) : ∀ (d i : Nat) (P : List Nat), i + d = l.length → l.take i = gi P → (∀ v ∈ P, v < G.length) →
  ∃ r, Ev (fun k => sweep_town_isLayout.l0 k (gi G) l ((lset P : Nat) : Int) l (l.length : Int) (i : Int)) r ∧ (r = true ↔ IsOrd G.length l) := by
 have hn := hG.most
 intro d
 induction d with
 | zero =>
  intro i P hi hP h2
  have e : l = gi P := by rw [← hP, List.take_of_length_le (by omega)]
  have hall : sweep_town_all.f (gi G) = some ((2 ^ G.length - 1 : Nat) : Int) := by
   unfold sweep_town_all.f
   have h1 : 2 ^ G.length ≤ 2 ^ 9 := Nat.pow_le_pow_right (by omega) (by omega)
   have h2 := Nat.two_pow_pos G.length
   rw [gi_length, s_one _ (by omega), w64_small _ (by omega) (by omega)]
   congr 1
   omega
  by_cases hlen : l.length = G.length
  ·refine ⟨(((lset P : Nat) : Int) == ((2 ^ G.length - 1 : Nat) : Int)), Ev.step (fun k => by rw [sweep_town_isLayout.l0, if_neg (by omega), if_pos (by rw [gi_length]; omega)]) (Ev.bind1 hall (Ev.some rfl)), ?_⟩
   have hPl : P.length = G.length := by rw [e, gi_length] at hlen; exact hlen
   constructor
   ·intro h
    have h3 : lset P = 2 ^ G.length - 1 := Int.ofNat.inj (beq_iff_eq.1 h)
    have h4 := nodup_of_covers (P := P) (n := G.length) (by omega) fun j hj => by rw [← lset_bit, h3, full_bit]; exact hj
    exact e ▸ (IsOrd.of h4 h2).2 hPl
   ·intro h
    rw [e] at h
    obtain ⟨Q, e2, h3, h4, h5⟩ := h
    obtain rfl := gi_inj e2
    have h6 : lset P = 2 ^ G.length - 1 := eq_of_bits fun j => by
     show bset _ _ ↔ bset _ _
     rw [lset_bit, full_bit]
     exact ⟨fun h => h4 j h, covers_of_nodup h5 h3 h4 j⟩
    simp [h6]
  ·refine ⟨false, Ev.step (f := fun _ => some false) (fun k => by rw [sweep_town_isLayout.l0, if_neg (by omega), if_neg (by rw [gi_length]; omega)]) (Ev.some rfl), ?_⟩
   simp only [Bool.false_eq_true, false_iff]
   rintro ⟨Q, e2, _, _, h5⟩
   rw [e2, gi_length] at hlen
   exact hlen h5
 | succ d ih =>
  intro i P hi hP h2
  have hil : i < l.length := by omega
  have hP62 : lset P < 2 ^ 62 := Nat.lt_of_lt_of_le (lset_lt h2) (Nat.pow_le_pow_right (by omega) (by omega))
  by_cases h3 : rd l (i : Int) < 0
  ·refine ⟨false, Ev.step (f := fun _ => some false) (fun k => by rw [sweep_town_isLayout.l0, if_pos (by omega), if_pos (by omega), if_pos (by omega), if_pos h3]) (Ev.some rfl), ?_⟩
   simp only [Bool.false_eq_true, false_iff]
   intro h
   obtain ⟨v, hv, _⟩ := h.get i hil
   omega
  ·by_cases h4 : rd l (i : Int) ≥ (G.length : Int)
   ·refine ⟨false, Ev.step (f := fun _ => some false) (fun k => by rw [sweep_town_isLayout.l0, if_pos (by omega), if_pos (by omega), if_pos (by omega), if_neg h3, if_pos (by rw [gi_length]; exact h4)]) (Ev.some rfl), ?_⟩
    simp only [Bool.false_eq_true, false_iff]
    intro h
    obtain ⟨v, hv, hv2⟩ := h.get i hil
    omega
   ·obtain ⟨v, hv⟩ : ∃ v : Nat, rd l (i : Int) = (v : Int) := ⟨(rd l (i : Int)).toNat, by omega⟩
    have hvn : v < G.length := by omega
    obtain ⟨r, h6, h7⟩ := ih (i + 1) (P ++ [v]) (by omega) (take_snoc hP hil v hv) (by
     intro x hx
     rcases List.mem_append.1 hx with h | h
     ·exact h2 x h
     ·rw [List.mem_singleton.1 h]; exact hvn)
    refine ⟨r, Ev.step (fun k => ?_) h6, h7⟩
    have e2 : 2 ^ v < 2 ^ 62 := Nat.pow_lt_pow_right (by omega) (by omega)
    rw [sweep_town_isLayout.l0, if_pos (by omega), if_pos (by omega), if_pos (by omega), if_neg h3, if_neg (by rw [gi_length]; exact h4), if_pos (by omega), hv, s_one v (by omega), b_or _ _ hP62 e2, wrap_succ i (by omega), lset_snoc]
theorem isLayout_ev (G : List Nat) (hG : Gr 7 G) (l : List Int) (hl : l.length < 2 ^ 60) : ∃ r, Ev (fun k => sweep_town_isLayout.f k (gi G) l) r ∧ (r = true ↔ IsOrd G.length l) :=
 isLayout_l0 G hG l hl l.length 0 [] (by omega) (by simp [gi]) (by simp)
theorem list_eq (l : List Int) (hl : l.length < 2 ^ 44) : ∃ m, lampblacklaw03_list.f l = some m ∧ (l.length ≤ 140 → m = l) ∧ (140 < l.length → m.length = 140) ∧ m.length ≤ 140 := by
 have hm : mn (l.length : Int) 140 = ((min l.length 140 : Nat) : Int) := mn_nat l.length 140
 refine ⟨l.take (min l.length 140), ?_, fun h => List.take_of_length_le (by omega), fun h => by rw [List.length_take]; omega, by rw [List.length_take]; omega⟩
 unfold lampblacklaw03_list.f slices_Clone_int_int.f
 simp only [hm, Int.toNat_natCast]
 rw [if_pos (by omega), if_pos (by omega)]
 simp only [Option.bind_some, List.length_nil, List.nil_append]
 rw [if_pos (by rw [List.length_take]; omega)]
 rfl
theorem list_ord {l m : List Int} {n : Nat} (hn : n ≤ 9) (h1 : l.length ≤ 140 → m = l) (h2 : 140 < l.length → m.length = 140) : IsOrd n m ↔ IsOrd n l := by
 by_cases h : l.length ≤ 140
 ·rw [h1 h]
 ·have := h2 (by omega)
  exact ⟨fun h' => by have := h'.length; omega, fun h' => by have := h'.length; omega⟩
noncomputable def bagsOf (G : List Nat) : Nat → List Nat → List Nat
 | _, [] => []
 | S, v :: P => (bor G S ||| 2 ^ v) :: bagsOf G (S ||| 2 ^ v) P
theorem bagsOf_length (G : List Nat) : ∀ (P : List Nat) (S : Nat), (bagsOf G S P).length = P.length
 | [], _ => rfl
 | v :: P, S => by simp [bagsOf, bagsOf_length G P]
theorem bags_l0 (G : List Nat) (hG : Gr 7 G) (P : List Nat) (hP : ∀ v ∈ P, v < G.length) (hl : P.length < 2 ^ 40) : ∀ (d i S : Nat) (out : List Nat), i + d = P.length → S < 2 ^ G.length → out.length = i →
  Ev (fun k => sweep_town_bags.l0 k (gi G) (gi out) (S : Int) (gi P) (P.length : Int) (i : Int)) (gi (out ++ bagsOf G S (P.drop i))) := by
 have hn := hG.most
 intro d
 induction d with
 | zero =>
  intro i S out hi hS ho
  refine Ev.step (f := fun _ => some (gi out)) (fun k => by rw [sweep_town_bags.l0, if_neg (by omega)]) (Ev.some ?_)
  rw [List.drop_eq_nil_of_le (by omega)]
  simp [bagsOf]
 | succ d ih =>
  intro i S out hi hS ho
  have hi' : i < P.length := by omega
  have hm := hP _ (List.getElem_mem hi')
  have hr : rd (gi P) (i : Int) = ((P[i] : Nat) : Int) := by rw [rd_gi, List.getD_eq_getElem?_getD, List.getElem?_eq_getElem hi']; rfl
  have hS62 := big (small G (by omega) hS)
  have hb62 := big (small G (by omega) (bor_lt G S))
  have e2 : 2 ^ P[i] < 2 ^ G.length := Nat.pow_lt_pow_right (by omega) hm
  have e62 := big (small G (by omega) e2)
  have hS2 := or_lt hS e2
  clear e2
  have h := ih (i + 1) (S ||| 2 ^ P[i]) (out ++ [bor G S ||| 2 ^ P[i]]) (by omega) hS2 (by simp; omega)
  refine Ev.step (f := fun k => (sweep_town_border.f (gi G) (S : Int)).bind fun t259 => if 0 ≤ ((P[i] : Nat) : Int) then (if (gi out).length < 17592186044416 then sweep_town_bags.l0 k (gi G) (gi out ++ [Go.bits .or .i64 t259 (shl .i64 1 ((P[i] : Nat) : Int))]) (Go.bits .or .i64 (S : Int) (shl .i64 1 ((P[i] : Nat) : Int))) (gi P) (P.length : Int) (wrap64 ((i : Int) + 1)) else none) else none) (fun k => ?_) ?_
  ·rw [sweep_town_bags.l0, if_pos (by omega), if_pos (by omega), if_pos (by rw [gi_length]; omega), hr]
  ·refine Ev.bind1 (border_eq G hG S hS) (Ev.if_pos (by omega) (Ev.if_pos (by rw [gi_length]; omega) ?_))
   rw [s_one _ (by omega), b_or _ _ hb62 e62, b_or _ _ hS62 e62, wrap_succ i (by omega), gi_snoc]
   rw [List.drop_eq_getElem_cons hi', bagsOf]
   simpa using h
theorem bags_ev (G : List Nat) (hG : Gr 7 G) (P : List Nat) (hP : ∀ v ∈ P, v < G.length) (hl : P.length < 2 ^ 40) : Ev (fun k => sweep_town_bags.f k (gi G) (gi P)) (gi (bagsOf G 0 P)) := by
 unfold sweep_town_bags.f
 rw [gi_length]
 exact bags_l0 G hG P hP hl P.length 0 0 [] (by omega) (Nat.two_pow_pos _) rfl
end Go.Proofs.YtijfddobandcdaaDoor.X
end
