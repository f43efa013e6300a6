/- Part 1 of what WidthTrees rests on: contracts of the functions that it reaches, and what they compute, in plain words. -/
import Derived.Test.YtoffehihicabcaaDoorZWidthTrees0
import Derived.Maps.AppendAt
import Derived.Maps.OwnIn
import Derived.WalkSmall
import Derived.Test.YtoffehihicabcaaDoorWMore
import Derived.Laws.BitsLemmas
import Derived.Maps.OwnOps
import Derived.Maps.OwnSet
import Derived.Maps.Ext
set_option linter.unusedVariables false
set_option linter.unusedSimpArgs false
section
namespace Go.Proofs.YtoffehihicabcaaDoor.X
open Go.RowKit YtoffehihicabcaaDoorW.PrintWords YtoffehihicabcaaDoorW.PrintLast YtoffehihicabcaaDoorW.PrintMore
attribute [local go_sem] max2_int min2_int max_two min_two max_three min_three max_four min_four
noncomputable section
mutual
def lampblackref02_IsTree.j0 : Nat → List Int → Int → Bool → List Int → List Int → Option (Int × Bool)
 | 0, _, _, _, _, _ => none
 | k + 1, x0, x6, x34, x432000, x432001 => if x34 = true then (some (0, false)) else (lampblackref02_IsTree.l0 k x0 x6 0 0 x432001 (x432001.length : Int) 0 x432000 x432001)
def lampblackref02_IsTree.l0 : Nat → List Int → Int → Int → Int → List Int → Int → Int → List Int → List Int → Option (Int × Bool)
 | 0, _, _, _, _, _, _, _, _, _ => none
 | k + 1, x0, x6, x7, x8, x36, x37, x38, x432000, x432001 => if x38 < x37 then (if 0 ≤ x38 then (if x38 < (x36.length : Int) then (if (rd x36 x38) < (-1) then (lampblackref02_IsTree.j2 k x0 x6 x7 x8 x38 (rd x36 x38) x36 x37 x38 true x432000 x432001) else (if (rd x36 x38) ≥ x6 then (lampblackref02_IsTree.j2 k x0 x6 x7 x8 x38 (rd x36 x38) x36 x37 x38 true x432000 x432001) else (if x38 < (x432000.length : Int) then (if (rd x432000 x38) < 0 then (lampblackref02_IsTree.j2 k x0 x6 x7 x8 x38 (rd x36 x38) x36 x37 x38 true x432000 x432001) else (lampblackref02_IsTree.j2 k x0 x6 x7 x8 x38 (rd x36 x38) x36 x37 x38 (decide ((rd x432000 x38) ≥ (shl .i64 1 (x0.length : Int)))) x432000 x432001)) else (none)))) else (none)) else (none)) else (lampblackref02_IsTree.l1 k x0 x6 x7 x8 (x432001.length : Int) 0 x432000 x432001)
def lampblackref02_IsTree.j2 : Nat → List Int → Int → Int → Int → Int → Int → List Int → Int → Int → Bool → List Int → List Int → Option (Int × Bool)
 | 0, _, _, _, _, _, _, _, _, _, _, _, _ => none
 | k + 1, x0, x6, x7, x8, x9, x10, x36, x37, x38, x68, x432000, x432001 => if x68 = true then (some (0, false)) else (if 0 ≤ x9 then (if x9 < (x432000.length : Int) then ((lampblackref02_Size.f k (rd x432000 x9)).bind fun t436 => (if x10 < 0 then (lampblackref02_IsTree.l0 k x0 x6 (wrap64 (x7 + 1)) (mx x8 t436) x36 x37 (wrap64 (x38 + 1)) x432000 x432001) else (lampblackref02_IsTree.l0 k x0 x6 x7 (mx x8 t436) x36 x37 (wrap64 (x38 + 1)) x432000 x432001))) else (none)) else (none))
def lampblackref02_IsTree.l1 : Nat → List Int → Int → Int → Int → Int → Int → List Int → List Int → Option (Int × Bool)
 | 0, _, _, _, _, _, _, _, _ => none
 | k + 1, x0, x6, x7, x8, x84, x85, x432000, x432001 => if x85 < x84 then (lampblackref02_IsTree.l2 k x0 x6 x7 x8 x85 x84 x85 x6 0 x432000 x432001) else (if x7 = 1 then (lampblackref02_IsTree.l3 k x0 x8 (x0.length : Int) 0 x432000 x432001) else (some (0, false)))
def lampblackref02_IsTree.l2 : Nat → List Int → Int → Int → Int → Int → Int → Int → Int → Int → List Int → List Int → Option (Int × Bool)
 | 0, _, _, _, _, _, _, _, _, _, _, _ => none
 | k + 1, x0, x6, x7, x8, x12, x84, x85, x89, x90, x432000, x432001 => if x90 < x89 then (if x12 ≥ 0 then (if 0 ≤ x12 then (if x12 < (x432001.length : Int) then (lampblackref02_IsTree.l2 k x0 x6 x7 x8 (rd x432001 x12) x84 x85 x89 (wrap64 (x90 + 1)) x432000 x432001) else (none)) else (none)) else (lampblackref02_IsTree.l2 k x0 x6 x7 x8 x12 x84 x85 x89 (wrap64 (x90 + 1)) x432000 x432001)) else (if x12 ≥ 0 then (some (0, false)) else (lampblackref02_IsTree.l1 k x0 x6 x7 x8 x84 (wrap64 (x85 + 1)) x432000 x432001))
def lampblackref02_IsTree.l3 : Nat → List Int → Int → Int → Int → List Int → List Int → Option (Int × Bool)
 | 0, _, _, _, _, _, _ => none
 | k + 1, x0, x8, x106, x107, x432000, x432001 => if x107 < x106 then (lampblackref02_IsTree.l4 k x0 x8 x107 0 0 x106 x107 x432000 (x432000.length : Int) 0 x432000 x432001) else (some (wrap64 (x8 - 1), true))
def lampblackref02_IsTree.l4 : Nat → List Int → Int → Int → Int → Int → Int → Int → List Int → Int → Int → List Int → List Int → Option (Int × Bool)
 | 0, _, _, _, _, _, _, _, _, _, _, _, _ => none
 | k + 1, x0, x8, x13, x14, x15, x106, x107, x111, x112, x113, x432000, x432001 => if x113 < x112 then (if 0 ≤ x113 then (if x113 < (x111.length : Int) then (if 0 ≤ x13 then (if (Go.bits .and .i64 (shr .i64 (rd x111 x113) x13) 1) = 0 then (lampblackref02_IsTree.l4 k x0 x8 x13 x14 x15 x106 x107 x111 x112 (wrap64 (x113 + 1)) x432000 x432001) else (if x113 < (x432001.length : Int) then (if (rd x432001 x113) < 0 then (lampblackref02_IsTree.l4 k x0 x8 x13 (wrap64 (x14 + 1)) (Go.bits .or .i64 x15 (rd x111 x113)) x106 x107 x111 x112 (wrap64 (x113 + 1)) x432000 x432001) else (if 0 ≤ (rd x432001 x113) then (if (rd x432001 x113) < (x432000.length : Int) then (if (Go.bits .and .i64 (shr .i64 (rd x432000 (rd x432001 x113)) x13) 1) = 0 then (lampblackref02_IsTree.l4 k x0 x8 x13 (wrap64 (x14 + 1)) (Go.bits .or .i64 x15 (rd x111 x113)) x106 x107 x111 x112 (wrap64 (x113 + 1)) x432000 x432001) else (lampblackref02_IsTree.l4 k x0 x8 x13 x14 (Go.bits .or .i64 x15 (rd x111 x113)) x106 x107 x111 x112 (wrap64 (x113 + 1)) x432000 x432001)) else (none)) else (none))) else (none))) else (none)) else (none)) else (none)) else (if x14 = 1 then (if 0 ≤ x13 then (if x13 < (x0.length : Int) then (if (Go.bits .andNot .i64 (rd x0 x13) x15) = 0 then (lampblackref02_IsTree.l3 k x0 x8 x106 (wrap64 (x107 + 1)) x432000 x432001) else (some (0, false))) else (none)) else (none)) else (some (0, false)))
end
def lampblackref02_IsTree.f (k : Nat) (l0 : List Int) (l1_0 : List Int) (l1_1 : List Int) : Option (Int × Bool) := if (l1_0.length : Int) < 1 then (lampblackref02_IsTree.j0 k l0 (l1_0.length : Int) true l1_0 l1_1) else (if (l1_0.length : Int) > 30 then (lampblackref02_IsTree.j0 k l0 (l1_0.length : Int) true l1_0 l1_1) else (lampblackref02_IsTree.j0 k l0 (l1_0.length : Int) ((l1_1.length : Int) != (l1_0.length : Int)) l1_0 l1_1))
set_option maxHeartbeats 8000000 in
set_option maxRecDepth 100000 in
theorem lampblackref02_IsTree.calls (k : Nat) (A0 : Option Addr) (c0 : Nat) (l0 : List Int) (A1_0 : Option Addr) (c1_0 : Nat) (l1_0 : List Int) (A1_1 : Option Addr) (c1_1 : Nat) (l1_1 : List Int) (r1 : Int) (r2 : Bool) (w : World) (hr0 : Kd.C (Kd.int .i64) w A0 l0.length l0) (hc0 : l0.length ≤ c0) (hr1_0 : Kd.C (Kd.int .i64) w A1_0 l1_0.length l1_0) (hc1_0 : l1_0.length ≤ c1_0) (hr1_1 : Kd.C (Kd.int .i64) w A1_1 l1_1.length l1_1) (hc1_1 : l1_1.length ≤ c1_1) (h : lampblackref02_IsTree.f k l0 l1_0 l1_1 = some (r1, r2)) :
  Calls Tryd.prog 53 #[.slice A0 l0.length c0, .agg #[.slice A1_0 l1_0.length c1_0, .slice A1_1 l1_1.length c1_1]] w fun e w' => e = .returned (.tuple #[.int .i64 r1, .bool r2]) ∧ Below w.heap.size w w' := by
 have hu52 := Tryd.underlying52
 have HR0 := Aside0.mk hr0
 have HC0 := Aside0.mk hc0
 clear hr0 hc0
 have HR1_0 := Aside0.mk hr1_0
 have HC1_0 := Aside0.mk hc1_0
 clear hr1_0 hc1_0
 have HR1_1 := Aside0.mk hr1_1
 have HC1_1 := Aside0.mk hc1_1
 clear hr1_1 hc1_1
 have HB := Aside0.mk (Below.refl w.heap.size w)
 have H : (if (l1_0.length : Int) < 1 then (lampblackref02_IsTree.j0 k l0 (l1_0.length : Int) true l1_0 l1_1) else (if (l1_0.length : Int) > 30 then (lampblackref02_IsTree.j0 k l0 (l1_0.length : Int) true l1_0 l1_1) else (lampblackref02_IsTree.j0 k l0 (l1_0.length : Int) ((l1_1.length : Int) != (l1_0.length : Int)) l1_0 l1_1))) = some (r1, r2) := h
 clear h
 have HC3 := Aside0.mk H
 clear H
 go_enter Tryd.func53, Tryd.ntmps53
 go_upto_region 2 with (first | ((with_reducible refine gate_dst (N := 3) rfl ?_); (try (refine gate_guard (by rfl) ?_; dsimp only)); refine box_event ?hg (N := 3) ?hd (cs := #[.slice A1_0 l1_0.length c1_0, .slice A1_1 l1_1.length c1_1]) (t := 52) ?hr ?_; (case hd => rfl); (case hg => rfl); (case hr => first | (go_simp; done) | (go_simp; rfl)); intro gb431 hg w4 hbox hb; have n0_ := Aside0.mk (below_step (Qaw) hb); have n1_ := Aside0.mk (hbox); have n2_ := Aside0.mk ((by rw [hg]; exact (below_size (Qaw)) : w.heap.size ≤ gb431)); have n3_ := Aside0.mk ((by rw [hg]; exact (below_size (Qaw)) : w.heap.size ≤ gb431)); clear HB; have HB := n0_; have BK431 := n1_; have GW431 := n2_; have GE431 := n3_; clear n0_ n1_ n2_ n3_; clear hb hbox hg; have hcz5_0 : w4.cell? ⟨gb431, 0, none⟩ = some (.slice A1_0 l1_0.length c1_0) := (blk_cell BK431.out 0).trans rfl; have hcz5_1 : w4.cell? ⟨gb431, 1, none⟩ = some (.slice A1_1 l1_1.length c1_1) := (blk_cell BK431.out 1).trans rfl; have hfz5_0 := blk_frozen BK431.out 0; have hfz5_1 := blk_frozen BK431.out 1))
 repeat (go_quiet (first | ((with_reducible refine gate_dst (N := 3) rfl ?_); (try (refine gate_guard (by rfl) ?_; dsimp only)); refine box_event ?hg (N := 3) ?hd (cs := #[.slice A1_0 l1_0.length c1_0, .slice A1_1 l1_1.length c1_1]) (t := 52) ?hr ?_; (case hd => rfl); (case hg => rfl); (case hr => first | (go_simp; done) | (go_simp; rfl)); intro gb431 hg w4 hbox hb; have n0_ := Aside0.mk (below_step (Qaw) hb); have n1_ := Aside0.mk (hbox); have n2_ := Aside0.mk ((by rw [hg]; exact (below_size (Qaw)) : w.heap.size ≤ gb431)); have n3_ := Aside0.mk ((by rw [hg]; exact (below_size (Qaw)) : w.heap.size ≤ gb431)); clear HB; have HB := n0_; have BK431 := n1_; have GW431 := n2_; have GE431 := n3_; clear n0_ n1_ n2_ n3_; clear hb hbox hg; have hcz5_0 : w4.cell? ⟨gb431, 0, none⟩ = some (.slice A1_0 l1_0.length c1_0) := (blk_cell BK431.out 0).trans rfl; have hcz5_1 : w4.cell? ⟨gb431, 1, none⟩ = some (.slice A1_1 l1_1.length c1_1) := (blk_cell BK431.out 1).trans rfl; have hfz5_0 := blk_frozen BK431.out 0; have hfz5_1 := blk_frozen BK431.out 1)); go_upto_region 2 with (first | ((with_reducible refine gate_dst (N := 3) rfl ?_); (try (refine gate_guard (by rfl) ?_; dsimp only)); refine box_event ?hg (N := 3) ?hd (cs := #[.slice A1_0 l1_0.length c1_0, .slice A1_1 l1_1.length c1_1]) (t := 52) ?hr ?_; (case hd => rfl); (case hg => rfl); (case hr => first | (go_simp; done) | (go_simp; rfl)); intro gb431 hg w4 hbox hb; have n0_ := Aside0.mk (below_step (Qaw) hb); have n1_ := Aside0.mk (hbox); have n2_ := Aside0.mk ((by rw [hg]; exact (below_size (Qaw)) : w.heap.size ≤ gb431)); have n3_ := Aside0.mk ((by rw [hg]; exact (below_size (Qaw)) : w.heap.size ≤ gb431)); clear HB; have HB := n0_; have BK431 := n1_; have GW431 := n2_; have GE431 := n3_; clear n0_ n1_ n2_ n3_; clear hb hbox hg; have hcz5_0 : w4.cell? ⟨gb431, 0, none⟩ = some (.slice A1_0 l1_0.length c1_0) := (blk_cell BK431.out 0).trans rfl; have hcz5_1 : w4.cell? ⟨gb431, 1, none⟩ = some (.slice A1_1 l1_1.length c1_1) := (blk_cell BK431.out 1).trans rfl; have hfz5_0 := blk_frozen BK431.out 0; have hfz5_1 := blk_frozen BK431.out 1)))
 (try simp only [Act.put, List.setIfInBounds_toArray, List.set_cons_zero, List.set_cons_succ])
 go_cut [34] (fun v34 wc => ∃ (kq : Nat) (x34_2 : Bool), v34 = .bool x34_2 ∧ Aside0 (lampblackref02_IsTree.j0 kq l0 (l1_0.length : Int) x34_2 l1_0 l1_1 = some (r1, r2)) ∧ Aside0 (kq ≤ k) ∧ Aside0 (wc.heap[gb431]? = some (.cells #[(.slice A1_0 l1_0.length c1_0), (.slice A1_1 l1_1.length c1_1)] 52 (0, 0))) ∧ Aside0 (Below w.heap.size w wc))
 case first =>
  have H := HC3.out
  clear HC3
  by_cases c6 : (l1_0.length : Int) < 1
  ·rw [if_pos c6] at H
   have c6b0 : decide ((l1_0.length : Int) < 1) = true := decide_eq_true c6
   have c6b1 : decide (l1_0.length < 1) = true := decide_eq_true (by omega)
   clear c6
   (first | rw [c6b0] | (simp only [i64_w, i32_w]; rw [c6b0]) | skip)
   have H' := Aside0.mk H
   clear H
   go_wp2
   repeat (go_quiet (fail); try go_wp2)
   go_meet
   case rel => exact ⟨_, (true), (Qrs), H', ⟨by first | omega | exact Nat.le_refl _⟩, ⟨by (with_reducible repeat (first | refine blk_drewN ?_ _ | refine blk_drew ?_ | refine blk_alloc ?_ _)); exact BK431.out⟩, ⟨by repeat (first | (with_reducible first | exact HB.out | apply below_alloc | apply pw_below_drewN | apply below_drew1 | refine below_set ?_ GE431.out) | exact HB.out)⟩⟩
  ·rw [if_neg c6] at H
   have c6b0 : decide ((l1_0.length : Int) < 1) = false := decide_eq_false c6
   have c6b1 : decide (l1_0.length < 1) = false := decide_eq_false (by omega)
   clear c6
   (first | rw [c6b0] | (simp only [i64_w, i32_w]; rw [c6b0]) | skip)
   by_cases c7 : (l1_0.length : Int) > 30
   ·rw [if_pos c7] at H
    have c7b0 : decide (30 < (l1_0.length : Int)) = true := decide_eq_true c7
    have c7b1 : decide (30 < l1_0.length) = true := decide_eq_true (by omega)
    clear c7
    have H' := Aside0.mk H
    clear H
    go_wp2
    repeat (go_quiet (fail); try go_wp2)
    go_meet
    case rel => exact ⟨_, (true), (Qrs), H', ⟨by first | omega | exact Nat.le_refl _⟩, ⟨by (with_reducible repeat (first | refine blk_drewN ?_ _ | refine blk_drew ?_ | refine blk_alloc ?_ _)); exact BK431.out⟩, ⟨by repeat (first | (with_reducible first | exact HB.out | apply below_alloc | apply pw_below_drewN | apply below_drew1 | refine below_set ?_ GE431.out) | exact HB.out)⟩⟩
   ·rw [if_neg c7] at H
    have c7b0 : decide (30 < (l1_0.length : Int)) = false := decide_eq_false c7
    have c7b1 : decide (30 < l1_0.length) = false := decide_eq_false (by omega)
    clear c7
    have H' := Aside0.mk H
    clear H
    have hcz8_0 : w4.cell? ⟨gb431, 0, none⟩ = some (.slice A1_0 l1_0.length c1_0) := (blk_cell BK431.out 0).trans rfl
    have hcz8_1 : w4.cell? ⟨gb431, 1, none⟩ = some (.slice A1_1 l1_1.length c1_1) := (blk_cell BK431.out 1).trans rfl
    have hfz8_0 := blk_frozen BK431.out 0
    have hfz8_1 := blk_frozen BK431.out 1
    go_wp2
    repeat (go_quiet (fail); try go_wp2)
    go_meet
    case rel => exact ⟨_, (((l1_1.length : Int) != (l1_0.length : Int))), (Qrs), H', ⟨by first | omega | exact Nat.le_refl _⟩, ⟨by (with_reducible repeat (first | refine blk_drewN ?_ _ | refine blk_drew ?_ | refine blk_alloc ?_ _)); exact BK431.out⟩, ⟨by repeat (first | (with_reducible first | exact HB.out | apply below_alloc | apply pw_below_drewN | apply below_drew1 | refine below_set ?_ GE431.out) | exact HB.out)⟩⟩
 case rest =>
  clear HC3
  try clear c1
  try clear p2
  try clear c5
  try clear c6
  try clear c6b0
  try clear c6b1
  try clear c7
  try clear c7b0
  try clear c7b1
  try clear hcz5_0
  try clear hcz5_1
  try clear hcz8_0
  try clear hcz8_1
  try clear hfz5_0
  try clear hfz5_1
  try clear hfz8_0
  try clear hfz8_1
  obtain ⟨kq, x34_2, rfl, HA, HJ2, BK431, HB⟩ := hcut
  cases kq with
  | zero => exact absurd HA.out (by simp [lampblackref02_IsTree.j0])
  | succ kj2 =>
   have H := HA.out
   clear HA
   simp only [lampblackref02_IsTree.j0] at H
   by_cases c9 : x34_2 = true
   ·subst c9
    have H1 : (some (0, false)) = some (r1, r2) := by rw [if_pos rfl] at H; exact H
    clear H
    have H := H1
    clear H1
    simp only [Option.some.injEq, Prod.mk.injEq] at H
    obtain ⟨rfl, rfl⟩ := H
    go_wp2
    repeat (go_quiet (fail); try go_wp2)
    go_ret2
    exact ⟨by first | rfl | (simp [errW_none, errW_some] <;> rfl) | (simp [*, errW_none, errW_some] <;> rfl), by repeat (first | (with_reducible first | exact HB.out | apply below_alloc | apply pw_below_drewN | apply below_drew1 | refine below_set ?_ GE431.out) | exact HB.out)⟩
   ·replace c9 := Bool.eq_false_iff.mpr c9
    subst c9
    have H1 : (lampblackref02_IsTree.l0 kj2 l0 (l1_0.length : Int) 0 0 l1_1 (l1_1.length : Int) 0 l1_0 l1_1) = some (r1, r2) := by rw [if_neg (show ¬ (false = true) by decide)] at H; exact H
    clear H
    have H := H1
    clear H1
    have H' := Aside0.mk H
    clear H
    have hcz10_0 : wc.cell? ⟨gb431, 0, none⟩ = some (.slice A1_0 l1_0.length c1_0) := (blk_cell BK431.out 0).trans rfl
    have hcz10_1 : wc.cell? ⟨gb431, 1, none⟩ = some (.slice A1_1 l1_1.length c1_1) := (blk_cell BK431.out 1).trans rfl
    have hfz10_0 := blk_frozen BK431.out 0
    have hfz10_1 := blk_frozen BK431.out 1
    go_wp2
    repeat (go_quiet (fail); try go_wp2)
    go_loopg [7, 8, 38] kj2 (fun kq v7 v8 v38 w' => ∃ (x7_2 : Int) (x8_2 : Int) (x38_2 : Int), v7 = .int .i64 x7_2 ∧ v8 = .int .i64 x8_2 ∧ v38 = .int .i64 x38_2 ∧ Aside0 (lampblackref02_IsTree.l0 kq l0 (l1_0.length : Int) x7_2 x8_2 l1_1 (l1_1.length : Int) x38_2 l1_0 l1_1 = some (r1, r2)) ∧ Aside0 (kq ≤ kj2) ∧ Aside0 (w'.heap[gb431]? = some (.cells #[(.slice A1_0 l1_0.length c1_0), (.slice A1_1 l1_1.length c1_1)] 52 (0, 0))) ∧ Aside0 (Below w.heap.size w w'))
    case atStart => exact ⟨(0), (0), (0), (Qrs), (Qrs), (Qrs), H', ⟨Nat.le_refl _⟩, ⟨by (with_reducible repeat (first | refine blk_drewN ?_ _ | refine blk_drew ?_ | refine blk_alloc ?_ _)); exact BK431.out⟩, ⟨by repeat (first | (with_reducible first | exact HB.out | apply below_alloc | apply pw_below_drewN | apply below_drew1 | refine below_set ?_ GE431.out) | exact HB.out)⟩⟩
    case round =>
     clear H'
     try clear c1
     try clear p2
     try clear c5
     try clear c6
     try clear c6b0
     try clear c6b1
     try clear c7
     try clear c7b0
     try clear c7b1
     try clear c9
     try clear hcz10_0
     try clear hcz10_1
     try clear hcz5_0
     try clear hcz5_1
     try clear hcz8_0
     try clear hcz8_1
     try clear hfz10_0
     try clear hfz10_1
     try clear hfz5_0
     try clear hfz5_1
     try clear hfz8_0
     try clear hfz8_1
     try clear p2
     obtain ⟨x7_2, x8_2, x38_2, rfl, rfl, rfl, HA, HK2, BK431, HB⟩ := hrel
     cases gk with
     | zero => exact absurd HA.out (by simp [lampblackref02_IsTree.l0])
     | succ k2 =>
      have H := HA.out
      clear HA
      simp only [lampblackref02_IsTree.l0] at H
      by_cases c11 : x38_2 < (l1_1.length : Int)
      ·rw [if_pos c11] at H
       have c11b0 : decide (x38_2 < (l1_1.length : Int)) = true := decide_eq_true c11
       clear c11
       by_cases c12 : 0 ≤ x38_2
       ·rw [if_pos c12] at H
        have c12b0 : decide (0 ≤ x38_2) = true := decide_eq_true c12
        clear c12
        by_cases c13 : x38_2 < (l1_1.length : Int)
        ·rw [if_pos c13] at H
         have c13b0 : decide (x38_2 < (l1_1.length : Int)) = true := decide_eq_true c13
         clear c13
         have HC14 := Aside0.mk H
         clear H
         have p432 : 0 ≤ (x38_2 : Int) := of_decide_eq_true (Qas)
         have q432 : x38_2 < (l1_1.length : Int) := of_decide_eq_true (Qas)
         obtain ⟨ad432, e432, hx432_0⟩ := Kd.at_int HR1_1.out x38_2 p432 q432
         cases e432
         replace hx432_0 := (HB.out.cell (World.block_lt_of_cell? w _ hx432_0)).trans hx432_0
         replace p432 := eq_true p432
         replace q432 := eq_true q432
         go_upto_region 8 with (fail)
         repeat (go_quiet (fail); go_upto_region 8 with (fail))
         go_cut [68] (fun v68 wc => ∃ (kq : Nat) (x68_13 : Bool), v68 = .bool x68_13 ∧ Aside0 (lampblackref02_IsTree.j2 kq l0 (l1_0.length : Int) x7_2 x8_2 x38_2 (rd l1_1 x38_2) l1_1 (l1_1.length : Int) x38_2 x68_13 l1_0 l1_1 = some (r1, r2)) ∧ Aside0 (kq ≤ k2) ∧ Aside0 (wc.heap[gb431]? = some (.cells #[(.slice A1_0 l1_0.length c1_0), (.slice (some ad432) l1_1.length c1_1)] 52 (0, 0))) ∧ Aside0 (Below w.heap.size w wc))
         case first =>
          have H := HC14.out
          clear HC14
          by_cases c15 : (rd l1_1 x38_2) < (-1)
          ·rw [if_pos c15] at H
           have c15b0 : decide ((rd l1_1 x38_2) < (-1)) = true := decide_eq_true c15
           clear c15
           (first | rw [c15b0] | (simp only [i64_w, i32_w]; rw [c15b0]) | skip)
           have H' := Aside0.mk H
           clear H
           go_wp2
           repeat (go_quiet (fail); try go_wp2)
           go_meet
           case rel => exact ⟨_, (true), (Qrs), H', ⟨by have := HJ2.out; have := HK2.out; first | omega | exact Nat.le_refl _⟩, ⟨by (with_reducible repeat (first | refine blk_drewN ?_ _ | refine blk_drew ?_ | refine blk_alloc ?_ _)); exact BK431.out⟩, ⟨by repeat (first | (with_reducible first | exact HB.out | apply below_alloc | apply pw_below_drewN | apply below_drew1 | refine below_set ?_ GE431.out) | exact HB.out)⟩⟩
          ·rw [if_neg c15] at H
           have c15b0 : decide ((rd l1_1 x38_2) < (-1)) = false := decide_eq_false c15
           clear c15
           (first | rw [c15b0] | (simp only [i64_w, i32_w]; rw [c15b0]) | skip)
           by_cases c16 : (rd l1_1 x38_2) ≥ (l1_0.length : Int)
           ·rw [if_pos c16] at H
            have c16b0 : decide ((l1_0.length : Int) ≤ (rd l1_1 x38_2)) = true := decide_eq_true c16
            clear c16
            have H' := Aside0.mk H
            clear H
            go_wp2
            repeat (go_quiet (fail); try go_wp2)
            go_meet
            case rel => exact ⟨_, (true), (Qrs), H', ⟨by have := HJ2.out; have := HK2.out; first | omega | exact Nat.le_refl _⟩, ⟨by (with_reducible repeat (first | refine blk_drewN ?_ _ | refine blk_drew ?_ | refine blk_alloc ?_ _)); exact BK431.out⟩, ⟨by repeat (first | (with_reducible first | exact HB.out | apply below_alloc | apply pw_below_drewN | apply below_drew1 | refine below_set ?_ GE431.out) | exact HB.out)⟩⟩
           ·rw [if_neg c16] at H
            have c16b0 : decide ((l1_0.length : Int) ≤ (rd l1_1 x38_2)) = false := decide_eq_false c16
            clear c16
            by_cases c17 : x38_2 < (l1_0.length : Int)
            ·rw [if_pos c17] at H
             have c17b0 : decide (x38_2 < (l1_0.length : Int)) = true := decide_eq_true c17
             clear c17
             by_cases c18 : (rd l1_0 x38_2) < 0
             ·rw [if_pos c18] at H
              have c18b0 : decide ((rd l1_0 x38_2) < 0) = true := decide_eq_true c18
              clear c18
              have H' := Aside0.mk H
              clear H
              have hcz19_0 : wr.cell? ⟨gb431, 0, none⟩ = some (.slice A1_0 l1_0.length c1_0) := (blk_cell BK431.out 0).trans rfl
              have hcz19_1 : wr.cell? ⟨gb431, 1, none⟩ = some (.slice (some ad432) l1_1.length c1_1) := (blk_cell BK431.out 1).trans rfl
              have hfz19_0 := blk_frozen BK431.out 0
              have hfz19_1 := blk_frozen BK431.out 1
              have p433 : 0 ≤ (x38_2 : Int) := of_decide_eq_true (Qas)
              have q433 : x38_2 < (l1_0.length : Int) := of_decide_eq_true (Qas)
              obtain ⟨ad433, e433, hx433_0⟩ := Kd.at_int HR1_0.out x38_2 p433 q433
              cases e433
              replace hx433_0 := (HB.out.cell (World.block_lt_of_cell? w _ hx433_0)).trans hx433_0
              replace p433 := eq_true p433
              replace q433 := eq_true q433
              go_wp2
              repeat (go_quiet (fail); try go_wp2)
              go_meet
              case rel => exact ⟨_, (true), (Qrs), H', ⟨by have := HJ2.out; have := HK2.out; first | omega | exact Nat.le_refl _⟩, ⟨by (with_reducible repeat (first | refine blk_drewN ?_ _ | refine blk_drew ?_ | refine blk_alloc ?_ _)); exact BK431.out⟩, ⟨by repeat (first | (with_reducible first | exact HB.out | apply below_alloc | apply pw_below_drewN | apply below_drew1 | refine below_set ?_ GE431.out) | exact HB.out)⟩⟩
             ·rw [if_neg c18] at H
              have c18b0 : decide ((rd l1_0 x38_2) < 0) = false := decide_eq_false c18
              clear c18
              obtain ⟨ji20, hji20⟩ : ∃ j_ : Int, (shl .i64 1 (l0.length : Int)) = j_ := ⟨_, rfl⟩
              replace H : (lampblackref02_IsTree.j2 k2 l0 (l1_0.length : Int) x7_2 x8_2 x38_2 (rd l1_1 x38_2) l1_1 (l1_1.length : Int) x38_2 (decide ((rd l1_0 x38_2) ≥ (ji20))) l1_0 l1_1) = some (r1, r2) := by first | (rw [hji20] at H; exact H) | (simp only [hji20] at H ⊢; exact H)
              have hji20_ : (IntKind.i64.wrap (1 * 2 ^ min (l0.length : Int).toNat 64)) = ji20 := hji20
              have hji20z : (l0.length : Int) ≤ 64 → (IntKind.i64.wrap (1 * 2 ^ (l0.length : Int).toNat)) = ji20 := shl_small hji20
              have hji20p : (IntKind.i64.wrap (1 * 2 ^ min l0.length 64)) = ji20 := hji20_
              have hji20q : (l0.length : Int) ≤ 64 → (IntKind.i64.wrap (1 * 2 ^ l0.length)) = ji20 := hji20z
              have hji20r : (IntKind.i64.wrap (2 ^ min l0.length 64)) = ji20 := by have h_ := hji20p; rw [Int.one_mul] at h_; exact h_
              have hji20s : (l0.length : Int) ≤ 64 → (IntKind.i64.wrap (2 ^ l0.length)) = ji20 := fun hle_ => by have h_ := hji20q hle_; rw [Int.one_mul] at h_; exact h_
              have hji20u : (IntKind.i64.wrap (2 ^ min (l0.length : Int).toNat 64)) = ji20 := by have h_ := hji20_; rw [Int.one_mul] at h_; exact h_
              have hji20v : (l0.length : Int) ≤ 64 → (IntKind.i64.wrap (2 ^ (l0.length : Int).toNat)) = ji20 := fun hle_ => by have h_ := hji20z hle_; rw [Int.one_mul] at h_; exact h_
              have hji20y : (wrap64 (1 * 2 ^ min (l0.length : Int).toNat 64)) = ji20 := (i64_w _).symm.trans hji20_
              have hji20x : (l0.length : Int) ≤ 64 → (wrap64 (1 * 2 ^ (l0.length : Int).toNat)) = ji20 := fun h_ => (i64_w _).symm.trans (hji20z h_)
              have H' := Aside0.mk H
              clear H
              have hcz21_0 : wr.cell? ⟨gb431, 0, none⟩ = some (.slice A1_0 l1_0.length c1_0) := (blk_cell BK431.out 0).trans rfl
              have hcz21_1 : wr.cell? ⟨gb431, 1, none⟩ = some (.slice (some ad432) l1_1.length c1_1) := (blk_cell BK431.out 1).trans rfl
              have hfz21_0 := blk_frozen BK431.out 0
              have hfz21_1 := blk_frozen BK431.out 1
              have p433 : 0 ≤ (x38_2 : Int) := of_decide_eq_true (Qas)
              have q433 : x38_2 < (l1_0.length : Int) := of_decide_eq_true (Qas)
              obtain ⟨ad433, e433, hx433_0⟩ := Kd.at_int HR1_0.out x38_2 p433 q433
              cases e433
              replace hx433_0 := (HB.out.cell (World.block_lt_of_cell? w _ hx433_0)).trans hx433_0
              replace p433 := eq_true p433
              replace q433 := eq_true q433
              have p434 : 0 ≤ (x38_2 : Int) := of_decide_eq_true (Qas)
              have q434 : x38_2 < (l1_0.length : Int) := of_decide_eq_true (Qas)
              obtain ⟨ad434, e434, hx434_0⟩ := Kd.at_int HR1_0.out x38_2 p434 q434
              obtain rfl : ad433 = ad434 := (by injection e434)
              replace hx434_0 := (HB.out.cell (World.block_lt_of_cell? w _ hx434_0)).trans hx434_0
              replace p434 := eq_true p434
              replace q434 := eq_true q434
              go_wp2
              repeat (go_quiet (fail); try go_wp2)
              go_meet
              case rel => exact ⟨_, (decide ((rd l1_0 x38_2) ≥ (ji20))), (by first | rfl | (simp; done) | (simp only [← hji20] <;> (first | rfl | simp)) | (simp [*]; done)), H', ⟨by have := HJ2.out; have := HK2.out; first | omega | exact Nat.le_refl _⟩, ⟨by (with_reducible repeat (first | refine blk_drewN ?_ _ | refine blk_drew ?_ | refine blk_alloc ?_ _)); exact BK431.out⟩, ⟨by repeat (first | (with_reducible first | exact HB.out | apply below_alloc | apply pw_below_drewN | apply below_drew1 | refine below_set ?_ GE431.out) | exact HB.out)⟩⟩
            ·rw [if_neg c17] at H
             exact absurd H (by simp)
         case rest =>
          clear HC14
          try clear c1
          try clear p2
          try clear p4
          try clear q4
          try clear hx4
          try clear c5
          try clear c6
          try clear c6b0
          try clear c6b1
          try clear p6
          try clear c7
          try clear c7b0
          try clear c7b1
          try clear c9
          try clear c11
          try clear c11b0
          try clear c12
          try clear c12b0
          try clear c13
          try clear c13b0
          try clear c15
          try clear c15b0
          try clear c16
          try clear c16b0
          try clear c17
          try clear c17b0
          try clear c18
          try clear c18b0
          try clear hcz10_0
          try clear hcz10_1
          try clear hcz19_0
          try clear hcz19_1
          try clear hcz21_0
          try clear hcz21_1
          try clear hcz5_0
          try clear hcz5_1
          try clear hcz8_0
          try clear hcz8_1
          try clear hfz10_0
          try clear hfz10_1
          try clear hfz19_0
          try clear hfz19_1
          try clear hfz21_0
          try clear hfz21_1
          try clear hfz5_0
          try clear hfz5_1
          try clear hfz8_0
          try clear hfz8_1
          try clear hx432_0
          try clear hx433_0
          try clear hx434_0
          try clear p2
          try clear p432
          try clear p433
          try clear p434
          try clear q432
          try clear q433
          try clear q434
          obtain ⟨kq, x68_13, rfl, HA, HJ13, BK431, HB⟩ := hcut
          cases kq with
          | zero => exact absurd HA.out (by simp [lampblackref02_IsTree.j2])
          | succ kj13 =>
           have H := HA.out
           clear HA
           simp only [lampblackref02_IsTree.j2] at H
           by_cases c22 : x68_13 = true
           ·subst c22
            have H1 : (some (0, false)) = some (r1, r2) := by rw [if_pos rfl] at H; exact H
            clear H
            have H := H1
            clear H1
            simp only [Option.some.injEq, Prod.mk.injEq] at H
            obtain ⟨rfl, rfl⟩ := H
            go_wp2
            repeat (go_quiet (fail); try go_wp2)
            go_ret2
            exact ⟨by first | rfl | (simp [errW_none, errW_some] <;> rfl) | (simp [*, errW_none, errW_some] <;> rfl), by repeat (first | (with_reducible first | exact HB.out | apply below_alloc | apply pw_below_drewN | apply below_drew1 | refine below_set ?_ GE431.out) | exact HB.out)⟩
           ·replace c22 := Bool.eq_false_iff.mpr c22
            subst c22
            have H1 : (if 0 ≤ x38_2 then (if x38_2 < (l1_0.length : Int) then ((lampblackref02_Size.f kj13 (rd l1_0 x38_2)).bind fun t436 => (if (rd l1_1 x38_2) < 0 then (lampblackref02_IsTree.l0 kj13 l0 (l1_0.length : Int) (wrap64 (x7_2 + 1)) (mx x8_2 t436) l1_1 (l1_1.length : Int) (wrap64 (x38_2 + 1)) l1_0 l1_1) else (lampblackref02_IsTree.l0 kj13 l0 (l1_0.length : Int) x7_2 (mx x8_2 t436) l1_1 (l1_1.length : Int) (wrap64 (x38_2 + 1)) l1_0 l1_1))) else (none)) else (none)) = some (r1, r2) := by rw [if_neg (show ¬ (false = true) by decide)] at H; exact H
            clear H
            have H := H1
            clear H1
            by_cases c23 : 0 ≤ x38_2
            ·rw [if_pos c23] at H
             have c23b0 : decide (0 ≤ x38_2) = true := decide_eq_true c23
             clear c23
             by_cases c24 : x38_2 < (l1_0.length : Int)
             ·rw [if_pos c24] at H
              have c24b0 : decide (x38_2 < (l1_0.length : Int)) = true := decide_eq_true c24
              clear c24
              replace H := Option.bind_eq_some_iff.mp H
              obtain ⟨t436, A250, H⟩ := H
              replace H : (if (rd l1_1 x38_2) < 0 then (lampblackref02_IsTree.l0 kj13 l0 (l1_0.length : Int) (wrap64 (x7_2 + 1)) (mx x8_2 t436) l1_1 (l1_1.length : Int) (wrap64 (x38_2 + 1)) l1_0 l1_1) else (lampblackref02_IsTree.l0 kj13 l0 (l1_0.length : Int) x7_2 (mx x8_2 t436) l1_1 (l1_1.length : Int) (wrap64 (x38_2 + 1)) l1_0 l1_1)) = some (r1, r2) := H
              have A25 := Aside0.mk A250
              clear A250
              obtain ⟨ji26, hji26⟩ : ∃ j_ : Int, (mx x8_2 t436) = j_ := ⟨_, rfl⟩
              replace H : (if (rd l1_1 x38_2) < 0 then (lampblackref02_IsTree.l0 kj13 l0 (l1_0.length : Int) (wrap64 (x7_2 + 1)) ji26 l1_1 (l1_1.length : Int) (wrap64 (x38_2 + 1)) l1_0 l1_1) else (lampblackref02_IsTree.l0 kj13 l0 (l1_0.length : Int) x7_2 ji26 l1_1 (l1_1.length : Int) (wrap64 (x38_2 + 1)) l1_0 l1_1)) = some (r1, r2) := by first | (rw [hji26] at H; exact H) | (simp only [hji26] at H ⊢; exact H)
              (try rw [hji26] at A25)
              have hji26_ : (if x8_2 < t436 then t436 else x8_2) = ji26 := hji26
              by_cases c27 : (rd l1_1 x38_2) < 0
              ·rw [if_pos c27] at H
               have c27b0 : decide ((rd l1_1 x38_2) < 0) = true := decide_eq_true c27
               clear c27
               have H' := Aside0.mk H
               clear H
               have hcz28_0 : wc.cell? ⟨gb431, 0, none⟩ = some (.slice A1_0 l1_0.length c1_0) := (blk_cell BK431.out 0).trans rfl
               have hcz28_1 : wc.cell? ⟨gb431, 1, none⟩ = some (.slice (some ad432) l1_1.length c1_1) := (blk_cell BK431.out 1).trans rfl
               have hfz28_0 := blk_frozen BK431.out 0
               have hfz28_1 := blk_frozen BK431.out 1
               have p435 : 0 ≤ (x38_2 : Int) := of_decide_eq_true (Qas)
               have q435 : x38_2 < (l1_0.length : Int) := of_decide_eq_true (Qas)
               obtain ⟨ad435, e435, hx435_0⟩ := Kd.at_int HR1_0.out x38_2 p435 q435
               cases e435
               replace hx435_0 := (HB.out.cell (World.block_lt_of_cell? w _ hx435_0)).trans hx435_0
               replace p435 := eq_true p435
               replace q435 := eq_true q435
               go_wp2_with (first | (go_at_call 35; (with_reducible refine (lampblackref02_Size.calls kj13 (rd l1_0 x38_2) t436 _ A25.out).mono ?_); rintro e w' ⟨rfl, ⟨nd, rfl⟩⟩; (try first | exact ⟨rfl, _, World.drewN_drewN _ _ _⟩ | exact ⟨rfl, _, Eq.trans (World.drewN_drewN _ _ _) (congrArg (World.drewN _) (Nat.add_assoc _ _ _))⟩)))
               repeat (go_quiet (first | (go_at_call 35; (with_reducible refine (lampblackref02_Size.calls kj13 (rd l1_0 x38_2) t436 _ A25.out).mono ?_); rintro e w' ⟨rfl, ⟨nd, rfl⟩⟩; (try first | exact ⟨rfl, _, World.drewN_drewN _ _ _⟩ | exact ⟨rfl, _, Eq.trans (World.drewN_drewN _ _ _) (congrArg (World.drewN _) (Nat.add_assoc _ _ _))⟩))); try go_wp2_with (first | (go_at_call 35; (with_reducible refine (lampblackref02_Size.calls kj13 (rd l1_0 x38_2) t436 _ A25.out).mono ?_); rintro e w' ⟨rfl, ⟨nd, rfl⟩⟩; (try first | exact ⟨rfl, _, World.drewN_drewN _ _ _⟩ | exact ⟨rfl, _, Eq.trans (World.drewN_drewN _ _ _) (congrArg (World.drewN _) (Nat.add_assoc _ _ _))⟩))))
               go_roundg kj13
               case measure => have := HJ2.out; have := HK2.out; have := HJ13.out; omega
               case rel => exact ⟨(wrap64 (x7_2 + 1)), (ji26), (wrap64 (x38_2 + 1)), (Qrs), (by first | rfl | (simp; done) | (simp only [← hji26] <;> (first | rfl | simp)) | (simp [*]; done)), (Qrs), H', ⟨by have := HJ2.out; have := HK2.out; have := HJ13.out; omega⟩, ⟨by (with_reducible repeat (first | refine blk_drewN ?_ _ | refine blk_drew ?_ | refine blk_alloc ?_ _)); exact BK431.out⟩, ⟨by repeat (first | (with_reducible first | exact HB.out | apply below_alloc | apply pw_below_drewN | apply below_drew1 | refine below_set ?_ GE431.out) | exact HB.out)⟩⟩
              ·rw [if_neg c27] at H
               have c27b0 : decide ((rd l1_1 x38_2) < 0) = false := decide_eq_false c27
               clear c27
               have H' := Aside0.mk H
               clear H
               have hcz29_0 : wc.cell? ⟨gb431, 0, none⟩ = some (.slice A1_0 l1_0.length c1_0) := (blk_cell BK431.out 0).trans rfl
               have hcz29_1 : wc.cell? ⟨gb431, 1, none⟩ = some (.slice (some ad432) l1_1.length c1_1) := (blk_cell BK431.out 1).trans rfl
               have hfz29_0 := blk_frozen BK431.out 0
               have hfz29_1 := blk_frozen BK431.out 1
               have p435 : 0 ≤ (x38_2 : Int) := of_decide_eq_true (Qas)
               have q435 : x38_2 < (l1_0.length : Int) := of_decide_eq_true (Qas)
               obtain ⟨ad435, e435, hx435_0⟩ := Kd.at_int HR1_0.out x38_2 p435 q435
               cases e435
               replace hx435_0 := (HB.out.cell (World.block_lt_of_cell? w _ hx435_0)).trans hx435_0
               replace p435 := eq_true p435
               replace q435 := eq_true q435
               go_wp2_with (first | (go_at_call 35; (with_reducible refine (lampblackref02_Size.calls kj13 (rd l1_0 x38_2) t436 _ A25.out).mono ?_); rintro e w' ⟨rfl, ⟨nd, rfl⟩⟩; (try first | exact ⟨rfl, _, World.drewN_drewN _ _ _⟩ | exact ⟨rfl, _, Eq.trans (World.drewN_drewN _ _ _) (congrArg (World.drewN _) (Nat.add_assoc _ _ _))⟩)))
               repeat (go_quiet (first | (go_at_call 35; (with_reducible refine (lampblackref02_Size.calls kj13 (rd l1_0 x38_2) t436 _ A25.out).mono ?_); rintro e w' ⟨rfl, ⟨nd, rfl⟩⟩; (try first | exact ⟨rfl, _, World.drewN_drewN _ _ _⟩ | exact ⟨rfl, _, Eq.trans (World.drewN_drewN _ _ _) (congrArg (World.drewN _) (Nat.add_assoc _ _ _))⟩))); try go_wp2_with (first | (go_at_call 35; (with_reducible refine (lampblackref02_Size.calls kj13 (rd l1_0 x38_2) t436 _ A25.out).mono ?_); rintro e w' ⟨rfl, ⟨nd, rfl⟩⟩; (try first | exact ⟨rfl, _, World.drewN_drewN _ _ _⟩ | exact ⟨rfl, _, Eq.trans (World.drewN_drewN _ _ _) (congrArg (World.drewN _) (Nat.add_assoc _ _ _))⟩))))
               go_roundg kj13
               case measure => have := HJ2.out; have := HK2.out; have := HJ13.out; omega
               case rel => exact ⟨(x7_2), (ji26), (wrap64 (x38_2 + 1)), (Qrs), (by first | rfl | (simp; done) | (simp only [← hji26] <;> (first | rfl | simp)) | (simp [*]; done)), (Qrs), H', ⟨by have := HJ2.out; have := HK2.out; have := HJ13.out; omega⟩, ⟨by (with_reducible repeat (first | refine blk_drewN ?_ _ | refine blk_drew ?_ | refine blk_alloc ?_ _)); exact BK431.out⟩, ⟨by repeat (first | (with_reducible first | exact HB.out | apply below_alloc | apply pw_below_drewN | apply below_drew1 | refine below_set ?_ GE431.out) | exact HB.out)⟩⟩
             ·rw [if_neg c24] at H
              exact absurd H (by simp)
            ·rw [if_neg c23] at H
             exact absurd H (by simp)
        ·rw [if_neg c13] at H
         exact absurd H (by simp)
       ·rw [if_neg c12] at H
        exact absurd H (by simp)
      ·rw [if_neg c11] at H
       have c11b0 : decide (x38_2 < (l1_1.length : Int)) = false := decide_eq_false c11
       clear c11
       have H' := Aside0.mk H
       clear H
       have hcz30_0 : wr.cell? ⟨gb431, 0, none⟩ = some (.slice A1_0 l1_0.length c1_0) := (blk_cell BK431.out 0).trans rfl
       have hcz30_1 : wr.cell? ⟨gb431, 1, none⟩ = some (.slice A1_1 l1_1.length c1_1) := (blk_cell BK431.out 1).trans rfl
       have hfz30_0 := blk_frozen BK431.out 0
       have hfz30_1 := blk_frozen BK431.out 1
       go_wp2
       repeat (go_quiet (fail); try go_wp2)
       go_loopg [85] k2 (fun kq v85 w' => ∃ (x85_3 : Int), v85 = .int .i64 x85_3 ∧ Aside0 (lampblackref02_IsTree.l1 kq l0 (l1_0.length : Int) x7_2 x8_2 (l1_1.length : Int) x85_3 l1_0 l1_1 = some (r1, r2)) ∧ Aside0 (kq ≤ k2) ∧ Aside0 (w'.heap[gb431]? = some (.cells #[(.slice A1_0 l1_0.length c1_0), (.slice A1_1 l1_1.length c1_1)] 52 (0, 0))) ∧ Aside0 (Below w.heap.size w w'))
       case atStart => exact ⟨(0), (Qrs), H', ⟨Nat.le_refl _⟩, ⟨by (with_reducible repeat (first | refine blk_drewN ?_ _ | refine blk_drew ?_ | refine blk_alloc ?_ _)); exact BK431.out⟩, ⟨by repeat (first | (with_reducible first | exact HB.out | apply below_alloc | apply pw_below_drewN | apply below_drew1 | refine below_set ?_ GE431.out) | exact HB.out)⟩⟩
       case round =>
        clear H'
        try clear c1
        try clear c2
        try clear p2
        try clear p4
        try clear q4
        try clear hx4
        try clear c5
        try clear c6
        try clear c6b0
        try clear c6b1
        try clear p6
        try clear c7
        try clear c7b0
        try clear c7b1
        try clear c9
        try clear c11
        try clear c11b0
        try clear c12
        try clear c12b0
        try clear c13
        try clear c13b0
        try clear c15
        try clear c15b0
        try clear c16
        try clear c16b0
        try clear c17
        try clear c17b0
        try clear c18
        try clear c18b0
        try clear c22
        try clear c23
        try clear c23b0
        try clear c24
        try clear c24b0
        try clear c27
        try clear c27b0
        try clear hcz10_0
        try clear hcz10_1
        try clear hcz19_0
        try clear hcz19_1
        try clear hcz21_0
        try clear hcz21_1
        try clear hcz28_0
        try clear hcz28_1
        try clear hcz29_0
        try clear hcz29_1
        try clear hcz30_0
        try clear hcz30_1
        try clear hcz5_0
        try clear hcz5_1
        try clear hcz8_0
        try clear hcz8_1
        try clear hfz10_0
        try clear hfz10_1
        try clear hfz19_0
        try clear hfz19_1
        try clear hfz21_0
        try clear hfz21_1
        try clear hfz28_0
        try clear hfz28_1
        try clear hfz29_0
        try clear hfz29_1
        try clear hfz30_0
        try clear hfz30_1
        try clear hfz5_0
        try clear hfz5_1
        try clear hfz8_0
        try clear hfz8_1
        try clear hx432_0
        try clear hx433_0
        try clear hx434_0
        try clear hx435_0
        try clear p2
        try clear p4
        try clear p432
        try clear p433
        try clear p434
        try clear p435
        try clear p6
        try clear q4
        try clear q432
        try clear q433
        try clear q434
        try clear q435
        obtain ⟨x85_3, rfl, HA, HK3, BK431, HB⟩ := hrel
        cases gk with
        | zero => exact absurd HA.out (by simp [lampblackref02_IsTree.l1])
        | succ k3 =>
         have H := HA.out
         clear HA
         simp only [lampblackref02_IsTree.l1] at H
         by_cases c31 : x85_3 < (l1_1.length : Int)
         ·rw [if_pos c31] at H
          have c31b0 : decide (x85_3 < (l1_1.length : Int)) = true := decide_eq_true c31
          clear c31
          have H' := Aside0.mk H
          clear H
          go_wp2
          repeat (go_quiet (fail); try go_wp2)
          go_loopg [12, 90] k3 (fun kq v12 v90 w' => ∃ (x12_4 : Int) (x90_4 : Int), v12 = .int .i64 x12_4 ∧ v90 = .int .i64 x90_4 ∧ Aside0 (lampblackref02_IsTree.l2 kq l0 (l1_0.length : Int) x7_2 x8_2 x12_4 (l1_1.length : Int) x85_3 (l1_0.length : Int) x90_4 l1_0 l1_1 = some (r1, r2)) ∧ Aside0 (kq ≤ k3) ∧ Aside0 (w'.heap[gb431]? = some (.cells #[(.slice A1_0 l1_0.length c1_0), (.slice A1_1 l1_1.length c1_1)] 52 (0, 0))) ∧ Aside0 (Below w.heap.size w w'))
          case atStart => exact ⟨(x85_3), (0), (Qrs), (Qrs), H', ⟨Nat.le_refl _⟩, ⟨by (with_reducible repeat (first | refine blk_drewN ?_ _ | refine blk_drew ?_ | refine blk_alloc ?_ _)); exact BK431.out⟩, ⟨by repeat (first | (with_reducible first | exact HB.out | apply below_alloc | apply pw_below_drewN | apply below_drew1 | refine below_set ?_ GE431.out) | exact HB.out)⟩⟩
          case round =>
           clear H'
           try clear c1
           try clear c2
           try clear p2
           try clear c3
           try clear p4
           try clear q4
           try clear hx4
           try clear c5
           try clear c6
           try clear c6b0
           try clear c6b1
           try clear p6
           try clear c7
           try clear c7b0
           try clear c7b1
           try clear c9
           try clear c11
           try clear c11b0
           try clear c12
           try clear c12b0
           try clear c13
           try clear c13b0
           try clear c15
           try clear c15b0
           try clear c16
           try clear c16b0
           try clear c17
           try clear c17b0
           try clear c18
           try clear c18b0
           try clear c22
           try clear c23
           try clear c23b0
           try clear c24
           try clear c24b0
           try clear c27
           try clear c27b0
           try clear c31
           try clear c31b0
           try clear hcz10_0
           try clear hcz10_1
           try clear hcz19_0
           try clear hcz19_1
           try clear hcz21_0
           try clear hcz21_1
           try clear hcz28_0
           try clear hcz28_1
           try clear hcz29_0
           try clear hcz29_1
           try clear hcz30_0
           try clear hcz30_1
           try clear hcz5_0
           try clear hcz5_1
           try clear hcz8_0
           try clear hcz8_1
           try clear hfz10_0
           try clear hfz10_1
           try clear hfz19_0
           try clear hfz19_1
           try clear hfz21_0
           try clear hfz21_1
           try clear hfz28_0
           try clear hfz28_1
           try clear hfz29_0
           try clear hfz29_1
           try clear hfz30_0
           try clear hfz30_1
           try clear hfz5_0
           try clear hfz5_1
           try clear hfz8_0
           try clear hfz8_1
           try clear hx432_0
           try clear hx433_0
           try clear hx434_0
           try clear hx435_0
           try clear p2
           try clear p4
           try clear p432
           try clear p433
           try clear p434
           try clear p435
           try clear p6
           try clear q4
           try clear q432
           try clear q433
           try clear q434
           try clear q435
           obtain ⟨x12_4, x90_4, rfl, rfl, HA, HK4, BK431, HB⟩ := hrel
           cases gk with
           | zero => exact absurd HA.out (by simp [lampblackref02_IsTree.l2])
           | succ k4 =>
            have H := HA.out
            clear HA
            simp only [lampblackref02_IsTree.l2] at H
            by_cases c32 : x90_4 < (l1_0.length : Int)
            ·rw [if_pos c32] at H
             have c32b0 : decide (x90_4 < (l1_0.length : Int)) = true := decide_eq_true c32
             clear c32
             by_cases c33 : x12_4 ≥ 0
             ·rw [if_pos c33] at H
              have c33b0 : decide (0 ≤ x12_4) = true := decide_eq_true c33
              clear c33
              by_cases c34 : 0 ≤ x12_4
              ·rw [if_pos c34] at H
               have c34b0 : decide (0 ≤ x12_4) = true := decide_eq_true c34
               clear c34
               by_cases c35 : x12_4 < (l1_1.length : Int)
               ·rw [if_pos c35] at H
                have c35b0 : decide (x12_4 < (l1_1.length : Int)) = true := decide_eq_true c35
                clear c35
                have H' := Aside0.mk H
                clear H
                have hcz36_0 : wr.cell? ⟨gb431, 0, none⟩ = some (.slice A1_0 l1_0.length c1_0) := (blk_cell BK431.out 0).trans rfl
                have hcz36_1 : wr.cell? ⟨gb431, 1, none⟩ = some (.slice A1_1 l1_1.length c1_1) := (blk_cell BK431.out 1).trans rfl
                have hfz36_0 := blk_frozen BK431.out 0
                have hfz36_1 := blk_frozen BK431.out 1
                have p437 : 0 ≤ (x12_4 : Int) := of_decide_eq_true (Qas)
                have q437 : x12_4 < (l1_1.length : Int) := of_decide_eq_true (Qas)
                obtain ⟨ad437, e437, hx437_0⟩ := Kd.at_int HR1_1.out x12_4 p437 q437
                cases e437
                replace hx437_0 := (HB.out.cell (World.block_lt_of_cell? w _ hx437_0)).trans hx437_0
                replace p437 := eq_true p437
                replace q437 := eq_true q437
                go_wp2
                repeat (go_quiet (fail); try go_wp2)
                go_roundg k4
                case measure => have := HJ2.out; have := HK2.out; have := HK3.out; have := HK4.out; omega
                case rel => exact ⟨(rd l1_1 x12_4), (wrap64 (x90_4 + 1)), (Qrs), (Qrs), H', ⟨by have := HJ2.out; have := HK2.out; have := HK3.out; have := HK4.out; omega⟩, ⟨by (with_reducible repeat (first | refine blk_drewN ?_ _ | refine blk_drew ?_ | refine blk_alloc ?_ _)); exact BK431.out⟩, ⟨by repeat (first | (with_reducible first | exact HB.out | apply below_alloc | apply pw_below_drewN | apply below_drew1 | refine below_set ?_ GE431.out) | exact HB.out)⟩⟩
               ·rw [if_neg c35] at H
                exact absurd H (by simp)
              ·rw [if_neg c34] at H
               exact absurd H (by simp)
             ·rw [if_neg c33] at H
              have c33b0 : decide (0 ≤ x12_4) = false := decide_eq_false c33
              clear c33
              have H' := Aside0.mk H
              clear H
              go_wp2
              repeat (go_quiet (fail); try go_wp2)
              go_roundg k4
              case measure => have := HJ2.out; have := HK2.out; have := HK3.out; have := HK4.out; omega
              case rel => exact ⟨(x12_4), (wrap64 (x90_4 + 1)), (Qrs), (Qrs), H', ⟨by have := HJ2.out; have := HK2.out; have := HK3.out; have := HK4.out; omega⟩, ⟨by (with_reducible repeat (first | refine blk_drewN ?_ _ | refine blk_drew ?_ | refine blk_alloc ?_ _)); exact BK431.out⟩, ⟨by repeat (first | (with_reducible first | exact HB.out | apply below_alloc | apply pw_below_drewN | apply below_drew1 | refine below_set ?_ GE431.out) | exact HB.out)⟩⟩
            ·rw [if_neg c32] at H
             have c32b0 : decide (x90_4 < (l1_0.length : Int)) = false := decide_eq_false c32
             clear c32
             by_cases c37 : x12_4 ≥ 0
             ·rw [if_pos c37] at H
              have c37b0 : decide (0 ≤ x12_4) = true := decide_eq_true c37
              clear c37
              simp only [Option.some.injEq, Prod.mk.injEq] at H
              obtain ⟨rfl, rfl⟩ := H
              go_wp2
              repeat (go_quiet (fail); try go_wp2)
              go_ret2
              exact ⟨by first | rfl | (simp [errW_none, errW_some] <;> rfl) | (simp [*, errW_none, errW_some] <;> rfl), by repeat (first | (with_reducible first | exact HB.out | apply below_alloc | apply pw_below_drewN | apply below_drew1 | refine below_set ?_ GE431.out) | exact HB.out)⟩
             ·rw [if_neg c37] at H
              have c37b0 : decide (0 ≤ x12_4) = false := decide_eq_false c37
              clear c37
              have H' := Aside0.mk H
              clear H
              go_wp2
              repeat (go_quiet (fail); try go_wp2)
              go_roundg k4
              case measure => have := HJ2.out; have := HK2.out; have := HK3.out; have := HK4.out; omega
              case rel => exact ⟨(wrap64 (x85_3 + 1)), (Qrs), H', ⟨by have := HJ2.out; have := HK2.out; have := HK3.out; have := HK4.out; omega⟩, ⟨by (with_reducible repeat (first | refine blk_drewN ?_ _ | refine blk_drew ?_ | refine blk_alloc ?_ _)); exact BK431.out⟩, ⟨by repeat (first | (with_reducible first | exact HB.out | apply below_alloc | apply pw_below_drewN | apply below_drew1 | refine below_set ?_ GE431.out) | exact HB.out)⟩⟩
         ·rw [if_neg c31] at H
          have c31b0 : decide (x85_3 < (l1_1.length : Int)) = false := decide_eq_false c31
          clear c31
          by_cases c38 : x7_2 = 1
          ·rw [if_pos c38] at H
           have c38b0 : (x7_2 == 1) = true := beq_iff_eq.mpr c38
           have c38b1 : (x7_2 != 1) = false := bne_eq_false_iff_eq.mpr c38
           clear c38
           have H' := Aside0.mk H
           clear H
           go_wp2
           repeat (go_quiet (fail); try go_wp2)
           go_loopg [107] k3 (fun kq v107 w' => ∃ (x107_4 : Int), v107 = .int .i64 x107_4 ∧ Aside0 (lampblackref02_IsTree.l3 kq l0 x8_2 (l0.length : Int) x107_4 l1_0 l1_1 = some (r1, r2)) ∧ Aside0 (kq ≤ k3) ∧ Aside0 (w'.heap[gb431]? = some (.cells #[(.slice A1_0 l1_0.length c1_0), (.slice A1_1 l1_1.length c1_1)] 52 (0, 0))) ∧ Aside0 (Below w.heap.size w w'))
           case atStart => exact ⟨(0), (Qrs), H', ⟨Nat.le_refl _⟩, ⟨by (with_reducible repeat (first | refine blk_drewN ?_ _ | refine blk_drew ?_ | refine blk_alloc ?_ _)); exact BK431.out⟩, ⟨by repeat (first | (with_reducible first | exact HB.out | apply below_alloc | apply pw_below_drewN | apply below_drew1 | refine below_set ?_ GE431.out) | exact HB.out)⟩⟩
           case round =>
            clear H'
            try clear c1
            try clear c2
            try clear p2
            try clear c3
            try clear p4
            try clear q4
            try clear hx4
            try clear c5
            try clear c6
            try clear c6b0
            try clear c6b1
            try clear p6
            try clear c7
            try clear c7b0
            try clear c7b1
            try clear c9
            try clear c11
            try clear c11b0
            try clear c12
            try clear c12b0
            try clear c13
            try clear c13b0
            try clear c15
            try clear c15b0
            try clear c16
            try clear c16b0
            try clear c17
            try clear c17b0
            try clear c18
            try clear c18b0
            try clear c22
            try clear c23
            try clear c23b0
            try clear c24
            try clear c24b0
            try clear c27
            try clear c27b0
            try clear c31
            try clear c31b0
            try clear c32
            try clear c32b0
            try clear c33
            try clear c33b0
            try clear c34
            try clear c34b0
            try clear c35
            try clear c35b0
            try clear c37
            try clear c37b0
            try clear c38
            try clear c38b0
            try clear c38b1
            try clear hcz10_0
            try clear hcz10_1
            try clear hcz19_0
            try clear hcz19_1
            try clear hcz21_0
            try clear hcz21_1
            try clear hcz28_0
            try clear hcz28_1
            try clear hcz29_0
            try clear hcz29_1
            try clear hcz30_0
            try clear hcz30_1
            try clear hcz36_0
            try clear hcz36_1
            try clear hcz5_0
            try clear hcz5_1
            try clear hcz8_0
            try clear hcz8_1
            try clear hfz10_0
            try clear hfz10_1
            try clear hfz19_0
            try clear hfz19_1
            try clear hfz21_0
            try clear hfz21_1
            try clear hfz28_0
            try clear hfz28_1
            try clear hfz29_0
            try clear hfz29_1
            try clear hfz30_0
            try clear hfz30_1
            try clear hfz36_0
            try clear hfz36_1
            try clear hfz5_0
            try clear hfz5_1
            try clear hfz8_0
            try clear hfz8_1
            try clear hx432_0
            try clear hx433_0
            try clear hx434_0
            try clear hx435_0
            try clear hx437_0
            try clear p2
            try clear p4
            try clear p432
            try clear p433
            try clear p434
            try clear p435
            try clear p437
            try clear p6
            try clear q4
            try clear q432
            try clear q433
            try clear q434
            try clear q435
            try clear q437
            obtain ⟨x107_4, rfl, HA, HK4, BK431, HB⟩ := hrel
            cases gk with
            | zero => exact absurd HA.out (by simp [lampblackref02_IsTree.l3])
            | succ k4 =>
             have H := HA.out
             clear HA
             simp only [lampblackref02_IsTree.l3] at H
             by_cases c39 : x107_4 < (l0.length : Int)
             ·rw [if_pos c39] at H
              have c39b0 : decide (x107_4 < (l0.length : Int)) = true := decide_eq_true c39
              clear c39
              have H' := Aside0.mk H
              clear H
              have hcz40_0 : wr.cell? ⟨gb431, 0, none⟩ = some (.slice A1_0 l1_0.length c1_0) := (blk_cell BK431.out 0).trans rfl
              have hcz40_1 : wr.cell? ⟨gb431, 1, none⟩ = some (.slice A1_1 l1_1.length c1_1) := (blk_cell BK431.out 1).trans rfl
              have hfz40_0 := blk_frozen BK431.out 0
              have hfz40_1 := blk_frozen BK431.out 1
              go_wp2
              repeat (go_quiet (fail); try go_wp2)
              go_loopg [14, 15, 113] k4 (fun kq v14 v15 v113 w' => ∃ (x14_5 : Int) (x15_5 : Int) (x113_5 : Int), v14 = .int .i64 x14_5 ∧ v15 = .int .i64 x15_5 ∧ v113 = .int .i64 x113_5 ∧ Aside0 (lampblackref02_IsTree.l4 kq l0 x8_2 x107_4 x14_5 x15_5 (l0.length : Int) x107_4 l1_0 (l1_0.length : Int) x113_5 l1_0 l1_1 = some (r1, r2)) ∧ Aside0 (kq ≤ k4) ∧ Aside0 (w'.heap[gb431]? = some (.cells #[(.slice A1_0 l1_0.length c1_0), (.slice A1_1 l1_1.length c1_1)] 52 (0, 0))) ∧ Aside0 (Below w.heap.size w w'))
              case atStart => exact ⟨(0), (0), (0), (Qrs), (Qrs), (Qrs), H', ⟨Nat.le_refl _⟩, ⟨by (with_reducible repeat (first | refine blk_drewN ?_ _ | refine blk_drew ?_ | refine blk_alloc ?_ _)); exact BK431.out⟩, ⟨by repeat (first | (with_reducible first | exact HB.out | apply below_alloc | apply pw_below_drewN | apply below_drew1 | refine below_set ?_ GE431.out) | exact HB.out)⟩⟩
              case round =>
               clear H'
               try clear c1
               try clear c2
               try clear p2
               try clear c3
               try clear p4
               try clear q4
               try clear hx4
               try clear c5
               try clear c6
               try clear c6b0
               try clear c6b1
               try clear p6
               try clear c7
               try clear c7b0
               try clear c7b1
               try clear c9
               try clear c11
               try clear c11b0
               try clear c12
               try clear c12b0
               try clear c13
               try clear c13b0
               try clear c15
               try clear c15b0
               try clear c16
               try clear c16b0
               try clear c17
               try clear c17b0
               try clear c18
               try clear c18b0
               try clear c22
               try clear c23
               try clear c23b0
               try clear c24
               try clear c24b0
               try clear c27
               try clear c27b0
               try clear c31
               try clear c31b0
               try clear c32
               try clear c32b0
               try clear c33
               try clear c33b0
               try clear c34
               try clear c34b0
               try clear c35
               try clear c35b0
               try clear c37
               try clear c37b0
               try clear c38
               try clear c38b0
               try clear c38b1
               try clear c39
               try clear c39b0
               try clear hcz10_0
               try clear hcz10_1
               try clear hcz19_0
               try clear hcz19_1
               try clear hcz21_0
               try clear hcz21_1
               try clear hcz28_0
               try clear hcz28_1
               try clear hcz29_0
               try clear hcz29_1
               try clear hcz30_0
               try clear hcz30_1
               try clear hcz36_0
               try clear hcz36_1
               try clear hcz40_0
               try clear hcz40_1
               try clear hcz5_0
               try clear hcz5_1
               try clear hcz8_0
               try clear hcz8_1
               try clear hfz10_0
               try clear hfz10_1
               try clear hfz19_0
               try clear hfz19_1
               try clear hfz21_0
               try clear hfz21_1
               try clear hfz28_0
               try clear hfz28_1
               try clear hfz29_0
               try clear hfz29_1
               try clear hfz30_0
               try clear hfz30_1
               try clear hfz36_0
               try clear hfz36_1
               try clear hfz40_0
               try clear hfz40_1
               try clear hfz5_0
               try clear hfz5_1
               try clear hfz8_0
               try clear hfz8_1
               try clear hx432_0
               try clear hx433_0
               try clear hx434_0
               try clear hx435_0
               try clear hx437_0
               try clear p2
               try clear p4
               try clear p432
               try clear p433
               try clear p434
               try clear p435
               try clear p437
               try clear p6
               try clear q4
               try clear q432
               try clear q433
               try clear q434
               try clear q435
               try clear q437
               obtain ⟨x14_5, x15_5, x113_5, rfl, rfl, rfl, HA, HK5, BK431, HB⟩ := hrel
               cases gk with
               | zero => exact absurd HA.out (by simp [lampblackref02_IsTree.l4])
               | succ k5 =>
                have H := HA.out
                clear HA
                simp only [lampblackref02_IsTree.l4] at H
                by_cases c41 : x113_5 < (l1_0.length : Int)
                ·rw [if_pos c41] at H
                 have c41b0 : decide (x113_5 < (l1_0.length : Int)) = true := decide_eq_true c41
                 clear c41
                 by_cases c42 : 0 ≤ x113_5
                 ·rw [if_pos c42] at H
                  have c42b0 : decide (0 ≤ x113_5) = true := decide_eq_true c42
                  clear c42
                  by_cases c43 : x113_5 < (l1_0.length : Int)
                  ·rw [if_pos c43] at H
                   have c43b0 : decide (x113_5 < (l1_0.length : Int)) = true := decide_eq_true c43
                   clear c43
                   by_cases c44 : 0 ≤ x107_4
                   ·rw [if_pos c44] at H
                    have c44b0 := eq_true c44
                    have c44b1 : decide (0 ≤ x107_4) = true := decide_eq_true c44
                    clear c44
                    obtain ⟨ji45, hji45⟩ : ∃ j_ : Int, (shr .i64 (rd l1_0 x113_5) x107_4) = j_ := ⟨_, rfl⟩
                    replace H : (if (Go.bits .and .i64 (ji45) 1) = 0 then (lampblackref02_IsTree.l4 k5 l0 x8_2 x107_4 x14_5 x15_5 (l0.length : Int) x107_4 l1_0 (l1_0.length : Int) (wrap64 (x113_5 + 1)) l1_0 l1_1) else (if x113_5 < (l1_1.length : Int) then (if (rd l1_1 x113_5) < 0 then (lampblackref02_IsTree.l4 k5 l0 x8_2 x107_4 (wrap64 (x14_5 + 1)) (Go.bits .or .i64 x15_5 (rd l1_0 x113_5)) (l0.length : Int) x107_4 l1_0 (l1_0.length : Int) (wrap64 (x113_5 + 1)) l1_0 l1_1) else (if 0 ≤ (rd l1_1 x113_5) then (if (rd l1_1 x113_5) < (l1_0.length : Int) then (if (Go.bits .and .i64 (shr .i64 (rd l1_0 (rd l1_1 x113_5)) x107_4) 1) = 0 then (lampblackref02_IsTree.l4 k5 l0 x8_2 x107_4 (wrap64 (x14_5 + 1)) (Go.bits .or .i64 x15_5 (rd l1_0 x113_5)) (l0.length : Int) x107_4 l1_0 (l1_0.length : Int) (wrap64 (x113_5 + 1)) l1_0 l1_1) else (lampblackref02_IsTree.l4 k5 l0 x8_2 x107_4 x14_5 (Go.bits .or .i64 x15_5 (rd l1_0 x113_5)) (l0.length : Int) x107_4 l1_0 (l1_0.length : Int) (wrap64 (x113_5 + 1)) l1_0 l1_1)) else (none)) else (none))) else (none))) = some (r1, r2) := by first | (rw [hji45] at H; exact H) | (simp only [hji45] at H ⊢; exact H)
                    have hji45_ : ((rd l1_0 x113_5) / 2 ^ min x107_4.toNat 64) = ji45 := hji45
                    have hji45z : x107_4 ≤ 64 → ((rd l1_0 x113_5) / 2 ^ x107_4.toNat) = ji45 := shr_small hji45
                    by_cases c46 : (Go.bits .and .i64 (ji45) 1) = 0
                    ·rw [if_pos c46] at H
                     have c46b0 : ((Go.bits .and .i64 (ji45) 1) == 0) = true := beq_iff_eq.mpr c46
                     have c46b1 : ((Go.bits .and .i64 (ji45) 1) != 0) = false := bne_eq_false_iff_eq.mpr c46
                     clear c46
                     have H' := Aside0.mk H
                     clear H
                     have p439 : 0 ≤ (x113_5 : Int) := of_decide_eq_true (Qas)
                     have q439 : x113_5 < (l1_0.length : Int) := of_decide_eq_true (Qas)
                     obtain ⟨ad439, e439, hx439_0⟩ := Kd.at_int HR1_0.out x113_5 p439 q439
                     cases e439
                     replace hx439_0 := (HB.out.cell (World.block_lt_of_cell? w _ hx439_0)).trans hx439_0
                     replace p439 := eq_true p439
                     replace q439 := eq_true q439
                     go_wp2
                     repeat (go_quiet (fail); try go_wp2)
                     go_roundg k5
                     case measure => have := HJ2.out; have := HK2.out; have := HK3.out; have := HK4.out; have := HK5.out; omega
                     case rel => exact ⟨(x14_5), (x15_5), (wrap64 (x113_5 + 1)), (Qrs), (Qrs), (Qrs), H', ⟨by have := HJ2.out; have := HK2.out; have := HK3.out; have := HK4.out; have := HK5.out; omega⟩, ⟨by (with_reducible repeat (first | refine blk_drewN ?_ _ | refine blk_drew ?_ | refine blk_alloc ?_ _)); exact BK431.out⟩, ⟨by repeat (first | (with_reducible first | exact HB.out | apply below_alloc | apply pw_below_drewN | apply below_drew1 | refine below_set ?_ GE431.out) | exact HB.out)⟩⟩
                    ·rw [if_neg c46] at H
                     have c46b0 : ((Go.bits .and .i64 (ji45) 1) == 0) = false := beq_eq_false_iff_ne.mpr c46
                     have c46b1 : ((Go.bits .and .i64 (ji45) 1) != 0) = true := bne_iff_ne.mpr c46
                     by_cases c47 : x113_5 < (l1_1.length : Int)
                     ·rw [if_pos c47] at H
                      have c47b0 : decide (x113_5 < (l1_1.length : Int)) = true := decide_eq_true c47
                      clear c47
                      by_cases c48 : (rd l1_1 x113_5) < 0
                      ·rw [if_pos c48] at H
                       have c48b0 : decide ((rd l1_1 x113_5) < 0) = true := decide_eq_true c48
                       clear c48
                       have H' := Aside0.mk H
                       clear H
                       have p439 : 0 ≤ (x113_5 : Int) := of_decide_eq_true (Qas)
                       have q439 : x113_5 < (l1_0.length : Int) := of_decide_eq_true (Qas)
                       obtain ⟨ad439, e439, hx439_0⟩ := Kd.at_int HR1_0.out x113_5 p439 q439
                       cases e439
                       replace hx439_0 := (HB.out.cell (World.block_lt_of_cell? w _ hx439_0)).trans hx439_0
                       replace p439 := eq_true p439
                       replace q439 := eq_true q439
                       have hcz49_0 : wr.cell? ⟨gb431, 0, none⟩ = some (.slice (some ad439) l1_0.length c1_0) := (blk_cell BK431.out 0).trans rfl
                       have hcz49_1 : wr.cell? ⟨gb431, 1, none⟩ = some (.slice A1_1 l1_1.length c1_1) := (blk_cell BK431.out 1).trans rfl
                       have hfz49_0 := blk_frozen BK431.out 0
                       have hfz49_1 := blk_frozen BK431.out 1
                       have p440 : 0 ≤ (x113_5 : Int) := of_decide_eq_true (Qas)
                       have q440 : x113_5 < (l1_1.length : Int) := of_decide_eq_true (Qas)
                       obtain ⟨ad440, e440, hx440_0⟩ := Kd.at_int HR1_1.out x113_5 p440 q440
                       cases e440
                       replace hx440_0 := (HB.out.cell (World.block_lt_of_cell? w _ hx440_0)).trans hx440_0
                       replace p440 := eq_true p440
                       replace q440 := eq_true q440
                       go_wp2
                       repeat (go_quiet (fail); try go_wp2)
                       go_roundg k5
                       case measure => have := HJ2.out; have := HK2.out; have := HK3.out; have := HK4.out; have := HK5.out; omega
                       case rel => exact ⟨(wrap64 (x14_5 + 1)), (Go.bits .or .i64 x15_5 (rd l1_0 x113_5)), (wrap64 (x113_5 + 1)), (Qrs), (Qrs), (Qrs), H', ⟨by have := HJ2.out; have := HK2.out; have := HK3.out; have := HK4.out; have := HK5.out; omega⟩, ⟨by (with_reducible repeat (first | refine blk_drewN ?_ _ | refine blk_drew ?_ | refine blk_alloc ?_ _)); exact BK431.out⟩, ⟨by repeat (first | (with_reducible first | exact HB.out | apply below_alloc | apply pw_below_drewN | apply below_drew1 | refine below_set ?_ GE431.out) | exact HB.out)⟩⟩
                      ·rw [if_neg c48] at H
                       have c48b0 : decide ((rd l1_1 x113_5) < 0) = false := decide_eq_false c48
                       clear c48
                       by_cases c50 : 0 ≤ (rd l1_1 x113_5)
                       ·rw [if_pos c50] at H
                        have c50b0 : decide (0 ≤ (rd l1_1 x113_5)) = true := decide_eq_true c50
                        clear c50
                        by_cases c51 : (rd l1_1 x113_5) < (l1_0.length : Int)
                        ·rw [if_pos c51] at H
                         have c51b0 : decide ((rd l1_1 x113_5) < (l1_0.length : Int)) = true := decide_eq_true c51
                         clear c51
                         have c52b0 := eq_true (of_decide_eq_true (Qas) : 0 ≤ x107_4)
                         obtain ⟨ji53, hji53⟩ : ∃ j_ : Int, (shr .i64 (rd l1_0 (rd l1_1 x113_5)) x107_4) = j_ := ⟨_, rfl⟩
                         replace H : (if (Go.bits .and .i64 (ji53) 1) = 0 then (lampblackref02_IsTree.l4 k5 l0 x8_2 x107_4 (wrap64 (x14_5 + 1)) (Go.bits .or .i64 x15_5 (rd l1_0 x113_5)) (l0.length : Int) x107_4 l1_0 (l1_0.length : Int) (wrap64 (x113_5 + 1)) l1_0 l1_1) else (lampblackref02_IsTree.l4 k5 l0 x8_2 x107_4 x14_5 (Go.bits .or .i64 x15_5 (rd l1_0 x113_5)) (l0.length : Int) x107_4 l1_0 (l1_0.length : Int) (wrap64 (x113_5 + 1)) l1_0 l1_1)) = some (r1, r2) := by first | (rw [hji53] at H; exact H) | (simp only [hji53] at H ⊢; exact H)
                         have hji53_ : ((rd l1_0 (rd l1_1 x113_5)) / 2 ^ min x107_4.toNat 64) = ji53 := hji53
                         have hji53z : x107_4 ≤ 64 → ((rd l1_0 (rd l1_1 x113_5)) / 2 ^ x107_4.toNat) = ji53 := shr_small hji53
                         by_cases c54 : (Go.bits .and .i64 (ji53) 1) = 0
                         ·rw [if_pos c54] at H
                          have c54b0 : ((Go.bits .and .i64 (ji53) 1) == 0) = true := beq_iff_eq.mpr c54
                          have c54b1 : ((Go.bits .and .i64 (ji53) 1) != 0) = false := bne_eq_false_iff_eq.mpr c54
                          clear c54
                          have H' := Aside0.mk H
                          clear H
                          have p439 : 0 ≤ (x113_5 : Int) := of_decide_eq_true (Qas)
                          have q439 : x113_5 < (l1_0.length : Int) := of_decide_eq_true (Qas)
                          obtain ⟨ad439, e439, hx439_0⟩ := Kd.at_int HR1_0.out x113_5 p439 q439
                          cases e439
                          replace hx439_0 := (HB.out.cell (World.block_lt_of_cell? w _ hx439_0)).trans hx439_0
                          replace p439 := eq_true p439
                          replace q439 := eq_true q439
                          have hcz55_0 : wr.cell? ⟨gb431, 0, none⟩ = some (.slice (some ad439) l1_0.length c1_0) := (blk_cell BK431.out 0).trans rfl
                          have hcz55_1 : wr.cell? ⟨gb431, 1, none⟩ = some (.slice A1_1 l1_1.length c1_1) := (blk_cell BK431.out 1).trans rfl
                          have hfz55_0 := blk_frozen BK431.out 0
                          have hfz55_1 := blk_frozen BK431.out 1
                          have p440 : 0 ≤ (x113_5 : Int) := of_decide_eq_true (Qas)
                          have q440 : x113_5 < (l1_1.length : Int) := of_decide_eq_true (Qas)
                          obtain ⟨ad440, e440, hx440_0⟩ := Kd.at_int HR1_1.out x113_5 p440 q440
                          cases e440
                          replace hx440_0 := (HB.out.cell (World.block_lt_of_cell? w _ hx440_0)).trans hx440_0
                          replace p440 := eq_true p440
                          replace q440 := eq_true q440
                          have p441 : 0 ≤ ((rd l1_1 x113_5) : Int) := of_decide_eq_true (Qas)
                          have q441 : (rd l1_1 x113_5) < (l1_0.length : Int) := of_decide_eq_true (Qas)
                          obtain ⟨ad441, e441, hx441_0⟩ := Kd.at_int HR1_0.out (rd l1_1 x113_5) p441 q441
                          obtain rfl : ad439 = ad441 := (by injection e441)
                          replace hx441_0 := (HB.out.cell (World.block_lt_of_cell? w _ hx441_0)).trans hx441_0
                          replace p441 := eq_true p441
                          replace q441 := eq_true q441
                          go_wp2
                          repeat (go_quiet (fail); try go_wp2)
                          go_roundg k5
                          case measure => have := HJ2.out; have := HK2.out; have := HK3.out; have := HK4.out; have := HK5.out; omega
                          case rel => exact ⟨(wrap64 (x14_5 + 1)), (Go.bits .or .i64 x15_5 (rd l1_0 x113_5)), (wrap64 (x113_5 + 1)), (Qrs), (Qrs), (Qrs), H', ⟨by have := HJ2.out; have := HK2.out; have := HK3.out; have := HK4.out; have := HK5.out; omega⟩, ⟨by (with_reducible repeat (first | refine blk_drewN ?_ _ | refine blk_drew ?_ | refine blk_alloc ?_ _)); exact BK431.out⟩, ⟨by repeat (first | (with_reducible first | exact HB.out | apply below_alloc | apply pw_below_drewN | apply below_drew1 | refine below_set ?_ GE431.out) | exact HB.out)⟩⟩
                         ·rw [if_neg c54] at H
                          have c54b0 : ((Go.bits .and .i64 (ji53) 1) == 0) = false := beq_eq_false_iff_ne.mpr c54
                          have c54b1 : ((Go.bits .and .i64 (ji53) 1) != 0) = true := bne_iff_ne.mpr c54
                          have H' := Aside0.mk H
                          clear H
                          have p439 : 0 ≤ (x113_5 : Int) := of_decide_eq_true (Qas)
                          have q439 : x113_5 < (l1_0.length : Int) := of_decide_eq_true (Qas)
                          obtain ⟨ad439, e439, hx439_0⟩ := Kd.at_int HR1_0.out x113_5 p439 q439
                          cases e439
                          replace hx439_0 := (HB.out.cell (World.block_lt_of_cell? w _ hx439_0)).trans hx439_0
                          replace p439 := eq_true p439
                          replace q439 := eq_true q439
                          have hcz56_0 : wr.cell? ⟨gb431, 0, none⟩ = some (.slice (some ad439) l1_0.length c1_0) := (blk_cell BK431.out 0).trans rfl
                          have hcz56_1 : wr.cell? ⟨gb431, 1, none⟩ = some (.slice A1_1 l1_1.length c1_1) := (blk_cell BK431.out 1).trans rfl
                          have hfz56_0 := blk_frozen BK431.out 0
                          have hfz56_1 := blk_frozen BK431.out 1
                          have p440 : 0 ≤ (x113_5 : Int) := of_decide_eq_true (Qas)
                          have q440 : x113_5 < (l1_1.length : Int) := of_decide_eq_true (Qas)
                          obtain ⟨ad440, e440, hx440_0⟩ := Kd.at_int HR1_1.out x113_5 p440 q440
                          cases e440
                          replace hx440_0 := (HB.out.cell (World.block_lt_of_cell? w _ hx440_0)).trans hx440_0
                          replace p440 := eq_true p440
                          replace q440 := eq_true q440
                          have p441 : 0 ≤ ((rd l1_1 x113_5) : Int) := of_decide_eq_true (Qas)
                          have q441 : (rd l1_1 x113_5) < (l1_0.length : Int) := of_decide_eq_true (Qas)
                          obtain ⟨ad441, e441, hx441_0⟩ := Kd.at_int HR1_0.out (rd l1_1 x113_5) p441 q441
                          obtain rfl : ad439 = ad441 := (by injection e441)
                          replace hx441_0 := (HB.out.cell (World.block_lt_of_cell? w _ hx441_0)).trans hx441_0
                          replace p441 := eq_true p441
                          replace q441 := eq_true q441
                          go_wp2
                          repeat (go_quiet (fail); try go_wp2)
                          go_roundg k5
                          case measure => have := HJ2.out; have := HK2.out; have := HK3.out; have := HK4.out; have := HK5.out; omega
                          case rel => exact ⟨(x14_5), (Go.bits .or .i64 x15_5 (rd l1_0 x113_5)), (wrap64 (x113_5 + 1)), (Qrs), (Qrs), (Qrs), H', ⟨by have := HJ2.out; have := HK2.out; have := HK3.out; have := HK4.out; have := HK5.out; omega⟩, ⟨by (with_reducible repeat (first | refine blk_drewN ?_ _ | refine blk_drew ?_ | refine blk_alloc ?_ _)); exact BK431.out⟩, ⟨by repeat (first | (with_reducible first | exact HB.out | apply below_alloc | apply pw_below_drewN | apply below_drew1 | refine below_set ?_ GE431.out) | exact HB.out)⟩⟩
                        ·rw [if_neg c51] at H
                         exact absurd H (by simp)
                       ·rw [if_neg c50] at H
                        exact absurd H (by simp)
                     ·rw [if_neg c47] at H
                      exact absurd H (by simp)
                   ·rw [if_neg c44] at H
                    exact absurd H (by simp)
                  ·rw [if_neg c43] at H
                   exact absurd H (by simp)
                 ·rw [if_neg c42] at H
                  exact absurd H (by simp)
                ·rw [if_neg c41] at H
                 have c41b0 : decide (x113_5 < (l1_0.length : Int)) = false := decide_eq_false c41
                 clear c41
                 by_cases c57 : x14_5 = 1
                 ·rw [if_pos c57] at H
                  have c57b0 : (x14_5 == 1) = true := beq_iff_eq.mpr c57
                  have c57b1 : (x14_5 != 1) = false := bne_eq_false_iff_eq.mpr c57
                  clear c57
                  by_cases c58 : 0 ≤ x107_4
                  ·rw [if_pos c58] at H
                   have c58b0 : decide (0 ≤ x107_4) = true := decide_eq_true c58
                   clear c58
                   by_cases c59 : x107_4 < (l0.length : Int)
                   ·rw [if_pos c59] at H
                    have c59b0 : decide (x107_4 < (l0.length : Int)) = true := decide_eq_true c59
                    clear c59
                    by_cases c60 : (Go.bits .andNot .i64 (rd l0 x107_4) x15_5) = 0
                    ·rw [if_pos c60] at H
                     have c60b0 : ((Go.bits .andNot .i64 (rd l0 x107_4) x15_5) == 0) = true := beq_iff_eq.mpr c60
                     have c60b1 : ((Go.bits .andNot .i64 (rd l0 x107_4) x15_5) != 0) = false := bne_eq_false_iff_eq.mpr c60
                     clear c60
                     have H' := Aside0.mk H
                     clear H
                     have p438 : 0 ≤ (x107_4 : Int) := of_decide_eq_true (Qas)
                     have q438 : x107_4 < (l0.length : Int) := of_decide_eq_true (Qas)
                     obtain ⟨ad438, e438, hx438_0⟩ := Kd.at_int HR0.out x107_4 p438 q438
                     cases e438
                     replace hx438_0 := (HB.out.cell (World.block_lt_of_cell? w _ hx438_0)).trans hx438_0
                     replace p438 := eq_true p438
                     replace q438 := eq_true q438
                     go_wp2
                     repeat (go_quiet (fail); try go_wp2)
                     go_roundg k5
                     case measure => have := HJ2.out; have := HK2.out; have := HK3.out; have := HK4.out; have := HK5.out; omega
                     case rel => exact ⟨(wrap64 (x107_4 + 1)), (Qrs), H', ⟨by have := HJ2.out; have := HK2.out; have := HK3.out; have := HK4.out; have := HK5.out; omega⟩, ⟨by (with_reducible repeat (first | refine blk_drewN ?_ _ | refine blk_drew ?_ | refine blk_alloc ?_ _)); exact BK431.out⟩, ⟨by repeat (first | (with_reducible first | exact HB.out | apply below_alloc | apply pw_below_drewN | apply below_drew1 | refine below_set ?_ GE431.out) | exact HB.out)⟩⟩
                    ·rw [if_neg c60] at H
                     have c60b0 : ((Go.bits .andNot .i64 (rd l0 x107_4) x15_5) == 0) = false := beq_eq_false_iff_ne.mpr c60
                     have c60b1 : ((Go.bits .andNot .i64 (rd l0 x107_4) x15_5) != 0) = true := bne_iff_ne.mpr c60
                     simp only [Option.some.injEq, Prod.mk.injEq] at H
                     obtain ⟨rfl, rfl⟩ := H
                     have p438 : 0 ≤ (x107_4 : Int) := of_decide_eq_true (Qas)
                     have q438 : x107_4 < (l0.length : Int) := of_decide_eq_true (Qas)
                     obtain ⟨ad438, e438, hx438_0⟩ := Kd.at_int HR0.out x107_4 p438 q438
                     cases e438
                     replace hx438_0 := (HB.out.cell (World.block_lt_of_cell? w _ hx438_0)).trans hx438_0
                     replace p438 := eq_true p438
                     replace q438 := eq_true q438
                     go_wp2
                     repeat (go_quiet (fail); try go_wp2)
                     go_ret2
                     exact ⟨by first | rfl | (simp [errW_none, errW_some] <;> rfl) | (simp [*, errW_none, errW_some] <;> rfl), by repeat (first | (with_reducible first | exact HB.out | apply below_alloc | apply pw_below_drewN | apply below_drew1 | refine below_set ?_ GE431.out) | exact HB.out)⟩
                   ·rw [if_neg c59] at H
                    exact absurd H (by simp)
                  ·rw [if_neg c58] at H
                   exact absurd H (by simp)
                 ·rw [if_neg c57] at H
                  have c57b0 : (x14_5 == 1) = false := beq_eq_false_iff_ne.mpr c57
                  have c57b1 : (x14_5 != 1) = true := bne_iff_ne.mpr c57
                  simp only [Option.some.injEq, Prod.mk.injEq] at H
                  obtain ⟨rfl, rfl⟩ := H
                  go_wp2
                  repeat (go_quiet (fail); try go_wp2)
                  go_ret2
                  exact ⟨by first | rfl | (simp [errW_none, errW_some] <;> rfl) | (simp [*, errW_none, errW_some] <;> rfl), by repeat (first | (with_reducible first | exact HB.out | apply below_alloc | apply pw_below_drewN | apply below_drew1 | refine below_set ?_ GE431.out) | exact HB.out)⟩
             ·rw [if_neg c39] at H
              have c39b0 : decide (x107_4 < (l0.length : Int)) = false := decide_eq_false c39
              clear c39
              simp only [Option.some.injEq, Prod.mk.injEq] at H
              obtain ⟨rfl, rfl⟩ := H
              go_wp2
              repeat (go_quiet (fail); try go_wp2)
              go_ret2
              exact ⟨by first | rfl | (simp [errW_none, errW_some] <;> rfl) | (simp [*, errW_none, errW_some] <;> rfl), by repeat (first | (with_reducible first | exact HB.out | apply below_alloc | apply pw_below_drewN | apply below_drew1 | refine below_set ?_ GE431.out) | exact HB.out)⟩
          ·rw [if_neg c38] at H
           have c38b0 : (x7_2 == 1) = false := beq_eq_false_iff_ne.mpr c38
           have c38b1 : (x7_2 != 1) = true := bne_iff_ne.mpr c38
           simp only [Option.some.injEq, Prod.mk.injEq] at H
           obtain ⟨rfl, rfl⟩ := H
           go_wp2
           repeat (go_quiet (fail); try go_wp2)
           go_ret2
           exact ⟨by first | rfl | (simp [errW_none, errW_some] <;> rfl) | (simp [*, errW_none, errW_some] <;> rfl), by repeat (first | (with_reducible first | exact HB.out | apply below_alloc | apply pw_below_drewN | apply below_drew1 | refine below_set ?_ GE431.out) | exact HB.out)⟩
end
noncomputable section
mutual
def lampblackref01_IsGraph.l0 : Nat → List Int → Int → List Int → Int → Int → Option (Bool)
 | 0, _, _, _, _, _ => none
 | k + 1, x0, x1, x8, x9, x10 => if x10 < x9 then (if 0 ≤ x10 then (if x10 < (x8.length : Int) then (if (x0.length : Int) > x1 then (lampblackref01_IsGraph.j1 k x0 x1 x10 (rd x8 x10) x8 x9 x10 true) else (if (rd x8 x10) < 0 then (lampblackref01_IsGraph.j1 k x0 x1 x10 (rd x8 x10) x8 x9 x10 true) else (if (rd x8 x10) ≥ (shl .i64 1 (x0.length : Int)) then (lampblackref01_IsGraph.j1 k x0 x1 x10 (rd x8 x10) x8 x9 x10 true) else (lampblackref01_IsGraph.j1 k x0 x1 x10 (rd x8 x10) x8 x9 x10 ((Go.bits .and .i64 (shr .i64 (rd x8 x10) x10) 1) == 1))))) else (none)) else (none)) else (if (x0.length : Int) ≥ 1 then (some (decide ((x0.length : Int) ≤ x1))) else (some false))
def lampblackref01_IsGraph.j1 : Nat → List Int → Int → Int → Int → List Int → Int → Int → Bool → Option (Bool)
 | 0, _, _, _, _, _, _, _, _ => none
 | k + 1, x0, x1, x5, x6, x8, x9, x10, x36 => if x36 = true then (some false) else (lampblackref01_IsGraph.l1 k x0 x1 x5 x6 x8 x9 x10 (x0.length : Int) 0)
def lampblackref01_IsGraph.l1 : Nat → List Int → Int → Int → Int → List Int → Int → Int → Int → Int → Option (Bool)
 | 0, _, _, _, _, _, _, _, _, _ => none
 | k + 1, x0, x1, x5, x6, x8, x9, x10, x38, x39 => if x39 < x38 then (if 0 ≤ x39 then (if x39 < (x0.length : Int) then (if 0 ≤ x5 then (if (Go.bits .and .i64 (shr .i64 x6 x39) 1) = (Go.bits .and .i64 (shr .i64 (rd x0 x39) x5) 1) then (lampblackref01_IsGraph.l1 k x0 x1 x5 x6 x8 x9 x10 x38 (wrap64 (x39 + 1))) else (some false)) else (none)) else (none)) else (none)) else (lampblackref01_IsGraph.l0 k x0 x1 x8 x9 (wrap64 (x10 + 1)))
end
def lampblackref01_IsGraph.f (k : Nat) (l0 : List Int) (a1 : Int) : Option (Bool) := lampblackref01_IsGraph.l0 k l0 a1 l0 (l0.length : Int) 0
set_option maxHeartbeats 8000000 in
set_option maxRecDepth 100000 in
theorem lampblackref01_IsGraph.calls (k : Nat) (A0 : Option Addr) (c0 : Nat) (l0 : List Int) (a1 : Int) (r : Bool) (w : World) (hr0 : Kd.C (Kd.int .i64) w A0 l0.length l0) (hc0 : l0.length ≤ c0) (h : lampblackref01_IsGraph.f k l0 a1 = some r) :
  Calls Tryd.prog 65 #[.slice A0 l0.length c0, .int .i64 a1] w fun e w' => e = .returned (.bool r) ∧ Drawn0 w w' := by
 have HR0 := Aside0.mk hr0
 have HC0 := Aside0.mk hc0
 clear hr0 hc0
 have H : (lampblackref01_IsGraph.l0 k l0 a1 l0 (l0.length : Int) 0) = some r := h
 clear h
 have H' := Aside0.mk H
 clear H
 go_enter Tryd.func65, Tryd.ntmps65
 go_wp2
 repeat (go_quiet (fail); try go_wp2)
 go_loopg [10] k (fun kq v10 w' => ∃ (x10_1 : Int), v10 = .int .i64 x10_1 ∧ Aside0 (lampblackref01_IsGraph.l0 kq l0 a1 l0 (l0.length : Int) x10_1 = some r) ∧ Aside0 (kq ≤ k) ∧ Drawn0 w w')
 case atStart => exact ⟨(0), (Qrs), H', ⟨Nat.le_refl _⟩, by repeat (first | exact Drawn0.refl _ | apply Drawn0.step)⟩
 case round =>
  clear H'
  try clear p2
  obtain ⟨x10_1, rfl, HA, HK1, ⟨m1, rfl⟩⟩ := hrel
  cases gk with
  | zero => exact absurd HA.out (by simp [lampblackref01_IsGraph.l0])
  | succ k1 =>
   have H := HA.out
   clear HA
   simp only [lampblackref01_IsGraph.l0] at H
   by_cases c3 : x10_1 < (l0.length : Int)
   ·rw [if_pos c3] at H
    have c3b0 : decide (x10_1 < (l0.length : Int)) = true := decide_eq_true c3
    clear c3
    by_cases c4 : 0 ≤ x10_1
    ·rw [if_pos c4] at H
     have c4b0 : decide (0 ≤ x10_1) = true := decide_eq_true c4
     clear c4
     by_cases c5 : x10_1 < (l0.length : Int)
     ·rw [if_pos c5] at H
      have c5b0 : decide (x10_1 < (l0.length : Int)) = true := decide_eq_true c5
      clear c5
      have HC6 := Aside0.mk H
      clear H
      have p215 : 0 ≤ (x10_1 : Int) := of_decide_eq_true (Qas)
      have q215 : x10_1 < (l0.length : Int) := of_decide_eq_true (Qas)
      obtain ⟨ad215, e215, hx215_0⟩ := Kd.at_int HR0.out x10_1 p215 q215
      cases e215
      replace p215 := eq_true p215
      replace q215 := eq_true q215
      go_upto_region 4 with (fail)
      repeat (go_quiet (fail); go_upto_region 4 with (fail))
      go_cut [36] (fun v36 wc => ∃ (kq : Nat) (x36_5 : Bool), v36 = .bool x36_5 ∧ Aside0 (lampblackref01_IsGraph.j1 kq l0 a1 x10_1 (rd l0 x10_1) l0 (l0.length : Int) x10_1 x36_5 = some r) ∧ Aside0 (kq ≤ k1) ∧ Drawn0 w wc)
      case first =>
       have H := HC6.out
       clear HC6
       by_cases c7 : (l0.length : Int) > a1
       ·rw [if_pos c7] at H
        have c7b0 : decide (a1 < (l0.length : Int)) = true := decide_eq_true c7
        clear c7
        (first | rw [c7b0] | (simp only [i64_w, i32_w]; rw [c7b0]) | skip)
        have H' := Aside0.mk H
        clear H
        go_wp2
        repeat (go_quiet (fail); try go_wp2)
        go_meet
        case rel => exact ⟨_, (true), (Qrs), H', ⟨by have := HK1.out; first | omega | exact Nat.le_refl _⟩, by repeat (first | exact Drawn0.refl _ | apply Drawn0.step)⟩
       ·rw [if_neg c7] at H
        have c7b0 : decide (a1 < (l0.length : Int)) = false := decide_eq_false c7
        clear c7
        (first | rw [c7b0] | (simp only [i64_w, i32_w]; rw [c7b0]) | skip)
        by_cases c8 : (rd l0 x10_1) < 0
        ·rw [if_pos c8] at H
         have c8b0 : decide ((rd l0 x10_1) < 0) = true := decide_eq_true c8
         clear c8
         have H' := Aside0.mk H
         clear H
         go_wp2
         repeat (go_quiet (fail); try go_wp2)
         go_meet
         case rel => exact ⟨_, (true), (Qrs), H', ⟨by have := HK1.out; first | omega | exact Nat.le_refl _⟩, by repeat (first | exact Drawn0.refl _ | apply Drawn0.step)⟩
        ·rw [if_neg c8] at H
         have c8b0 : decide ((rd l0 x10_1) < 0) = false := decide_eq_false c8
         clear c8
         obtain ⟨ji9, hji9⟩ : ∃ j_ : Int, (shl .i64 1 (l0.length : Int)) = j_ := ⟨_, rfl⟩
         replace H : (if (rd l0 x10_1) ≥ (ji9) then (lampblackref01_IsGraph.j1 k1 l0 a1 x10_1 (rd l0 x10_1) l0 (l0.length : Int) x10_1 true) else (lampblackref01_IsGraph.j1 k1 l0 a1 x10_1 (rd l0 x10_1) l0 (l0.length : Int) x10_1 ((Go.bits .and .i64 (shr .i64 (rd l0 x10_1) x10_1) 1) == 1))) = some r := by first | (rw [hji9] at H; exact H) | (simp only [hji9] at H ⊢; exact H)
         have hji9_ : (IntKind.i64.wrap (1 * 2 ^ min (l0.length : Int).toNat 64)) = ji9 := hji9
         have hji9z : (l0.length : Int) ≤ 64 → (IntKind.i64.wrap (1 * 2 ^ (l0.length : Int).toNat)) = ji9 := shl_small hji9
         have hji9p : (IntKind.i64.wrap (1 * 2 ^ min l0.length 64)) = ji9 := hji9_
         have hji9q : (l0.length : Int) ≤ 64 → (IntKind.i64.wrap (1 * 2 ^ l0.length)) = ji9 := hji9z
         have hji9r : (IntKind.i64.wrap (2 ^ min l0.length 64)) = ji9 := by have h_ := hji9p; rw [Int.one_mul] at h_; exact h_
         have hji9s : (l0.length : Int) ≤ 64 → (IntKind.i64.wrap (2 ^ l0.length)) = ji9 := fun hle_ => by have h_ := hji9q hle_; rw [Int.one_mul] at h_; exact h_
         have hji9u : (IntKind.i64.wrap (2 ^ min (l0.length : Int).toNat 64)) = ji9 := by have h_ := hji9_; rw [Int.one_mul] at h_; exact h_
         have hji9v : (l0.length : Int) ≤ 64 → (IntKind.i64.wrap (2 ^ (l0.length : Int).toNat)) = ji9 := fun hle_ => by have h_ := hji9z hle_; rw [Int.one_mul] at h_; exact h_
         have hji9y : (wrap64 (1 * 2 ^ min (l0.length : Int).toNat 64)) = ji9 := (i64_w _).symm.trans hji9_
         have hji9x : (l0.length : Int) ≤ 64 → (wrap64 (1 * 2 ^ (l0.length : Int).toNat)) = ji9 := fun h_ => (i64_w _).symm.trans (hji9z h_)
         by_cases c10 : (rd l0 x10_1) ≥ (ji9)
         ·rw [if_pos c10] at H
          have c10b0 : decide ((ji9) ≤ (rd l0 x10_1)) = true := decide_eq_true c10
          clear c10
          have H' := Aside0.mk H
          clear H
          go_wp2
          repeat (go_quiet (fail); try go_wp2)
          go_meet
          case rel => exact ⟨_, (true), (Qrs), H', ⟨by have := HK1.out; first | omega | exact Nat.le_refl _⟩, by repeat (first | exact Drawn0.refl _ | apply Drawn0.step)⟩
         ·rw [if_neg c10] at H
          have c10b0 : decide ((ji9) ≤ (rd l0 x10_1)) = false := decide_eq_false c10
          clear c10
          have c11b0 := eq_true (of_decide_eq_true (Qas) : 0 ≤ x10_1)
          obtain ⟨ji12, hji12⟩ : ∃ j_ : Int, (shr .i64 (rd l0 x10_1) x10_1) = j_ := ⟨_, rfl⟩
          replace H : (lampblackref01_IsGraph.j1 k1 l0 a1 x10_1 (rd l0 x10_1) l0 (l0.length : Int) x10_1 ((Go.bits .and .i64 (ji12) 1) == 1)) = some r := by first | (rw [hji12] at H; exact H) | (simp only [hji12] at H ⊢; exact H)
          have hji12_ : ((rd l0 x10_1) / 2 ^ min x10_1.toNat 64) = ji12 := hji12
          have hji12z : x10_1 ≤ 64 → ((rd l0 x10_1) / 2 ^ x10_1.toNat) = ji12 := shr_small hji12
          have H' := Aside0.mk H
          clear H
          go_wp2
          repeat (go_quiet (fail); try go_wp2)
          go_meet
          case rel => exact ⟨_, (((Go.bits .and .i64 (ji12) 1) == 1)), (by first | rfl | (simp; done) | (simp only [← hji12] <;> (first | rfl | simp)) | (simp [*]; done)), H', ⟨by have := HK1.out; first | omega | exact Nat.le_refl _⟩, by repeat (first | exact Drawn0.refl _ | apply Drawn0.step)⟩
      case rest =>
       clear HC6
       try clear c1
       try clear p2
       try clear q2
       try clear hx2
       try clear c3
       try clear c3b0
       try clear c4
       try clear c4b0
       try clear c5
       try clear c5b0
       try clear c6
       try clear p6
       try clear c7
       try clear c7b0
       try clear c8
       try clear c8b0
       try clear c10
       try clear c10b0
       try clear c11
       try clear c11b0
       try clear hx215_0
       try clear p2
       try clear p215
       try clear q215
       obtain ⟨kq, x36_5, rfl, HA, HJ5, ⟨mc5, rfl⟩⟩ := hcut
       cases kq with
       | zero => exact absurd HA.out (by simp [lampblackref01_IsGraph.j1])
       | succ kj5 =>
        have H := HA.out
        clear HA
        simp only [lampblackref01_IsGraph.j1] at H
        by_cases c13 : x36_5 = true
        ·subst c13
         have H1 : (some false) = some r := by rw [if_pos rfl] at H; exact H
         clear H
         have H := H1
         clear H1
         obtain rfl := Option.some.inj H
         go_wp2
         repeat (go_quiet (fail); try go_wp2)
         go_ret
         exact ⟨by first | rfl | (simp; done) | (simp [*]; done), by repeat (first | exact Drawn0.refl _ | apply Drawn0.step)⟩
        ·replace c13 := Bool.eq_false_iff.mpr c13
         subst c13
         have H1 : (lampblackref01_IsGraph.l1 kj5 l0 a1 x10_1 (rd l0 x10_1) l0 (l0.length : Int) x10_1 (l0.length : Int) 0) = some r := by rw [if_neg (show ¬ (false = true) by decide)] at H; exact H
         clear H
         have H := H1
         clear H1
         have H' := Aside0.mk H
         clear H
         go_wp2
         repeat (go_quiet (fail); try go_wp2)
         go_loopg [39] kj5 (fun kq v39 w' => ∃ (x39_3 : Int), v39 = .int .i64 x39_3 ∧ Aside0 (lampblackref01_IsGraph.l1 kq l0 a1 x10_1 (rd l0 x10_1) l0 (l0.length : Int) x10_1 (l0.length : Int) x39_3 = some r) ∧ Aside0 (kq ≤ kj5) ∧ Drawn0 w w')
         case atStart => exact ⟨(0), (Qrs), H', ⟨Nat.le_refl _⟩, by repeat (first | exact Drawn0.refl _ | apply Drawn0.step)⟩
         case round =>
          clear H'
          try clear c1
          try clear p2
          try clear q2
          try clear hx2
          try clear c3
          try clear c3b0
          try clear c4
          try clear c4b0
          try clear c5
          try clear c5b0
          try clear c6
          try clear p6
          try clear c7
          try clear c7b0
          try clear c8
          try clear c8b0
          try clear c10
          try clear c10b0
          try clear c11
          try clear c11b0
          try clear c13
          try clear hx215_0
          try clear p2
          try clear p215
          try clear p6
          try clear q2
          try clear q215
          obtain ⟨x39_3, rfl, HA, HK3, ⟨m3, rfl⟩⟩ := hrel
          cases gk with
          | zero => exact absurd HA.out (by simp [lampblackref01_IsGraph.l1])
          | succ k3 =>
           have H := HA.out
           clear HA
           simp only [lampblackref01_IsGraph.l1] at H
           by_cases c14 : x39_3 < (l0.length : Int)
           ·rw [if_pos c14] at H
            have c14b0 : decide (x39_3 < (l0.length : Int)) = true := decide_eq_true c14
            clear c14
            by_cases c15 : 0 ≤ x39_3
            ·rw [if_pos c15] at H
             have c15b0 := eq_true c15
             have c15b1 : decide (0 ≤ x39_3) = true := decide_eq_true c15
             clear c15
             obtain ⟨ji16, hji16⟩ : ∃ j_ : Int, (shr .i64 (rd l0 x10_1) x39_3) = j_ := ⟨_, rfl⟩
             replace H : (if x39_3 < (l0.length : Int) then (if 0 ≤ x10_1 then (if (Go.bits .and .i64 (ji16) 1) = (Go.bits .and .i64 (shr .i64 (rd l0 x39_3) x10_1) 1) then (lampblackref01_IsGraph.l1 k3 l0 a1 x10_1 (rd l0 x10_1) l0 (l0.length : Int) x10_1 (l0.length : Int) (wrap64 (x39_3 + 1))) else (some false)) else (none)) else (none)) = some r := by first | (rw [hji16] at H; exact H) | (simp only [hji16] at H ⊢; exact H)
             have hji16_ : ((rd l0 x10_1) / 2 ^ min x39_3.toNat 64) = ji16 := hji16
             have hji16z : x39_3 ≤ 64 → ((rd l0 x10_1) / 2 ^ x39_3.toNat) = ji16 := shr_small hji16
             by_cases c17 : x39_3 < (l0.length : Int)
             ·rw [if_pos c17] at H
              have c17b0 : decide (x39_3 < (l0.length : Int)) = true := decide_eq_true c17
              clear c17
              by_cases c18 : 0 ≤ x10_1
              ·rw [if_pos c18] at H
               have c18b0 := eq_true c18
               have c18b1 : decide (0 ≤ x10_1) = true := decide_eq_true c18
               clear c18
               obtain ⟨ji19, hji19⟩ : ∃ j_ : Int, (shr .i64 (rd l0 x39_3) x10_1) = j_ := ⟨_, rfl⟩
               replace H : (if (Go.bits .and .i64 (ji16) 1) = (Go.bits .and .i64 (ji19) 1) then (lampblackref01_IsGraph.l1 k3 l0 a1 x10_1 (rd l0 x10_1) l0 (l0.length : Int) x10_1 (l0.length : Int) (wrap64 (x39_3 + 1))) else (some false)) = some r := by first | (rw [hji19] at H; exact H) | (simp only [hji19] at H ⊢; exact H)
               have hji19_ : ((rd l0 x39_3) / 2 ^ min x10_1.toNat 64) = ji19 := hji19
               have hji19z : x10_1 ≤ 64 → ((rd l0 x39_3) / 2 ^ x10_1.toNat) = ji19 := shr_small hji19
               by_cases c20 : (Go.bits .and .i64 (ji16) 1) = (Go.bits .and .i64 (ji19) 1)
               ·rw [if_pos c20] at H
                have c20b0 : ((Go.bits .and .i64 (ji16) 1) == (Go.bits .and .i64 (ji19) 1)) = true := beq_iff_eq.mpr c20
                have c20b1 : ((Go.bits .and .i64 (ji16) 1) != (Go.bits .and .i64 (ji19) 1)) = false := bne_eq_false_iff_eq.mpr c20
                clear c20
                have H' := Aside0.mk H
                clear H
                have p216 : 0 ≤ (x39_3 : Int) := of_decide_eq_true (Qas)
                have q216 : x39_3 < (l0.length : Int) := of_decide_eq_true (Qas)
                obtain ⟨ad216, e216, hx216_0⟩ := Kd.at_int HR0.out x39_3 p216 q216
                obtain rfl : ad215 = ad216 := (by injection e216)
                replace p216 := eq_true p216
                replace q216 := eq_true q216
                go_wp2
                repeat (go_quiet (fail); try go_wp2)
                go_roundg k3
                case measure => have := HK1.out; have := HJ5.out; have := HK3.out; omega
                case rel => exact ⟨(wrap64 (x39_3 + 1)), (Qrs), H', ⟨by have := HK1.out; have := HJ5.out; have := HK3.out; omega⟩, by repeat (first | exact Drawn0.refl _ | apply Drawn0.step)⟩
               ·rw [if_neg c20] at H
                have c20b0 : ((Go.bits .and .i64 (ji16) 1) == (Go.bits .and .i64 (ji19) 1)) = false := beq_eq_false_iff_ne.mpr c20
                have c20b1 : ((Go.bits .and .i64 (ji16) 1) != (Go.bits .and .i64 (ji19) 1)) = true := bne_iff_ne.mpr c20
                obtain rfl := Option.some.inj H
                have p216 : 0 ≤ (x39_3 : Int) := of_decide_eq_true (Qas)
                have q216 : x39_3 < (l0.length : Int) := of_decide_eq_true (Qas)
                obtain ⟨ad216, e216, hx216_0⟩ := Kd.at_int HR0.out x39_3 p216 q216
                obtain rfl : ad215 = ad216 := (by injection e216)
                replace p216 := eq_true p216
                replace q216 := eq_true q216
                go_wp2
                repeat (go_quiet (fail); try go_wp2)
                go_ret
                exact ⟨by first | rfl | (simp; done) | (simp only [← hji16, ← hji19] <;> (first | rfl | simp)) | (simp [*]; done), by repeat (first | exact Drawn0.refl _ | apply Drawn0.step)⟩
              ·rw [if_neg c18] at H
               exact absurd H (by simp)
             ·rw [if_neg c17] at H
              exact absurd H (by simp)
            ·rw [if_neg c15] at H
             exact absurd H (by simp)
           ·rw [if_neg c14] at H
            have c14b0 : decide (x39_3 < (l0.length : Int)) = false := decide_eq_false c14
            clear c14
            have H' := Aside0.mk H
            clear H
            go_wp2
            repeat (go_quiet (fail); try go_wp2)
            go_roundg k3
            case measure => have := HK1.out; have := HJ5.out; have := HK3.out; omega
            case rel => exact ⟨(wrap64 (x10_1 + 1)), (Qrs), H', ⟨by have := HK1.out; have := HJ5.out; have := HK3.out; omega⟩, by repeat (first | exact Drawn0.refl _ | apply Drawn0.step)⟩
     ·rw [if_neg c5] at H
      exact absurd H (by simp)
    ·rw [if_neg c4] at H
     exact absurd H (by simp)
   ·rw [if_neg c3] at H
    have c3b0 : decide (x10_1 < (l0.length : Int)) = false := decide_eq_false c3
    clear c3
    by_cases c21 : (l0.length : Int) ≥ 1
    ·rw [if_pos c21] at H
     have c21b0 : decide (1 ≤ (l0.length : Int)) = true := decide_eq_true c21
     have c21b1 : decide (1 ≤ l0.length) = true := decide_eq_true (by omega)
     clear c21
     obtain rfl := Option.some.inj H
     go_wp2
     repeat (go_quiet (fail); try go_wp2)
     go_ret
     exact ⟨by first | rfl | (simp; done) | (simp [*]; done), by repeat (first | exact Drawn0.refl _ | apply Drawn0.step)⟩
    ·rw [if_neg c21] at H
     have c21b0 : decide (1 ≤ (l0.length : Int)) = false := decide_eq_false c21
     have c21b1 : decide (1 ≤ l0.length) = false := decide_eq_false (by omega)
     clear c21
     obtain rfl := Option.some.inj H
     go_wp2
     repeat (go_quiet (fail); try go_wp2)
     go_ret
     exact ⟨by first | rfl | (simp; done) | (simp [*]; done), by repeat (first | exact Drawn0.refl _ | apply Drawn0.step)⟩
end
noncomputable section
def lampblackref02_Valid.f (k : Nat) (l0 : List Int) : Option (Bool) := (lampblackref01_IsGraph.f k l0 9).bind fun t217 => (some t217)
set_option maxHeartbeats 8000000 in
set_option maxRecDepth 100000 in
theorem lampblackref02_Valid.calls (k : Nat) (A0 : Option Addr) (c0 : Nat) (l0 : List Int) (r : Bool) (w : World) (hr0 : Kd.C (Kd.int .i64) w A0 l0.length l0) (hc0 : l0.length ≤ c0) (h : lampblackref02_Valid.f k l0 = some r) :
  Calls Tryd.prog 23 #[.slice A0 l0.length c0] w fun e w' => e = .returned (.bool r) ∧ Drawn0 w w' := by
 have HR0 := Aside0.mk hr0
 have HC0 := Aside0.mk hc0
 clear hr0 hc0
 have H : ((lampblackref01_IsGraph.f k l0 9).bind fun t217 => (some t217)) = some r := h
 clear h
 replace H := Option.bind_eq_some_iff.mp H
 obtain ⟨t217, A20, H⟩ := H
 replace H : (some t217) = some r := H
 have A2 := Aside0.mk A20
 clear A20
 obtain rfl := Option.some.inj H
 go_enter Tryd.func23, Tryd.ntmps23
 go_wp2_with (first | ((with_reducible refine gate_callee (f := 65) rfl ?_); refine goesL_ (some 4) rfl rfl Tryd.func65 (by kernel_rfl) rfl #[.slice A0 l0.length c0, .int .i64 9] rfl (Qls) ?_; (with_reducible refine (lampblackref01_IsGraph.calls k _ _ l0 9 t217 _ ?side1 ?side2 A2.out).mono ?_); (case side1 => exact Qsc HR0.out); (case side2 => exact HC0.out); rintro e w' ⟨rfl, ⟨nd, rfl⟩⟩; refine ⟨_, rfl, ?_⟩))
 go_ret
 exact ⟨by first | rfl | (simp; done) | (simp [*]; done), by repeat (first | exact Drawn0.refl _ | apply Drawn0.step)⟩
end
noncomputable section
mutual
def lampblackref01_Reached.l0 : Nat → List Int → Int → Int → Int → Int → Option (Int)
 | 0, _, _, _, _, _ => none
 | k + 1, x0, x1, x7, x12, x13 => if x13 < x12 then (lampblackref01_Reached.l1 k x0 x1 x7 x12 x13 (x0.length : Int) 0) else (some x7)
def lampblackref01_Reached.l1 : Nat → List Int → Int → Int → Int → Int → Int → Int → Option (Int)
 | 0, _, _, _, _, _, _, _ => none
 | k + 1, x0, x1, x7, x12, x13, x16, x17 => if x17 < x16 then (if 0 ≤ x17 then (if (Go.bits .and .i64 (shr .i64 x7 x17) 1) = 1 then (if x17 < (x0.length : Int) then (lampblackref01_Reached.l1 k x0 x1 (Go.bits .or .i64 x7 (Go.bits .and .i64 (rd x0 x17) x1)) x12 x13 x16 (wrap64 (x17 + 1))) else (none)) else (lampblackref01_Reached.l1 k x0 x1 x7 x12 x13 x16 (wrap64 (x17 + 1)))) else (none)) else (lampblackref01_Reached.l0 k x0 x1 x7 x12 (wrap64 (x13 + 1)))
end
def lampblackref01_Reached.f (k : Nat) (l0 : List Int) (a1 : Int) (a2 : Int) : Option (Int) := if 0 ≤ a2 then (lampblackref01_Reached.l0 k l0 a1 (shl .i64 1 a2) (l0.length : Int) 0) else (none)
set_option maxHeartbeats 8000000 in
set_option maxRecDepth 100000 in
theorem lampblackref01_Reached.calls (k : Nat) (A0 : Option Addr) (c0 : Nat) (l0 : List Int) (a1 : Int) (a2 : Int) (r : Int) (w : World) (hr0 : Kd.C (Kd.int .i64) w A0 l0.length l0) (hc0 : l0.length ≤ c0) (h : lampblackref01_Reached.f k l0 a1 a2 = some r) :
  Calls Tryd.prog 29 #[.slice A0 l0.length c0, .int .i64 a1, .int .i64 a2] w fun e w' => e = .returned (.int .i64 r) ∧ Drawn0 w w' := by
 have HR0 := Aside0.mk hr0
 have HC0 := Aside0.mk hc0
 clear hr0 hc0
 have H : (if 0 ≤ a2 then (lampblackref01_Reached.l0 k l0 a1 (shl .i64 1 a2) (l0.length : Int) 0) else (none)) = some r := h
 clear h
 by_cases c4 : 0 ≤ a2
 ·rw [if_pos c4] at H
  have c4b0 := eq_true c4
  have c4b1 : decide (0 ≤ a2) = true := decide_eq_true c4
  clear c4
  obtain ⟨ji5, hji5⟩ : ∃ j_ : Int, (shl .i64 1 a2) = j_ := ⟨_, rfl⟩
  replace H : (lampblackref01_Reached.l0 k l0 a1 ji5 (l0.length : Int) 0) = some r := by first | (rw [hji5] at H; exact H) | (simp only [hji5] at H ⊢; exact H)
  have hji5_ : (IntKind.i64.wrap (1 * 2 ^ min a2.toNat 64)) = ji5 := hji5
  have hji5z : a2 ≤ 64 → (IntKind.i64.wrap (1 * 2 ^ a2.toNat)) = ji5 := shl_small hji5
  have hji5u : (IntKind.i64.wrap (2 ^ min a2.toNat 64)) = ji5 := by have h_ := hji5_; rw [Int.one_mul] at h_; exact h_
  have hji5v : a2 ≤ 64 → (IntKind.i64.wrap (2 ^ a2.toNat)) = ji5 := fun hle_ => by have h_ := hji5z hle_; rw [Int.one_mul] at h_; exact h_
  have hji5y : (wrap64 (1 * 2 ^ min a2.toNat 64)) = ji5 := (i64_w _).symm.trans hji5_
  have hji5x : a2 ≤ 64 → (wrap64 (1 * 2 ^ a2.toNat)) = ji5 := fun h_ => (i64_w _).symm.trans (hji5z h_)
  have H' := Aside0.mk H
  clear H
  go_enter Tryd.func29, Tryd.ntmps29
  go_wp2
  go_loopg [7, 13] k (fun kq v7 v13 w' => ∃ (x7_1 : Int) (x13_1 : Int), v7 = .int .i64 x7_1 ∧ v13 = .int .i64 x13_1 ∧ Aside0 (lampblackref01_Reached.l0 kq l0 a1 x7_1 (l0.length : Int) x13_1 = some r) ∧ Aside0 (kq ≤ k) ∧ Drawn0 w w')
  case atStart => exact ⟨(ji5), (0), (by first | rfl | (simp; done) | (simp only [← hji5] <;> (first | rfl | simp)) | (simp [*]; done)), (Qrs), H', ⟨Nat.le_refl _⟩, by repeat (first | exact Drawn0.refl _ | apply Drawn0.step)⟩
  case round =>
   clear H'
   try clear c2
   try clear p2
   try clear c4
   try clear c4b0
   try clear c4b1
   obtain ⟨x7_1, x13_1, rfl, rfl, HA, HK1, ⟨m1, rfl⟩⟩ := hrel
   cases gk with
   | zero => exact absurd HA.out (by simp [lampblackref01_Reached.l0])
   | succ k1 =>
    have H := HA.out
    clear HA
    simp only [lampblackref01_Reached.l0] at H
    by_cases c6 : x13_1 < (l0.length : Int)
    ·rw [if_pos c6] at H
     have c6b0 : decide (x13_1 < (l0.length : Int)) = true := decide_eq_true c6
     clear c6
     have H' := Aside0.mk H
     clear H
     go_wp2
     go_loopg [7, 17] k1 (fun kq v7 v17 w' => ∃ (x7_2 : Int) (x17_2 : Int), v7 = .int .i64 x7_2 ∧ v17 = .int .i64 x17_2 ∧ Aside0 (lampblackref01_Reached.l1 kq l0 a1 x7_2 (l0.length : Int) x13_1 (l0.length : Int) x17_2 = some r) ∧ Aside0 (kq ≤ k1) ∧ Drawn0 w w')
     case atStart => exact ⟨(x7_1), (0), (Qrs), (Qrs), H', ⟨Nat.le_refl _⟩, by repeat (first | exact Drawn0.refl _ | apply Drawn0.step)⟩
     case round =>
      clear H'
      try clear c2
      try clear p2
      try clear c4
      try clear c4b0
      try clear c4b1
      try clear c6
      try clear c6b0
      try clear p6
      try clear p2
      obtain ⟨x7_2, x17_2, rfl, rfl, HA, HK2, ⟨m2, rfl⟩⟩ := hrel
      cases gk with
      | zero => exact absurd HA.out (by simp [lampblackref01_Reached.l1])
      | succ k2 =>
       have H := HA.out
       clear HA
       simp only [lampblackref01_Reached.l1] at H
       by_cases c7 : x17_2 < (l0.length : Int)
       ·rw [if_pos c7] at H
        have c7b0 : decide (x17_2 < (l0.length : Int)) = true := decide_eq_true c7
        clear c7
        by_cases c8 : 0 ≤ x17_2
        ·rw [if_pos c8] at H
         have c8b0 := eq_true c8
         have c8b1 : decide (0 ≤ x17_2) = true := decide_eq_true c8
         clear c8
         obtain ⟨ji9, hji9⟩ : ∃ j_ : Int, (shr .i64 x7_2 x17_2) = j_ := ⟨_, rfl⟩
         replace H : (if (Go.bits .and .i64 (ji9) 1) = 1 then (if x17_2 < (l0.length : Int) then (lampblackref01_Reached.l1 k2 l0 a1 (Go.bits .or .i64 x7_2 (Go.bits .and .i64 (rd l0 x17_2) a1)) (l0.length : Int) x13_1 (l0.length : Int) (wrap64 (x17_2 + 1))) else (none)) else (lampblackref01_Reached.l1 k2 l0 a1 x7_2 (l0.length : Int) x13_1 (l0.length : Int) (wrap64 (x17_2 + 1)))) = some r := by first | (rw [hji9] at H; exact H) | (simp only [hji9] at H ⊢; exact H)
         have hji9_ : (x7_2 / 2 ^ min x17_2.toNat 64) = ji9 := hji9
         have hji9z : x17_2 ≤ 64 → (x7_2 / 2 ^ x17_2.toNat) = ji9 := shr_small hji9
         by_cases c10 : (Go.bits .and .i64 (ji9) 1) = 1
         ·rw [if_pos c10] at H
          have c10b0 : ((Go.bits .and .i64 (ji9) 1) == 1) = true := beq_iff_eq.mpr c10
          have c10b1 : ((Go.bits .and .i64 (ji9) 1) != 1) = false := bne_eq_false_iff_eq.mpr c10
          clear c10
          by_cases c11 : x17_2 < (l0.length : Int)
          ·rw [if_pos c11] at H
           have c11b0 : decide (x17_2 < (l0.length : Int)) = true := decide_eq_true c11
           clear c11
           have H' := Aside0.mk H
           clear H
           have p218 : 0 ≤ (x17_2 : Int) := of_decide_eq_true (Qas)
           have q218 : x17_2 < (l0.length : Int) := of_decide_eq_true (Qas)
           obtain ⟨ad218, e218, hx218_0⟩ := Kd.at_int HR0.out x17_2 p218 q218
           cases e218
           replace p218 := eq_true p218
           replace q218 := eq_true q218
           go_wp2
           go_roundg k2
           case measure => have := HK1.out; have := HK2.out; omega
           case rel => exact ⟨(Go.bits .or .i64 x7_2 (Go.bits .and .i64 (rd l0 x17_2) a1)), (wrap64 (x17_2 + 1)), (Qrs), (Qrs), H', ⟨by have := HK1.out; have := HK2.out; omega⟩, by repeat (first | exact Drawn0.refl _ | apply Drawn0.step)⟩
          ·rw [if_neg c11] at H
           exact absurd H (by simp)
         ·rw [if_neg c10] at H
          have c10b0 : ((Go.bits .and .i64 (ji9) 1) == 1) = false := beq_eq_false_iff_ne.mpr c10
          have c10b1 : ((Go.bits .and .i64 (ji9) 1) != 1) = true := bne_iff_ne.mpr c10
          have H' := Aside0.mk H
          clear H
          go_wp2
          go_roundg k2
          case measure => have := HK1.out; have := HK2.out; omega
          case rel => exact ⟨(x7_2), (wrap64 (x17_2 + 1)), (Qrs), (Qrs), H', ⟨by have := HK1.out; have := HK2.out; omega⟩, by repeat (first | exact Drawn0.refl _ | apply Drawn0.step)⟩
        ·rw [if_neg c8] at H
         exact absurd H (by simp)
       ·rw [if_neg c7] at H
        have c7b0 : decide (x17_2 < (l0.length : Int)) = false := decide_eq_false c7
        clear c7
        have H' := Aside0.mk H
        clear H
        go_wp2
        go_roundg k2
        case measure => have := HK1.out; have := HK2.out; omega
        case rel => exact ⟨(x7_2), (wrap64 (x13_1 + 1)), (Qrs), (Qrs), H', ⟨by have := HK1.out; have := HK2.out; omega⟩, by repeat (first | exact Drawn0.refl _ | apply Drawn0.step)⟩
    ·rw [if_neg c6] at H
     have c6b0 : decide (x13_1 < (l0.length : Int)) = false := decide_eq_false c6
     clear c6
     obtain rfl := Option.some.inj H
     go_wp2
     go_ret
     exact ⟨by first | rfl | (simp; done) | (simp only [← hji5] <;> (first | rfl | simp)) | (simp [*]; done), by repeat (first | exact Drawn0.refl _ | apply Drawn0.step)⟩
 ·rw [if_neg c4] at H
  exact absurd H (by simp)
end
noncomputable section
def lampblackref02_Around.l0 : Nat → List Int → Int → Int → Int → Int → Option (Int)
 | 0, _, _, _, _, _ => none
 | k + 1, x0, x1, x5, x8, x9 => if x9 < x8 then (if 0 ≤ x9 then (if (Go.bits .and .i64 (shr .i64 x1 x9) 1) = 1 then (if x9 < (x0.length : Int) then (lampblackref02_Around.l0 k x0 x1 (Go.bits .or .i64 x5 (rd x0 x9)) x8 (wrap64 (x9 + 1))) else (none)) else (lampblackref02_Around.l0 k x0 x1 x5 x8 (wrap64 (x9 + 1)))) else (none)) else (some x5)
def lampblackref02_Around.f (k : Nat) (l0 : List Int) (a1 : Int) : Option (Int) := lampblackref02_Around.l0 k l0 a1 0 (l0.length : Int) 0
set_option maxHeartbeats 8000000 in
set_option maxRecDepth 100000 in
theorem lampblackref02_Around.calls (k : Nat) (A0 : Option Addr) (c0 : Nat) (l0 : List Int) (a1 : Int) (r : Int) (w : World) (hr0 : Kd.C (Kd.int .i64) w A0 l0.length l0) (hc0 : l0.length ≤ c0) (h : lampblackref02_Around.f k l0 a1 = some r) :
  Calls Tryd.prog 66 #[.slice A0 l0.length c0, .int .i64 a1] w fun e w' => e = .returned (.int .i64 r) ∧ Drawn0 w w' := by
 have HR0 := Aside0.mk hr0
 have HC0 := Aside0.mk hc0
 clear hr0 hc0
 have H : (lampblackref02_Around.l0 k l0 a1 0 (l0.length : Int) 0) = some r := h
 clear h
 have H' := Aside0.mk H
 clear H
 go_enter Tryd.func66, Tryd.ntmps66
 go_wp2
 go_loopg [5, 9] k (fun kq v5 v9 w' => ∃ (x5_1 : Int) (x9_1 : Int), v5 = .int .i64 x5_1 ∧ v9 = .int .i64 x9_1 ∧ Aside0 (lampblackref02_Around.l0 kq l0 a1 x5_1 (l0.length : Int) x9_1 = some r) ∧ Aside0 (kq ≤ k) ∧ Drawn0 w w')
 case atStart => exact ⟨(0), (0), (Qrs), (Qrs), H', ⟨Nat.le_refl _⟩, by repeat (first | exact Drawn0.refl _ | apply Drawn0.step)⟩
 case round =>
  clear H'
  try clear p2
  obtain ⟨x5_1, x9_1, rfl, rfl, HA, HK1, ⟨m1, rfl⟩⟩ := hrel
  cases gk with
  | zero => exact absurd HA.out (by simp [lampblackref02_Around.l0])
  | succ k1 =>
   have H := HA.out
   clear HA
   simp only [lampblackref02_Around.l0] at H
   by_cases c3 : x9_1 < (l0.length : Int)
   ·rw [if_pos c3] at H
    have c3b0 : decide (x9_1 < (l0.length : Int)) = true := decide_eq_true c3
    clear c3
    by_cases c4 : 0 ≤ x9_1
    ·rw [if_pos c4] at H
     have c4b0 := eq_true c4
     have c4b1 : decide (0 ≤ x9_1) = true := decide_eq_true c4
     clear c4
     obtain ⟨ji5, hji5⟩ : ∃ j_ : Int, (shr .i64 a1 x9_1) = j_ := ⟨_, rfl⟩
     replace H : (if (Go.bits .and .i64 (ji5) 1) = 1 then (if x9_1 < (l0.length : Int) then (lampblackref02_Around.l0 k1 l0 a1 (Go.bits .or .i64 x5_1 (rd l0 x9_1)) (l0.length : Int) (wrap64 (x9_1 + 1))) else (none)) else (lampblackref02_Around.l0 k1 l0 a1 x5_1 (l0.length : Int) (wrap64 (x9_1 + 1)))) = some r := by first | (rw [hji5] at H; exact H) | (simp only [hji5] at H ⊢; exact H)
     have hji5_ : (a1 / 2 ^ min x9_1.toNat 64) = ji5 := hji5
     have hji5z : x9_1 ≤ 64 → (a1 / 2 ^ x9_1.toNat) = ji5 := shr_small hji5
     by_cases c6 : (Go.bits .and .i64 (ji5) 1) = 1
     ·rw [if_pos c6] at H
      have c6b0 : ((Go.bits .and .i64 (ji5) 1) == 1) = true := beq_iff_eq.mpr c6
      have c6b1 : ((Go.bits .and .i64 (ji5) 1) != 1) = false := bne_eq_false_iff_eq.mpr c6
      clear c6
      by_cases c7 : x9_1 < (l0.length : Int)
      ·rw [if_pos c7] at H
       have c7b0 : decide (x9_1 < (l0.length : Int)) = true := decide_eq_true c7
       clear c7
       have H' := Aside0.mk H
       clear H
       have p220 : 0 ≤ (x9_1 : Int) := of_decide_eq_true (Qas)
       have q220 : x9_1 < (l0.length : Int) := of_decide_eq_true (Qas)
       obtain ⟨ad220, e220, hx220_0⟩ := Kd.at_int HR0.out x9_1 p220 q220
       cases e220
       replace p220 := eq_true p220
       replace q220 := eq_true q220
       go_wp2
       go_roundg k1
       case measure => have := HK1.out; omega
       case rel => exact ⟨(Go.bits .or .i64 x5_1 (rd l0 x9_1)), (wrap64 (x9_1 + 1)), (Qrs), (Qrs), H', ⟨by have := HK1.out; omega⟩, by repeat (first | exact Drawn0.refl _ | apply Drawn0.step)⟩
      ·rw [if_neg c7] at H
       exact absurd H (by simp)
     ·rw [if_neg c6] at H
      have c6b0 : ((Go.bits .and .i64 (ji5) 1) == 1) = false := beq_eq_false_iff_ne.mpr c6
      have c6b1 : ((Go.bits .and .i64 (ji5) 1) != 1) = true := bne_iff_ne.mpr c6
      have H' := Aside0.mk H
      clear H
      go_wp2
      go_roundg k1
      case measure => have := HK1.out; omega
      case rel => exact ⟨(x5_1), (wrap64 (x9_1 + 1)), (Qrs), (Qrs), H', ⟨by have := HK1.out; omega⟩, by repeat (first | exact Drawn0.refl _ | apply Drawn0.step)⟩
    ·rw [if_neg c4] at H
     exact absurd H (by simp)
   ·rw [if_neg c3] at H
    have c3b0 : decide (x9_1 < (l0.length : Int)) = false := decide_eq_false c3
    clear c3
    obtain rfl := Option.some.inj H
    go_wp2
    go_ret
    exact ⟨by first | rfl | (simp; done) | (simp [*]; done), by repeat (first | exact Drawn0.refl _ | apply Drawn0.step)⟩
end
noncomputable section
def lampblackref02_turn.f (k : Nat) (l0 : List Int) (a1 : Int) (a2 : Int) : Option (Int) := if 0 ≤ a2 then ((lampblackref01_Reached.f k l0 (Go.bits .or .i64 a1 (shl .i64 1 a2)) a2).bind fun t343 => ((lampblackref02_Around.f k l0 t343).bind fun t344 => ((lampblackref02_Size.f k (Go.bits .andNot .i64 (Go.bits .andNot .i64 t344 a1) (shl .i64 1 a2))).bind fun t345 => (some t345)))) else (none)
set_option maxHeartbeats 8000000 in
set_option maxRecDepth 100000 in
theorem lampblackref02_turn.calls (k : Nat) (A0 : Option Addr) (c0 : Nat) (l0 : List Int) (a1 : Int) (a2 : Int) (r : Int) (w : World) (hr0 : Kd.C (Kd.int .i64) w A0 l0.length l0) (hc0 : l0.length ≤ c0) (h : lampblackref02_turn.f k l0 a1 a2 = some r) :
  Calls Tryd.prog 77 #[.slice A0 l0.length c0, .int .i64 a1, .int .i64 a2] w fun e w' => e = .returned (.int .i64 r) ∧ Drawn0 w w' := by
 have HR0 := Aside0.mk hr0
 have HC0 := Aside0.mk hc0
 clear hr0 hc0
 have H : (if 0 ≤ a2 then ((lampblackref01_Reached.f k l0 (Go.bits .or .i64 a1 (shl .i64 1 a2)) a2).bind fun t343 => ((lampblackref02_Around.f k l0 t343).bind fun t344 => ((lampblackref02_Size.f k (Go.bits .andNot .i64 (Go.bits .andNot .i64 t344 a1) (shl .i64 1 a2))).bind fun t345 => (some t345)))) else (none)) = some r := h
 clear h
 by_cases c4 : 0 ≤ a2
 ·rw [if_pos c4] at H
  have c4b0 := eq_true c4
  have c4b1 : decide (0 ≤ a2) = true := decide_eq_true c4
  clear c4
  obtain ⟨ji5, hji5⟩ : ∃ j_ : Int, (shl .i64 1 a2) = j_ := ⟨_, rfl⟩
  replace H : ((lampblackref01_Reached.f k l0 (Go.bits .or .i64 a1 (ji5)) a2).bind fun t343 => ((lampblackref02_Around.f k l0 t343).bind fun t344 => ((lampblackref02_Size.f k (Go.bits .andNot .i64 (Go.bits .andNot .i64 t344 a1) (ji5))).bind fun t345 => (some t345)))) = some r := by first | (rw [hji5] at H; exact H) | (simp only [hji5] at H ⊢; exact H)
  have hji5_ : (IntKind.i64.wrap (1 * 2 ^ min a2.toNat 64)) = ji5 := hji5
  have hji5z : a2 ≤ 64 → (IntKind.i64.wrap (1 * 2 ^ a2.toNat)) = ji5 := shl_small hji5
  have hji5u : (IntKind.i64.wrap (2 ^ min a2.toNat 64)) = ji5 := by have h_ := hji5_; rw [Int.one_mul] at h_; exact h_
  have hji5v : a2 ≤ 64 → (IntKind.i64.wrap (2 ^ a2.toNat)) = ji5 := fun hle_ => by have h_ := hji5z hle_; rw [Int.one_mul] at h_; exact h_
  have hji5y : (wrap64 (1 * 2 ^ min a2.toNat 64)) = ji5 := (i64_w _).symm.trans hji5_
  have hji5x : a2 ≤ 64 → (wrap64 (1 * 2 ^ a2.toNat)) = ji5 := fun h_ => (i64_w _).symm.trans (hji5z h_)
  replace H := Option.bind_eq_some_iff.mp H
  obtain ⟨t343, A60, H⟩ := H
  replace H : ((lampblackref02_Around.f k l0 t343).bind fun t344 => ((lampblackref02_Size.f k (Go.bits .andNot .i64 (Go.bits .andNot .i64 t344 a1) (ji5))).bind fun t345 => (some t345))) = some r := H
  have A6 := Aside0.mk A60
  clear A60
  replace H := Option.bind_eq_some_iff.mp H
  obtain ⟨t344, A70, H⟩ := H
  replace H : ((lampblackref02_Size.f k (Go.bits .andNot .i64 (Go.bits .andNot .i64 t344 a1) (ji5))).bind fun t345 => (some t345)) = some r := H
  have A7 := Aside0.mk A70
  clear A70
  have c8b0 := eq_true (of_decide_eq_true (Qas) : 0 ≤ a2)
  replace H := Option.bind_eq_some_iff.mp H
  obtain ⟨t345, A90, H⟩ := H
  replace H : (some t345) = some r := H
  have A9 := Aside0.mk A90
  clear A90
  obtain rfl := Option.some.inj H
  go_enter Tryd.func77, Tryd.ntmps77
  go_wp2_with (first | (go_at_call 29; (with_reducible refine (lampblackref01_Reached.calls k _ _ l0 (Go.bits .or .i64 a1 (ji5)) a2 t343 _ ?side1 ?side2 A6.out).mono ?_); (case side1 => exact Qsc HR0.out); (case side2 => exact HC0.out); rintro e w' ⟨rfl, ⟨nd, rfl⟩⟩; (try first | exact ⟨rfl, _, World.drewN_drewN _ _ _⟩ | exact ⟨rfl, _, Eq.trans (World.drewN_drewN _ _ _) (congrArg (World.drewN _) (Nat.add_assoc _ _ _))⟩)) | (go_at_call 66; (with_reducible refine (lampblackref02_Around.calls k _ _ l0 t343 t344 _ ?side1 ?side2 A7.out).mono ?_); (case side1 => exact Qsc HR0.out); (case side2 => exact HC0.out); rintro e w' ⟨rfl, ⟨nd, rfl⟩⟩; (try first | exact ⟨rfl, _, World.drewN_drewN _ _ _⟩ | exact ⟨rfl, _, Eq.trans (World.drewN_drewN _ _ _) (congrArg (World.drewN _) (Nat.add_assoc _ _ _))⟩)) | (go_at_call 35; (with_reducible refine (lampblackref02_Size.calls k (Go.bits .andNot .i64 (Go.bits .andNot .i64 t344 a1) (ji5)) t345 _ A9.out).mono ?_); rintro e w' ⟨rfl, ⟨nd, rfl⟩⟩; (try first | exact ⟨rfl, _, World.drewN_drewN _ _ _⟩ | exact ⟨rfl, _, Eq.trans (World.drewN_drewN _ _ _) (congrArg (World.drewN _) (Nat.add_assoc _ _ _))⟩)))
  repeat (go_quiet (first | (go_at_call 29; (with_reducible refine (lampblackref01_Reached.calls k _ _ l0 (Go.bits .or .i64 a1 (ji5)) a2 t343 _ ?side1 ?side2 A6.out).mono ?_); (case side1 => exact Qsc HR0.out); (case side2 => exact HC0.out); rintro e w' ⟨rfl, ⟨nd, rfl⟩⟩; (try first | exact ⟨rfl, _, World.drewN_drewN _ _ _⟩ | exact ⟨rfl, _, Eq.trans (World.drewN_drewN _ _ _) (congrArg (World.drewN _) (Nat.add_assoc _ _ _))⟩)) | (go_at_call 66; (with_reducible refine (lampblackref02_Around.calls k _ _ l0 t343 t344 _ ?side1 ?side2 A7.out).mono ?_); (case side1 => exact Qsc HR0.out); (case side2 => exact HC0.out); rintro e w' ⟨rfl, ⟨nd, rfl⟩⟩; (try first | exact ⟨rfl, _, World.drewN_drewN _ _ _⟩ | exact ⟨rfl, _, Eq.trans (World.drewN_drewN _ _ _) (congrArg (World.drewN _) (Nat.add_assoc _ _ _))⟩)) | (go_at_call 35; (with_reducible refine (lampblackref02_Size.calls k (Go.bits .andNot .i64 (Go.bits .andNot .i64 t344 a1) (ji5)) t345 _ A9.out).mono ?_); rintro e w' ⟨rfl, ⟨nd, rfl⟩⟩; (try first | exact ⟨rfl, _, World.drewN_drewN _ _ _⟩ | exact ⟨rfl, _, Eq.trans (World.drewN_drewN _ _ _) (congrArg (World.drewN _) (Nat.add_assoc _ _ _))⟩))); try go_wp2_with (first | (go_at_call 29; (with_reducible refine (lampblackref01_Reached.calls k _ _ l0 (Go.bits .or .i64 a1 (ji5)) a2 t343 _ ?side1 ?side2 A6.out).mono ?_); (case side1 => exact Qsc HR0.out); (case side2 => exact HC0.out); rintro e w' ⟨rfl, ⟨nd, rfl⟩⟩; (try first | exact ⟨rfl, _, World.drewN_drewN _ _ _⟩ | exact ⟨rfl, _, Eq.trans (World.drewN_drewN _ _ _) (congrArg (World.drewN _) (Nat.add_assoc _ _ _))⟩)) | (go_at_call 66; (with_reducible refine (lampblackref02_Around.calls k _ _ l0 t343 t344 _ ?side1 ?side2 A7.out).mono ?_); (case side1 => exact Qsc HR0.out); (case side2 => exact HC0.out); rintro e w' ⟨rfl, ⟨nd, rfl⟩⟩; (try first | exact ⟨rfl, _, World.drewN_drewN _ _ _⟩ | exact ⟨rfl, _, Eq.trans (World.drewN_drewN _ _ _) (congrArg (World.drewN _) (Nat.add_assoc _ _ _))⟩)) | (go_at_call 35; (with_reducible refine (lampblackref02_Size.calls k (Go.bits .andNot .i64 (Go.bits .andNot .i64 t344 a1) (ji5)) t345 _ A9.out).mono ?_); rintro e w' ⟨rfl, ⟨nd, rfl⟩⟩; (try first | exact ⟨rfl, _, World.drewN_drewN _ _ _⟩ | exact ⟨rfl, _, Eq.trans (World.drewN_drewN _ _ _) (congrArg (World.drewN _) (Nat.add_assoc _ _ _))⟩))))
  go_ret
  exact ⟨by first | rfl | (simp; done) | (simp only [← hji5] <;> (first | rfl | simp)) | (simp [*]; done), by repeat (first | exact Drawn0.refl _ | apply Drawn0.step)⟩
 ·rw [if_neg c4] at H
  exact absurd H (by simp)
end
noncomputable section
mutual
def lampblackref02_rest.l0 : Nat → List Int → Int → List Int → Int → Option (List Int)
 | 0, _, _, _, _ => none
 | k + 1, x0, x3, x4, x5 => if x5 ≥ 0 then (if 0 ≤ x5 then (if x5 < (x4.length : Int) then (lampblackref02_rest.l1 k x0 x3 (x4.set (x5 : Int).toNat x3) x5 (x0.length : Int) 0) else (none)) else (none)) else (some x4)
def lampblackref02_rest.l1 : Nat → List Int → Int → List Int → Int → Int → Int → Option (List Int)
 | 0, _, _, _, _, _, _ => none
 | k + 1, x0, x3, x4, x5, x24, x25 => if x25 < x24 then (if 0 ≤ x25 then (if (Go.bits .and .i64 (shr .i64 x5 x25) 1) = 0 then (if 0 ≤ x5 then (if x5 < (x4.length : Int) then ((lampblackref02_turn.f k x0 x5 x25).bind fun t351 => (if 0 ≤ (Go.bits .or .i64 x5 (shl .i64 1 x25)) then (if (Go.bits .or .i64 x5 (shl .i64 1 x25)) < (x4.length : Int) then (lampblackref02_rest.l1 k x0 x3 (x4.set (x5 : Int).toNat (mn (rd x4 x5) (mx t351 (rd x4 (Go.bits .or .i64 x5 (shl .i64 1 x25)))))) x5 x24 (wrap64 (x25 + 1))) else (none)) else (none))) else (none)) else (none)) else (lampblackref02_rest.l1 k x0 x3 x4 x5 x24 (wrap64 (x25 + 1)))) else (none)) else (lampblackref02_rest.l0 k x0 x3 x4 (wrap64 (x5 - 1)))
end
def lampblackref02_rest.f (k : Nat) (l0 : List Int) : Option (List Int) := if 0 ≤ (shl .i64 1 (l0.length : Int)) then (if (shl .i64 1 (l0.length : Int) : Int).toNat ≤ 35184372088832 then (lampblackref02_rest.l0 k l0 (l0.length : Int) (List.replicate (shl .i64 1 (l0.length : Int) : Int).toNat 0) (wrap64 ((shl .i64 1 (l0.length : Int)) - 2))) else (none)) else (none)
def lampblackref02_rest.T11 : Bool × List (List Nat × List Nat) := (true, [([], []), ([], []), ([], []), ([], []), ([2, 3], [2, 3]), ([4], [4]), ([], []), ([], []), ([], []), ([6, 7, 8], [6, 7, 8]), ([], []), ([], []), ([], []), ([12], [12]), ([11, 13], [11, 13]), ([10, 14], [10, 14]), ([15], [15]), ([9, 16], [9, 16]), ([5, 17], [5, 17]), ([0, 1, 0, 1, 2, 3, 4, 5, 6, 7, 8, 9, 10, 11, 12, 13, 14, 15, 16, 17, 18], [0, 1]), ([19, 18, 9, 0, 1, 2, 3, 4, 5, 6, 7, 8, 9, 10, 11, 12, 13, 14, 15, 16, 17, 18], [18, 19])])
def lampblackref02_rest.B11 : List Nat := [0, 0, 0, 0, 12, 28, 0, 0, 0, 448, 0, 0, 0, 4096, 14336, 31744, 64512, 131008, 262140, 524287, 1048575]
theorem lampblackref02_rest.tab11 : rtab .any (opsOf Tryd.f76 11) = lampblackref02_rest.T11 := by kernel_rfl
theorem lampblackref02_rest.bits11 : waitsOk lampblackref02_rest.T11.2 lampblackref02_rest.B11 = true := by kernel_rfl
set_option maxHeartbeats 8000000 in
set_option maxRecDepth 100000 in
theorem lampblackref02_rest.calls (k : Nat) (A0 : Option Addr) (c0 : Nat) (l0 : List Int) (r : List Int) (w : World) (hr0 : Kd.C (Kd.int .i64) w A0 l0.length l0) (hc0 : l0.length ≤ c0) (h : lampblackref02_rest.f k l0 = some r) :
  Calls Tryd.prog 76 #[.slice A0 l0.length c0] w fun e w' => ∃ v0_ : Value, e = .returned (v0_) ∧ Kd.R (Kd.int .i64) 3 w' w.heap.size (fun _ => True) v0_ r ∧ Below w.heap.size w w' := by
 have HR0 := Aside0.mk hr0
 have HC0 := Aside0.mk hc0
 clear hr0 hc0
 have HB := Aside0.mk (Below.refl w.heap.size w)
 have H : (if 0 ≤ (shl .i64 1 (l0.length : Int)) then (if (shl .i64 1 (l0.length : Int) : Int).toNat ≤ 35184372088832 then (lampblackref02_rest.l0 k l0 (l0.length : Int) (List.replicate (shl .i64 1 (l0.length : Int) : Int).toNat 0) (wrap64 ((shl .i64 1 (l0.length : Int)) - 2))) else (none)) else (none)) = some r := h
 clear h
 obtain ⟨ji2, hji2⟩ : ∃ j_ : Int, (shl .i64 1 (l0.length : Int)) = j_ := ⟨_, rfl⟩
 replace H : (if 0 ≤ (ji2) then (if (ji2 : Int).toNat ≤ 35184372088832 then (lampblackref02_rest.l0 k l0 (l0.length : Int) (List.replicate (ji2 : Int).toNat 0) (wrap64 ((ji2) - 2))) else (none)) else (none)) = some r := by first | (rw [hji2] at H; exact H) | (simp only [hji2] at H ⊢; exact H)
 have hji2_ : (IntKind.i64.wrap (1 * 2 ^ min (l0.length : Int).toNat 64)) = ji2 := hji2
 have hji2z : (l0.length : Int) ≤ 64 → (IntKind.i64.wrap (1 * 2 ^ (l0.length : Int).toNat)) = ji2 := shl_small hji2
 have hji2p : (IntKind.i64.wrap (1 * 2 ^ min l0.length 64)) = ji2 := hji2_
 have hji2q : (l0.length : Int) ≤ 64 → (IntKind.i64.wrap (1 * 2 ^ l0.length)) = ji2 := hji2z
 have hji2r : (IntKind.i64.wrap (2 ^ min l0.length 64)) = ji2 := by have h_ := hji2p; rw [Int.one_mul] at h_; exact h_
 have hji2s : (l0.length : Int) ≤ 64 → (IntKind.i64.wrap (2 ^ l0.length)) = ji2 := fun hle_ => by have h_ := hji2q hle_; rw [Int.one_mul] at h_; exact h_
 have hji2u : (IntKind.i64.wrap (2 ^ min (l0.length : Int).toNat 64)) = ji2 := by have h_ := hji2_; rw [Int.one_mul] at h_; exact h_
 have hji2v : (l0.length : Int) ≤ 64 → (IntKind.i64.wrap (2 ^ (l0.length : Int).toNat)) = ji2 := fun hle_ => by have h_ := hji2z hle_; rw [Int.one_mul] at h_; exact h_
 have hji2y : (wrap64 (1 * 2 ^ min (l0.length : Int).toNat 64)) = ji2 := (i64_w _).symm.trans hji2_
 have hji2x : (l0.length : Int) ≤ 64 → (wrap64 (1 * 2 ^ (l0.length : Int).toNat)) = ji2 := fun h_ => (i64_w _).symm.trans (hji2z h_)
 by_cases c3 : 0 ≤ (ji2)
 ·rw [if_pos c3] at H
  have c3b0 := eq_true c3
  have c3b1 : decide (0 ≤ (ji2)) = true := decide_eq_true c3
  clear c3
  by_cases c4 : (ji2 : Int).toNat ≤ 35184372088832
  ·rw [if_pos c4] at H
   have c4b0 := eq_true c4
   have c4b1 : decide ((ji2 : Int).toNat ≤ 35184372088832) = true := decide_eq_true c4
   clear c4
   obtain ⟨y346, hy346⟩ : ∃ y_ : List Int, y_ = (List.replicate (ji2 : Int).toNat 0) := ⟨_, rfl⟩
   replace H : (lampblackref02_rest.l0 k l0 (l0.length : Int) y346 (wrap64 ((ji2) - 2))) = some r := by first | (rw [hy346]; with_reducible exact H) | (have H2_ := (Option.bind_some _ _).symm.trans H; rw [hy346]; with_reducible exact H2_) | (have H2_ := (Option.bind_some _ _).symm.trans H; with_reducible exact H2_) | with_reducible exact H | (rw [hy346]; exact H) | exact H
   have Ny346 := Aside0.mk hy346
   clear hy346
   have H' := Aside0.mk H
   clear H
   go_enter Tryd.func76, Tryd.ntmps76
   go_wp2_with (first | ((with_reducible refine gate_dst (N := 11) rfl ?_); refine Kd.R_make (Kd.int .i64) _ 3 rfl (N := 11) rfl 22 _ _ rfl ji2 rfl rfl Tryd.underlying22 (.int .i64 0) 8 info3 rfl (by decide) (by omega) 0 (ok := fun _ => True) (okp := fun _ => True) rfl (fun _ hk => hk) trivial (of_decide_eq_true (Qas)) (Nat.le_trans (Nat.mul_le_mul_right _ (of_decide_eq_true (Qas) : ji2.toNat ≤ 35184372088832)) (by omega)) (Below.refl _ _) (Nat.le_refl _) ?_; intro v347 w5 ho6 hb hg_ hnew_; clear hg_ hnew_; (first | rw [← Ny346.out] at ho6 | (simp only [Int.reduceToNat] at ho6; rw [← Ny346.out] at ho6)); have n0_ := Aside0.mk (Kd.R_lower ho6 (below_size (Qaw))); have n1_ := Aside0.mk (below_step (Qaw) hb); clear HB; have HO348 := n0_; have HB := n1_; clear n0_ n1_; clear hb ho6))
   go_loopg [5] k (fun kq v5 w' => ∃ (x4_1 : List Int) (x5_1 : Int), v5 = .int .i64 x5_1 ∧ Aside0 (lampblackref02_rest.l0 kq l0 (l0.length : Int) x4_1 x5_1 = some r) ∧ Aside0 (kq ≤ k) ∧ Aside0 (Kd.R (Kd.int .i64) 3 w' w.heap.size (fun _ => True) v347 x4_1) ∧ Aside0 (Below w.heap.size w w'))
   case atStart => exact ⟨(y346), (wrap64 ((ji2) - 2)), (by first | rfl | (simp; done) | (simp only [← hji2] <;> (first | rfl | simp)) | (simp [*]; done)), H', ⟨Nat.le_refl _⟩, ⟨by (with_reducible repeat (first | apply Kd.R_alloc | apply Kd.R_drewN | apply Kd.R_drew)); exact HO348.out⟩, ⟨by repeat (first | (with_reducible first | exact HB.out | apply below_alloc | apply pw_below_drewN | apply below_drew1) | exact HB.out)⟩⟩
   case round =>
    clear H'
    try clear p2
    try clear c3
    try clear c3b0
    try clear c3b1
    try clear c4
    try clear c4b0
    try clear c4b1
    try clear p6
    obtain ⟨x4_1, x5_1, rfl, HA, HK1, HO_4, HB⟩ := hrel
    cases gk with
    | zero => exact absurd HA.out (by simp [lampblackref02_rest.l0])
    | succ k1 =>
     have H := HA.out
     clear HA
     simp only [lampblackref02_rest.l0] at H
     by_cases c7 : x5_1 ≥ 0
     ·rw [if_pos c7] at H
      have c7b0 : decide (0 ≤ x5_1) = true := decide_eq_true c7
      clear c7
      by_cases c8 : 0 ≤ x5_1
      ·rw [if_pos c8] at H
       have c8b0 : decide (0 ≤ x5_1) = true := decide_eq_true c8
       clear c8
       by_cases c9 : x5_1 < (x4_1.length : Int)
       ·rw [if_pos c9] at H
        have c9b0 : decide (x5_1 < (x4_1.length : Int)) = true := decide_eq_true c9
        clear c9
        obtain ⟨y349, hy349⟩ : ∃ y_ : List Int, y_ = (x4_1.set (x5_1 : Int).toNat (l0.length : Int)) := ⟨_, rfl⟩
        replace H : (lampblackref02_rest.l1 k1 l0 (l0.length : Int) y349 x5_1 (l0.length : Int) 0) = some r := by first | (rw [hy349]; with_reducible exact H) | (have H2_ := (Option.bind_some _ _).symm.trans H; rw [hy349]; with_reducible exact H2_) | (have H2_ := (Option.bind_some _ _).symm.trans H; with_reducible exact H2_) | with_reducible exact H | (rw [hy349]; exact H) | exact H
        have Ny349 := Aside0.mk hy349
        clear hy349
        have H' := Aside0.mk H
        clear H
        have p10 : 0 ≤ (x5_1 : Int) := of_decide_eq_true (Qas)
        have q10 : (x5_1 : Int) < ((x4_1.length : Int) : Int) := of_decide_eq_true (Qas)
        obtain ⟨go10, co10, eo10, gb10, gl10, cl10, HG10⟩ := Kd.R_form HO_4.out (by omega)
        (first | cases eo10 | (injection eo10 with ea_ en_ ec_; (first | subst ea_ | (injection ea_ with ea_; subst ea_)); subst ec_; clear en_))
        have GB10 := Aside0.mk gb10
        have GG10 := Aside0.mk HG10
        clear gb10 gl10 HG10
        obtain ⟨hx10_0, hf10_0⟩ := Kd.R_celln 0 HO_4.out (x5_1 : Int) p10 q10
        replace p10 := eq_true p10
        replace q10 := eq_true q10
        have HP11 := Kd.R_putg HO_4.out (x5_1 : Int) (l0.length : Int)
        go_wp2_with (first | ((with_reducible refine gate_store (t := 3) (p := 22) rfl ?_); refine store_event (t := 3) (p := 22) (v := ?vo_w12) (w1 := (wr.setCell ⟨go10, (x5_1 : Int).toNat, none⟩ (.int .i64 (l0.length : Int)))) ?hg ?ho ?hn ?hr ?_; (case ho => rfl); (case hg => rfl); (case hn => rfl); (case hr => first | (go_simp; done) | (go_simp; rfl)); intro w12 hw; have hg : wr.grownBy w12 (some go10) := (by rw [hw]; exact HP11.2); have hp_ : Kd.R (Kd.int .i64) 3 w12 w.heap.size (fun _ => True) (.slice (some ⟨go10, 0, none⟩) x4_1.length co10) y349 := (by rw [hw, Ny349.out]; exact HP11.1); clear HP11; have n0_ := Aside0.mk (hp_); have n1_ := Aside0.mk ((by rw [hw]; exact below_set (HB.out) GB10.out : Below w.heap.size w w12)); clear HO_4; clear HB; have HO_4 := n0_; have HB := n1_; clear n0_ n1_; clear hg hw hp_))
        go_loopg [25] k1 (fun kq v25 w' => ∃ (x4_2 : List Int) (x25_2 : Int), v25 = .int .i64 x25_2 ∧ Aside0 (lampblackref02_rest.l1 kq l0 (l0.length : Int) x4_2 x5_1 (l0.length : Int) x25_2 = some r) ∧ Aside0 (kq ≤ k1) ∧ Aside0 (Kd.R (Kd.int .i64) 3 w' w.heap.size (fun _ => True) (.slice (some ⟨go10, 0, none⟩) x4_1.length co10) x4_2) ∧ Aside0 (Below w.heap.size w w'))
        case atStart => exact ⟨(y349), (0), (Qrs), H', ⟨Nat.le_refl _⟩, ⟨by (with_reducible repeat (first | apply Kd.R_alloc | apply Kd.R_drewN | apply Kd.R_drew)); exact HO_4.out⟩, ⟨by repeat (first | (with_reducible first | exact HB.out | apply below_alloc | apply pw_below_drewN | apply below_drew1) | exact HB.out)⟩⟩
        case round =>
         clear H'
         try clear p1
         try clear q1
         try clear hx1
         try clear hf1
         try clear p2
         try clear c3
         try clear c3b0
         try clear c3b1
         try clear c4
         try clear c4b0
         try clear c4b1
         try clear p6
         try clear c7
         try clear c7b0
         try clear c8
         try clear c8b0
         try clear c9
         try clear c9b0
         try clear p10
         try clear q10
         try clear hx10
         try clear hf10
         try clear hx10_0
         try clear p10
         try clear p2
         try clear p6
         try clear q10
         obtain ⟨x4_2, x25_2, rfl, HA, HK2, HO_4, HB⟩ := hrel
         have hl4_2 := (Kd.R_reads' HO_4.out).1
         rw [hl4_2] at HO_4
         (try simp only [hl4_2])
         cases gk with
         | zero => exact absurd HA.out (by simp [lampblackref02_rest.l1])
         | succ k2 =>
          have H := HA.out
          clear HA
          simp only [lampblackref02_rest.l1] at H
          by_cases c13 : x25_2 < (l0.length : Int)
          ·rw [if_pos c13] at H
           have c13b0 : decide (x25_2 < (l0.length : Int)) = true := decide_eq_true c13
           clear c13
           by_cases c14 : 0 ≤ x25_2
           ·rw [if_pos c14] at H
            have c14b0 := eq_true c14
            have c14b1 : decide (0 ≤ x25_2) = true := decide_eq_true c14
            clear c14
            obtain ⟨ji15, hji15⟩ : ∃ j_ : Int, (shr .i64 x5_1 x25_2) = j_ := ⟨_, rfl⟩
            replace H : (if (Go.bits .and .i64 (ji15) 1) = 0 then (if 0 ≤ x5_1 then (if x5_1 < (x4_2.length : Int) then ((lampblackref02_turn.f k2 l0 x5_1 x25_2).bind fun t351 => (if 0 ≤ (Go.bits .or .i64 x5_1 (shl .i64 1 x25_2)) then (if (Go.bits .or .i64 x5_1 (shl .i64 1 x25_2)) < (x4_2.length : Int) then (lampblackref02_rest.l1 k2 l0 (l0.length : Int) (x4_2.set (x5_1 : Int).toNat (mn (rd x4_2 x5_1) (mx t351 (rd x4_2 (Go.bits .or .i64 x5_1 (shl .i64 1 x25_2)))))) x5_1 (l0.length : Int) (wrap64 (x25_2 + 1))) else (none)) else (none))) else (none)) else (none)) else (lampblackref02_rest.l1 k2 l0 (l0.length : Int) x4_2 x5_1 (l0.length : Int) (wrap64 (x25_2 + 1)))) = some r := by first | (rw [hji15] at H; exact H) | (simp only [hji15] at H ⊢; exact H)
            have hji15_ : (x5_1 / 2 ^ min x25_2.toNat 64) = ji15 := hji15
            have hji15z : x25_2 ≤ 64 → (x5_1 / 2 ^ x25_2.toNat) = ji15 := shr_small hji15
            by_cases c16 : (Go.bits .and .i64 (ji15) 1) = 0
            ·rw [if_pos c16] at H
             have c16b0 : ((Go.bits .and .i64 (ji15) 1) == 0) = true := beq_iff_eq.mpr c16
             have c16b1 : ((Go.bits .and .i64 (ji15) 1) != 0) = false := bne_eq_false_iff_eq.mpr c16
             clear c16
             by_cases c17 : 0 ≤ x5_1
             ·rw [if_pos c17] at H
              have c17b0 : decide (0 ≤ x5_1) = true := decide_eq_true c17
              clear c17
              by_cases c18 : x5_1 < (x4_2.length : Int)
              ·rw [if_pos c18] at H
               have c18b0 : decide (x5_1 < (x4_2.length : Int)) = true := decide_eq_true c18
               clear c18
               replace H := Option.bind_eq_some_iff.mp H
               obtain ⟨t351, A190, H⟩ := H
               replace H : (if 0 ≤ (Go.bits .or .i64 x5_1 (shl .i64 1 x25_2)) then (if (Go.bits .or .i64 x5_1 (shl .i64 1 x25_2)) < (x4_2.length : Int) then (lampblackref02_rest.l1 k2 l0 (l0.length : Int) (x4_2.set (x5_1 : Int).toNat (mn (rd x4_2 x5_1) (mx t351 (rd x4_2 (Go.bits .or .i64 x5_1 (shl .i64 1 x25_2)))))) x5_1 (l0.length : Int) (wrap64 (x25_2 + 1))) else (none)) else (none)) = some r := H
               have A19 := Aside0.mk A190
               clear A190
               have c20b0 := eq_true (of_decide_eq_true (Qas) : 0 ≤ x25_2)
               obtain ⟨ji21, hji21⟩ : ∃ j_ : Int, (shl .i64 1 x25_2) = j_ := ⟨_, rfl⟩
               replace H : (if 0 ≤ (Go.bits .or .i64 x5_1 (ji21)) then (if (Go.bits .or .i64 x5_1 (ji21)) < (x4_2.length : Int) then (lampblackref02_rest.l1 k2 l0 (l0.length : Int) (x4_2.set (x5_1 : Int).toNat (mn (rd x4_2 x5_1) (mx t351 (rd x4_2 (Go.bits .or .i64 x5_1 (ji21)))))) x5_1 (l0.length : Int) (wrap64 (x25_2 + 1))) else (none)) else (none)) = some r := by first | (rw [hji21] at H; exact H) | (simp only [hji21] at H ⊢; exact H)
               (try rw [hji21] at A19)
               have hji21_ : (IntKind.i64.wrap (1 * 2 ^ min x25_2.toNat 64)) = ji21 := hji21
               have hji21z : x25_2 ≤ 64 → (IntKind.i64.wrap (1 * 2 ^ x25_2.toNat)) = ji21 := shl_small hji21
               have hji21u : (IntKind.i64.wrap (2 ^ min x25_2.toNat 64)) = ji21 := by have h_ := hji21_; rw [Int.one_mul] at h_; exact h_
               have hji21v : x25_2 ≤ 64 → (IntKind.i64.wrap (2 ^ x25_2.toNat)) = ji21 := fun hle_ => by have h_ := hji21z hle_; rw [Int.one_mul] at h_; exact h_
               have hji21y : (wrap64 (1 * 2 ^ min x25_2.toNat 64)) = ji21 := (i64_w _).symm.trans hji21_
               have hji21x : x25_2 ≤ 64 → (wrap64 (1 * 2 ^ x25_2.toNat)) = ji21 := fun h_ => (i64_w _).symm.trans (hji21z h_)
               by_cases c22 : 0 ≤ (Go.bits .or .i64 x5_1 (ji21))
               ·rw [if_pos c22] at H
                have c22b0 : decide (0 ≤ (Go.bits .or .i64 x5_1 (ji21))) = true := decide_eq_true c22
                clear c22
                by_cases c23 : (Go.bits .or .i64 x5_1 (ji21)) < (x4_2.length : Int)
                ·rw [if_pos c23] at H
                 have c23b0 : decide ((Go.bits .or .i64 x5_1 (ji21)) < (x4_2.length : Int)) = true := decide_eq_true c23
                 clear c23
                 obtain ⟨ji24, hji24⟩ : ∃ j_ : Int, (mx t351 (rd x4_2 (Go.bits .or .i64 x5_1 (ji21)))) = j_ := ⟨_, rfl⟩
                 replace H : (lampblackref02_rest.l1 k2 l0 (l0.length : Int) (x4_2.set (x5_1 : Int).toNat (mn (rd x4_2 x5_1) (ji24))) x5_1 (l0.length : Int) (wrap64 (x25_2 + 1))) = some r := by first | (rw [hji24] at H; exact H) | (simp only [hji24] at H ⊢; exact H)
                 (try rw [hji24] at A19)
                 have hji24_ : (if t351 < (rd x4_2 (Go.bits .or .i64 x5_1 (ji21))) then (rd x4_2 (Go.bits .or .i64 x5_1 (ji21))) else t351) = ji24 := hji24
                 obtain ⟨ji25, hji25⟩ : ∃ j_ : Int, (mn (rd x4_2 x5_1) (ji24)) = j_ := ⟨_, rfl⟩
                 replace H : (lampblackref02_rest.l1 k2 l0 (l0.length : Int) (x4_2.set (x5_1 : Int).toNat (ji25)) x5_1 (l0.length : Int) (wrap64 (x25_2 + 1))) = some r := by first | (rw [hji25] at H; exact H) | (simp only [hji25] at H ⊢; exact H)
                 (try rw [hji25] at A19)
                 have hji25_ : (if (ji24) < (rd x4_2 x5_1) then (ji24) else (rd x4_2 x5_1)) = ji25 := hji25
                 obtain ⟨y353, hy353⟩ : ∃ y_ : List Int, y_ = (x4_2.set (x5_1 : Int).toNat (ji25)) := ⟨_, rfl⟩
                 replace H : (lampblackref02_rest.l1 k2 l0 (l0.length : Int) y353 x5_1 (l0.length : Int) (wrap64 (x25_2 + 1))) = some r := by first | (rw [hy353]; with_reducible exact H) | (have H2_ := (Option.bind_some _ _).symm.trans H; rw [hy353]; with_reducible exact H2_) | (have H2_ := (Option.bind_some _ _).symm.trans H; with_reducible exact H2_) | with_reducible exact H | (rw [hy353]; exact H) | exact H
                 have Ny353 := Aside0.mk hy353
                 clear hy353
                 have H' := Aside0.mk H
                 clear H
                 try go_wp2
                 have n0_ := Aside0.mk (Kd.R_drew HO_4.out)
                 have n1_ := Aside0.mk (below_drew1 HB.out)
                 clear HO_4
                 clear HB
                 have HO_4 := n0_
                 have HB := n1_
                 clear n0_ n1_
                 have p350 : 0 ≤ (x5_1 : Int) := of_decide_eq_true (Qas)
                 have q350 : x5_1 < (x4_2.length : Int) := of_decide_eq_true (Qas)
                 obtain ⟨ad350, e350, hx350_0⟩ := Kd.at_int (Kd.R_reads' HO_4.out).2.2 x5_1 p350 q350
                 obtain rfl : (⟨go10, 0, none⟩ : Addr) = ad350 := (by injection e350)
                 (first | simp only [add_plain] at hx350_0 | simp only [add_at] at hx350_0 | simp only [Addr.add, Nat.zero_add] at hx350_0 | skip)
                 replace p350 := eq_true p350
                 replace q350 := eq_true q350
                 have p352 : 0 ≤ ((Go.bits .or .i64 x5_1 (ji21)) : Int) := of_decide_eq_true (Qas)
                 have q352 : (Go.bits .or .i64 x5_1 (ji21)) < (x4_2.length : Int) := of_decide_eq_true (Qas)
                 obtain ⟨ad352, e352, hx352_0⟩ := Kd.at_int (Kd.R_reads' HO_4.out).2.2 (Go.bits .or .i64 x5_1 (ji21)) p352 q352
                 obtain rfl : (⟨go10, 0, none⟩ : Addr) = ad352 := (by injection e352)
                 (first | simp only [add_plain] at hx352_0 | simp only [add_at] at hx352_0 | simp only [Addr.add, Nat.zero_add] at hx352_0 | skip)
                 replace p352 := eq_true p352
                 replace q352 := eq_true q352
                 refine start_ (n := 21) (S := fun w' => w'.cell? ⟨go10, (x5_1).toNat, none⟩ = some (.int .i64 (rd x4_2 x5_1)) ∧ w'.cell? ⟨go10, ((Go.bits .or .i64 x5_1 (ji21))).toNat, none⟩ = some (.int .i64 (rd x4_2 (Go.bits .or .i64 x5_1 (ji21))))) (ds := [20]) (Qbz 21 0) (by kernel_rfl) rfl rfl ⟨hx350_0, hx352_0⟩ (fun hHeld => ?_); refine with_tabW lampblackref02_rest.tab11 lampblackref02_rest.bits11 (fun HT_ HW_ => ?_)
                 generalize wr.drew = w27 at HO_4 HB hx350_0 hx352_0 hHeld ⊢
                 refine pure_ (i := 0) (N := some 33) (v := ?_) (a' := ?_) (Qbz 21 1) rfl rfl (Qao) (fun _ _ _ h => h) (Or.inl ⟨by rfl, ?_⟩) ?_ ?_
                 rotate_left
                 ·intro w'
                  go_simp
                  with_reducible rfl
                 rotate_left
                 ·simp only [Act.put, Qp1, Qp2, Qp3, i64_w, i32_w]
                  rfl
                 refine pure_ (i := 1) (N := some 34) (v := ?_) (a' := ?_) (Qbz 21 3) rfl rfl (Qao) (fun _ _ _ h => h) (Or.inl ⟨by rfl, ?_⟩) ?_ ?_
                 rotate_left
                 ·intro w'
                  go_simp
                  with_reducible rfl
                 rotate_left
                 ·simp only [Act.put, Qp1, Qp2, Qp3, i64_w, i32_w]
                  rfl
                 refine pure_ (i := 2) (N := some 35) (v := ?_) (a' := ?_) (Qbz 21 7) rfl rfl (Qao) (fun _ _ _ h => h) (Or.inl ⟨by rfl, ?_⟩) ?_ ?_
                 rotate_left
                 ·intro w'
                  go_simp
                  with_reducible rfl
                 rotate_left
                 ·simp only [Act.put, Qp1, Qp2, Qp3, i64_w, i32_w]
                  rfl
                 refine pure_ (i := 3) (N := some 36) (v := ?_) (a' := ?_) (Qbz 21 15) rfl rfl (Qao) (fun _ _ _ h => h) (Or.inl ⟨by rfl, ?_⟩) ?_ ?_
                 rotate_left
                 ·intro w'
                  go_simp
                  with_reducible rfl
                 rotate_left
                 ·simp only [Act.put, Qp1, Qp2, Qp3, i64_w, i32_w]
                  rfl
                 refine pure_ (i := 4) (N := some 37) (v := ?_) (a' := ?_) (Qbz 21 31) rfl rfl (Qao) (fun _ _ _ h => h) (Or.inl ⟨by rfl, ?_⟩) ?_ ?_
                 rotate_left
                 ·intro w'
                  go_simp
                  with_reducible rfl
                 rotate_left
                 ·simp only [Act.put, Qp1, Qp2, Qp3, i64_w, i32_w]
                  rfl
                 refine pure_ (i := 6) (N := some 39) (v := ?_) (a' := ?_) (Qbz 21 95) rfl rfl (Qao) (fun _ _ _ h => h) (Or.inl ⟨by rfl, ?_⟩) ?_ ?_
                 rotate_left
                 ·intro w'
                  go_simp
                  with_reducible rfl
                 rotate_left
                 ·simp only [Act.put, Qp1, Qp2, Qp3, i64_w, i32_w]
                  rfl
                 refine pure_ (i := 7) (N := some 40) (v := ?_) (a' := ?_) (Qbz 21 223) rfl rfl (Qao) (fun _ _ _ h => h) (Or.inl ⟨by rfl, ?_⟩) ?_ ?_
                 rotate_left
                 ·intro w'
                  go_simp
                  with_reducible rfl
                 rotate_left
                 ·simp only [Act.put, Qp1, Qp2, Qp3, i64_w, i32_w]
                  rfl
                 refine pure_ (i := 8) (N := some 41) (v := ?_) (a' := ?_) (Qbz 21 479) rfl rfl (Qao) (fun _ _ _ h => h) (Or.inl ⟨by rfl, ?_⟩) ?_ ?_
                 rotate_left
                 ·intro w'
                  go_simp
                  with_reducible rfl
                 rotate_left
                 ·simp only [Act.put, Qp1, Qp2, Qp3, i64_w, i32_w]
                  rfl
                 refine pure_ (i := 10) (N := some 43) (v := ?_) (a' := ?_) (Qbz 21 1503) rfl rfl (Qao) (fun _ _ _ h => h) (Or.inl ⟨by rfl, ?_⟩) ?_ ?_
                 rotate_left
                 ·intro w'
                  go_simp
                  with_reducible rfl
                 rotate_left
                 ·simp only [Act.put, Qp1, Qp2, Qp3, i64_w, i32_w]
                  rfl
                 refine pure_ (i := 11) (N := some 44) (v := ?_) (a' := ?_) (Qbz 21 3551) rfl rfl (Qao) (fun _ _ _ h => h) (Or.inl ⟨by rfl, ?_⟩) ?_ ?_
                 rotate_left
                 ·intro w'
                  go_simp
                  with_reducible rfl
                 rotate_left
                 ·simp only [Act.put, Qp1, Qp2, Qp3, i64_w, i32_w]
                  rfl
                 refine pure_ (i := 12) (N := some 45) (v := ?_) (a' := ?_) (Qbz 21 7647) rfl rfl (Qao) (fun _ _ _ h => h) (Or.inl ⟨by rfl, ?_⟩) ?_ ?_
                 rotate_left
                 ·intro w'
                  go_simp
                  with_reducible rfl
                 rotate_left
                 ·simp only [Act.put, Qp1, Qp2, Qp3, i64_w, i32_w]
                  rfl
                 refine pure_ (i := 13) (N := some 46) (v := ?_) (a' := ?_) (Qbz 21 15839) rfl rfl (Qao) (fun _ _ _ h => h) (Or.inl ⟨by rfl, ?_⟩) ?_ ?_
                 rotate_left
                 ·intro w'
                  go_simp
                  with_reducible rfl
                 rotate_left
                 ·simp only [Act.put, Qp1, Qp2, Qp3, i64_w, i32_w]
                  rfl
                 refine pure_ (i := 14) (N := some 47) (v := ?_) (a' := ?_) (Qbz 21 32223) rfl rfl (Qao) (fun _ _ _ h => h) (Or.inl ⟨by rfl, ?_⟩) ?_ ?_
                 rotate_left
                 ·intro w'
                  go_simp
                  with_reducible rfl
                 rotate_left
                 ·simp only [Act.put, Qp1, Qp2, Qp3, i64_w, i32_w]
                  rfl
                 refine pure_ (i := 15) (N := some 48) (v := ?_) (a' := ?_) (Qbz 21 64991) rfl rfl (Qao) (fun _ _ _ h => h) (Or.inl ⟨by rfl, ?_⟩) ?_ ?_
                 rotate_left
                 ·intro w'
                  go_simp
                  with_reducible rfl
                 rotate_left
                 ·simp only [Act.put, Qp1, Qp2, Qp3, i64_w, i32_w]
                  rfl
                 refine take_ (i := 5) (N := some 38) (v := ?_) (a' := ?_) (Qbz 21 65023) rfl rfl (take_ofW HT_.out HW_.out (by kernel_rfl)) (fun _ _ _ h => h) (Or.inl ⟨by rfl, ?_⟩) hHeld ?_ ?_
                 rotate_left
                 ·rintro w' ⟨s0, s1⟩
                  go_simp
                  with_reducible rfl
                 rotate_left
                 ·simp only [Act.put, Qp1, Qp2, Qp3, i64_w, i32_w]
                  rfl
                 refine take_ (i := 16) (N := some 49) (v := ?_) (a' := ?_) (Qbz 21 130559) rfl rfl (take_ofW HT_.out HW_.out (by kernel_rfl)) (fun _ _ _ h => h) (Or.inl ⟨by rfl, ?_⟩) hHeld ?_ ?_
                 rotate_left
                 ·rintro w' ⟨s0, s1⟩
                  go_simp
                  with_reducible rfl
                 rotate_left
                 ·simp only [Act.put, Qp1, Qp2, Qp3, i64_w, i32_w]
                  rfl
                 refine one_ (i := 9) (N := some 42) (Qbz 21 131071) rfl rfl (one_of HT_.out (by kernel_rfl)) (by decide) (fun K hK => ?_)
                 refine goes_ Tryd.func77 (by kernel_rfl) rfl #[.slice A0 l0.length c0, .int .i64 x5_1, .int .i64 x25_2] (by rfl) rfl rfl (Qls) ?_
                 with_reducible refine (lampblackref02_turn.calls k2 _ _ l0 x5_1 x25_2 t351 _ ?side1 ?side2 A19.out).mono ?_
                 (case side1 => exact Qsc (Kd.C_below HR0.out HB.out))
                 (case side2 => exact HC0.out)
                 rintro e w' ⟨rfl, ⟨nd, rfl⟩⟩
                 refine ⟨_, rfl, ?_⟩
                 have p26 : 0 ≤ (x5_1 : Int) := of_decide_eq_true (Qas)
                 have q26 : (x5_1 : Int) < ((x4_2.length : Int) : Int) := of_decide_eq_true (Qas)
                 obtain ⟨hx26_0, hf26_0⟩ := Kd.R_celln 0 HO_4.out (x5_1 : Int) p26 q26
                 replace p26 := eq_true p26
                 replace q26 := eq_true q26
                 have HP28 := Kd.R_putn HO_4.out (x5_1 : Int) ji25
                 rw [← Ny353.out] at HP28
                 have HQ28 := Aside0.mk HP28
                 clear HP28
                 refine hK.out _ _ ⟨hHeld.1, hHeld.2⟩ (fun hHeld => ?_)
                 clear hK K
                 refine norm_ (a' := ?_) ?_ ?_
                 rotate_left
                 ·show Act.put _ (some 42) _ = _
                  simp only [Act.put, Qp1, Qp2, Qp3, i64_w, i32_w]
                  rfl
                 refine pure_ (i := 17) (N := some 50) (v := ?_) (a' := ?_) (Qbz 21 262143) rfl rfl (Qao) (fun _ _ _ h => h) (Or.inl ⟨by rfl, ?_⟩) ?_ ?_
                 rotate_left
                 ·intro w'
                  go_simp
                  with_reducible rfl
                 rotate_left
                 ·simp only [Act.put, Qp1, Qp2, Qp3, i64_w, i32_w]
                  rfl
                 refine pure_ (i := 18) (N := some 51) (v := ?_) (a' := ?_) (Qbz 21 524287) rfl rfl (Qao) (fun _ _ _ h => h) (Or.inl ⟨by rfl, ?_⟩) ?_ ?_
                 rotate_left
                 ·intro w'
                  go_simp
                  with_reducible rfl
                 rotate_left
                 ·simp only [Act.put, Qp1, Qp2, Qp3, i64_w, i32_w]
                  rfl
                 refine pure_ (i := 19) (N := some 52) (v := ?_) (a' := ?_) (Qbz 21 1048575) rfl rfl (Qao) (fun _ _ _ h => h) (Or.inl ⟨by rfl, ?_⟩) ?_ ?_
                 rotate_left
                 ·intro w'
                  go_simp
                  with_reducible rfl
                 rotate_left
                 ·simp only [Act.put, Qp1, Qp2, Qp3, i64_w, i32_w]
                  rfl
                 refine last_ (i := 20) (N := none) (Qbz 21 2097151) rfl rfl (one_of HT_.out (by kernel_rfl)) (by decide) (fun K hK => ?_)
                 refine skip_ (w1 := ?_) (by rfl) rfl ?_ ?_
                 rotate_left
                 ·go_simp
                  rfl
                 refine hK.out _ _ ?_
                 clear hK K
                 refine done_ (done_of HT_.out (by kernel_rfl)) ?_
                 try go_wp2
                 (try simp only [← hl4_2])
                 go_roundg k2
                 case measure => have := HK1.out; have := HK2.out; omega
                 case rel => exact ⟨(y353), (wrap64 (x25_2 + 1)), (Qrs), H', ⟨by have := HK1.out; have := HK2.out; omega⟩, ⟨by (try simp only [hl4_2]); (with_reducible repeat (first | apply Kd.R_alloc | apply Kd.R_drewN | apply Kd.R_drew)); exact HQ28.out⟩, ⟨by repeat (first | (with_reducible first | exact HB.out | apply below_alloc | apply pw_below_drewN | apply below_drew1 | refine below_set ?_ GB10.out) | exact HB.out)⟩⟩
                ·rw [if_neg c23] at H
                 exact absurd H (by simp)
               ·rw [if_neg c22] at H
                exact absurd H (by simp)
              ·rw [if_neg c18] at H
               exact absurd H (by simp)
             ·rw [if_neg c17] at H
              exact absurd H (by simp)
            ·rw [if_neg c16] at H
             have c16b0 : ((Go.bits .and .i64 (ji15) 1) == 0) = false := beq_eq_false_iff_ne.mpr c16
             have c16b1 : ((Go.bits .and .i64 (ji15) 1) != 0) = true := bne_iff_ne.mpr c16
             have H' := Aside0.mk H
             clear H
             go_wp2
             (try simp only [← hl4_2])
             go_roundg k2
             case measure => have := HK1.out; have := HK2.out; omega
             case rel => exact ⟨(x4_2), (wrap64 (x25_2 + 1)), (Qrs), H', ⟨by have := HK1.out; have := HK2.out; omega⟩, ⟨by (try simp only [hl4_2]); (with_reducible repeat (first | apply Kd.R_alloc | apply Kd.R_drewN | apply Kd.R_drew)); exact HO_4.out⟩, ⟨by repeat (first | (with_reducible first | exact HB.out | apply below_alloc | apply pw_below_drewN | apply below_drew1) | exact HB.out)⟩⟩
           ·rw [if_neg c14] at H
            exact absurd H (by simp)
          ·rw [if_neg c13] at H
           have c13b0 : decide (x25_2 < (l0.length : Int)) = false := decide_eq_false c13
           clear c13
           have H' := Aside0.mk H
           clear H
           go_wp2
           (try simp only [← hl4_2])
           go_roundg k2
           case measure => have := HK1.out; have := HK2.out; omega
           case rel => exact ⟨(x4_2), (wrap64 (x5_1 - 1)), (Qrs), H', ⟨by have := HK1.out; have := HK2.out; omega⟩, ⟨by (try simp only [hl4_2]); (with_reducible repeat (first | apply Kd.R_alloc | apply Kd.R_drewN | apply Kd.R_drew)); exact HO_4.out⟩, ⟨by repeat (first | (with_reducible first | exact HB.out | apply below_alloc | apply pw_below_drewN | apply below_drew1) | exact HB.out)⟩⟩
       ·rw [if_neg c9] at H
        exact absurd H (by simp)
      ·rw [if_neg c8] at H
       exact absurd H (by simp)
     ·rw [if_neg c7] at H
      have c7b0 : decide (0 ≤ x5_1) = false := decide_eq_false c7
      clear c7
      obtain rfl := Option.some.inj H
      go_wp2
      go_ret
      exact ⟨_, by first | rfl | (simp [errW_none, errW_some] <;> rfl) | (simp only [← hji2]; first | rfl | (simp [errW_none, errW_some] <;> rfl)) | (simp [*, errW_none, errW_some] <;> rfl), by (with_reducible repeat (first | apply Kd.R_alloc | apply Kd.R_drewN | apply Kd.R_drew)); exact HO_4.out, by repeat (first | (with_reducible first | exact HB.out | apply below_alloc | apply pw_below_drewN | apply below_drew1) | exact HB.out)⟩
  ·rw [if_neg c4] at H
   exact absurd H (by simp)
 ·rw [if_neg c3] at H
  exact absurd H (by simp)
end
noncomputable section
def lampblackref02_Width.f (k : Nat) (l0 : List Int) : Option (Int) := (lampblackref02_rest.f k l0).bind fun t354 => (if 0 < (t354.length : Int) then (some (rd t354 0)) else (none))
set_option maxHeartbeats 8000000 in
set_option maxRecDepth 100000 in
theorem lampblackref02_Width.calls (k : Nat) (A0 : Option Addr) (c0 : Nat) (l0 : List Int) (r : Int) (w : World) (hr0 : Kd.C (Kd.int .i64) w A0 l0.length l0) (hc0 : l0.length ≤ c0) (h : lampblackref02_Width.f k l0 = some r) :
  Calls Tryd.prog 38 #[.slice A0 l0.length c0] w fun e w' => e = .returned (.int .i64 r) ∧ Below w.heap.size w w' := by
 have HR0 := Aside0.mk hr0
 have HC0 := Aside0.mk hc0
 clear hr0 hc0
 have HB := Aside0.mk (Below.refl w.heap.size w)
 have H : ((lampblackref02_rest.f k l0).bind fun t354 => (if 0 < (t354.length : Int) then (some (rd t354 0)) else (none))) = some r := h
 clear h
 replace H := Option.bind_eq_some_iff.mp H
 obtain ⟨t354, A20, H⟩ := H
 replace H : (if 0 < (t354.length : Int) then (some (rd t354 0)) else (none)) = some r := H
 have A2 := Aside0.mk A20
 clear A20
 by_cases c3 : 0 < (t354.length : Int)
 ·rw [if_pos c3] at H
  have c3b0 : decide (0 < (t354.length : Int)) = true := decide_eq_true c3
  have c3b1 : decide (0 < t354.length) = true := decide_eq_true (by omega)
  clear c3
  obtain rfl := Option.some.inj H
  go_enter Tryd.func38, Tryd.ntmps38
  go_wp2_with (first | ((with_reducible refine gate_callee (f := 76) rfl ?_); refine goesL_ (some 4) rfl rfl Tryd.func76 (by kernel_rfl) rfl #[.slice A0 l0.length c0] rfl (Qls) ?_; (with_reducible refine (lampblackref02_rest.calls k _ _ l0 t354 _ ?side1 ?side2 A2.out).mono ?_); (case side1 => exact Qsc HR0.out); (case side2 => exact HC0.out); rintro e w4 ⟨v355, rfl, ho0, hb⟩; refine ⟨_, rfl, ?_⟩; have n0_ := Aside0.mk (Kd.R_lower ho0 (below_size (Qaw))); have n1_ := Aside0.mk (below_step (Qaw) hb); clear HB; have HO356 := n0_; have HB := n1_; clear n0_ n1_; (try clear hb); (try clear hb2); (try clear hk); (try clear hi); (try clear ho0); obtain ⟨Ao5, co5, eo5⟩ := Kd.R_slice HO356.out; subst eo5; have p357 : 0 ≤ (0 : Int) := (by omega); have q357 : 0 < (t354.length : Int) := of_decide_eq_true (Qas); obtain ⟨ad357, e357, hx357_0⟩ := Kd.at_int (Kd.R_reads' HO356.out).2.2 0 p357 q357; cases e357; have qi357 : (0 < t354.length) = True := eq_true (by omega); (try rw [show ((0 : Int)).toNat = 0 from rfl] at hx357_0); (try rw [Addr.add_zero'] at hx357_0); replace p357 := eq_true p357; replace q357 := eq_true q357))
  go_ret
  exact ⟨by first | rfl | (simp [errW_none, errW_some] <;> rfl) | (simp [*, errW_none, errW_some] <;> rfl), by repeat (first | (with_reducible first | exact HB.out | apply below_alloc | apply pw_below_drewN | apply below_drew1) | exact HB.out)⟩
 ·rw [if_neg c3] at H
  exact absurd H (by simp)
end
end Go.Proofs.YtoffehihicabcaaDoor.X
end
section
namespace Go.Proofs.YtoffehihicabcaaDoor.X
open Go.RowKit YtoffehihicabcaaDoorW.PrintWords YtoffehihicabcaaDoorW.PrintLast YtoffehihicabcaaDoorW.PrintMore
theorem own_base2 {W : World} {base : Nat} {e : TypeId} {size : Nat} {v : Value} {k : Nat} {xs : List Value} (h : W.ownsRow base e size v k xs) (b : Nat) (hb : v.ownBlock = some b) : base ≤ b := by
 rcases h.2 with ⟨rfl, _⟩ | ⟨g, cap, cur, rfl, hg, _⟩
 ·simp [Value.ownBlock] at hb
 ·obtain rfl : g = b := by simpa [Value.ownBlock] using hb
  exact hg
theorem own_kept {W V : World} {row : Option Nat} {base : Nat} {e : TypeId} {size : Nat} {v : Value} {k : Nat} {xs : List Value} (h : W.ownsRow base e size v k xs) (hg : W.grownBy V row) (hne : ∀ b, v.ownBlock = some b → some b ≠ row) : V.ownsRow base e size v k xs := by
 refine h.kept hg ?_
 rcases h.2 with ⟨rfl, _⟩ | ⟨g, cap, cur, rfl, _, _, _⟩
 ·exact .inl rfl
 ·exact .inr fun e' => hne g rfl e'
theorem ownsRow_form2 {W : World} {base : Nat} {e : TypeId} {size : Nat} {v : Value} {k : Nat} {xs : List Value} (h : W.ownsRow base e size v k xs) : ∃ A cap, v = .slice A k cap := by
 rcases h.2 with ⟨rfl, rfl⟩ | ⟨g, cap, cur, rfl, _⟩
 ·exact ⟨none, 0, rfl⟩
 ·exact ⟨_, cap, rfl⟩
theorem grown_then {a b c : World} {r : Option Nat} (h : a.grownBy b r) (k : b.grownBy c r) : a.grownBy c r := h.trans k
theorem grown_new {a b c : World} {r q : Option Nat} (h : a.grownBy b r) (k : b.grownBy c q) (hq : ∀ j, q = some j → a.heap.size ≤ j ∨ some j = r) : a.grownBy c r :=
 ⟨k.os.trans h.os, k.tape.trans h.tape, k.output.trans h.output, Nat.le_trans h.size k.size, fun i hi hne => (k.block i (Nat.lt_of_lt_of_le hi h.size) (fun e => (hq i e.symm).elim (fun h => by omega) hne)).trans (h.block i hi hne)⟩
end Go.Proofs.YtoffehihicabcaaDoor.X
end
section
namespace Go.Proofs.YtoffehihicabcaaDoor.T
open Go.RowKit YtoffehihicabcaaDoorW.PrintWords YtoffehihicabcaaDoorW.PrintLast YtoffehihicabcaaDoorW.PrintMore
def diff (a b : Nat) : Nat := a ^^^ (a &&& b)
theorem diff_testBit (a b i : Nat) : (diff a b).testBit i = (a.testBit i && !b.testBit i) := by
 unfold diff; simp; cases a.testBit i <;> cases b.testBit i <;> rfl
theorem diff_le (a b : Nat) : diff a b ≤ a := by
 have h : diff a b &&& a = diff a b := by
  apply Nat.eq_of_testBit_eq; intro i; simp [diff_testBit]
  cases a.testBit i <;> simp
 rw [← h]; exact Nat.and_le_right
theorem or_lt {a b j : Nat} (ha : a < 2 ^ j) (hb : b < 2 ^ j) : a ||| b < 2 ^ j := Nat.or_lt_two_pow ha hb
theorem i64_small (n : Int) (h0 : 0 ≤ n) (h1 : n < 2 ^ 62) : IntKind.i64.wrap n = n := by rw [IntKind.wrap_i64]; omega
theorem w64_small (n : Int) (h0 : -(2 ^ 62) ≤ n) (h1 : n < 2 ^ 62) : wrap64 n = n := by unfold wrap64; omega
theorem u64_low (a : Nat) (ha : a < 2 ^ 62) : (BitVec.ofInt 64 (a : Int)).toNat = a := by
 rw [BitVec.ofInt_natCast, BitVec.toNat_ofNat]; exact Nat.mod_eq_of_lt (by omega)
theorem b_and (a b : Nat) (ha : a < 2 ^ 62) (hb : b < 2 ^ 62) : Go.bits .and .i64 (a : Int) (b : Int) = ((a &&& b : Nat) : Int) := by
 have hx : a &&& b < 2 ^ 62 := Nat.and_lt_two_pow _ hb
 show IntKind.i64.wrap ((BitVec.ofInt 64 (a : Int) &&& BitVec.ofInt 64 (b : Int)).toNat : Int) = _
 rw [BitVec.toNat_and, u64_low a ha, u64_low b hb]
 exact i64_small _ (by omega) (by omega)
theorem b_or (a b : Nat) (ha : a < 2 ^ 62) (hb : b < 2 ^ 62) : Go.bits .or .i64 (a : Int) (b : Int) = ((a ||| b : Nat) : Int) := by
 have hx : a ||| b < 2 ^ 62 := Nat.or_lt_two_pow ha hb
 show IntKind.i64.wrap ((BitVec.ofInt 64 (a : Int) ||| BitVec.ofInt 64 (b : Int)).toNat : Int) = _
 rw [BitVec.toNat_or, u64_low a ha, u64_low b hb]
 exact i64_small _ (by omega) (by omega)
theorem b_andNot (a b : Nat) (ha : a < 2 ^ 62) (hb : b < 2 ^ 62) : Go.bits .andNot .i64 (a : Int) (b : Int) = ((diff a b : Nat) : Int) := by
 have hx : diff a b < 2 ^ 62 := Nat.lt_of_le_of_lt (diff_le a b) ha
 show IntKind.i64.wrap ((BitVec.ofInt 64 (a : Int) &&& ~~~ BitVec.ofInt 64 (b : Int)).toNat : Int) = _
 have e : (BitVec.ofInt 64 (a : Int) &&& ~~~ BitVec.ofInt 64 (b : Int)).toNat = diff a b := by
  apply Nat.eq_of_testBit_eq
  intro i
  rw [diff_testBit, BitVec.testBit_toNat, BitVec.getLsbD_and, BitVec.getLsbD_not, ← BitVec.testBit_toNat, ← BitVec.testBit_toNat, u64_low a ha, u64_low b hb]
  by_cases hi : i < 64
  ·simp [hi]
  ·have : a.testBit i = false := Nat.testBit_lt_two_pow (Nat.lt_of_lt_of_le ha (Nat.pow_le_pow_right (by omega) (by omega)))
   simp [this]
 rw [e]
 exact i64_small _ (by omega) (by omega)
theorem s_one (i : Nat) (hi : i < 62) : shl .i64 1 (i : Int) = ((2 ^ i : Nat) : Int) := by
 have h1 : 2 ^ i < 2 ^ 62 := Nat.pow_lt_pow_right (by omega) hi
 unfold shl
 rw [show min (i : Int).toNat IntKind.i64.bits = i by simp [IntKind.bits]; omega, Int.one_mul]
 rw [show ((2 : Int) ^ i) = ((2 ^ i : Nat) : Int) by simp]
 exact i64_small _ (Int.natCast_nonneg _) (by omega)
theorem s_shr (a i : Nat) (hi : i < 62) : shr .i64 (a : Int) (i : Int) = ((a / 2 ^ i : Nat) : Int) := by
 unfold shr
 rw [show min (i : Int).toNat IntKind.i64.bits = i by simp [IntKind.bits]; omega]
 simp
theorem bit_at (a i : Nat) (ha : a < 2 ^ 62) (hi : i < 62) : Go.bits .and .i64 (shr .i64 (a : Int) (i : Int)) 1 = ((a.testBit i).toNat : Int) := by
 rw [s_shr a i hi]
 have h1 : a / 2 ^ i < 2 ^ 62 := Nat.lt_of_le_of_lt (Nat.div_le_self _ _) ha
 have := b_and (a / 2 ^ i) 1 h1 (by omega)
 rw [show ((1 : Nat) : Int) = 1 from rfl] at this
 rw [this, Nat.and_one_is_mod, Nat.testBit_eq_decide_div_mod_eq]
 by_cases h : a / 2 ^ i % 2 = 1
 ·simp [h]
 ·have : a / 2 ^ i % 2 = 0 := by omega
  simp [this]
theorem bit_one (a i : Nat) (ha : a < 2 ^ 62) (hi : i < 62) : Go.bits .and .i64 (shr .i64 (a : Int) (i : Int)) 1 = 1 ↔ a.testBit i = true := by
 rw [bit_at a i ha hi]; cases a.testBit i <;> simp
theorem bit_zero (a i : Nat) (ha : a < 2 ^ 62) (hi : i < 62) : Go.bits .and .i64 (shr .i64 (a : Int) (i : Int)) 1 = 0 ↔ a.testBit i = false := by
 rw [bit_at a i ha hi]; cases a.testBit i <;> simp
def gi (l : List Nat) : List Int := l.map fun (x : Nat) => (x : Int)
theorem gi_length (l : List Nat) : (gi l).length = l.length := by simp [gi]
theorem rd_gi (l : List Nat) (i : Nat) : rd (gi l) (i : Int) = ((l.getD i 0 : Nat) : Int) := by
 unfold rd gi
 simp only [Int.toNat_natCast, List.getD_eq_getElem?_getD, List.getElem?_map]
 cases l[i]? <;> rfl
theorem gi_set (l : List Nat) (i x : Nat) : (gi l).set i (x : Int) = gi (l.set i x) := by simp [gi, List.map_set]
theorem gi_nonneg (l : List Int) (h : ∀ x ∈ l, 0 ≤ x) : ∃ m : List Nat, l = gi m := by
 refine ⟨l.map Int.toNat, ?_⟩
 unfold gi
 rw [List.map_map]
 conv => lhs; rw [← List.map_id l]
 apply List.map_congr_left
 intro x hx
 have := h x hx
 simp; omega
theorem testBit_ge {a n i : Nat} (h : a < 2 ^ n) (hi : n ≤ i) : a.testBit i = false := Nat.testBit_lt_two_pow (Nat.lt_of_lt_of_le h (Nat.pow_le_pow_right (by omega) hi))
def allFrom (p : Nat → Bool) (n : Nat) : Nat → Nat → Bool
 | 0, _ => true
 | d + 1, i => p i && allFrom p n d (i + 1)
theorem allFrom_iff (p : Nat → Bool) (n : Nat) : ∀ d i, allFrom p n d i = true ↔ ∀ j, i ≤ j → j < i + d → p j = true
 | 0, i => by simp only [allFrom]; exact ⟨fun _ j h1 h2 => by omega, fun _ => trivial⟩
 | d + 1, i => by
  simp only [allFrom, Bool.and_eq_true, allFrom_iff p n d (i + 1)]
  constructor
  ·rintro ⟨h0, h⟩ j h1 h2
   by_cases e : j = i
   ·subst e; exact h0
   ·exact h j (by omega) (by omega)
  ·intro h
   exact ⟨h i (by omega) (by omega), fun j h1 h2 => h j (by omega) (by omega)⟩
def ibit (x : Int) (i : Nat) : Int := Go.bits .and .i64 (shr .i64 x (i : Int)) 1
theorem ibit_nat (a i : Nat) (ha : a < 2 ^ 62) (hi : i < 62) : ibit (a : Int) i = ((a.testBit i).toNat : Int) := bit_at a i ha hi
theorem wrap_succ (i : Nat) (h : i < 2 ^ 61) : wrap64 ((i : Int) + 1) = ((i + 1 : Nat) : Int) := by
 rw [w64_small _ (by omega) (by omega)]; omega
theorem Ev.uniq {α : Type} {g : Nat → Option α} {a b : α} (h : Ev g a) (h' : Ev g b) : a = b := by
 obtain ⟨K, h⟩ := h
 obtain ⟨K', h'⟩ := h'
 have h1 := h (max K K') (by omega)
 have h2 := h' (max K K') (by omega)
 rw [h1] at h2
 exact Option.some.inj h2
theorem Ev.bind1 {α β : Type} {g : Option α} {f : Nat → α → Option β} {a : α} {r : β} (h : g = some a) (k : Ev (fun n => f n a) r) : Ev (fun n => g.bind (f n)) r := by subst h; exact k
theorem Ev.some {α : Type} {r r' : α} (h : r = r') : Ev (fun _ => some r) r' := by subst h; exact Ev.now r
theorem Ev.if_pos {α : Type} {c : Prop} [Decidable c] {g f : Nat → Option α} {r : α} (h : c) (k : Ev g r) : Ev (fun n => if c then g n else f n) r := by
 refine Ev.congr (fun n => ?_) k
 rw [_root_.if_pos h]
theorem Ev.if_neg {α : Type} {c : Prop} [Decidable c] {g f : Nat → Option α} {r : α} (h : ¬ c) (k : Ev f r) : Ev (fun n => if c then g n else f n) r := by
 refine Ev.congr (fun n => ?_) k
 rw [_root_.if_neg h]
theorem Ev.ite {α : Type} {c : Prop} [Decidable c] {g f : Nat → Option α} {r : α} (h1 : c → Ev g r) (h2 : ¬ c → Ev f r) : Ev (fun n => if c then g n else f n) r := by
 by_cases h : c
 ·exact Ev.if_pos h (h1 h)
 ·exact Ev.if_neg h (h2 h)
def rowOk (g : List Int) (i : Nat) : Bool :=
 !decide (rd g (i : Int) < 0) && !decide (rd g (i : Int) ≥ shl .i64 1 (g.length : Int)) && !(ibit (rd g (i : Int)) i == 1) &&
  allFrom (fun j => decide (ibit (rd g (i : Int)) j = ibit (rd g (j : Int)) i)) g.length g.length 0
def chk (m : Nat) (g : List Int) : Bool := decide (1 ≤ g.length) && decide (g.length ≤ m) && allFrom (rowOk g) g.length g.length 0
structure Gr (m : Nat) (G : List Nat) : Prop where
 pos : 1 ≤ G.length
 most : G.length ≤ m
 lt : ∀ i, i < G.length → G.getD i 0 < 2 ^ G.length
 irr : ∀ i, i < G.length → (G.getD i 0).testBit i = false
 symm : ∀ i j, i < G.length → j < G.length → (G.getD i 0).testBit j = (G.getD j 0).testBit i
theorem chk_iff (m : Nat) (hm : m ≤ 13) (g : List Int) : chk m g = true ↔ ∃ G, g = gi G ∧ Gr m G := by
 have p62 : ∀ n : Nat, n ≤ 13 → 2 ^ n < 2 ^ 62 := fun n hn => Nat.pow_lt_pow_right (by omega) (by omega)
 constructor
 ·intro h
  simp only [chk, Bool.and_eq_true, decide_eq_true_eq, allFrom_iff] at h
  obtain ⟨⟨h1, h2⟩, h3⟩ := h
  have hn : g.length ≤ 13 := by omega
  have hrow : ∀ i, i < g.length → (0 ≤ rd g (i : Int) ∧ rd g (i : Int) < ((2 ^ g.length : Nat) : Int)) ∧ ibit (rd g (i : Int)) i ≠ 1 ∧ ∀ j, j < g.length → ibit (rd g (i : Int)) j = ibit (rd g (j : Int)) i := by
   intro i hi
   have := h3 i (by omega) (by omega)
   simp only [rowOk, Bool.and_eq_true, Bool.not_eq_true', decide_eq_false_iff_not, beq_eq_false_iff_ne, allFrom_iff, decide_eq_true_eq] at this
   obtain ⟨⟨⟨a, b⟩, c⟩, d⟩ := this
   rw [s_one _ (by omega)] at b
   exact ⟨⟨by omega, by omega⟩, c, fun j hj => d j (by omega) (by omega)⟩
  obtain ⟨G, rfl⟩ := gi_nonneg g (fun x hx => by
   obtain ⟨i, hi, rfl⟩ := List.getElem_of_mem hx
   have := (hrow i hi).1.1
   unfold rd at this
   rw [Int.toNat_natCast, List.getD_eq_getElem?_getD, List.getElem?_eq_getElem hi] at this
   exact this)
  simp only [gi_length, rd_gi] at hrow h1 h2 hn
  have hlt : ∀ i, i < G.length → G.getD i 0 < 2 ^ G.length := fun i hi => by have := (hrow i hi).1.2; omega
  refine ⟨G, rfl, h1, h2, hlt, fun i hi => ?_, fun i j hi hj => ?_⟩
  ·have := (hrow i hi).2.1
   rw [ibit_nat _ _ (Nat.lt_trans (hlt i hi) (p62 _ hn)) (by omega)] at this
   cases hb : (G.getD i 0).testBit i
   ·rfl
   ·rw [hb] at this; exact (this rfl).elim
  ·have := (hrow i hi).2.2 j hj
   rw [ibit_nat _ _ (Nat.lt_trans (hlt i hi) (p62 _ hn)) (by omega), ibit_nat _ _ (Nat.lt_trans (hlt j hj) (p62 _ hn)) (by omega)] at this
   cases ha : (G.getD i 0).testBit j <;> cases hb : (G.getD j 0).testBit i <;> rw [ha, hb] at this <;> simp_all
 ·rintro ⟨G, rfl, hG⟩
  have hn : G.length ≤ 13 := Nat.le_trans hG.most hm
  simp only [chk, Bool.and_eq_true, decide_eq_true_eq, allFrom_iff, gi_length]
  refine ⟨⟨hG.pos, hG.most⟩, fun i _ hi => ?_⟩
  have hi : i < G.length := by omega
  simp only [rowOk, Bool.and_eq_true, Bool.not_eq_true', decide_eq_false_iff_not, beq_eq_false_iff_ne, allFrom_iff, decide_eq_true_eq, rd_gi, gi_length]
  rw [s_one _ (by omega)]
  have hl := hG.lt i hi
  refine ⟨⟨⟨by omega, by omega⟩, ?_⟩, fun j _ hj => ?_⟩
  ·rw [ibit_nat _ _ (Nat.lt_trans hl (p62 _ hn)) (by omega), hG.irr i hi]; simp
  ·have hj : j < G.length := by omega
   rw [ibit_nat _ _ (Nat.lt_trans hl (p62 _ hn)) (by omega), ibit_nat _ _ (Nat.lt_trans (hG.lt j hj) (p62 _ hn)) (by omega), hG.symm i j hi hj]
def Adj (G : List Nat) (u w : Nat) : Prop := (G.getD u 0).testBit w = true
theorem getD_out (G : List Nat) (i : Nat) (h : G.length ≤ i) : G.getD i 0 = 0 := by
 rw [List.getD_eq_getElem?_getD, List.getElem?_eq_none h]; rfl
theorem Gr.row {m : Nat} {G : List Nat} (h : Gr m G) (i : Nat) : G.getD i 0 < 2 ^ G.length := by
 by_cases hi : i < G.length
 ·exact h.lt i hi
 ·rw [getD_out G i (by omega)]; exact Nat.two_pow_pos _
theorem Gr.adj_lt {m : Nat} {G : List Nat} (h : Gr m G) {u w : Nat} (a : Adj G u w) : w < G.length := by
 apply Classical.byContradiction
 intro hw
 unfold Adj at a
 rw [testBit_ge (h.row u) (by omega)] at a
 cases a
theorem Gr.adj_lt' {m : Nat} {G : List Nat} (h : Gr m G) {u w : Nat} (a : Adj G u w) : u < G.length := by
 apply Classical.byContradiction
 intro hu
 unfold Adj at a
 rw [getD_out G u (by omega)] at a
 simp at a
theorem Gr.adj_symm {m : Nat} {G : List Nat} (h : Gr m G) {u w : Nat} (a : Adj G u w) : Adj G w u := by
 have h1 := h.adj_lt a
 have h2 := h.adj_lt' a
 unfold Adj at *
 rw [← h.symm u w h2 h1]; exact a
theorem Gr.adj_irr {m : Nat} {G : List Nat} (h : Gr m G) {u : Nat} : ¬ Adj G u u := by
 intro a
 have h2 := h.adj_lt' a
 unfold Adj at a
 rw [h.irr u h2] at a
 cases a
def around (G : List Nat) (s : Nat) : Nat → Nat
 | 0 => 0
 | d + 1 => around G s d ||| (if s.testBit d then G.getD d 0 else 0)
theorem around_bit (G : List Nat) (s : Nat) : ∀ d j, (around G s d).testBit j = true ↔ ∃ i, i < d ∧ s.testBit i = true ∧ Adj G i j
 | 0, j => by simp [around]
 | d + 1, j => by
  simp only [around, Nat.testBit_or, Bool.or_eq_true, around_bit G s d]
  constructor
  ·rintro (⟨i, h1, h2⟩ | h)
   ·exact ⟨i, by omega, h2⟩
   ·by_cases hs : s.testBit d = true
    ·rw [if_pos hs] at h; exact ⟨d, by omega, hs, h⟩
    ·rw [if_neg hs] at h; simp at h
  ·rintro ⟨i, h1, h2, h3⟩
   by_cases e : i = d
   ·subst e; rw [if_pos h2]; exact .inr h3
   ·exact .inl ⟨i, by omega, h2, h3⟩
def Around (G : List Nat) (s : Nat) : Nat := around G s G.length
theorem Around_bit {m : Nat} {G : List Nat} (h : Gr m G) (s j : Nat) : (Around G s).testBit j = true ↔ ∃ i, s.testBit i = true ∧ Adj G i j := by
 unfold Around
 rw [around_bit]
 exact ⟨fun ⟨i, _, h2⟩ => ⟨i, h2⟩, fun ⟨i, h1, h2⟩ => ⟨i, h.adj_lt' h2, h1, h2⟩⟩
theorem lt_of_bits {x n : Nat} (h : ∀ j, x.testBit j = true → j < n) : x < 2 ^ n := by
 apply Nat.lt_pow_two_of_testBit
 intro i hi
 cases hb : x.testBit i
 ·rfl
 ·have := h i hb; omega
theorem bit_lt {x n j : Nat} (h : x < 2 ^ n) (hb : x.testBit j = true) : j < n := by
 apply Classical.byContradiction
 intro hj
 rw [testBit_ge h (by omega)] at hb
 cases hb
theorem Around_lt {m : Nat} {G : List Nat} (h : Gr m G) (s : Nat) : Around G s < 2 ^ G.length :=
 lt_of_bits fun j hj => by obtain ⟨i, _, h2⟩ := (Around_bit h s j).1 hj; exact h.adj_lt h2
theorem eq_of_bits {a b : Nat} (h : ∀ j, a.testBit j = true ↔ b.testBit j = true) : a = b := by
 apply Nat.eq_of_testBit_eq
 intro i
 have := h i
 cases ha : a.testBit i <;> cases hb : b.testBit i <;> simp_all
inductive Con (adj : Nat → Nat → Prop) (w : Nat → Prop) (s : Nat → Prop) : Nat → Prop
 | base {u : Nat} : s u → Con adj w s u
 | step {x u : Nat} : Con adj w s x → adj x u → w u → Con adj w s u
def bset (x : Nat) (i : Nat) : Prop := x.testBit i = true
end Go.Proofs.YtoffehihicabcaaDoor.T
end
section
namespace Go.Proofs.YtoffehihicabcaaDoor.T
def AtMost (k : Nat) (P : Nat → Prop) : Prop := ∃ l : List Nat, l.length ≤ k ∧ ∀ u, P u → u ∈ l
theorem AtMost.mono {k k' : Nat} {P Q : Nat → Prop} (h : AtMost k P) (hk : k ≤ k') (hq : ∀ u, Q u → P u) : AtMost k' Q := by
 obtain ⟨l, hl, hp⟩ := h
 exact ⟨l, Nat.le_trans hl hk, fun u hu => hp u (hq u hu)⟩
theorem AtMost.map {k : Nat} {P Q : Nat → Prop} (f : Nat → Nat) (h : AtMost k P) (hq : ∀ u, Q u → ∃ x, P x ∧ f x = u) : AtMost k Q := by
 obtain ⟨l, hl, hp⟩ := h
 refine ⟨l.map f, by simpa using hl, fun u hu => ?_⟩
 obtain ⟨x, hx, rfl⟩ := hq u hu
 exact List.mem_map_of_mem (hp x hx)
theorem AtMost.succ {k : Nat} {P Q : Nat → Prop} (h : AtMost k P) (a : Nat) (hq : ∀ u, Q u → P u ∨ u = a) : AtMost (k + 1) Q := by
 obtain ⟨l, hl, hp⟩ := h
 refine ⟨a :: l, by simp; omega, fun u hu => ?_⟩
 rcases hq u hu with h | h
 ·exact List.mem_cons_of_mem _ (hp u h)
 ·subst h
  exact List.mem_cons_self
theorem AtMost.below {n : Nat} {P : Nat → Prop} (h : ∀ u, P u → u < n) : AtMost n P := ⟨List.range n, by simp, fun u hu => List.mem_range.2 (h u hu)⟩
inductive Way (adj : Nat → Nat → Prop) (S : Nat → Prop) (v : Nat) : Nat → Prop
 | one {u : Nat} : adj v u → Way adj S v u
 | more {x u : Nat} : Way adj S v x → S x → adj x u → Way adj S v u
def Nb (adj : Nat → Nat → Prop) (S : Nat → Prop) (v u : Nat) : Prop := Way adj S v u ∧ ¬ S u ∧ u ≠ v
inductive Elim (V : Nat → Prop) (adj : Nat → Nat → Prop) (k : Nat) : (Nat → Prop) → Prop
 | nil : Elim V adj k (fun _ => False)
 | snoc {S : Nat → Prop} (v : Nat) : Elim V adj k S → V v → ¬ S v → AtMost k (Nb adj S v) → Elim V adj k (fun u => S u ∨ u = v)
theorem Elim.ext {V : Nat → Prop} {adj : Nat → Nat → Prop} {k : Nat} {S S' : Nat → Prop} (h : Elim V adj k S) (e : ∀ u, S u ↔ S' u) : Elim V adj k S' := by
 have : S = S' := funext fun u => propext (e u)
 subst this
 exact h
theorem Elim.mono {V : Nat → Prop} {adj : Nat → Nat → Prop} {k k' : Nat} {S : Nat → Prop} (h : Elim V adj k S) (hk : k ≤ k') : Elim V adj k' S := by
 induction h with
 | nil => exact .nil
 | snoc v _ hv hs ha ih => exact .snoc v ih hv hs (ha.mono hk fun _ h => h)
theorem Way.inside {adj : Nat → Nat → Prop} {S W : Nat → Prop} (hW : ∀ u w, adj u w → W w) {v u : Nat} (h : Way adj S v u) : W u := by
 cases h with
 | one h => exact hW _ _ h
 | more _ _ h => exact hW _ _ h
theorem Elim.more {V W : Nat → Prop} {adj adj' : Nat → Nat → Prop} {k : Nat} (a : Nat) (φ : Nat → Nat) (hinj : ∀ x y, φ x = φ y → x = y)
  (hV : ∀ u, V u ↔ u = a ∨ ∃ x, W x ∧ φ x = u) (ha : ∀ x, φ x ≠ a)
  (hin : ∀ u w, adj u w → V w) (hadj : ∀ u w, adj (φ u) (φ w) → adj' u w) {S : Nat → Prop} (h : Elim W adj' k S) :
  Elim V adj (k + 1) (fun u => ∃ x, S x ∧ φ x = u) := by
 induction h with
 | nil => exact Elim.nil.ext fun u => ⟨fun h => h.elim, fun ⟨_, h, _⟩ => h⟩
 | @snoc S v hS hv hs hm ih =>
  refine (Elim.snoc (φ v) ih ((hV _).2 (.inr ⟨v, hv, rfl⟩)) (fun ⟨x, hx, e⟩ => hs (hinj _ _ e ▸ hx)) ?_).ext ?_
  ·refine AtMost.succ (P := fun u => ∃ w, Nb adj' S v w ∧ φ w = u) (hm.map φ fun u ⟨w, hw, e⟩ => ⟨w, hw, e⟩) a ?_
   rintro u ⟨hu, hnu, hne⟩
   have key : ∀ y, Way adj (fun u => ∃ x, S x ∧ φ x = u) (φ v) y → ∀ x, φ x = y → Way adj' S v x := by
    intro y hy
    induction hy with
    | one h => rintro x rfl; exact .one (hadj _ _ h)
    | more _ hS h ih =>
     rintro x rfl
     obtain ⟨z, hz, rfl⟩ := hS
     exact .more (ih z rfl) hz (hadj _ _ h)
   rcases (hV u).1 (hu.inside hin) with e | ⟨x, hx, rfl⟩
   ·exact .inr e
   ·refine .inl ⟨x, ⟨key _ hu x rfl, fun h => hnu ⟨x, h, rfl⟩, fun e => hne (by rw [e])⟩, rfl⟩
  ·intro u
   constructor
   ·rintro (⟨x, hx, e⟩ | h)
    ·exact ⟨x, .inl hx, e⟩
    ·exact ⟨v, .inr rfl, h.symm⟩
   ·rintro ⟨x, hx | hx, e⟩
    ·exact .inl ⟨x, hx, e⟩
    ·subst hx; exact .inr e.symm
end Go.Proofs.YtoffehihicabcaaDoor.T
end
section
namespace Go.Proofs.YtoffehihicabcaaDoor.T
open Go.RowKit YtoffehihicabcaaDoorW.PrintWords YtoffehihicabcaaDoorW.PrintLast YtoffehihicabcaaDoorW.PrintMore
noncomputable def ofSet (P : Nat → Prop) : Nat → Nat
 | 0 => 0
 | d + 1 => ofSet P d ||| (@ite _ (P d) (Classical.propDecidable _) (2 ^ d) 0)
theorem ofSet_bit (P : Nat → Prop) : ∀ n j, bset (ofSet P n) j ↔ j < n ∧ P j
 | 0, j => by simp [ofSet, bset]
 | d + 1, j => by
  have ih := ofSet_bit P d j
  unfold bset at *
  simp only [ofSet, Nat.testBit_or, Bool.or_eq_true, ih]
  by_cases h : P d
  ·rw [if_pos h, Nat.testBit_two_pow, decide_eq_true_eq]
   constructor
   ·rintro (h1 | h1)
    ·exact ⟨by omega, h1.2⟩
    ·subst h1; exact ⟨by omega, h⟩
   ·rintro ⟨h1, h2⟩
    by_cases e : d = j
    ·exact .inr e
    ·exact .inl ⟨by omega, h2⟩
  ·rw [if_neg h]
   simp
   intro h1
   constructor
   ·intro _; omega
   ·intro _
    by_cases e : j = d
    ·subst e; exact (h h1).elim
    ·omega
theorem ofSet_lt (P : Nat → Prop) (n : Nat) : ofSet P n < 2 ^ n := lt_of_bits fun j hj => ((ofSet_bit P n j).1 hj).1
theorem eq_ofSet {P : Nat → Prop} {n x : Nat} (hx : x < 2 ^ n) (h : ∀ j, bset x j ↔ P j) : x = ofSet P n :=
 eq_of_bits fun j => by
  have := ofSet_bit P n j
  unfold bset at *
  rw [this, ← h j]
  exact ⟨fun hb => ⟨bit_lt hx hb, hb⟩, fun hb => hb.2⟩
def pc (x : Nat) : Nat → Nat
 | 0 => 0
 | d + 1 => pc x d + (x.testBit d).toNat
theorem pc_le (x : Nat) : ∀ n, pc x n ≤ n
 | 0 => Nat.le_refl _
 | d + 1 => by have := pc_le x d; simp only [pc]; cases x.testBit d <;> simp <;> omega
theorem pc_mono {x y : Nat} : ∀ n, (∀ j, j < n → x.testBit j = true → y.testBit j = true) → pc x n ≤ pc y n
 | 0, _ => Nat.le_refl _
 | d + 1, h => by
  have ih := pc_mono d (fun j hj => h j (by omega))
  have := h d (by omega)
  simp only [pc]
  cases hx : x.testBit d <;> cases hy : y.testBit d <;> simp_all <;> omega
theorem pc_lt {x y : Nat} (i : Nat) : ∀ n, (∀ j, j < n → x.testBit j = true → y.testBit j = true) → i < n → x.testBit i = false → y.testBit i = true → pc x n < pc y n
 | 0, _, hi, _, _ => by omega
 | d + 1, h, hi, h1, h2 => by
  simp only [pc]
  by_cases e : i = d
  ·subst e
   have ih := pc_mono i (fun j hj => h j (by omega))
   rw [h1, h2]; simp; omega
  ·have ih := pc_lt i d (fun j hj => h j (by omega)) (by omega) h1 h2
   have := h d (by omega)
   cases hx : x.testBit d <;> cases hy : y.testBit d <;> simp_all <;> omega
def els (x : Nat) (n : Nat) : List Nat := (List.range n).filter fun i => x.testBit i
theorem els_length (x : Nat) : ∀ n, (els x n).length = pc x n
 | 0 => rfl
 | d + 1 => by
  have ih := els_length x d
  unfold els at *
  rw [List.range_succ, List.filter_append, List.length_append, ih]
  simp only [pc]
  cases h : x.testBit d <;> simp [h]
theorem mem_els {x n j : Nat} : j ∈ els x n ↔ j < n ∧ x.testBit j = true := by unfold els; simp
theorem els_nodup (x n : Nat) : (els x n).Nodup := List.Pairwise.filter _ List.nodup_range
theorem nodup_le {l m : List Nat} (h : l.Nodup) (hs : ∀ x ∈ l, x ∈ m) : l.length ≤ m.length := by
 induction l generalizing m with
 | nil => simp
 | cons a l ih =>
  obtain ⟨h1, h2⟩ := List.nodup_cons.1 h
  have ha := hs a List.mem_cons_self
  have := ih (m := m.erase a) h2 (fun x hx => by
   have hxa : x ≠ a := fun e => h1 (e ▸ hx)
   exact (List.mem_erase_of_ne hxa).2 (hs x (List.mem_cons_of_mem _ hx)))
  rw [List.length_erase_of_mem ha] at this
  have : 0 < m.length := List.length_pos_of_mem ha
  simp only [List.length_cons]
  omega
theorem atMost_pc {x n k : Nat} (hx : x < 2 ^ n) : AtMost k (bset x) ↔ pc x n ≤ k := by
 rw [← els_length]
 constructor
 ·rintro ⟨l, hl, h⟩
  exact Nat.le_trans (nodup_le (els_nodup x n) fun j hj => h j (mem_els.1 hj).2) hl
 ·intro h
  exact ⟨els x n, h, fun j hj => mem_els.2 ⟨bit_lt hx hj, hj⟩⟩
noncomputable def conset (G : List Nat) (s w : Nat) : Nat := ofSet (Con (Adj G) (bset w) (bset s)) G.length
theorem Con.inside {adj : Nat → Nat → Prop} {w s : Nat → Prop} {u : Nat} (h : Con adj w s u) : s u ∨ w u := by
 cases h with
 | base h => exact .inl h
 | step _ _ h => exact .inr h
theorem Con.mono {adj : Nat → Nat → Prop} {w s w' s' : Nat → Prop} (hw : ∀ u, w u → w' u) (hs : ∀ u, s u → s' u) {u : Nat} (h : Con adj w s u) : Con adj w' s' u := by
 induction h with
 | base h => exact .base (hs _ h)
 | step _ a h ih => exact .step ih a (hw _ h)
theorem conset_bit {m : Nat} {G : List Nat} (hG : Gr m G) {s : Nat} (w : Nat) (hs : s < 2 ^ G.length) (j : Nat) : bset (conset G s w) j ↔ Con (Adj G) (bset w) (bset s) j := by
 unfold conset
 rw [ofSet_bit]
 refine ⟨fun h => h.2, fun h => ⟨?_, h⟩⟩
 cases h with
 | base h => exact bit_lt hs h
 | step _ a _ => exact hG.adj_lt a
theorem conset_lt (G : List Nat) (s w : Nat) : conset G s w < 2 ^ G.length := ofSet_lt _ _
theorem conset_eq {m : Nat} {G : List Nat} (hG : Gr m G) {s w x : Nat} (hs : s < 2 ^ G.length) (hx : x < 2 ^ G.length) (h1 : ∀ j, bset s j → bset x j)
  (h2 : ∀ j, bset x j → Con (Adj G) (bset w) (bset s) j) (h3 : ∀ i j, bset x i → Adj G i j → bset w j → bset x j) : x = conset G s w :=
 eq_ofSet hx fun j => ⟨h2 j, fun h => by
  induction h with
  | base h => exact h1 _ h
  | step _ a h ih => exact h3 _ _ ih a h⟩
noncomputable def nbset (G : List Nat) (gone v : Nat) : Nat := diff (diff (Around G (conset G (2 ^ v) (gone ||| 2 ^ v))) gone) (2 ^ v)
theorem two_pow_bit (v j : Nat) : bset (2 ^ v) j ↔ j = v := by
 unfold bset; rw [Nat.testBit_two_pow, decide_eq_true_eq]; exact ⟨fun h => h.symm, fun h => h.symm⟩
theorem diff_bset (a b j : Nat) : bset (diff a b) j ↔ bset a j ∧ ¬ bset b j := by
 unfold bset; rw [diff_testBit]; cases a.testBit j <;> cases b.testBit j <;> simp
theorem or_bset (a b j : Nat) : bset (a ||| b) j ↔ bset a j ∨ bset b j := by unfold bset; simp
theorem and_bset (a b j : Nat) : bset (a &&& b) j ↔ bset a j ∧ bset b j := by unfold bset; simp
theorem nbset_bit {m : Nat} {G : List Nat} (hG : Gr m G) {gone v : Nat} (hv : v < G.length) (j : Nat) : bset (nbset G gone v) j ↔ Nb (Adj G) (bset gone) v j := by
 have hp : 2 ^ v < 2 ^ G.length := Nat.pow_lt_pow_right (by omega) hv
 unfold nbset
 rw [diff_bset, diff_bset, two_pow_bit]
 have h1 : bset (Around G (conset G (2 ^ v) (gone ||| 2 ^ v))) j ↔ Way (Adj G) (bset gone) v j := by
  have : bset (Around G (conset G (2 ^ v) (gone ||| 2 ^ v))) j ↔ ∃ i, Con (Adj G) (bset (gone ||| 2 ^ v)) (bset (2 ^ v)) i ∧ Adj G i j := by
   unfold bset at *
   rw [Around_bit hG]
   exact ⟨fun ⟨i, h1, h2⟩ => ⟨i, (conset_bit hG _ hp i).1 h1, h2⟩, fun ⟨i, h1, h2⟩ => ⟨i, (conset_bit hG _ hp i).2 h1, h2⟩⟩
  rw [this]
  constructor
  ·rintro ⟨i, hi, ha⟩
   have key : ∀ i, Con (Adj G) (bset (gone ||| 2 ^ v)) (bset (2 ^ v)) i → i = v ∨ (Way (Adj G) (bset gone) v i ∧ bset gone i) := by
    intro i hi
    induction hi with
    | base h => exact .inl ((two_pow_bit v _).1 h)
    | @step x u _ a h ih =>
     by_cases e : u = v
     ·exact .inl e
     ·have hg : bset gone u := by
       rcases (or_bset _ _ _).1 h with h | h
       ·exact h
       ·exact (e ((two_pow_bit v u).1 h)).elim
      refine .inr ⟨?_, hg⟩
      rcases ih with ih | ih
      ·subst ih; exact .one a
      ·exact .more ih.1 ih.2 a
   rcases key i hi with h | h
   ·subst h; exact .one ha
   ·exact .more h.1 h.2 ha
  ·intro h
   have key : ∀ x, Way (Adj G) (bset gone) v x → bset gone x → Con (Adj G) (bset (gone ||| 2 ^ v)) (bset (2 ^ v)) x := by
    intro x hx
    induction hx with
    | one a => intro hg; exact .step (.base ((two_pow_bit v v).2 rfl)) a ((or_bset _ _ _).2 (.inl hg))
    | more _ hS a ih => intro hg; exact .step (ih hS) a ((or_bset _ _ _).2 (.inl hg))
   cases h with
   | one a => exact ⟨v, .base ((two_pow_bit v v).2 rfl), a⟩
   | more hx hS a => exact ⟨_, key _ hx hS, a⟩
 rw [h1]
 unfold Nb
 exact ⟨fun ⟨⟨a, b⟩, c⟩ => ⟨a, b, c⟩, fun ⟨a, b, c⟩ => ⟨⟨a, b⟩, c⟩⟩
theorem nbset_lt {m : Nat} {G : List Nat} (hG : Gr m G) (gone v : Nat) : nbset G gone v < 2 ^ G.length :=
 Nat.lt_of_le_of_lt (diff_le _ _) (Nat.lt_of_le_of_lt (diff_le _ _) (Around_lt hG _))
end Go.Proofs.YtoffehihicabcaaDoor.T
end
section
namespace Go.Proofs.YtoffehihicabcaaDoor.X
open Go.RowKit YtoffehihicabcaaDoorW.PrintWords YtoffehihicabcaaDoorW.PrintLast YtoffehihicabcaaDoorW.PrintMore YtoffehihicabcaaDoor.T
theorem und3 : Tryd.prog.underlying 3 = some (.int .i64) := by kernel_rfl
theorem und4 : Tryd.prog.underlying 4 = some .bool := by kernel_rfl
theorem undM : Tryd.prog.underlying 96 = some (.map 3 4) := by kernel_rfl
theorem zero4 (w : World) : (zeroValue 4).run Tryd.prog w = .ok (.bool false) w := by kernel_rfl
theorem law3 : Maps.Keyed Tryd.prog 3 := Maps.int_keyed und3
theorem key3 (g : Nat) (hg : g < 2 ^ 62) : keyOf Tryd.prog 3 (.int .i64 (g : Int)) = some (.int .i64 (g : Int)) := Maps.keyOf_int_mk und3 (by
 have h1 : (IntKind.i64.min : Int) = -9223372036854775808 := by decide
 have h2 : (IntKind.i64.max : Int) = 9223372036854775807 := by decide
 simp only [Lit.wf, decide_eq_true_eq, Bool.and_eq_true, h1, h2]
 omega)
theorem bool_inv {H : Type} {v : Value} {b : Bool} {ps : List MemPlace} (h : plainElem (H := H) Tryd.prog 4 v = some (.lit (.bool b), ps)) : v = .bool b := by
 unfold plainElem at h
 rw [und4] at h
 cases v <;> simp at h
 rename_i x
 rw [h.1]
def Knows (N : Nat) (f : Nat → Bool) (D : DataW Unit) : Prop :=
 (∀ kl, Maps.has D kl = true → ∃ g : Nat, g < N ∧ kl = .int .i64 (g : Int)) ∧ ∀ g : Nat, g < N → Maps.has D (.int .i64 (g : Int)) = true → D.atKey (.int .i64 (g : Int)) (.lit (.bool false)) = .lit (.bool (f g))
theorem own_bound {W : World} {b n N : Nat} {f : Nat → Bool} {D : DataW Unit} (h : W.ownsMap Tryd.prog 3 (plainElem Tryd.prog 4) b n D) (hk : Knows N f D) : W.ownsMap Tryd.prog 3 (plainElem Tryd.prog 4) b N D := by
 obtain ⟨L, e, h1, h2⟩ := h.canon law3
 obtain ⟨es, clock, hb, F, hs, hD⟩ := h
 refine ⟨es, clock, hb, F, ?_, hD⟩
 rw [hD] at e
 have e := DataW.map.inj e
 have hlen : es.size = L.length := by rw [← e, length_sorted]; simp
 rw [hlen]
 have hnd : (L.map fun p => match p.1 with | .int _ z => z.toNat | _ => 0).Nodup := by
  refine List.pairwise_map.2 (((Maps.apart_of_rising h1).imp_of_mem fun {a b} ha hb hab e2 => hab ?_))
  have key : ∀ p ∈ L, ∃ g : Nat, g < N ∧ p.1 = .int .i64 (g : Int) := fun p hp => hk.1 p.1 (by
   rw [hD, e, Maps.has_eq]
   exact List.any_eq_true.2 ⟨p, hp, WideAt.sameKey_self (h2 p hp)⟩)
  obtain ⟨g1, _, k1⟩ := key a ha
  obtain ⟨g2, _, k2⟩ := key b hb
  rw [k1, k2] at e2 ⊢
  simp at e2
  rw [e2]
 have hle : (L.map fun p => match p.1 with | .int _ z => z.toNat | _ => 0).length ≤ (List.range N).length := by
  refine nodup_le hnd fun x hx => ?_
  obtain ⟨p, hp, rfl⟩ := List.mem_map.1 hx
  obtain ⟨g, hg, k⟩ := hk.1 p.1 (by
   rw [hD, e, Maps.has_eq]
   exact List.any_eq_true.2 ⟨p, hp, WideAt.sameKey_self (h2 p hp)⟩)
  rw [k]
  exact List.mem_range.2 (by simpa using hg)
 simpa using hle
structure KM (W0 W : World) (mB N : Nat) (f : Nat → Bool) : Prop where
 map : ∃ D, W.ownsMap Tryd.prog 3 (plainElem Tryd.prog 4) mB N D ∧ Knows N f D
 grown : W0.grownBy W (some mB)
theorem KM.low {W0 W V : World} {mB N : Nat} {f : Nat → Bool} (h : KM W0 W mB N f) (hg : W.grownBy V none) : KM W0 V mB N f := by
 obtain ⟨⟨D, h1, h2⟩, h3⟩ := h
 exact ⟨⟨D, h1.kept hg (by simp), h2⟩, grown_new h3 hg (fun _ e => by cases e)⟩
theorem KM.lowR {W0 W V : World} {mB N : Nat} {f : Nat → Bool} {r : Option Nat} (h : KM W0 W mB N f) (hmB : mB < W0.heap.size) (hg : W.grownBy V r) (hr : ∀ j, r = some j → W0.heap.size ≤ j) : KM W0 V mB N f := by
 obtain ⟨⟨D, h1, h2⟩, h3⟩ := h
 exact ⟨⟨D, h1.kept hg (fun e => by have := hr mB e.symm; omega), h2⟩, grown_new h3 hg (fun j e => .inl (hr j e))⟩
theorem KM.put {W0 W V : World} {mB N g : Nat} {f : Nat → Bool} {D : DataW Unit} (h : KM W0 W mB N f) (hk : Knows N f D) (hg : g < N) (hN : N < 2 ^ 62) (ho : V.ownsMap Tryd.prog 3 (plainElem Tryd.prog 4) mB (N + 1) (D.put (.int .i64 (g : Int)) (.lit (.bool (f g))))) (hD : Maps.IsMap D) (hgr : W.grownBy V (some mB)) : KM W0 V mB N f := by
 have hkl := law3.key (key3 g (by omega))
 have hk2 : Knows N f (D.put (.int .i64 (g : Int)) (.lit (.bool (f g)))) := by
  refine ⟨fun kl hh => ?_, fun g' hg' hh => ?_⟩
  ·by_cases e : kl = .int .i64 (g : Int)
   ·exact ⟨g, hg, e⟩
   ·rw [Maps.has_put_other e] at hh
    exact hk.1 kl hh
  ·by_cases e : (Lit.int .i64 (g' : Int)) = .int .i64 (g : Int)
   ·have eg : g' = g := by
     injection e with _ e
     omega
    subst eg
    rw [Maps.atKey_put_same hD hkl]
   ·rw [Maps.has_put_other e] at hh
    rw [Maps.atKey_put_other e]
    exact hk.2 g' hg' hh
 exact ⟨⟨_, own_bound ho hk2, hk2⟩, grown_then h.grown hgr⟩
theorem wpList_known {w : World} {ops : Array Oper} {rest : List Oper} {o : Oper} {a : Act} {Q : Exit → Act → World → Prop}
  (hg : o.guard = none) (m x : Operand) (hop : o.op = Op.lookup 96 m x true) (b n : Nat) (D : DataW Unit)
  (hm : a.eval m = .map (some b)) (hown : w.ownsMap Tryd.prog 3 (plainElem Tryd.prog 4) b n D) (key : Value) (kl : Lit) (hx : a.eval x = key) (hkey : keyOf Tryd.prog 3 key = some kl)
  (r ok : Bool) (hr : D.atKey kl (.lit (.bool false)) = .lit (.bool r)) (hok : Maps.has D kl = ok)
  (hK : wpList Tryd.prog ops Q rest (a.put o.dst (.tuple #[.bool r, .bool ok])) w) : wpList Tryd.prog ops Q (o :: rest) a w := by
 refine wpList_lookup_own_ok w hg m x _ hop 3 4 law3 undM (plainElem Tryd.prog 4) (zero4 w) (.lit (.bool false)) [] (plainElem_bool und4 false) b n D hm hown key kl hx hkey fun v ps hv => ?_
 rw [hr] at hv
 rw [bool_inv hv, hok]
 exact hK
theorem goesK_ {P : Program} {ops : Array Oper} {Q : Exit → Act → World → Prop} {oi : Oper} {N : Option Tmp} {a : Act} {w : World} {K : Act → World → Prop} {f : FuncId} {fn : Func} {as_ : Array Operand} {ts : Array TypeId} (hf : P.funcs[f]? = some fn) (hname : (fn.name == "runtime.NumGoroutine") = false) (hb : fn.body.isSome = true) (args caps all : Array Value) (s : Operand)
  (hw : Region.wanted oi (yielded ops a.tmps) = true) (hN : oi.dst = N) (hop : oi.op = .call { callee := .value s, args := as_, argTypes := ts }) (hs : a.eval s = .func (.func f) #[] caps) (hargs : as_.map a.eval = args) (hall : args ++ caps = all)
  (h : Calls P f all w fun e w' => ∃ v, e = .returned v ∧ K (a.put N v) w') : if Region.wanted oi (yielded ops a.tmps) = true then Oper.wp P oi a w K Q else K (a.put N undef) w := by
 subst hall
 refine call_ f (args ++ caps) hw hN ?_ h
 have he := enters_ hf hname hb (args ++ caps) w
 unfold execOp
 simp [hop, resolve, Deferred.ofValue, invoke, hs, hargs, he]
theorem shK (v : Nat) (hv : v < 62) : ∃ J : Int, (wrap64 (2 ^ v) = J ∧ wrap64 (2 ^ min v 64) = J ∧ shl .i64 1 (v : Int) = J) ∧ J = ((2 ^ v : Nat) : Int) := by
 have e := s_one v hv
 have h : (2 : Nat) ^ v < 2 ^ 62 := Nat.pow_lt_pow_right (by omega) hv
 have h2 : wrap64 (2 ^ v) = ((2 ^ v : Nat) : Int) := by
  rw [show ((2 : Int) ^ v) = ((2 ^ v : Nat) : Int) by simp]
  generalize 2 ^ v = x at *
  exact w64_small _ (by omega) (by omega)
 exact ⟨_, ⟨h2, by rw [Nat.min_eq_left (by omega)]; exact h2, e⟩, rfl⟩
end Go.Proofs.YtoffehihicabcaaDoor.X
end
section
namespace Go.Proofs.YtoffehihicabcaaDoor.X
open Go.RowKit YtoffehihicabcaaDoorW.PrintWords YtoffehihicabcaaDoorW.PrintLast YtoffehihicabcaaDoorW.PrintMore
attribute [local go_sem] max2_int min2_int max_two min_two max_three min_three max_four min_four
noncomputable section
end
noncomputable section
end
noncomputable section
end
end Go.Proofs.YtoffehihicabcaaDoor.X
end
section
namespace Go.Proofs.YtoffehihicabcaaDoor.X
open Go.RowKit YtoffehihicabcaaDoorW.PrintWords YtoffehihicabcaaDoorW.PrintLast YtoffehihicabcaaDoorW.PrintMore YtoffehihicabcaaDoor.T
theorem nodes_all : ∀ x : Fin 512, width_nodes.f 12 (x.val : Int) = some (gi (els x.val 9)) := by decide +kernel
theorem nodes_ev (x : Nat) (hx : x < 512) : Ev (fun k => width_nodes.f k (x : Int)) (gi (els x 9)) :=
 Ev.of (width_nodes.mono _) (nodes_all ⟨x, hx⟩)
theorem count_all : ∀ x : Fin 512, width_count.f (x.val : Int) = some (pc x.val 9 : Int) := by decide +kernel
theorem count_eq (x : Nat) (hx : x < 512) : width_count.f (x : Int) = some (pc x 9 : Int) := count_all ⟨x, hx⟩
theorem small (G : List Nat) (h : G.length ≤ 9) {x : Nat} (hx : x < 2 ^ G.length) : x < 512 := Nat.lt_of_lt_of_le hx (show 2 ^ G.length ≤ 2 ^ 9 from Nat.pow_le_pow_right (by omega) h)
theorem big {x : Nat} (h : x < 512) : x < 2 ^ 62 := by omega
theorem around_l0 (G : List Nat) (hG : Gr 9 G) (L : List Nat) (hL : ∀ x ∈ L, x < G.length) (hLl : L.length ≤ 100) : ∀ d i (o : Nat), i + d = L.length → o < 2 ^ G.length →
  ∃ r : Nat, Ev (fun k => width_town_around.l0 k (gi G) (o : Int) (gi L) (L.length : Int) (i : Int)) (r : Int) ∧ r < 2 ^ G.length ∧ ∀ j, bset r j ↔ bset o j ∨ ∃ x, x ∈ L.drop i ∧ Adj G x j := by
 intro d
 induction d with
 | zero =>
  intro i o hi ho
  refine ⟨o, Ev.step (f := fun _ => some (o : Int)) (fun k => ?_) (Ev.some rfl), ho, fun j => ?_⟩
  ·rw [width_town_around.l0, if_neg (by omega)]
  ·rw [List.drop_eq_nil_of_le (by omega)]; simp
 | succ d ih =>
  intro i o hi ho
  have hi' : i < L.length := by omega
  have hm := hL _ (List.getElem_mem hi')
  have hr : rd (gi L) (i : Int) = ((L[i] : Nat) : Int) := by rw [rd_gi, List.getD_eq_getElem?_getD, List.getElem?_eq_getElem hi']; rfl
  have hrow := hG.row L[i]
  have ho2 : o ||| G.getD L[i] 0 < 2 ^ G.length := or_lt ho hrow
  obtain ⟨r, h1, h2, h3⟩ := ih (i + 1) (o ||| G.getD L[i] 0) (by omega) ho2
  refine ⟨r, Ev.step (fun k => ?_) h1, h2, fun j => ?_⟩
  ·rw [width_town_around.l0, if_pos (by omega), if_pos (by omega), if_pos (by rw [gi_length]; omega), hr, if_pos (by omega), if_pos (by rw [gi_length]; omega), rd_gi,
    b_or _ _ (big (small G hG.most ho)) (big (small G hG.most hrow)), wrap_succ i (by omega)]
  ·rw [h3, or_bset, List.drop_eq_getElem_cons hi']
   constructor
   ·rintro ((h | h) | ⟨x, hx, ha⟩)
    ·exact .inl h
    ·exact .inr ⟨_, List.mem_cons_self, h⟩
    ·exact .inr ⟨x, List.mem_cons_of_mem _ hx, ha⟩
   ·rintro (h | ⟨x, hx, ha⟩)
    ·exact .inl (.inl h)
    ·rcases List.mem_cons.1 hx with h | h
     ·subst h; exact .inl (.inr ha)
     ·exact .inr ⟨x, h, ha⟩
theorem around_ev (G : List Nat) (hG : Gr 9 G) (s : Nat) (hs : s < 2 ^ G.length) : Ev (fun k => width_town_around.f k (gi G) (s : Int)) ((Around G s : Nat) : Int) := by
 have hs5 := small G hG.most hs
 obtain ⟨r, h1, h2, h3⟩ := around_l0 G hG (els s 9) (fun x hx => bit_lt hs (mem_els.1 hx).2) (by rw [els_length]; have := pc_le s 9; omega) (els s 9).length 0 0 (by omega) (Nat.two_pow_pos _)
 have e : r = Around G s := eq_of_bits fun j => by
  have hh := h3 j
  rw [Around_bit hG]
  unfold bset at hh
  rw [hh]
  constructor
  ·rintro (h | ⟨x, hx, ha⟩)
   ·simp at h
   ·exact ⟨x, (mem_els.1 hx).2, ha⟩
  ·rintro ⟨x, hx, ha⟩
   exact .inr ⟨x, mem_els.2 ⟨Nat.lt_of_lt_of_le (bit_lt hs hx) hG.most, hx⟩, ha⟩
 subst e
 refine Ev.bind (nodes_ev s hs5) ?_
 rw [gi_length]
 exact h1
theorem part_l0 (G : List Nat) (hG : Gr 9 G) (s w : Nat) (hs : s < 2 ^ G.length) (hw : w < 2 ^ G.length) : ∀ d x, 2 ^ G.length - x = d → x < 2 ^ G.length → (∀ j, bset s j → bset x j) → (∀ j, bset x j → Con (Adj G) (bset w) (bset s) j) →
  Ev (fun k => width_town_part.l0 k (gi G) (x : Int) (w : Int)) ((conset G s w : Nat) : Int) := by
 intro d
 induction d using Nat.strongRecOn with
 | _ d ih =>
  intro x hd hx h1 h2
  have hA := Around_lt hG x
  have hb : Go.bits .or .i64 (x : Int) (Go.bits .and .i64 ((Around G x : Nat) : Int) (w : Int)) = ((x ||| (Around G x &&& w) : Nat) : Int) := by
   rw [b_and _ _ (big (small G hG.most hA)) (big (small G hG.most hw)), b_or _ _ (big (small G hG.most hx)) (Nat.lt_of_le_of_lt Nat.and_le_left (big (small G hG.most hA)))]
  have hy : x ||| (Around G x &&& w) < 2 ^ G.length := or_lt hx (Nat.lt_of_le_of_lt Nat.and_le_left hA)
  refine Ev.step (fun k => by rw [width_town_part.l0]) (Ev.bind (around_ev G hG x hx) ?_)
  simp only [hb]
  by_cases e : x ||| (Around G x &&& w) = x
  ·refine Ev.if_pos (by rw [e]) (Ev.some ?_)
   congr 1
   refine conset_eq hG hs hx h1 h2 fun i j hi ha hj => ?_
   rw [← e, or_bset, and_bset]
   exact .inr ⟨(Around_bit hG x j).2 ⟨i, hi, ha⟩, hj⟩
  ·refine Ev.if_neg (by omega) ?_
   have hle : x ≤ x ||| (Around G x &&& w) := Nat.left_le_or
   refine ih (2 ^ G.length - (x ||| (Around G x &&& w))) (by omega) _ rfl hy (fun j hj => (or_bset _ _ _).2 (.inl (h1 j hj))) fun j hj => ?_
   rcases (or_bset _ _ _).1 hj with h | h
   ·exact h2 j h
   ·obtain ⟨ha, hw'⟩ := (and_bset _ _ _).1 h
    obtain ⟨i, hi, hij⟩ := (Around_bit hG x j).1 ha
    exact .step (h2 i hi) hij hw'
theorem part_ev (G : List Nat) (hG : Gr 9 G) (s w : Nat) (hs : s < 2 ^ G.length) (hw : w < 2 ^ G.length) : Ev (fun k => width_town_part.f k (gi G) (s : Int) (w : Int)) ((conset G s w : Nat) : Int) :=
 part_l0 G hG s w hs hw _ s rfl hs (fun _ h => h) (fun _ h => .base h)
theorem degree_ev (G : List Nat) (hG : Gr 9 G) (gone v : Nat) (hg : gone < 2 ^ G.length) (hv : v < G.length) :
  Ev (fun k => width_town_degree.f k (gi G) (v : Int) (gone : Int)) ((pc (nbset G gone v) 9 : Nat) : Int) := by
 have hp : 2 ^ v < 2 ^ G.length := Nat.pow_lt_pow_right (by omega) hv
 have hn := hG.most
 have hc := conset_lt G (2 ^ v) (gone ||| 2 ^ v)
 have hA := Around_lt hG (conset G (2 ^ v) (gone ||| 2 ^ v))
 have hd : diff (Around G (conset G (2 ^ v) (gone ||| 2 ^ v))) gone < 2 ^ G.length := Nat.lt_of_le_of_lt (diff_le _ _) hA
 unfold width_town_degree.f
 refine Ev.if_pos (by omega) ?_
 simp only [s_one v (by omega), b_or gone (2 ^ v) (big (small G hn hg)) (big (small G hn hp))]
 refine Ev.bind (part_ev G hG _ _ hp (or_lt hg hp)) ?_
 refine Ev.bind (around_ev G hG _ hc) ?_
 simp only [b_andNot _ gone (big (small G hn hA)) (big (small G hn hg)), b_andNot _ (2 ^ v) (big (small G hn hd)) (big (small G hn hp))]
 exact Ev.bind1 (count_eq _ (small G hn (nbset_lt hG gone v))) (Ev.some rfl)
theorem all_eq (G : List Nat) (h : G.length ≤ 9) : width_town_all.f (gi G) = some ((2 ^ G.length - 1 : Nat) : Int) := by
 unfold width_town_all.f
 have h1 : 2 ^ G.length ≤ 2 ^ 9 := Nat.pow_le_pow_right (by omega) h
 have h2 := Nat.two_pow_pos G.length
 rw [gi_length, s_one _ (by omega), w64_small _ (by omega) (by omega)]
 congr 1
 omega
def cycB (P : List Int) : Nat → Int → Bool
 | 0, at_ => decide (0 ≤ at_)
 | d + 1, at_ => if at_ < 0 then false else cycB P d (rd P at_)
def InP (P : List Int) : Prop := ∀ i, i < P.length → -1 ≤ rd P (i : Int) ∧ rd P (i : Int) < (P.length : Int)
def bothB (u v : Nat) (b : Int) : Bool := b.toNat.testBit u && b.toNat.testBit v
def bitI (x : Int) (v : Nat) : Bool := x.toNat.testBit v
def tl1 (B P : List Int) (n all_ : Nat) : Nat → Nat → Nat → Nat → Option (Nat × Nat)
 | 0, _, ro, ac => some (ro, ac)
 | d + 1, i, ro, ac => if rd P (i : Int) < -1 then none else if (n : Int) ≤ rd P (i : Int) then none else if rd B (i : Int) < 0 then none else if (all_ : Int) < rd B (i : Int) then none else tl1 B P n all_ d (i + 1) (if rd P (i : Int) < 0 then ro + 1 else ro) (ac ||| (rd B (i : Int)).toNat)
def topsF (B P : List Int) (v : Nat) : Nat → Nat → Nat → Nat
 | 0, _, t => t
 | d + 1, i, t => topsF B P v d (i + 1) (if bitI (rd B (i : Int)) v && (decide (rd P (i : Int) < 0) || !bitI (rd B (rd P (i : Int))) v) then t + 1 else t)
def nbF (B : List Int) (v : Nat) : List Nat → Bool
 | [] => true
 | u :: us => B.any (bothB u v) && nbF B v us
def tl2 (G : List Nat) (B P : List Int) : Nat → Nat → Bool
 | 0, _ => true
 | d + 1, v => if topsF B P v B.length 0 0 = 1 then nbF B v (els (G.getD v 0) 9) && tl2 G B P d (v + 1) else false
def treeB2 (G : List Nat) (B P : List Int) : Option (Nat × Nat) → Bool
 | none => false
 | some r => if r.1 = 1 then if r.2 = 2 ^ G.length - 1 then if P.any (cycB P P.length) then false else tl2 G B P G.length 0 else false else false
def treeB (G : List Nat) (B P : List Int) : Bool := if B.length < 1 then false else if 30 < B.length then false else if P.length = B.length then treeB2 G B P (tl1 B P B.length (2 ^ G.length - 1) B.length 0 0 0) else false
theorem tl1_ok (B P : List Int) (n all_ : Nat) : ∀ (d i ro ac : Nat) (r : Nat × Nat), tl1 B P n all_ d i ro ac = some r → ∀ j, i ≤ j → j < i + d → -1 ≤ rd P (j : Int) ∧ rd P (j : Int) < (n : Int) ∧ 0 ≤ rd B (j : Int) ∧ rd B (j : Int) ≤ (all_ : Int)
 | 0, i, _, _, _, _, j, h1, h2 => by omega
 | d + 1, i, ro, ac, r, h, j, h1, h2 => by
  simp only [tl1] at h
  split at h
  ·cases h
  ·split at h
   ·cases h
   ·split at h
    ·cases h
    ·split at h
     ·cases h
     ·by_cases e : j = i
      ·subst e; omega
      ·exact tl1_ok B P n all_ d (i + 1) _ _ r h j (by omega) (by omega)
end Go.Proofs.YtoffehihicabcaaDoor.X
end
