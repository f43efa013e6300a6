/- Part 2 of what WidthCliques rests on: contracts of the functions that it reaches, and what they compute, in plain words. -/
import Derived.Test.YtoffehihicabcaaDoorZWidthCliques0
import Derived.Test.YtoffehihicabcaaDoorZWidthCliques1
import Derived.WalkSpells
set_option linter.unusedVariables false
set_option linter.unusedSimpArgs false
section
namespace Go.Proofs.YtoffehihicabcaaDoor.X
open Go.RowKit YtoffehihicabcaaDoorW.PrintWords YtoffehihicabcaaDoorW.PrintLast YtoffehihicabcaaDoorW.PrintMore
attribute [local go_sem] max2_int min2_int max_two min_two max_three min_three max_four min_four
noncomputable section
mutual
def width_town_decompose.l0 : Nat → List Int → List Int → Int → List Int → Int → Int → List Int → List Int → Option (List Int × List Int)
 | 0, _, _, _, _, _, _, _, _ => none
 | k + 1, x0, x3, x5, x13, x14, x15, x565000, x565001 => if x15 < x14 then (if 0 ≤ x15 then (if x15 < (x13.length : Int) then (if 0 ≤ (rd x13 x15) then ((width_town_part.f k x0 (shl .i64 1 (rd x13 x15)) (Go.bits .or .i64 x5 (shl .i64 1 (rd x13 x15)))).bind fun t566 => ((width_town_around.f k x0 t566).bind fun t567 => (if x565000.length < 17592186044416 then (width_town_decompose.l1 k x0 x3 (Go.bits .or .i64 x5 (shl .i64 1 (rd x13 x15))) (Go.bits .andNot .i64 (Go.bits .andNot .i64 t567 x5) (shl .i64 1 (rd x13 x15))) (wrap64 (x15 + 1)) (wrap64 (x15 + 1)) x13 x14 x15 (x565000 ++ [Go.bits .or .i64 (Go.bits .andNot .i64 (Go.bits .andNot .i64 t567 x5) (shl .i64 1 (rd x13 x15))) (shl .i64 1 (rd x13 x15))]) x565001) else (none)))) else (none)) else (none)) else (none)) else (some (x565000, x565001))
def width_town_decompose.l1 : Nat → List Int → List Int → Int → Int → Int → Int → List Int → Int → Int → List Int → List Int → Option (List Int × List Int)
 | 0, _, _, _, _, _, _, _, _, _, _, _ => none
 | k + 1, x0, x3, x5, x8, x9, x10, x13, x14, x15, x565000, x565001 => if x10 < (x3.length : Int) then (if 0 ≤ x10 then (if 0 ≤ (rd x3 x10) then (if (Go.bits .and .i64 (shr .i64 x8 (rd x3 x10)) 1) = 1 then (if x10 = (x3.length : Int) then (if x565001.length < 17592186044416 then (width_town_decompose.l0 k x0 x3 x5 x13 x14 (wrap64 (x15 + 1)) x565000 (x565001 ++ [(-1)])) else (none)) else (if x565001.length < 17592186044416 then (width_town_decompose.l0 k x0 x3 x5 x13 x14 (wrap64 (x15 + 1)) x565000 (x565001 ++ [x10])) else (none))) else (width_town_decompose.l1 k x0 x3 x5 x8 x9 (wrap64 (x10 + 1)) x13 x14 x15 x565000 x565001)) else (none)) else (none)) else (if x9 = (x3.length : Int) then (if x565001.length < 17592186044416 then (width_town_decompose.l0 k x0 x3 x5 x13 x14 (wrap64 (x15 + 1)) x565000 (x565001 ++ [(-1)])) else (none)) else (if x565001.length < 17592186044416 then (width_town_decompose.l0 k x0 x3 x5 x13 x14 (wrap64 (x15 + 1)) x565000 (x565001 ++ [x9])) else (none)))
end
def width_town_decompose.f (k : Nat) (l0 : List Int) : Option (List Int × List Int) := (width_town_order.f l0).bind fun t561 => (width_town_decompose.l0 k l0 t561 0 t561 (t561.length : Int) 0 ([] : List Int) ([] : List Int))
def width_town_decompose.T7 : Bool × List (List Nat × List Nat) := (true, [([], []), ([], []), ([], []), ([2], [2]), ([], []), ([], []), ([5], [5]), ([4, 6], [4, 6]), ([1, 3, 7], [1, 3, 7]), ([0, 8, 8], [0, 8]), ([], []), ([9, 10], [9, 10]), ([], []), ([12], [12]), ([11, 13], [11, 13]), ([14, 9, 0, 1, 2, 3, 4, 5, 6, 7, 8, 9, 10, 11, 12, 13, 14], [14])])
def width_town_decompose.B7 : List Nat := [0, 0, 0, 4, 0, 0, 32, 112, 254, 511, 0, 2047, 0, 4096, 16383, 32767]
theorem width_town_decompose.tab7 : rtab .any (opsOf Tryd.f83 7) = width_town_decompose.T7 := by kernel_rfl
theorem width_town_decompose.bits7 : waitsOk width_town_decompose.T7.2 width_town_decompose.B7 = true := by kernel_rfl
def width_town_decompose.T9 : Bool × List (List Nat × List Nat) := (true, [([], []), ([0], [0]), ([], []), ([], []), ([3], [3]), ([2, 4], [2, 4]), ([5], [5]), ([1, 6], [1, 6]), ([0, 1, 2, 3, 4, 5, 6, 7], []), ([8, 7, 7, 0, 1, 2, 3, 4, 5, 6, 7], [7, 8])])
def width_town_decompose.B9 : List Nat := [0, 1, 0, 0, 8, 28, 60, 127, 255, 511]
theorem width_town_decompose.tab9 : rtab .any (opsOf Tryd.f83 9) = width_town_decompose.T9 := by kernel_rfl
theorem width_town_decompose.bits9 : waitsOk width_town_decompose.T9.2 width_town_decompose.B9 = true := by kernel_rfl
set_option maxHeartbeats 8000000 in
set_option maxRecDepth 100000 in
theorem width_town_decompose.calls (k : Nat) (A0 : Option Addr) (c0 : Nat) (l0 : List Int) (r1 : List Int) (r2 : List Int) (w : World) (hGL : GL w) (hr0 : Kd.C (Kd.int .i64) w A0 l0.length l0) (hc0 : l0.length ≤ c0) (h : width_town_decompose.f k l0 = some (r1, r2)) :
  Calls Tryd.prog 83 #[.slice A0 l0.length c0] w fun e w' => ∃ v0_ v1_ : Value, e = .returned (.agg #[v0_, v1_]) ∧ Kd.R (Kd.int .i64) 3 w' w.heap.size (fun k_ => some k_ ≠ (v1_ : Value).ownBlock) v0_ r1 ∧ Kd.R (Kd.int .i64) 3 w' w.heap.size (fun k_ => some k_ ≠ (v0_ : Value).ownBlock) v1_ r2 ∧ Below w.heap.size w w' := by
 have HGL := Aside0.mk hGL
 clear hGL
 have hu53 := Tryd.underlying53
 have HR0 := Aside0.mk hr0
 have HC0 := Aside0.mk hc0
 clear hr0 hc0
 have HB := Aside0.mk (Below.refl w.heap.size w)
 have H : ((width_town_order.f l0).bind fun t561 => (width_town_decompose.l0 k l0 t561 0 t561 (t561.length : Int) 0 ([] : List Int) ([] : List Int))) = some (r1, r2) := h
 clear h
 replace H := Option.bind_eq_some_iff.mp H
 obtain ⟨t561, A20, H⟩ := H
 replace H : (width_town_decompose.l0 k l0 t561 0 t561 (t561.length : Int) 0 ([] : List Int) ([] : List Int)) = some (r1, r2) := H
 have A2 := Aside0.mk A20
 clear A20
 have H' := Aside0.mk H
 clear H
 go_enter Tryd.func83, Tryd.ntmps83
 go_wp2_with (first | ((with_reducible refine gate_dst (N := 2) rfl ?_); refine box_event ?hg (N := 2) ?hd (cs := #[.slice none 0 0, .slice none 0 0]) (t := 53) ?hr ?_; (case hd => rfl); (case hg => rfl); (case hr => first | (go_simp; done) | (go_simp; rfl)); intro gb560 hg w3 hbox hb; have n0_ := Aside0.mk (below_step (Qaw) hb); have n1_ := Aside0.mk (hbox); have n2_ := Aside0.mk ((by rw [hg]; exact (below_size (Qaw)) : w.heap.size ≤ gb560)); have n3_ := Aside0.mk ((by rw [hg]; exact (below_size (Qaw)) : w.heap.size ≤ gb560)); clear HB; have HB := n0_; have BK560 := n1_; have GW560 := n2_; have GE560 := n3_; clear n0_ n1_ n2_ n3_; clear hb hbox hg) | ((with_reducible refine gate_callee (f := 73) rfl ?_); refine goesL_ (some 12) rfl rfl Tryd.func73 (by kernel_rfl) rfl #[.slice A0 l0.length c0] rfl (Qls) ?_; (with_reducible refine (width_town_order.calls (hGL := (Qlg)) _ _ l0 t561 _ ?side1 ?side2 A2.out).mono ?_); (case side1 => exact Qsc (Kd.C_below HR0.out HB.out)); (case side2 => exact HC0.out); rintro e w4 ⟨v562, rfl, ho0, hb⟩; refine ⟨_, rfl, ?_⟩; have n0_ := Aside0.mk (Kd.R_lower ho0 (below_size (Qag GE560.out))); have n1_ := Aside0.mk (blk_below (g := gb560) (o := .cells #[.slice none 0 0, .slice none 0 0] 53 (0, 0)) (Qbl BK560.out) hb); have n2_ := Aside0.mk (below_step (Qag GE560.out) hb); clear BK560; clear HB; have HO563 := n0_; have BK560 := n1_; have HB := n2_; clear n0_ n1_ n2_; (try clear hb); (try clear hb2); (try clear hk); (try clear hi); (try clear ho0)) | ((with_reducible refine gate_dst (N := 4) rfl ?_); refine box_event ?hg (N := 4) ?hd (cs := #[.slice none 0 0, .slice none 0 0]) (t := 53) ?hr ?_; (case hd => rfl); (case hg => rfl); (case hr => first | (go_simp; done) | (go_simp; rfl)); intro gb564 hg w5 hbox hb; have n0_ := Aside0.mk (Kd.R_below (Qro HO563.out) hb); have n1_ := Aside0.mk (blk_below (g := gb560) (o := .cells #[.slice none 0 0, .slice none 0 0] 53 (0, 0)) (Qbl BK560.out) hb); have n2_ := Aside0.mk (below_step (Qag GE560.out) hb); have n3_ := Aside0.mk (hbox); have n4_ := Aside0.mk ((by rw [hg]; exact (below_size (Qag GE560.out)) : w.heap.size ≤ gb564)); have n5_ := Aside0.mk ((by rw [hg]; exact (below_size (Qag GE560.out)) : w.heap.size ≤ gb564)); have n6_ := Aside0.mk ((by rw [hg]; exact Nat.ne_of_lt (blk_lt (g := gb560) (o := .cells #[.slice none 0 0, .slice none 0 0] 53 (0, 0)) (Qbl BK560.out)) : gb560 ≠ gb564)); have n7_ := Aside0.mk ((by rw [hg]; exact Nat.ne_of_gt (blk_lt (g := gb560) (o := .cells #[.slice none 0 0, .slice none 0 0] 53 (0, 0)) (Qbl BK560.out)) : gb564 ≠ gb560)); clear HO563; clear BK560; clear HB; have HO563 := n0_; have BK560 := n1_; have HB := n2_; have BK564 := n3_; have GW564 := n4_; have GE564 := n5_; have NB560_564 := n6_; have NB564_560 := n7_; clear n0_ n1_ n2_ n3_ n4_ n5_ n6_ n7_; clear hb hbox hg; obtain ⟨Ao6, co6, eo6⟩ := Kd.R_slice HO563.out; subst eo6))
 go_loopg [5, 15] k (fun kq v5 v15 w' => ∃ (x5_1 : Int) (x15_1 : Int) (x565000_1 : List Int) (x565001_1 : List Int) (u565000 : Value) (u565001 : Value), v5 = .int .i64 x5_1 ∧ v15 = .int .i64 x15_1 ∧ Aside0 (width_town_decompose.l0 kq l0 t561 x5_1 t561 (t561.length : Int) x15_1 x565000_1 x565001_1 = some (r1, r2)) ∧ Aside0 (kq ≤ k) ∧ Aside0 (Kd.R (Kd.int .i64) 3 w' w.heap.size (fun k_ => some k_ ≠ (u565000 : Value).ownBlock ∧ some k_ ≠ (u565001 : Value).ownBlock) (.slice Ao6 t561.length co6) t561) ∧ Aside0 (Kd.R (Kd.int .i64) 3 w' w.heap.size (fun k_ => some k_ ≠ (u565000 : Value).ownBlock ∧ some k_ ≠ (u565001 : Value).ownBlock) (.slice Ao6 t561.length co6) t561) ∧ Aside0 (Kd.R (Kd.int .i64) 3 w' w.heap.size (fun k_ => some k_ ≠ ((.slice Ao6 t561.length co6) : Value).ownBlock ∧ some k_ ≠ ((.slice Ao6 t561.length co6) : Value).ownBlock ∧ some k_ ≠ (u565001 : Value).ownBlock) u565000 x565000_1) ∧ Aside0 (Kd.R (Kd.int .i64) 3 w' w.heap.size (fun k_ => some k_ ≠ ((.slice Ao6 t561.length co6) : Value).ownBlock ∧ some k_ ≠ ((.slice Ao6 t561.length co6) : Value).ownBlock ∧ some k_ ≠ (u565000 : Value).ownBlock) u565001 x565001_1) ∧ Aside0 (w'.heap[gb560]? = some (.cells #[(.slice none 0 0), (.slice none 0 0)] 53 (0, 0))) ∧ Aside0 (w'.heap[gb564]? = some (.cells #[u565000, u565001] 53 (0, 0))) ∧ Aside0 (Below w.heap.size w w'))
 case atStart => exact ⟨(0), (0), (([] : List Int)), (([] : List Int)), (.slice none 0 0), (.slice none 0 0), (Qrs), (Qrs), H', ⟨Nat.le_refl _⟩, ⟨by (with_reducible repeat (first | apply Kd.R_alloc | apply Kd.R_drewN | apply Kd.R_drew)); exact Kd.R_mono HO563.out (fun _ hk => ⟨(by simp [Value.ownBlock]), (by simp [Value.ownBlock])⟩)⟩, ⟨by (with_reducible repeat (first | apply Kd.R_alloc | apply Kd.R_drewN | apply Kd.R_drew)); exact Kd.R_mono HO563.out (fun _ hk => ⟨(by simp [Value.ownBlock]), (by simp [Value.ownBlock])⟩)⟩, ⟨by first | exact Kd.R_nil _ _ _ _ _ | exact Kd.N_nil _ _ _ _ _ | exact Kd.V_nil _ _ _ _ _ | exact Kd.Q_nil _ _ _ _ _ | exact Kd.S_nil _ _ _ _ _⟩, ⟨by first | exact Kd.R_nil _ _ _ _ _ | exact Kd.N_nil _ _ _ _ _ | exact Kd.V_nil _ _ _ _ _ | exact Kd.Q_nil _ _ _ _ _ | exact Kd.S_nil _ _ _ _ _⟩, ⟨by (with_reducible repeat (first | refine blk_drewN ?_ _ | refine blk_drew ?_ | refine blk_alloc ?_ _)); exact BK560.out⟩, ⟨by (with_reducible repeat (first | refine blk_drewN ?_ _ | refine blk_drew ?_ | refine blk_alloc ?_ _)); exact BK564.out⟩, ⟨by repeat (first | (with_reducible first | exact HB.out | apply below_alloc | apply pw_below_drewN | apply below_drew1 | refine below_set ?_ GE560.out | refine below_set ?_ GE564.out) | exact HB.out)⟩⟩
 case round =>
  clear H'
  try clear p2
  obtain ⟨x5_1, x15_1, x565000_1, x565001_1, u565000, u565001, rfl, rfl, HA, HK1, HO_3, HO_13, HO_565000, HO_565001, BK560, BK564, HB⟩ := hrel
  cases gk with
  | zero => exact absurd HA.out (by simp [width_town_decompose.l0])
  | succ k1 =>
   have H := HA.out
   clear HA
   simp only [width_town_decompose.l0] at H
   by_cases c7 : x15_1 < (t561.length : Int)
   ·rw [if_pos c7] at H
    have c7b0 : decide (x15_1 < (t561.length : Int)) = true := decide_eq_true c7
    clear c7
    by_cases c8 : 0 ≤ x15_1
    ·rw [if_pos c8] at H
     have c8b0 : decide (0 ≤ x15_1) = true := decide_eq_true c8
     clear c8
     by_cases c9 : x15_1 < (t561.length : Int)
     ·rw [if_pos c9] at H
      have c9b0 : decide (x15_1 < (t561.length : Int)) = true := decide_eq_true c9
      clear c9
      by_cases c10 : 0 ≤ (rd t561 x15_1)
      ·rw [if_pos c10] at H
       have c10b0 := eq_true c10
       have c10b1 : decide (0 ≤ (rd t561 x15_1)) = true := decide_eq_true c10
       clear c10
       obtain ⟨ji11, hji11⟩ : ∃ j_ : Int, (shl .i64 1 (rd t561 x15_1)) = j_ := ⟨_, rfl⟩
       replace H : ((width_town_part.f k1 l0 (ji11) (Go.bits .or .i64 x5_1 (ji11))).bind fun t566 => ((width_town_around.f k1 l0 t566).bind fun t567 => (if x565000_1.length < 17592186044416 then (width_town_decompose.l1 k1 l0 t561 (Go.bits .or .i64 x5_1 (ji11)) (Go.bits .andNot .i64 (Go.bits .andNot .i64 t567 x5_1) (ji11)) (wrap64 (x15_1 + 1)) (wrap64 (x15_1 + 1)) t561 (t561.length : Int) x15_1 (x565000_1 ++ [Go.bits .or .i64 (Go.bits .andNot .i64 (Go.bits .andNot .i64 t567 x5_1) (ji11)) (ji11)]) x565001_1) else (none)))) = some (r1, r2) := by first | (rw [hji11] at H; exact H) | (simp only [hji11] at H ⊢; exact H)
       have hji11_ : (IntKind.i64.wrap (1 * 2 ^ min (rd t561 x15_1).toNat 64)) = ji11 := hji11
       have hji11z : (rd t561 x15_1) ≤ 64 → (IntKind.i64.wrap (1 * 2 ^ (rd t561 x15_1).toNat)) = ji11 := shl_small hji11
       have hji11u : (IntKind.i64.wrap (2 ^ min (rd t561 x15_1).toNat 64)) = ji11 := by have h_ := hji11_; rw [Int.one_mul] at h_; exact h_
       have hji11v : (rd t561 x15_1) ≤ 64 → (IntKind.i64.wrap (2 ^ (rd t561 x15_1).toNat)) = ji11 := fun hle_ => by have h_ := hji11z hle_; rw [Int.one_mul] at h_; exact h_
       have hji11y : (wrap64 (1 * 2 ^ min (rd t561 x15_1).toNat 64)) = ji11 := (i64_w _).symm.trans hji11_
       have hji11x : (rd t561 x15_1) ≤ 64 → (wrap64 (1 * 2 ^ (rd t561 x15_1).toNat)) = ji11 := fun h_ => (i64_w _).symm.trans (hji11z h_)
       have c12b0 := eq_true (of_decide_eq_true (Qas) : 0 ≤ (rd t561 x15_1))
       replace H := Option.bind_eq_some_iff.mp H
       obtain ⟨t566, A130, H⟩ := H
       replace H : ((width_town_around.f k1 l0 t566).bind fun t567 => (if x565000_1.length < 17592186044416 then (width_town_decompose.l1 k1 l0 t561 (Go.bits .or .i64 x5_1 (ji11)) (Go.bits .andNot .i64 (Go.bits .andNot .i64 t567 x5_1) (ji11)) (wrap64 (x15_1 + 1)) (wrap64 (x15_1 + 1)) t561 (t561.length : Int) x15_1 (x565000_1 ++ [Go.bits .or .i64 (Go.bits .andNot .i64 (Go.bits .andNot .i64 t567 x5_1) (ji11)) (ji11)]) x565001_1) else (none))) = some (r1, r2) := H
       have A13 := Aside0.mk A130
       clear A130
       replace H := Option.bind_eq_some_iff.mp H
       obtain ⟨t567, A140, H⟩ := H
       replace H : (if x565000_1.length < 17592186044416 then (width_town_decompose.l1 k1 l0 t561 (Go.bits .or .i64 x5_1 (ji11)) (Go.bits .andNot .i64 (Go.bits .andNot .i64 t567 x5_1) (ji11)) (wrap64 (x15_1 + 1)) (wrap64 (x15_1 + 1)) t561 (t561.length : Int) x15_1 (x565000_1 ++ [Go.bits .or .i64 (Go.bits .andNot .i64 (Go.bits .andNot .i64 t567 x5_1) (ji11)) (ji11)]) x565001_1) else (none)) = some (r1, r2) := H
       have A14 := Aside0.mk A140
       clear A140
       have c15b0 := eq_true (of_decide_eq_true (Qas) : 0 ≤ (rd t561 x15_1))
       have c16b0 := eq_true (of_decide_eq_true (Qas) : 0 ≤ (rd t561 x15_1))
       have c17b0 := eq_true (of_decide_eq_true (Qas) : 0 ≤ (rd t561 x15_1))
       by_cases c18 : x565000_1.length < 17592186044416
       ·rw [if_pos c18] at H
        have LMc18 := Aside0.mk c18
        clear c18
        obtain ⟨y568, hy568⟩ : ∃ y_ : List Int, y_ = (x565000_1 ++ [Go.bits .or .i64 (Go.bits .andNot .i64 (Go.bits .andNot .i64 t567 x5_1) (ji11)) (ji11)]) := ⟨_, rfl⟩
        replace H : (width_town_decompose.l1 k1 l0 t561 (Go.bits .or .i64 x5_1 (ji11)) (Go.bits .andNot .i64 (Go.bits .andNot .i64 t567 x5_1) (ji11)) (wrap64 (x15_1 + 1)) (wrap64 (x15_1 + 1)) t561 (t561.length : Int) x15_1 y568 x565001_1) = some (r1, r2) := by first | (rw [hy568]; with_reducible exact H) | (have H2_ := (Option.bind_some _ _).symm.trans H; rw [hy568]; with_reducible exact H2_) | (have H2_ := (Option.bind_some _ _).symm.trans H; with_reducible exact H2_) | with_reducible exact H | (rw [hy568]; exact H) | exact H
        have Ny568 := Aside0.mk hy568
        clear hy568
        have H' := Aside0.mk H
        clear H
        have p565 : 0 ≤ (x15_1 : Int) := of_decide_eq_true (Qas)
        have q565 : x15_1 < (t561.length : Int) := of_decide_eq_true (Qas)
        obtain ⟨ad565, e565, hx565_0⟩ := Kd.at_int (Kd.R_reads' HO_13.out).2.2 x15_1 p565 q565
        cases e565
        replace p565 := eq_true p565
        replace q565 := eq_true q565
        try go_wp2
        have n0_ := Aside0.mk (Kd.R_drew HO_3.out)
        have n1_ := Aside0.mk (Kd.R_drew HO_13.out)
        have n2_ := Aside0.mk (Kd.R_drew HO_565000.out)
        have n3_ := Aside0.mk (Kd.R_drew HO_565001.out)
        have n4_ := Aside0.mk (blk_drew BK560.out)
        have n5_ := Aside0.mk (blk_drew BK564.out)
        have n6_ := Aside0.mk (below_drew1 HB.out)
        clear HO_3
        clear HO_13
        clear HO_565000
        clear HO_565001
        clear BK560
        clear BK564
        clear HB
        have HO_3 := n0_
        have HO_13 := n1_
        have HO_565000 := n2_
        have HO_565001 := n3_
        have BK560 := n4_
        have BK564 := n5_
        have HB := n6_
        clear n0_ n1_ n2_ n3_ n4_ n5_ n6_
        refine start_ (n := 16) (S := fun w' => True) (ds := []) (Qbz 16 0) (by kernel_rfl) rfl rfl trivial (fun hHeld => ?_); refine with_tabW width_town_decompose.tab7 width_town_decompose.bits7 (fun HT_ HW_ => ?_)
        generalize wr.drew = w19 at HO_3 HO_13 HO_565000 HO_565001 BK560 BK564 HB hHeld ⊢
        refine Qpu 0 20 ?_ ?_ (Qbz 16 1) (Qao) ?_
        refine Qpu 1 21 ?_ ?_ (Qbz 16 3) (Qao) ?_
        refine Qpu 2 22 ?_ ?_ (Qbz 16 7) (Qao) ?_
        refine Qpu 3 23 ?_ ?_ (Qbz 16 15) (Qao) ?_
        refine Qpu 4 24 ?_ ?_ (Qbz 16 31) (Qao) ?_
        refine Qpu 5 25 ?_ ?_ (Qbz 16 63) (Qao) ?_
        refine Qpu 6 26 ?_ ?_ (Qbz 16 127) (Qao) ?_
        refine Qpu 7 27 ?_ ?_ (Qbz 16 255) (Qao) ?_
        refine Qpu 10 30 ?_ ?_ (Qbz 16 1279) (Qao) ?_
        refine Qpu 12 32 ?_ ?_ (Qbz 16 5375) (Qao) ?_
        refine Qpu 13 33 ?_ ?_ (Qbz 16 13567) (Qao) ?_
        refine one_ (i := 8) (N := some 28) (Qbz 16 13823) rfl rfl (one_of HT_.out (by kernel_rfl)) (by decide) (fun K hK => ?_)
        refine goes_ Tryd.func92 (by kernel_rfl) rfl #[.slice A0 l0.length c0, .int .i64 ji11, .int .i64 (Go.bits .or .i64 x5_1 (ji11))] (by rfl) rfl rfl (by (try simp only [List.map_toArray, List.map_cons, List.map_nil]); first | done | (simp only [hji11]; rfl) | rfl | (simp only [List.length_drop, List.length_take]; rfl)) ?_
        with_reducible refine (width_town_part.calls (hGL := (Qlg)) k1 _ _ l0 ji11 (Go.bits .or .i64 x5_1 (ji11)) t566 _ ?side1 ?side2 A13.out).mono ?_
        (case side1 => exact Qsc (Kd.C_below HR0.out HB.out))
        (case side2 => exact HC0.out)
        rintro e w20 ⟨rfl, hb⟩
        refine ⟨_, rfl, ?_⟩
        have n0_ := Aside0.mk (Kd.R_below (Qro HO_3.out) hb)
        have n1_ := Aside0.mk (Kd.R_below (Qro HO_13.out) hb)
        have n2_ := Aside0.mk (Kd.R_below (Qro HO_565000.out) hb)
        have n3_ := Aside0.mk (Kd.R_below (Qro HO_565001.out) hb)
        have n4_ := Aside0.mk (blk_below (g := gb560) (o := .cells #[.slice none 0 0, .slice none 0 0] 53 (0, 0)) (Qbl BK560.out) hb)
        have n5_ := Aside0.mk (blk_below (g := gb564) (o := .cells #[u565000, u565001] 53 (0, 0)) (Qbl BK564.out) hb)
        have n6_ := Aside0.mk (below_step (Qah GE560.out GE564.out) hb)
        clear HO_3
        clear HO_13
        clear HO_565000
        clear HO_565001
        clear BK560
        clear BK564
        clear HB
        have HO_3 := n0_
        have HO_13 := n1_
        have HO_565000 := n2_
        have HO_565001 := n3_
        have BK560 := n4_
        have BK564 := n5_
        have HB := n6_
        clear n0_ n1_ n2_ n3_ n4_ n5_ n6_
        (try clear hb)
        (try clear hb2)
        (try clear hk)
        (try clear hi)
        refine hK.out _ _ trivial (fun hHeld => ?_)
        clear hK K
        refine norm_ (a' := ?_) ?_ ?_
        rotate_left
        ·show Act.put _ (some 28) _ = _
         simp only [Act.put, Qp1, Qp2, Qp3, i64_w, i32_w]
         rfl
        refine one_ (i := 9) (N := some 29) (Qbz 16 14335) rfl rfl (one_of HT_.out (by kernel_rfl)) (by decide) (fun K hK => ?_)
        refine goes_ Tryd.func93 (by kernel_rfl) rfl #[.slice A0 l0.length c0, .int .i64 t566] (by rfl) rfl rfl (Qls) ?_
        with_reducible refine (width_town_around.calls (hGL := (Qlg)) k1 _ _ l0 t566 t567 _ ?side1 ?side2 A14.out).mono ?_
        (case side1 => exact Qsc (Kd.C_below HR0.out HB.out))
        (case side2 => exact HC0.out)
        rintro e w21 ⟨rfl, hb⟩
        refine ⟨_, rfl, ?_⟩
        have n0_ := Aside0.mk (Kd.R_below (Qro HO_3.out) hb)
        have n1_ := Aside0.mk (Kd.R_below (Qro HO_13.out) hb)
        have n2_ := Aside0.mk (Kd.R_below (Qro HO_565000.out) hb)
        have n3_ := Aside0.mk (Kd.R_below (Qro HO_565001.out) hb)
        have n4_ := Aside0.mk (blk_below (g := gb560) (o := .cells #[.slice none 0 0, .slice none 0 0] 53 (0, 0)) (Qbl BK560.out) hb)
        have n5_ := Aside0.mk (blk_below (g := gb564) (o := .cells #[u565000, u565001] 53 (0, 0)) (Qbl BK564.out) hb)
        have n6_ := Aside0.mk (below_step (Qah GE560.out GE564.out) hb)
        clear HO_3
        clear HO_13
        clear HO_565000
        clear HO_565001
        clear BK560
        clear BK564
        clear HB
        have HO_3 := n0_
        have HO_13 := n1_
        have HO_565000 := n2_
        have HO_565001 := n3_
        have BK560 := n4_
        have BK564 := n5_
        have HB := n6_
        clear n0_ n1_ n2_ n3_ n4_ n5_ n6_
        (try clear hb)
        (try clear hb2)
        (try clear hk)
        (try clear hi)
        refine hK.out _ _ trivial (fun hHeld => ?_)
        clear hK K
        refine norm_ (a' := ?_) ?_ ?_
        rotate_left
        ·show Act.put _ (some 29) _ = _
         simp only [Act.put, Qp1, Qp2, Qp3, i64_w, i32_w]
         rfl
        refine Qpu 11 31 ?_ ?_ (Qbz 16 16383) (Qao) ?_
        refine Qpu 14 34 ?_ ?_ (Qbz 16 32767) (Qao) ?_
        refine Qpu 15 8 ?_ ?_ (Qbz 16 65535) (Qao) ?_
        refine done_ (done_of HT_.out (by kernel_rfl)) ?_
        try go_wp2
        have n0_ := Aside0.mk (Kd.R_drew HO_3.out)
        have n1_ := Aside0.mk (Kd.R_drew HO_13.out)
        have n2_ := Aside0.mk (Kd.R_drew HO_565000.out)
        have n3_ := Aside0.mk (Kd.R_drew HO_565001.out)
        have n4_ := Aside0.mk (blk_drew BK560.out)
        have n5_ := Aside0.mk (blk_drew BK564.out)
        have n6_ := Aside0.mk (below_drew1 HB.out)
        clear HO_3
        clear HO_13
        clear HO_565000
        clear HO_565001
        clear BK560
        clear BK564
        clear HB
        have HO_3 := n0_
        have HO_13 := n1_
        have HO_565000 := n2_
        have HO_565001 := n3_
        have BK560 := n4_
        have BK564 := n5_
        have HB := n6_
        clear n0_ n1_ n2_ n3_ n4_ n5_ n6_
        refine start_ (n := 10) (S := fun w' => w'.cell? ⟨gb564, 0, none⟩ = some (u565000) ∧ w'.cell? ⟨gb564, 1, none⟩ = some (u565001)) (ds := [9]) (Qbz 10 0) (by kernel_rfl) rfl rfl ⟨(blk_cell BK564.out 0).trans rfl, (blk_cell BK564.out 1).trans rfl⟩ (fun hHeld => ?_); refine with_tabW width_town_decompose.tab9 width_town_decompose.bits9 (fun HT_ HW_ => ?_)
        generalize w21.drew = w22 at HO_3 HO_13 HO_565000 HO_565001 BK560 BK564 HB hHeld ⊢
        refine Qpu 0 39 ?_ ?_ (Qbz 10 1) (Qao) ?_
        refine Qpu 2 41 ?_ ?_ (Qbz 10 5) (Qao) ?_
        refine Qpu 3 42 ?_ ?_ (Qbz 10 13) (Qao) ?_
        refine Qpu 4 43 ?_ ?_ (Qbz 10 29) (Qao) ?_
        refine Qpu 5 44 ?_ ?_ (Qbz 10 61) (Qao) ?_
        refine take_ (i := 1) (N := some 40) (v := ?_) (a' := ?_) (Qbz 10 63) rfl rfl (take_ofW HT_.out HW_.out (by kernel_rfl)) (fun _ _ _ h => h) (Or.inl ⟨by rfl, ?_⟩) hHeld ?_ ?_;rotate_left;(·rintro w' ⟨s0, s1⟩;go_simp;with_reducible rfl);rotate_left;(·simp only [Act.put, Qp1, Qp2, Qp3, i64_w, i32_w];rfl)
        refine one_ (i := 6) (N := some 45) (Qbz 10 127) rfl rfl (one_of HT_.out (by kernel_rfl)) (by decide) (fun K hK => ?_)
        refine value_ (w1 := ?_) (v := ?_) (by rfl) rfl ?_ ?_
        rotate_left 2
        ·go_simp
         constructor
         ·rfl
         ·rfl
        refine hK.out _ _ ⟨(blk_cell (blk_alloc BK564.out _) 0).trans rfl, (blk_cell (blk_alloc BK564.out _) 1).trans rfl⟩ (fun hHeld => ?_)
        clear hK K
        refine norm_ (a' := ?_) ?_ ?_
        rotate_left
        ·show Act.put _ (some 45) _ = _
         simp only [Act.put, Qp1, Qp2, Qp3, i64_w, i32_w]
         rfl
        refine one_ (i := 7) (N := some 46) (Qbz 10 255) rfl rfl (one_of HT_.out (by kernel_rfl)) (by decide) (fun K hK => ?_)
        refine Kd.R_append_step (Kd.int .i64) (w0 := w) w.heap.size (by rfl) (.tmp 40) (.tmp 45) 22 3 (.int .i64 0) 8 rfl Tryd.underlying22 info3 rfl (by decide) (by omega) u565000 x565000_1 (Go.bits .or .i64 (Go.bits .andNot .i64 (Go.bits .andNot .i64 t567 x5_1) (ji11)) (ji11)) [.int .i64 (Go.bits .or .i64 (Go.bits .andNot .i64 (Go.bits .andNot .i64 t567 x5_1) (ji11)) (ji11))] (fun k_ => some k_ ≠ (.slice (some ad565) t561.length co6 : Value).ownBlock ∧ some k_ ≠ (.slice (some ad565) t561.length co6 : Value).ownBlock ∧ some k_ ≠ (u565001 : Value).ownBlock) (fun _ => False) rfl rfl ?aP (fun _ hk => hk.elim) ?aF ?aO ?aB ?aS ?aL ?_
        (case aP => exact rfl)
        (case aB => exact (Qah GE560.out GE564.out))
        (case aF => exact (fun k_ hk => ⟨Kd.fresh' (Kd.R_lt (Qro HO_3.out)) k_ hk, Kd.fresh' (Kd.R_lt (Qro HO_13.out)) k_ hk, Kd.fresh' (Kd.R_lt (Qro HO_565001.out)) k_ hk⟩))
        (case aO => exact (Qro HO_565000.out))
        (case aS => exact (below_size (Qah GE560.out GE564.out)))
        (case aL => have := LMc18.out; omega)
        intro v569 w23 ho hb hg hat
        rw [← Ny568.out] at ho
        have n0_ := Aside0.mk (Kd.R_after (ok := (fun k_ => some k_ ≠ (u565001 : Value).ownBlock)) (by (with_reducible repeat (first | apply Kd.R_alloc | apply Kd.R_drewN | apply Kd.R_drew)); exact Kd.R_mono HO_3.out (fun _ hk => ⟨hk.2, hk.1⟩)) hg hat)
        have n1_ := Aside0.mk (Kd.R_after (ok := (fun k_ => some k_ ≠ (u565001 : Value).ownBlock)) (by (with_reducible repeat (first | apply Kd.R_alloc | apply Kd.R_drewN | apply Kd.R_drew)); exact Kd.R_mono HO_13.out (fun _ hk => ⟨hk.2, hk.1⟩)) hg hat)
        have n2_ := Aside0.mk (Kd.R_after (ok := (fun k_ => some k_ ≠ (.slice (some ad565) t561.length co6 : Value).ownBlock ∧ some k_ ≠ (.slice (some ad565) t561.length co6 : Value).ownBlock)) (by (with_reducible repeat (first | apply Kd.R_alloc | apply Kd.R_drewN | apply Kd.R_drew)); exact Kd.R_mono HO_565001.out (fun _ hk => ⟨⟨hk.1, hk.2.1⟩, hk.2.2⟩)) hg hat)
        have n3_ := Aside0.mk (blk_grown (g := gb560) (o := .cells #[.slice none 0 0, .slice none 0 0] 53 (0, 0)) (Qbl BK560.out) hg (Kd.R_ne HO_565000.out BK560.out (by decide)))
        have n4_ := Aside0.mk (blk_grown (g := gb564) (o := .cells #[u565000, u565001] 53 (0, 0)) (Qbl BK564.out) hg (Kd.R_ne HO_565000.out BK564.out (by decide)))
        have n5_ := Aside0.mk (hb)
        have n6_ := Aside0.mk (ho)
        clear HO_3
        clear HO_13
        clear HO_565001
        clear BK560
        clear BK564
        clear HB
        clear HO_565000
        have HO_3 := n0_
        have HO_13 := n1_
        have HO_565001 := n2_
        have BK560 := n3_
        have BK564 := n4_
        have HB := n5_
        have HO570 := n6_
        clear n0_ n1_ n2_ n3_ n4_ n5_ n6_
        clear ho hb hg hat
        obtain ⟨Ao24, co24, eo24⟩ := Kd.R_slice HO570.out
        (first | subst eo24 | (injection eo24 with f1_ f2_ f3_; have f4_ := f1_.symm; have f5_ := f3_.symm; clear f1_ f2_ f3_; subst f4_; subst f5_))
        refine hK.out _ _ ⟨(blk_cell BK564.out 0).trans rfl, (blk_cell BK564.out 1).trans rfl⟩ (fun hHeld => ?_)
        clear hK K
        refine norm_ (a' := ?_) ?_ ?_
        rotate_left
        ·show Act.put _ (some 46) _ = _
         simp only [Act.put, Qp1, Qp2, Qp3, i64_w, i32_w]
         rfl
        refine Qpu 8 47 ?_ ?_ (Qbz 10 511) (Qao) ?_
        refine last_ (i := 9) (N := none) (Qbz 10 1023) rfl rfl (one_of HT_.out (by kernel_rfl)) (by decide) (fun K hK => ?_)
        have hs25 : w23.cell? ⟨gb564, 0, none⟩ = some (u565000) := (blk_cell BK564.out 0).trans rfl
        have hfs25 := blk_frozen BK564.out 0
        have hns25_0 := NB560_564.out
        have hms25_0 := NB564_560.out
        refine skip_ (w1 := ?_) (by rfl) rfl ?_ ?_
        rotate_left
        ·go_simp
         rfl
        refine hK.out _ _ ?_
        clear hK K
        refine done_ (done_of HT_.out (by kernel_rfl)) ?_
        try go_wp2
        go_loopg [9, 10] k1 (fun kq v9 v10 w' => ∃ (x9_2 : Int) (x10_2 : Int), v9 = .int .i64 x9_2 ∧ v10 = .int .i64 x10_2 ∧ Aside0 (width_town_decompose.l1 kq l0 t561 (Go.bits .or .i64 x5_1 (ji11)) (Go.bits .andNot .i64 (Go.bits .andNot .i64 t567 x5_1) (ji11)) x9_2 x10_2 t561 (t561.length : Int) x15_1 y568 x565001_1 = some (r1, r2)) ∧ Aside0 (kq ≤ k1) ∧ Aside0 (Kd.R (Kd.int .i64) 3 w' w.heap.size (fun k_ => some k_ ≠ ((.slice Ao24 y568.length co24) : Value).ownBlock ∧ some k_ ≠ (u565001 : Value).ownBlock) (.slice (some ad565) t561.length co6) t561) ∧ Aside0 (Kd.R (Kd.int .i64) 3 w' w.heap.size (fun k_ => some k_ ≠ ((.slice Ao24 y568.length co24) : Value).ownBlock ∧ some k_ ≠ (u565001 : Value).ownBlock) (.slice (some ad565) t561.length co6) t561) ∧ Aside0 (Kd.R (Kd.int .i64) 3 w' w.heap.size (fun k_ => some k_ ≠ ((.slice (some ad565) t561.length co6) : Value).ownBlock ∧ some k_ ≠ ((.slice (some ad565) t561.length co6) : Value).ownBlock ∧ some k_ ≠ (u565001 : Value).ownBlock) (.slice Ao24 y568.length co24) y568) ∧ Aside0 (Kd.R (Kd.int .i64) 3 w' w.heap.size (fun k_ => some k_ ≠ ((.slice (some ad565) t561.length co6) : Value).ownBlock ∧ some k_ ≠ ((.slice (some ad565) t561.length co6) : Value).ownBlock ∧ some k_ ≠ ((.slice Ao24 y568.length co24) : Value).ownBlock) u565001 x565001_1) ∧ Aside0 (w'.heap[gb560]? = some (.cells #[(.slice none 0 0), (.slice none 0 0)] 53 (0, 0))) ∧ Aside0 (w'.heap[gb564]? = some (.cells #[(.slice Ao24 y568.length co24), u565001] 53 (0, 0))) ∧ Aside0 (Below w.heap.size w w'))
        case atStart => exact ⟨(wrap64 (x15_1 + 1)), (wrap64 (x15_1 + 1)), (Qrs), (Qrs), H', ⟨Nat.le_refl _⟩, ⟨by (with_reducible repeat (first | apply Kd.R_alloc | apply Kd.R_drewN | apply Kd.R_drew)); exact Kd.R_mono (Kd.R_far (p := ⟨gb564, 0, none⟩) (Kd.R_types HO_3.out BK564.out (by decide)) (fun _ hk => hk.2) (.slice Ao24 y568.length co24)) (fun _ hk => ⟨hk.1.2, hk.1.1⟩)⟩, ⟨by (with_reducible repeat (first | apply Kd.R_alloc | apply Kd.R_drewN | apply Kd.R_drew)); exact Kd.R_mono (Kd.R_far (p := ⟨gb564, 0, none⟩) (Kd.R_types HO_13.out BK564.out (by decide)) (fun _ hk => hk.2) (.slice Ao24 y568.length co24)) (fun _ hk => ⟨hk.1.2, hk.1.1⟩)⟩, ⟨by (with_reducible repeat (first | apply Kd.R_alloc | apply Kd.R_drewN | apply Kd.R_drew)); exact Kd.R_mono (Kd.R_far (p := ⟨gb564, 0, none⟩) (Kd.R_types HO570.out BK564.out (by decide)) (fun _ hk => hk.2) (.slice Ao24 y568.length co24)) (fun _ hk => ⟨hk.1.1, ⟨hk.1.2.1, hk.1.2.2⟩⟩)⟩, ⟨by (with_reducible repeat (first | apply Kd.R_alloc | apply Kd.R_drewN | apply Kd.R_drew)); exact Kd.R_mono (Kd.R_far (p := ⟨gb564, 0, none⟩) (Kd.R_types HO_565001.out BK564.out (by decide)) (fun _ hk => hk.2) (.slice Ao24 y568.length co24)) (fun _ hk => ⟨hk.1.1.1, ⟨hk.1.1.2, hk.1.2⟩⟩)⟩, ⟨by (with_reducible repeat (first | refine blk_drewN ?_ _ | refine blk_drew ?_ | refine blk_alloc ?_ _)); refine blk_far ?_ NB560_564.out _; (with_reducible repeat (first | refine blk_drewN ?_ _ | refine blk_drew ?_ | refine blk_alloc ?_ _)); exact BK560.out⟩, ⟨by (with_reducible repeat (first | refine blk_drewN ?_ _ | refine blk_drew ?_ | refine blk_alloc ?_ _)); refine blk_put (cs := #[u565000, u565001]) ?_ 0 _ rfl; (with_reducible repeat (first | refine blk_drewN ?_ _ | refine blk_drew ?_ | refine blk_alloc ?_ _)); exact BK564.out⟩, ⟨by repeat (first | (with_reducible first | exact HB.out | apply below_alloc | apply pw_below_drewN | apply below_drew1 | refine below_set ?_ GE560.out | refine below_set ?_ GE564.out) | exact HB.out)⟩⟩
        case round =>
         clear H'
         try clear c1
         try clear p2
         try clear p5
         try clear q5
         try clear hx5
         try clear p6
         try clear c7
         try clear c7b0
         try clear c8
         try clear c8b0
         try clear c9
         try clear c9b0
         try clear c10
         try clear c10b0
         try clear c10b1
         try clear c12
         try clear c12b0
         try clear c15
         try clear c15b0
         try clear c16
         try clear c16b0
         try clear c17
         try clear c17b0
         try clear c18
         try clear hx565_0
         try clear p2
         try clear p565
         try clear q565
         obtain ⟨x9_2, x10_2, rfl, rfl, HA, HK2, HO_3, HO_13, HO_565000, HO_565001, BK560, BK564, HB⟩ := hrel
         cases gk with
         | zero => exact absurd HA.out (by simp [width_town_decompose.l1])
         | succ k2 =>
          have H := HA.out
          clear HA
          simp only [width_town_decompose.l1] at H
          by_cases c26 : x10_2 < (t561.length : Int)
          ·rw [if_pos c26] at H
           have c26b0 : decide (x10_2 < (t561.length : Int)) = true := decide_eq_true c26
           clear c26
           by_cases c27 : 0 ≤ x10_2
           ·rw [if_pos c27] at H
            have c27b0 : decide (0 ≤ x10_2) = true := decide_eq_true c27
            clear c27
            by_cases c28 : 0 ≤ (rd t561 x10_2)
            ·rw [if_pos c28] at H
             have c28b0 := eq_true c28
             have c28b1 : decide (0 ≤ (rd t561 x10_2)) = true := decide_eq_true c28
             clear c28
             obtain ⟨ji29, hji29⟩ : ∃ j_ : Int, (shr .i64 (Go.bits .andNot .i64 (Go.bits .andNot .i64 t567 x5_1) (ji11)) (rd t561 x10_2)) = j_ := ⟨_, rfl⟩
             replace H : (if (Go.bits .and .i64 (ji29) 1) = 1 then (if x10_2 = (t561.length : Int) then (if x565001_1.length < 17592186044416 then (width_town_decompose.l0 k2 l0 t561 (Go.bits .or .i64 x5_1 (ji11)) t561 (t561.length : Int) (wrap64 (x15_1 + 1)) y568 (x565001_1 ++ [(-1)])) else (none)) else (if x565001_1.length < 17592186044416 then (width_town_decompose.l0 k2 l0 t561 (Go.bits .or .i64 x5_1 (ji11)) t561 (t561.length : Int) (wrap64 (x15_1 + 1)) y568 (x565001_1 ++ [x10_2])) else (none))) else (width_town_decompose.l1 k2 l0 t561 (Go.bits .or .i64 x5_1 (ji11)) (Go.bits .andNot .i64 (Go.bits .andNot .i64 t567 x5_1) (ji11)) x9_2 (wrap64 (x10_2 + 1)) t561 (t561.length : Int) x15_1 y568 x565001_1)) = some (r1, r2) := by first | (rw [hji29] at H; exact H) | (simp only [hji29] at H ⊢; exact H)
             have hji29_ : ((Go.bits .andNot .i64 (Go.bits .andNot .i64 t567 x5_1) (ji11)) / 2 ^ min (rd t561 x10_2).toNat 64) = ji29 := hji29
             have hji29z : (rd t561 x10_2) ≤ 64 → ((Go.bits .andNot .i64 (Go.bits .andNot .i64 t567 x5_1) (ji11)) / 2 ^ (rd t561 x10_2).toNat) = ji29 := shr_small hji29
             by_cases c30 : (Go.bits .and .i64 (ji29) 1) = 1
             ·rw [if_pos c30] at H
              have c30b0 : ((Go.bits .and .i64 (ji29) 1) == 1) = true := beq_iff_eq.mpr c30
              have c30b1 : ((Go.bits .and .i64 (ji29) 1) != 1) = false := bne_eq_false_iff_eq.mpr c30
              clear c30
              by_cases c31 : x10_2 = (t561.length : Int)
              ·rw [if_pos c31] at H
               have c31b0 : (x10_2 == (t561.length : Int)) = true := beq_iff_eq.mpr c31
               have c31b1 : (x10_2 != (t561.length : Int)) = false := bne_eq_false_iff_eq.mpr c31
               clear c31
               by_cases c32 : x565001_1.length < 17592186044416
               ·rw [if_pos c32] at H
                have LMc32 := Aside0.mk c32
                clear c32
                obtain ⟨y572, hy572⟩ : ∃ y_ : List Int, y_ = (x565001_1 ++ [(-1)]) := ⟨_, rfl⟩
                replace H : (width_town_decompose.l0 k2 l0 t561 (Go.bits .or .i64 x5_1 (ji11)) t561 (t561.length : Int) (wrap64 (x15_1 + 1)) y568 y572) = some (r1, r2) := by first | (rw [hy572]; with_reducible exact H) | (have H2_ := (Option.bind_some _ _).symm.trans H; rw [hy572]; with_reducible exact H2_) | (have H2_ := (Option.bind_some _ _).symm.trans H; with_reducible exact H2_) | with_reducible exact H | (rw [hy572]; exact H) | exact H
                have Ny572 := Aside0.mk hy572
                clear hy572
                have H' := Aside0.mk H
                clear H
                have p571 : 0 ≤ (x10_2 : Int) := of_decide_eq_true (Qas)
                have q571 : x10_2 < (t561.length : Int) := of_decide_eq_true (Qas)
                obtain ⟨ad571, e571, hx571_0⟩ := Kd.at_int (Kd.R_reads' HO_3.out).2.2 x10_2 p571 q571
                obtain rfl : ad565 = ad571 := (by injection e571)
                replace p571 := eq_true p571
                replace q571 := eq_true q571
                have hnb33 := NB564_560.out
                have hnc33 := NB560_564.out
                have hcz34_0 : wr.cell? ⟨gb564, 0, none⟩ = some (.slice Ao24 y568.length co24) := (blk_cell BK564.out 0).trans rfl
                have hcz34_1 : wr.cell? ⟨gb564, 1, none⟩ = some (u565001) := (blk_cell BK564.out 1).trans rfl
                have hfz34_0 := blk_frozen BK564.out 0
                have hfz34_1 := blk_frozen BK564.out 1
                go_wp2_with (first | ((with_reducible refine gate_builtin (b := .append) (xs := #[.tmp 72, .tmp 74]) rfl ?_); at_builtin; refine Kd.R_append (Kd.int .i64) (w0 := w) w.heap.size rfl (.tmp 72) (.tmp 74) 22 3 (.int .i64 0) 8 rfl Tryd.underlying22 info3 rfl (by decide) (by omega) u565001 x565001_1 (-1) [.int .i64 (-1)] (fun k_ => some k_ ≠ (.slice (some ad565) t561.length co6 : Value).ownBlock ∧ some k_ ≠ (.slice (some ad565) t561.length co6 : Value).ownBlock ∧ some k_ ≠ (.slice Ao24 y568.length co24 : Value).ownBlock) (fun _ => False) rfl rfl ?aP (fun _ hk => hk.elim) ?aF ?aO ?aB ?aS ?aL ?_; (case aP => exact rfl); (case aB => exact (Qah GE560.out GE564.out)); (case aF => exact (fun k_ hk => ⟨Kd.fresh' (Kd.R_lt (Qro HO_3.out)) k_ hk, Kd.fresh' (Kd.R_lt (Qro HO_13.out)) k_ hk, Kd.fresh' (Kd.R_lt (Qro HO_565000.out)) k_ hk⟩)); (case aO => exact (Qro HO_565001.out)); (case aS => exact (below_size (Qah GE560.out GE564.out))); (case aL => have := LMc32.out; omega); intro v573 w35 ho hb hg hat; rw [← Ny572.out] at ho; have n0_ := Aside0.mk (Kd.R_after (ok := (fun k_ => some k_ ≠ (.slice Ao24 y568.length co24 : Value).ownBlock)) (Qro HO_3.out) hg hat); have n1_ := Aside0.mk (Kd.R_after (ok := (fun k_ => some k_ ≠ (.slice Ao24 y568.length co24 : Value).ownBlock)) (Qro HO_13.out) hg hat); have n2_ := Aside0.mk (Kd.R_after (ok := (fun k_ => some k_ ≠ (.slice (some ad565) t561.length co6 : Value).ownBlock ∧ some k_ ≠ (.slice (some ad565) t561.length co6 : Value).ownBlock)) (by (with_reducible repeat (first | apply Kd.R_alloc | apply Kd.R_drewN | apply Kd.R_drew)); exact Kd.R_mono HO_565000.out (fun _ hk => ⟨⟨hk.1, hk.2.1⟩, hk.2.2⟩)) hg hat); have n3_ := Aside0.mk (blk_grown (g := gb560) (o := .cells #[.slice none 0 0, .slice none 0 0] 53 (0, 0)) (Qbl BK560.out) hg (Kd.R_ne HO_565001.out BK560.out (by decide))); have n4_ := Aside0.mk (blk_grown (g := gb564) (o := .cells #[.slice Ao24 y568.length co24, u565001] 53 (0, 0)) (Qbl BK564.out) hg (Kd.R_ne HO_565001.out BK564.out (by decide))); have n5_ := Aside0.mk (hb); have n6_ := Aside0.mk (ho); clear HO_3; clear HO_13; clear HO_565000; clear BK560; clear BK564; clear HB; clear HO_565001; have HO_3 := n0_; have HO_13 := n1_; have HO_565000 := n2_; have BK560 := n3_; have BK564 := n4_; have HB := n5_; have HO574 := n6_; clear n0_ n1_ n2_ n3_ n4_ n5_ n6_; clear ho hb hg hat; obtain ⟨Ao36, co36, eo36⟩ := Kd.R_slice HO574.out; subst eo36; have hcz37_0 : w35.cell? ⟨gb564, 0, none⟩ = some (.slice Ao24 y568.length co24) := (blk_cell BK564.out 0).trans rfl; have hcz37_1 : w35.cell? ⟨gb564, 1, none⟩ = some (u565001) := (blk_cell BK564.out 1).trans rfl; have hfz37_0 := blk_frozen BK564.out 0; have hfz37_1 := blk_frozen BK564.out 1))
                go_roundg k2
                case measure => have := HK1.out; have := HK2.out; omega
                case rel => exact ⟨((Go.bits .or .i64 x5_1 (ji11))), (wrap64 (x15_1 + 1)), (y568), (y572), (.slice Ao24 y568.length co24), (.slice Ao36 y572.length co36), (by first | rfl | (simp; done) | (simp only [← hji11] <;> (first | rfl | simp)) | (simp [*]; done)), (Qrs), H', ⟨by have := HK1.out; have := HK2.out; omega⟩, ⟨by (with_reducible repeat (first | apply Kd.R_alloc | apply Kd.R_drewN | apply Kd.R_drew)); exact Kd.R_mono (Kd.R_far (p := ⟨gb564, 1, none⟩) (Kd.R_types HO_3.out BK564.out (by decide)) (fun _ hk => hk.2) (.slice Ao36 y572.length co36)) (fun _ hk => ⟨hk.1.1, hk.1.2⟩)⟩, ⟨by (with_reducible repeat (first | apply Kd.R_alloc | apply Kd.R_drewN | apply Kd.R_drew)); exact Kd.R_mono (Kd.R_far (p := ⟨gb564, 1, none⟩) (Kd.R_types HO_13.out BK564.out (by decide)) (fun _ hk => hk.2) (.slice Ao36 y572.length co36)) (fun _ hk => ⟨hk.1.1, hk.1.2⟩)⟩, ⟨by (with_reducible repeat (first | apply Kd.R_alloc | apply Kd.R_drewN | apply Kd.R_drew)); exact Kd.R_mono (Kd.R_far (p := ⟨gb564, 1, none⟩) (Kd.R_types HO_565000.out BK564.out (by decide)) (fun _ hk => hk.2) (.slice Ao36 y572.length co36)) (fun _ hk => ⟨hk.1.1.1, ⟨hk.1.1.2, hk.1.2⟩⟩)⟩, ⟨by (with_reducible repeat (first | apply Kd.R_alloc | apply Kd.R_drewN | apply Kd.R_drew)); exact Kd.R_mono (Kd.R_far (p := ⟨gb564, 1, none⟩) (Kd.R_types HO574.out BK564.out (by decide)) (fun _ hk => hk.2) (.slice Ao36 y572.length co36)) (fun _ hk => ⟨hk.1.1, ⟨hk.1.2.1, hk.1.2.2⟩⟩)⟩, ⟨by (with_reducible repeat (first | refine blk_drewN ?_ _ | refine blk_drew ?_ | refine blk_alloc ?_ _)); refine blk_far ?_ NB560_564.out _; (with_reducible repeat (first | refine blk_drewN ?_ _ | refine blk_drew ?_ | refine blk_alloc ?_ _)); exact BK560.out⟩, ⟨by (with_reducible repeat (first | refine blk_drewN ?_ _ | refine blk_drew ?_ | refine blk_alloc ?_ _)); refine blk_put (cs := #[.slice Ao24 y568.length co24, u565001]) ?_ 1 _ rfl; (with_reducible repeat (first | refine blk_drewN ?_ _ | refine blk_drew ?_ | refine blk_alloc ?_ _)); exact BK564.out⟩, ⟨by repeat (first | (with_reducible first | exact HB.out | apply below_alloc | apply pw_below_drewN | apply below_drew1 | refine below_set ?_ GE560.out | refine below_set ?_ GE564.out) | exact HB.out)⟩⟩
               ·rw [if_neg c32] at H
                exact absurd H (by simp)
              ·rw [if_neg c31] at H
               have c31b0 : (x10_2 == (t561.length : Int)) = false := beq_eq_false_iff_ne.mpr c31
               have c31b1 : (x10_2 != (t561.length : Int)) = true := bne_iff_ne.mpr c31
               by_cases c38 : x565001_1.length < 17592186044416
               ·rw [if_pos c38] at H
                have LMc38 := Aside0.mk c38
                clear c38
                obtain ⟨y575, hy575⟩ : ∃ y_ : List Int, y_ = (x565001_1 ++ [x10_2]) := ⟨_, rfl⟩
                replace H : (width_town_decompose.l0 k2 l0 t561 (Go.bits .or .i64 x5_1 (ji11)) t561 (t561.length : Int) (wrap64 (x15_1 + 1)) y568 y575) = some (r1, r2) := by first | (rw [hy575]; with_reducible exact H) | (have H2_ := (Option.bind_some _ _).symm.trans H; rw [hy575]; with_reducible exact H2_) | (have H2_ := (Option.bind_some _ _).symm.trans H; with_reducible exact H2_) | with_reducible exact H | (rw [hy575]; exact H) | exact H
                have Ny575 := Aside0.mk hy575
                clear hy575
                have H' := Aside0.mk H
                clear H
                have p571 : 0 ≤ (x10_2 : Int) := of_decide_eq_true (Qas)
                have q571 : x10_2 < (t561.length : Int) := of_decide_eq_true (Qas)
                obtain ⟨ad571, e571, hx571_0⟩ := Kd.at_int (Kd.R_reads' HO_3.out).2.2 x10_2 p571 q571
                obtain rfl : ad565 = ad571 := (by injection e571)
                replace p571 := eq_true p571
                replace q571 := eq_true q571
                have hnb39 := NB564_560.out
                have hnc39 := NB560_564.out
                have hcz40_0 : wr.cell? ⟨gb564, 0, none⟩ = some (.slice Ao24 y568.length co24) := (blk_cell BK564.out 0).trans rfl
                have hcz40_1 : wr.cell? ⟨gb564, 1, none⟩ = some (u565001) := (blk_cell BK564.out 1).trans rfl
                have hfz40_0 := blk_frozen BK564.out 0
                have hfz40_1 := blk_frozen BK564.out 1
                go_wp2_with (first | ((with_reducible refine gate_builtin (b := .append) (xs := #[.tmp 72, .tmp 74]) rfl ?_); at_builtin; refine Kd.R_append (Kd.int .i64) (w0 := w) w.heap.size rfl (.tmp 72) (.tmp 74) 22 3 (.int .i64 0) 8 rfl Tryd.underlying22 info3 rfl (by decide) (by omega) u565001 x565001_1 x10_2 [.int .i64 x10_2] (fun k_ => some k_ ≠ (.slice (some ad565) t561.length co6 : Value).ownBlock ∧ some k_ ≠ (.slice (some ad565) t561.length co6 : Value).ownBlock ∧ some k_ ≠ (.slice Ao24 y568.length co24 : Value).ownBlock) (fun _ => False) rfl rfl ?aP (fun _ hk => hk.elim) ?aF ?aO ?aB ?aS ?aL ?_; (case aP => exact rfl); (case aB => exact (Qah GE560.out GE564.out)); (case aF => exact (fun k_ hk => ⟨Kd.fresh' (Kd.R_lt (Qro HO_3.out)) k_ hk, Kd.fresh' (Kd.R_lt (Qro HO_13.out)) k_ hk, Kd.fresh' (Kd.R_lt (Qro HO_565000.out)) k_ hk⟩)); (case aO => exact (Qro HO_565001.out)); (case aS => exact (below_size (Qah GE560.out GE564.out))); (case aL => have := LMc38.out; omega); intro v576 w41 ho hb hg hat; rw [← Ny575.out] at ho; have n0_ := Aside0.mk (Kd.R_after (ok := (fun k_ => some k_ ≠ (.slice Ao24 y568.length co24 : Value).ownBlock)) (Qro HO_3.out) hg hat); have n1_ := Aside0.mk (Kd.R_after (ok := (fun k_ => some k_ ≠ (.slice Ao24 y568.length co24 : Value).ownBlock)) (Qro HO_13.out) hg hat); have n2_ := Aside0.mk (Kd.R_after (ok := (fun k_ => some k_ ≠ (.slice (some ad565) t561.length co6 : Value).ownBlock ∧ some k_ ≠ (.slice (some ad565) t561.length co6 : Value).ownBlock)) (by (with_reducible repeat (first | apply Kd.R_alloc | apply Kd.R_drewN | apply Kd.R_drew)); exact Kd.R_mono HO_565000.out (fun _ hk => ⟨⟨hk.1, hk.2.1⟩, hk.2.2⟩)) hg hat); have n3_ := Aside0.mk (blk_grown (g := gb560) (o := .cells #[.slice none 0 0, .slice none 0 0] 53 (0, 0)) (Qbl BK560.out) hg (Kd.R_ne HO_565001.out BK560.out (by decide))); have n4_ := Aside0.mk (blk_grown (g := gb564) (o := .cells #[.slice Ao24 y568.length co24, u565001] 53 (0, 0)) (Qbl BK564.out) hg (Kd.R_ne HO_565001.out BK564.out (by decide))); have n5_ := Aside0.mk (hb); have n6_ := Aside0.mk (ho); clear HO_3; clear HO_13; clear HO_565000; clear BK560; clear BK564; clear HB; clear HO_565001; have HO_3 := n0_; have HO_13 := n1_; have HO_565000 := n2_; have BK560 := n3_; have BK564 := n4_; have HB := n5_; have HO577 := n6_; clear n0_ n1_ n2_ n3_ n4_ n5_ n6_; clear ho hb hg hat; obtain ⟨Ao42, co42, eo42⟩ := Kd.R_slice HO577.out; subst eo42; have hcz43_0 : w41.cell? ⟨gb564, 0, none⟩ = some (.slice Ao24 y568.length co24) := (blk_cell BK564.out 0).trans rfl; have hcz43_1 : w41.cell? ⟨gb564, 1, none⟩ = some (u565001) := (blk_cell BK564.out 1).trans rfl; have hfz43_0 := blk_frozen BK564.out 0; have hfz43_1 := blk_frozen BK564.out 1))
                go_roundg k2
                case measure => have := HK1.out; have := HK2.out; omega
                case rel => exact ⟨((Go.bits .or .i64 x5_1 (ji11))), (wrap64 (x15_1 + 1)), (y568), (y575), (.slice Ao24 y568.length co24), (.slice Ao42 y575.length co42), (by first | rfl | (simp; done) | (simp only [← hji11] <;> (first | rfl | simp)) | (simp [*]; done)), (Qrs), H', ⟨by have := HK1.out; have := HK2.out; omega⟩, ⟨by (with_reducible repeat (first | apply Kd.R_alloc | apply Kd.R_drewN | apply Kd.R_drew)); exact Kd.R_mono (Kd.R_far (p := ⟨gb564, 1, none⟩) (Kd.R_types HO_3.out BK564.out (by decide)) (fun _ hk => hk.2) (.slice Ao42 y575.length co42)) (fun _ hk => ⟨hk.1.1, hk.1.2⟩)⟩, ⟨by (with_reducible repeat (first | apply Kd.R_alloc | apply Kd.R_drewN | apply Kd.R_drew)); exact Kd.R_mono (Kd.R_far (p := ⟨gb564, 1, none⟩) (Kd.R_types HO_13.out BK564.out (by decide)) (fun _ hk => hk.2) (.slice Ao42 y575.length co42)) (fun _ hk => ⟨hk.1.1, hk.1.2⟩)⟩, ⟨by (with_reducible repeat (first | apply Kd.R_alloc | apply Kd.R_drewN | apply Kd.R_drew)); exact Kd.R_mono (Kd.R_far (p := ⟨gb564, 1, none⟩) (Kd.R_types HO_565000.out BK564.out (by decide)) (fun _ hk => hk.2) (.slice Ao42 y575.length co42)) (fun _ hk => ⟨hk.1.1.1, ⟨hk.1.1.2, hk.1.2⟩⟩)⟩, ⟨by (with_reducible repeat (first | apply Kd.R_alloc | apply Kd.R_drewN | apply Kd.R_drew)); exact Kd.R_mono (Kd.R_far (p := ⟨gb564, 1, none⟩) (Kd.R_types HO577.out BK564.out (by decide)) (fun _ hk => hk.2) (.slice Ao42 y575.length co42)) (fun _ hk => ⟨hk.1.1, ⟨hk.1.2.1, hk.1.2.2⟩⟩)⟩, ⟨by (with_reducible repeat (first | refine blk_drewN ?_ _ | refine blk_drew ?_ | refine blk_alloc ?_ _)); refine blk_far ?_ NB560_564.out _; (with_reducible repeat (first | refine blk_drewN ?_ _ | refine blk_drew ?_ | refine blk_alloc ?_ _)); exact BK560.out⟩, ⟨by (with_reducible repeat (first | refine blk_drewN ?_ _ | refine blk_drew ?_ | refine blk_alloc ?_ _)); refine blk_put (cs := #[.slice Ao24 y568.length co24, u565001]) ?_ 1 _ rfl; (with_reducible repeat (first | refine blk_drewN ?_ _ | refine blk_drew ?_ | refine blk_alloc ?_ _)); exact BK564.out⟩, ⟨by repeat (first | (with_reducible first | exact HB.out | apply below_alloc | apply pw_below_drewN | apply below_drew1 | refine below_set ?_ GE560.out | refine below_set ?_ GE564.out) | exact HB.out)⟩⟩
               ·rw [if_neg c38] at H
                exact absurd H (by simp)
             ·rw [if_neg c30] at H
              have c30b0 : ((Go.bits .and .i64 (ji29) 1) == 1) = false := beq_eq_false_iff_ne.mpr c30
              have c30b1 : ((Go.bits .and .i64 (ji29) 1) != 1) = true := bne_iff_ne.mpr c30
              have H' := Aside0.mk H
              clear H
              have p571 : 0 ≤ (x10_2 : Int) := of_decide_eq_true (Qas)
              have q571 : x10_2 < (t561.length : Int) := of_decide_eq_true (Qas)
              obtain ⟨ad571, e571, hx571_0⟩ := Kd.at_int (Kd.R_reads' HO_3.out).2.2 x10_2 p571 q571
              obtain rfl : ad565 = ad571 := (by injection e571)
              replace p571 := eq_true p571
              replace q571 := eq_true q571
              go_wp2
              go_roundg k2
              case measure => have := HK1.out; have := HK2.out; omega
              case rel => exact ⟨(x9_2), (wrap64 (x10_2 + 1)), (Qrs), (Qrs), H', ⟨by have := HK1.out; have := HK2.out; omega⟩, ⟨by (with_reducible repeat (first | apply Kd.R_alloc | apply Kd.R_drewN | apply Kd.R_drew)); exact HO_3.out⟩, ⟨by (with_reducible repeat (first | apply Kd.R_alloc | apply Kd.R_drewN | apply Kd.R_drew)); exact HO_13.out⟩, ⟨by (with_reducible repeat (first | apply Kd.R_alloc | apply Kd.R_drewN | apply Kd.R_drew)); exact HO_565000.out⟩, ⟨by (with_reducible repeat (first | apply Kd.R_alloc | apply Kd.R_drewN | apply Kd.R_drew)); exact HO_565001.out⟩, ⟨by (with_reducible repeat (first | refine blk_drewN ?_ _ | refine blk_drew ?_ | refine blk_alloc ?_ _)); exact BK560.out⟩, ⟨by (with_reducible repeat (first | refine blk_drewN ?_ _ | refine blk_drew ?_ | refine blk_alloc ?_ _)); exact BK564.out⟩, ⟨by repeat (first | (with_reducible first | exact HB.out | apply below_alloc | apply pw_below_drewN | apply below_drew1 | refine below_set ?_ GE560.out | refine below_set ?_ GE564.out) | exact HB.out)⟩⟩
            ·rw [if_neg c28] at H
             exact absurd H (by simp)
           ·rw [if_neg c27] at H
            exact absurd H (by simp)
          ·rw [if_neg c26] at H
           have c26b0 : decide (x10_2 < (t561.length : Int)) = false := decide_eq_false c26
           clear c26
           by_cases c44 : x9_2 = (t561.length : Int)
           ·rw [if_pos c44] at H
            have c44b0 : (x9_2 == (t561.length : Int)) = true := beq_iff_eq.mpr c44
            have c44b1 : (x9_2 != (t561.length : Int)) = false := bne_eq_false_iff_eq.mpr c44
            clear c44
            by_cases c45 : x565001_1.length < 17592186044416
            ·rw [if_pos c45] at H
             have LMc45 := Aside0.mk c45
             clear c45
             obtain ⟨y578, hy578⟩ : ∃ y_ : List Int, y_ = (x565001_1 ++ [(-1)]) := ⟨_, rfl⟩
             replace H : (width_town_decompose.l0 k2 l0 t561 (Go.bits .or .i64 x5_1 (ji11)) t561 (t561.length : Int) (wrap64 (x15_1 + 1)) y568 y578) = some (r1, r2) := by first | (rw [hy578]; with_reducible exact H) | (have H2_ := (Option.bind_some _ _).symm.trans H; rw [hy578]; with_reducible exact H2_) | (have H2_ := (Option.bind_some _ _).symm.trans H; with_reducible exact H2_) | with_reducible exact H | (rw [hy578]; exact H) | exact H
             have Ny578 := Aside0.mk hy578
             clear hy578
             have H' := Aside0.mk H
             clear H
             have hnb46 := NB564_560.out
             have hnc46 := NB560_564.out
             have hcz47_0 : wr.cell? ⟨gb564, 0, none⟩ = some (.slice Ao24 y568.length co24) := (blk_cell BK564.out 0).trans rfl
             have hcz47_1 : wr.cell? ⟨gb564, 1, none⟩ = some (u565001) := (blk_cell BK564.out 1).trans rfl
             have hfz47_0 := blk_frozen BK564.out 0
             have hfz47_1 := blk_frozen BK564.out 1
             go_wp2_with (first | ((with_reducible refine gate_builtin (b := .append) (xs := #[.tmp 72, .tmp 74]) rfl ?_); at_builtin; refine Kd.R_append (Kd.int .i64) (w0 := w) w.heap.size rfl (.tmp 72) (.tmp 74) 22 3 (.int .i64 0) 8 rfl Tryd.underlying22 info3 rfl (by decide) (by omega) u565001 x565001_1 (-1) [.int .i64 (-1)] (fun k_ => some k_ ≠ (.slice (some ad565) t561.length co6 : Value).ownBlock ∧ some k_ ≠ (.slice (some ad565) t561.length co6 : Value).ownBlock ∧ some k_ ≠ (.slice Ao24 y568.length co24 : Value).ownBlock) (fun _ => False) rfl rfl ?aP (fun _ hk => hk.elim) ?aF ?aO ?aB ?aS ?aL ?_; (case aP => exact rfl); (case aB => exact (Qah GE560.out GE564.out)); (case aF => exact (fun k_ hk => ⟨Kd.fresh' (Kd.R_lt (Qro HO_3.out)) k_ hk, Kd.fresh' (Kd.R_lt (Qro HO_13.out)) k_ hk, Kd.fresh' (Kd.R_lt (Qro HO_565000.out)) k_ hk⟩)); (case aO => exact (Qro HO_565001.out)); (case aS => exact (below_size (Qah GE560.out GE564.out))); (case aL => have := LMc45.out; omega); intro v579 w48 ho hb hg hat; rw [← Ny578.out] at ho; have n0_ := Aside0.mk (Kd.R_after (ok := (fun k_ => some k_ ≠ (.slice Ao24 y568.length co24 : Value).ownBlock)) (Qro HO_3.out) hg hat); have n1_ := Aside0.mk (Kd.R_after (ok := (fun k_ => some k_ ≠ (.slice Ao24 y568.length co24 : Value).ownBlock)) (Qro HO_13.out) hg hat); have n2_ := Aside0.mk (Kd.R_after (ok := (fun k_ => some k_ ≠ (.slice (some ad565) t561.length co6 : Value).ownBlock ∧ some k_ ≠ (.slice (some ad565) t561.length co6 : Value).ownBlock)) (by (with_reducible repeat (first | apply Kd.R_alloc | apply Kd.R_drewN | apply Kd.R_drew)); exact Kd.R_mono HO_565000.out (fun _ hk => ⟨⟨hk.1, hk.2.1⟩, hk.2.2⟩)) hg hat); have n3_ := Aside0.mk (blk_grown (g := gb560) (o := .cells #[.slice none 0 0, .slice none 0 0] 53 (0, 0)) (Qbl BK560.out) hg (Kd.R_ne HO_565001.out BK560.out (by decide))); have n4_ := Aside0.mk (blk_grown (g := gb564) (o := .cells #[.slice Ao24 y568.length co24, u565001] 53 (0, 0)) (Qbl BK564.out) hg (Kd.R_ne HO_565001.out BK564.out (by decide))); have n5_ := Aside0.mk (hb); have n6_ := Aside0.mk (ho); clear HO_3; clear HO_13; clear HO_565000; clear BK560; clear BK564; clear HB; clear HO_565001; have HO_3 := n0_; have HO_13 := n1_; have HO_565000 := n2_; have BK560 := n3_; have BK564 := n4_; have HB := n5_; have HO580 := n6_; clear n0_ n1_ n2_ n3_ n4_ n5_ n6_; clear ho hb hg hat; obtain ⟨Ao49, co49, eo49⟩ := Kd.R_slice HO580.out; subst eo49; have hcz50_0 : w48.cell? ⟨gb564, 0, none⟩ = some (.slice Ao24 y568.length co24) := (blk_cell BK564.out 0).trans rfl; have hcz50_1 : w48.cell? ⟨gb564, 1, none⟩ = some (u565001) := (blk_cell BK564.out 1).trans rfl; have hfz50_0 := blk_frozen BK564.out 0; have hfz50_1 := blk_frozen BK564.out 1))
             go_roundg k2
             case measure => have := HK1.out; have := HK2.out; omega
             case rel => exact ⟨((Go.bits .or .i64 x5_1 (ji11))), (wrap64 (x15_1 + 1)), (y568), (y578), (.slice Ao24 y568.length co24), (.slice Ao49 y578.length co49), (by first | rfl | (simp; done) | (simp only [← hji11] <;> (first | rfl | simp)) | (simp [*]; done)), (Qrs), H', ⟨by have := HK1.out; have := HK2.out; omega⟩, ⟨by (with_reducible repeat (first | apply Kd.R_alloc | apply Kd.R_drewN | apply Kd.R_drew)); exact Kd.R_mono (Kd.R_far (p := ⟨gb564, 1, none⟩) (Kd.R_types HO_3.out BK564.out (by decide)) (fun _ hk => hk.2) (.slice Ao49 y578.length co49)) (fun _ hk => ⟨hk.1.1, hk.1.2⟩)⟩, ⟨by (with_reducible repeat (first | apply Kd.R_alloc | apply Kd.R_drewN | apply Kd.R_drew)); exact Kd.R_mono (Kd.R_far (p := ⟨gb564, 1, none⟩) (Kd.R_types HO_13.out BK564.out (by decide)) (fun _ hk => hk.2) (.slice Ao49 y578.length co49)) (fun _ hk => ⟨hk.1.1, hk.1.2⟩)⟩, ⟨by (with_reducible repeat (first | apply Kd.R_alloc | apply Kd.R_drewN | apply Kd.R_drew)); exact Kd.R_mono (Kd.R_far (p := ⟨gb564, 1, none⟩) (Kd.R_types HO_565000.out BK564.out (by decide)) (fun _ hk => hk.2) (.slice Ao49 y578.length co49)) (fun _ hk => ⟨hk.1.1.1, ⟨hk.1.1.2, hk.1.2⟩⟩)⟩, ⟨by (with_reducible repeat (first | apply Kd.R_alloc | apply Kd.R_drewN | apply Kd.R_drew)); exact Kd.R_mono (Kd.R_far (p := ⟨gb564, 1, none⟩) (Kd.R_types HO580.out BK564.out (by decide)) (fun _ hk => hk.2) (.slice Ao49 y578.length co49)) (fun _ hk => ⟨hk.1.1, ⟨hk.1.2.1, hk.1.2.2⟩⟩)⟩, ⟨by (with_reducible repeat (first | refine blk_drewN ?_ _ | refine blk_drew ?_ | refine blk_alloc ?_ _)); refine blk_far ?_ NB560_564.out _; (with_reducible repeat (first | refine blk_drewN ?_ _ | refine blk_drew ?_ | refine blk_alloc ?_ _)); exact BK560.out⟩, ⟨by (with_reducible repeat (first | refine blk_drewN ?_ _ | refine blk_drew ?_ | refine blk_alloc ?_ _)); refine blk_put (cs := #[.slice Ao24 y568.length co24, u565001]) ?_ 1 _ rfl; (with_reducible repeat (first | refine blk_drewN ?_ _ | refine blk_drew ?_ | refine blk_alloc ?_ _)); exact BK564.out⟩, ⟨by repeat (first | (with_reducible first | exact HB.out | apply below_alloc | apply pw_below_drewN | apply below_drew1 | refine below_set ?_ GE560.out | refine below_set ?_ GE564.out) | exact HB.out)⟩⟩
            ·rw [if_neg c45] at H
             exact absurd H (by simp)
           ·rw [if_neg c44] at H
            have c44b0 : (x9_2 == (t561.length : Int)) = false := beq_eq_false_iff_ne.mpr c44
            have c44b1 : (x9_2 != (t561.length : Int)) = true := bne_iff_ne.mpr c44
            by_cases c51 : x565001_1.length < 17592186044416
            ·rw [if_pos c51] at H
             have LMc51 := Aside0.mk c51
             clear c51
             obtain ⟨y581, hy581⟩ : ∃ y_ : List Int, y_ = (x565001_1 ++ [x9_2]) := ⟨_, rfl⟩
             replace H : (width_town_decompose.l0 k2 l0 t561 (Go.bits .or .i64 x5_1 (ji11)) t561 (t561.length : Int) (wrap64 (x15_1 + 1)) y568 y581) = some (r1, r2) := by first | (rw [hy581]; with_reducible exact H) | (have H2_ := (Option.bind_some _ _).symm.trans H; rw [hy581]; with_reducible exact H2_) | (have H2_ := (Option.bind_some _ _).symm.trans H; with_reducible exact H2_) | with_reducible exact H | (rw [hy581]; exact H) | exact H
             have Ny581 := Aside0.mk hy581
             clear hy581
             have H' := Aside0.mk H
             clear H
             have hnb52 := NB564_560.out
             have hnc52 := NB560_564.out
             have hcz53_0 : wr.cell? ⟨gb564, 0, none⟩ = some (.slice Ao24 y568.length co24) := (blk_cell BK564.out 0).trans rfl
             have hcz53_1 : wr.cell? ⟨gb564, 1, none⟩ = some (u565001) := (blk_cell BK564.out 1).trans rfl
             have hfz53_0 := blk_frozen BK564.out 0
             have hfz53_1 := blk_frozen BK564.out 1
             go_wp2_with (first | ((with_reducible refine gate_builtin (b := .append) (xs := #[.tmp 72, .tmp 74]) rfl ?_); at_builtin; refine Kd.R_append (Kd.int .i64) (w0 := w) w.heap.size rfl (.tmp 72) (.tmp 74) 22 3 (.int .i64 0) 8 rfl Tryd.underlying22 info3 rfl (by decide) (by omega) u565001 x565001_1 x9_2 [.int .i64 x9_2] (fun k_ => some k_ ≠ (.slice (some ad565) t561.length co6 : Value).ownBlock ∧ some k_ ≠ (.slice (some ad565) t561.length co6 : Value).ownBlock ∧ some k_ ≠ (.slice Ao24 y568.length co24 : Value).ownBlock) (fun _ => False) rfl rfl ?aP (fun _ hk => hk.elim) ?aF ?aO ?aB ?aS ?aL ?_; (case aP => exact rfl); (case aB => exact (Qah GE560.out GE564.out)); (case aF => exact (fun k_ hk => ⟨Kd.fresh' (Kd.R_lt (Qro HO_3.out)) k_ hk, Kd.fresh' (Kd.R_lt (Qro HO_13.out)) k_ hk, Kd.fresh' (Kd.R_lt (Qro HO_565000.out)) k_ hk⟩)); (case aO => exact (Qro HO_565001.out)); (case aS => exact (below_size (Qah GE560.out GE564.out))); (case aL => have := LMc51.out; omega); intro v582 w54 ho hb hg hat; rw [← Ny581.out] at ho; have n0_ := Aside0.mk (Kd.R_after (ok := (fun k_ => some k_ ≠ (.slice Ao24 y568.length co24 : Value).ownBlock)) (Qro HO_3.out) hg hat); have n1_ := Aside0.mk (Kd.R_after (ok := (fun k_ => some k_ ≠ (.slice Ao24 y568.length co24 : Value).ownBlock)) (Qro HO_13.out) hg hat); have n2_ := Aside0.mk (Kd.R_after (ok := (fun k_ => some k_ ≠ (.slice (some ad565) t561.length co6 : Value).ownBlock ∧ some k_ ≠ (.slice (some ad565) t561.length co6 : Value).ownBlock)) (by (with_reducible repeat (first | apply Kd.R_alloc | apply Kd.R_drewN | apply Kd.R_drew)); exact Kd.R_mono HO_565000.out (fun _ hk => ⟨⟨hk.1, hk.2.1⟩, hk.2.2⟩)) hg hat); have n3_ := Aside0.mk (blk_grown (g := gb560) (o := .cells #[.slice none 0 0, .slice none 0 0] 53 (0, 0)) (Qbl BK560.out) hg (Kd.R_ne HO_565001.out BK560.out (by decide))); have n4_ := Aside0.mk (blk_grown (g := gb564) (o := .cells #[.slice Ao24 y568.length co24, u565001] 53 (0, 0)) (Qbl BK564.out) hg (Kd.R_ne HO_565001.out BK564.out (by decide))); have n5_ := Aside0.mk (hb); have n6_ := Aside0.mk (ho); clear HO_3; clear HO_13; clear HO_565000; clear BK560; clear BK564; clear HB; clear HO_565001; have HO_3 := n0_; have HO_13 := n1_; have HO_565000 := n2_; have BK560 := n3_; have BK564 := n4_; have HB := n5_; have HO583 := n6_; clear n0_ n1_ n2_ n3_ n4_ n5_ n6_; clear ho hb hg hat; obtain ⟨Ao55, co55, eo55⟩ := Kd.R_slice HO583.out; subst eo55; have hcz56_0 : w54.cell? ⟨gb564, 0, none⟩ = some (.slice Ao24 y568.length co24) := (blk_cell BK564.out 0).trans rfl; have hcz56_1 : w54.cell? ⟨gb564, 1, none⟩ = some (u565001) := (blk_cell BK564.out 1).trans rfl; have hfz56_0 := blk_frozen BK564.out 0; have hfz56_1 := blk_frozen BK564.out 1))
             go_roundg k2
             case measure => have := HK1.out; have := HK2.out; omega
             case rel => exact ⟨((Go.bits .or .i64 x5_1 (ji11))), (wrap64 (x15_1 + 1)), (y568), (y581), (.slice Ao24 y568.length co24), (.slice Ao55 y581.length co55), (by first | rfl | (simp; done) | (simp only [← hji11] <;> (first | rfl | simp)) | (simp [*]; done)), (Qrs), H', ⟨by have := HK1.out; have := HK2.out; omega⟩, ⟨by (with_reducible repeat (first | apply Kd.R_alloc | apply Kd.R_drewN | apply Kd.R_drew)); exact Kd.R_mono (Kd.R_far (p := ⟨gb564, 1, none⟩) (Kd.R_types HO_3.out BK564.out (by decide)) (fun _ hk => hk.2) (.slice Ao55 y581.length co55)) (fun _ hk => ⟨hk.1.1, hk.1.2⟩)⟩, ⟨by (with_reducible repeat (first | apply Kd.R_alloc | apply Kd.R_drewN | apply Kd.R_drew)); exact Kd.R_mono (Kd.R_far (p := ⟨gb564, 1, none⟩) (Kd.R_types HO_13.out BK564.out (by decide)) (fun _ hk => hk.2) (.slice Ao55 y581.length co55)) (fun _ hk => ⟨hk.1.1, hk.1.2⟩)⟩, ⟨by (with_reducible repeat (first | apply Kd.R_alloc | apply Kd.R_drewN | apply Kd.R_drew)); exact Kd.R_mono (Kd.R_far (p := ⟨gb564, 1, none⟩) (Kd.R_types HO_565000.out BK564.out (by decide)) (fun _ hk => hk.2) (.slice Ao55 y581.length co55)) (fun _ hk => ⟨hk.1.1.1, ⟨hk.1.1.2, hk.1.2⟩⟩)⟩, ⟨by (with_reducible repeat (first | apply Kd.R_alloc | apply Kd.R_drewN | apply Kd.R_drew)); exact Kd.R_mono (Kd.R_far (p := ⟨gb564, 1, none⟩) (Kd.R_types HO583.out BK564.out (by decide)) (fun _ hk => hk.2) (.slice Ao55 y581.length co55)) (fun _ hk => ⟨hk.1.1, ⟨hk.1.2.1, hk.1.2.2⟩⟩)⟩, ⟨by (with_reducible repeat (first | refine blk_drewN ?_ _ | refine blk_drew ?_ | refine blk_alloc ?_ _)); refine blk_far ?_ NB560_564.out _; (with_reducible repeat (first | refine blk_drewN ?_ _ | refine blk_drew ?_ | refine blk_alloc ?_ _)); exact BK560.out⟩, ⟨by (with_reducible repeat (first | refine blk_drewN ?_ _ | refine blk_drew ?_ | refine blk_alloc ?_ _)); refine blk_put (cs := #[.slice Ao24 y568.length co24, u565001]) ?_ 1 _ rfl; (with_reducible repeat (first | refine blk_drewN ?_ _ | refine blk_drew ?_ | refine blk_alloc ?_ _)); exact BK564.out⟩, ⟨by repeat (first | (with_reducible first | exact HB.out | apply below_alloc | apply pw_below_drewN | apply below_drew1 | refine below_set ?_ GE560.out | refine below_set ?_ GE564.out) | exact HB.out)⟩⟩
            ·rw [if_neg c51] at H
             exact absurd H (by simp)
       ·rw [if_neg c18] at H
        exact absurd H (by simp)
      ·rw [if_neg c10] at H
       exact absurd H (by simp)
     ·rw [if_neg c9] at H
      exact absurd H (by simp)
    ·rw [if_neg c8] at H
     exact absurd H (by simp)
   ·rw [if_neg c7] at H
    have c7b0 : decide (x15_1 < (t561.length : Int)) = false := decide_eq_false c7
    clear c7
    simp only [Option.some.injEq, Prod.mk.injEq] at H
    obtain ⟨rfl, rfl⟩ := H
    have hnb57 := NB564_560.out
    have hnc57 := NB560_564.out
    have hcz58_0 : wr.cell? ⟨gb564, 0, none⟩ = some (u565000) := (blk_cell BK564.out 0).trans rfl
    have hcz58_1 : wr.cell? ⟨gb564, 1, none⟩ = some (u565001) := (blk_cell BK564.out 1).trans rfl
    have hfz58_0 := blk_frozen BK564.out 0
    have hfz58_1 := blk_frozen BK564.out 1
    obtain ⟨Ao59, co59, eo59⟩ := Kd.R_slice HO_565000.out
    subst eo59
    have hcz60_0 : wr.cell? ⟨gb560, 0, none⟩ = some (.slice none 0 0) := (blk_cell BK560.out 0).trans rfl
    have hcz60_1 : wr.cell? ⟨gb560, 1, none⟩ = some (.slice none 0 0) := (blk_cell BK560.out 1).trans rfl
    have hfz60_0 := blk_frozen BK560.out 0
    have hfz60_1 := blk_frozen BK560.out 1
    obtain ⟨Ao61, co61, eo61⟩ := Kd.R_slice HO_565001.out
    subst eo61
    go_wp2
    refine bodyPost_ret (results_cell_row rfl _ _ gb560 53 #[.slice Ao59 x565000_1.length co59, .slice Ao61 x565001_1.length co61] (0, 0) _ rfl (by (with_reducible repeat (first | refine blk_drewN ?_ _ | refine blk_drew ?_ | refine blk_alloc ?_ _)); refine blk_put (cs := #[.slice Ao59 x565000_1.length co59, .slice none 0 0]) ?_ 1 _ rfl; (with_reducible repeat (first | refine blk_drewN ?_ _ | refine blk_drew ?_ | refine blk_alloc ?_ _)); refine blk_put (cs := #[.slice none 0 0, .slice none 0 0]) ?_ 0 _ rfl; (with_reducible repeat (first | refine blk_drewN ?_ _ | refine blk_drew ?_ | refine blk_alloc ?_ _)); exact BK560.out) Tryd.underlying53 rfl (by kernel_rfl)) rfl ?_
    exact ⟨_, _, by first | rfl | (simp [errW_none, errW_some] <;> rfl) | (simp [*, errW_none, errW_some] <;> rfl), by (with_reducible repeat (first | apply Kd.R_alloc | apply Kd.R_drewN | apply Kd.R_drew)); exact Kd.R_mono (Kd.R_far (p := ⟨gb560, 1, none⟩) (Kd.R_far (p := ⟨gb560, 0, none⟩) (Kd.R_types HO_565000.out BK560.out (by decide)) (fun _ hk => hk.2) (.slice Ao59 x565000_1.length co59)) (fun _ hk => hk.2) (.slice Ao61 x565001_1.length co61)) (fun _ hk => hk.1.2.2), by (with_reducible repeat (first | apply Kd.R_alloc | apply Kd.R_drewN | apply Kd.R_drew)); exact Kd.R_mono (Kd.R_far (p := ⟨gb560, 1, none⟩) (Kd.R_far (p := ⟨gb560, 0, none⟩) (Kd.R_types HO_565001.out BK560.out (by decide)) (fun _ hk => hk.2) (.slice Ao59 x565000_1.length co59)) (fun _ hk => hk.2) (.slice Ao61 x565001_1.length co61)) (fun _ hk => hk.1.2.2), by repeat (first | (with_reducible first | exact HB.out | apply below_alloc | apply pw_below_drewN | apply below_drew1 | refine below_set ?_ GE560.out | refine below_set ?_ GE564.out) | exact HB.out)⟩
end
noncomputable section
def width_Decompose.f (k : Nat) (l0 : List Int) : Option (List Int × List Int × Int) := (width_read.f k l0).bind fun bt585 => (if bt585.2 = true then ((width_town_decompose.f k bt585.1).bind fun bt589 => (some (bt589.1, bt589.2, 0))) else (some (([] : List Int), ([] : List Int), 2)))
set_option maxHeartbeats 8000000 in
set_option maxRecDepth 100000 in
theorem width_Decompose.calls (k : Nat) (A0 : Option Addr) (c0 : Nat) (l0 : List Int) (r1 : List Int) (r2 : List Int) (r3 : Int) (w : World) (hGL : GL w) (hr0 : Kd.C (Kd.int .i64) w A0 l0.length l0) (hc0 : l0.length ≤ c0) (h : width_Decompose.f k l0 = some (r1, r2, r3)) :
  Calls Tryd.prog 52 #[.slice A0 l0.length c0] w fun e w' => ∃ v0_ v1_ : Value, e = .returned (.tuple #[.agg #[v0_, v1_], .int .i64 r3]) ∧ Kd.R (Kd.int .i64) 3 w' w.heap.size (fun k_ => some k_ ≠ (v1_ : Value).ownBlock) v0_ r1 ∧ Kd.R (Kd.int .i64) 3 w' w.heap.size (fun k_ => some k_ ≠ (v0_ : Value).ownBlock) v1_ r2 ∧ Below w.heap.size w w' := by
 have HGL := Aside0.mk hGL
 clear hGL
 have hu53 := Tryd.underlying53
 have HR0 := Aside0.mk hr0
 have HC0 := Aside0.mk hc0
 clear hr0 hc0
 have HB := Aside0.mk (Below.refl w.heap.size w)
 have H : ((width_read.f k l0).bind fun bt585 => (if bt585.2 = true then ((width_town_decompose.f k bt585.1).bind fun bt589 => (some (bt589.1, bt589.2, 0))) else (some (([] : List Int), ([] : List Int), 2)))) = some (r1, r2, r3) := h
 clear h
 replace H := Option.bind_eq_some_iff.mp H
 obtain ⟨⟨t585, t588⟩, A20, H⟩ := H
 replace H : (if t588 = true then ((width_town_decompose.f k t585).bind fun bt589 => (some (bt589.1, bt589.2, 0))) else (some (([] : List Int), ([] : List Int), 2))) = some (r1, r2, r3) := H
 have A2 := Aside0.mk A20
 clear A20
 by_cases c3 : t588 = true
 ·subst c3
  have H1 : ((width_town_decompose.f k t585).bind fun bt589 => (some (bt589.1, bt589.2, 0))) = some (r1, r2, r3) := by rw [if_pos rfl] at H; exact H
  clear H
  have H := H1
  clear H1
  replace H := Option.bind_eq_some_iff.mp H
  obtain ⟨⟨t589, t592⟩, A40, H⟩ := H
  replace H : (some (t589, t592, 0)) = some (r1, r2, r3) := H
  have A4 := Aside0.mk A40
  clear A40
  simp only [Option.some.injEq, Prod.mk.injEq] at H
  obtain ⟨rfl, rfl, rfl⟩ := H
  go_enter Tryd.func52, Tryd.ntmps52
  go_wp2_with (first | ((with_reducible refine gate_dst (N := 2) rfl ?_); refine box_event ?hg (N := 2) ?hd (cs := #[.slice none 0 0, .slice none 0 0]) (t := 53) ?hr ?_; (case hd => rfl); (case hg => rfl); (case hr => first | (go_simp; done) | (go_simp; rfl)); intro gb584 hg w5 hbox hb; have n0_ := Aside0.mk (below_step (Qaw) hb); have n1_ := Aside0.mk (hbox); have n2_ := Aside0.mk ((by rw [hg]; exact (below_size (Qaw)) : w.heap.size ≤ gb584)); have n3_ := Aside0.mk ((by rw [hg]; exact (below_size (Qaw)) : w.heap.size ≤ gb584)); clear HB; have HB := n0_; have BK584 := n1_; have GW584 := n2_; have GE584 := n3_; clear n0_ n1_ n2_ n3_; clear hb hbox hg) | ((with_reducible refine gate_callee (f := 59) rfl ?_); refine goesL_ (some 8) rfl rfl Tryd.func59 (by kernel_rfl) rfl #[.slice A0 l0.length c0] rfl (Qls) ?_; (with_reducible refine (width_read.calls k (fun k_ => k_ < w.heap.size) _ _ l0 t585 true _ ?side1 A2.out).mono ?_); (case side1 => exact Kd.V_mk HC0.out (Kd.F_below (Kd.C_F (Kd.heap_int .i64) HR0.out) (Qag GE584.out))); rintro e w6 ⟨v586, rfl, ho0, hb⟩; refine ⟨_, rfl, ?_⟩; have n0_ := Aside0.mk (Kd.V_lower (Kd.V_mono (ok' := fun k_ => k_ ≠ gb584) ho0 (fun k_ hk_ => Or.elim hk_ (fun hs_ => fun e_ => Nat.not_le.2 hs_ (by rw [e_]; exact GW584.out)) (fun hn_ => (Kd.freshB (g := gb584) (o := .cells #[.slice none 0 0, .slice none 0 0] 53 (0, 0)) (Qbl BK584.out) k_ hn_)))) (below_size (Qag GE584.out))); have n1_ := Aside0.mk (blk_below (g := gb584) (o := .cells #[.slice none 0 0, .slice none 0 0] 53 (0, 0)) (Qbl BK584.out) hb); have n2_ := Aside0.mk (below_step (Qag GE584.out) hb); clear BK584; clear HB; have HO587 := n0_; have BK584 := n1_; have HB := n2_; clear n0_ n1_ n2_; (try clear hb); (try clear hb2); (try clear hk); (try clear hi); (try clear ho0); obtain ⟨Ao7, co7, eo7⟩ := Kd.V_slice HO587.out; subst eo7) | ((with_reducible refine gate_callee (f := 83) rfl ?_); refine goesL_ (some 15) rfl rfl Tryd.func83 (by kernel_rfl) rfl #[.slice Ao7 t585.length co7] rfl (Qls) ?_; (with_reducible refine (width_town_decompose.calls (hGL := (Qlg)) k _ _ t585 t589 t592 _ ?side1 ?side2 A4.out).mono ?_); (case side1 => exact Qsc (Kd.V_reads' HO587.out).2.2); (case side2 => exact (Kd.V_reads' HO587.out).2.1); rintro e w8 ⟨v590, v593, rfl, ho0, ho1, hb⟩; refine ⟨_, rfl, ?_⟩; have n0_ := Aside0.mk (Kd.V_mono (Kd.V_told (Kd.V_told (Kd.V_old (by (with_reducible repeat (first | apply Kd.V_alloc | apply Kd.V_drewN | apply Kd.V_drew)); exact HO587.out) hb) (Kd.R_base ho0)) (Kd.R_base ho1)) (fun _ h_ => h_.1)); have n1_ := Aside0.mk (Kd.R_lower ho0 (below_size (Qag GE584.out))); have n2_ := Aside0.mk (Kd.R_lower ho1 (below_size (Qag GE584.out))); have n3_ := Aside0.mk (blk_below (g := gb584) (o := .cells #[.slice none 0 0, .slice none 0 0] 53 (0, 0)) (Qbl BK584.out) hb); have n4_ := Aside0.mk (below_step (Qag GE584.out) hb); clear HO587; clear BK584; clear HB; have HO587 := n0_; have HO591 := n1_; have HO594 := n2_; have BK584 := n3_; have HB := n4_; clear n0_ n1_ n2_ n3_ n4_; (try clear hb); (try clear hb2); (try clear hk); (try clear hi); (try clear ho0); (try clear ho1); obtain ⟨Ao9, co9, eo9⟩ := Kd.R_slice HO591.out; subst eo9; have hcz10_0 : w8.cell? ⟨gb584, 0, none⟩ = some (.slice none 0 0) := (blk_cell BK584.out 0).trans rfl; have hcz10_1 : w8.cell? ⟨gb584, 1, none⟩ = some (.slice none 0 0) := (blk_cell BK584.out 1).trans rfl; have hfz10_0 := blk_frozen BK584.out 0; have hfz10_1 := blk_frozen BK584.out 1; obtain ⟨Ao11, co11, eo11⟩ := Kd.R_slice HO594.out; subst eo11))
  refine bodyPost_ret (results_ct rfl _ _ gb584 53 #[.slice Ao9 t589.length co9, .slice Ao11 t592.length co11] (0, 0) _ rfl (by (with_reducible repeat (first | refine blk_drewN ?_ _ | refine blk_drew ?_ | refine blk_alloc ?_ _)); refine blk_put (cs := #[.slice Ao9 t589.length co9, .slice none 0 0]) ?_ 1 _ rfl; (with_reducible repeat (first | refine blk_drewN ?_ _ | refine blk_drew ?_ | refine blk_alloc ?_ _)); refine blk_put (cs := #[.slice none 0 0, .slice none 0 0]) ?_ 0 _ rfl; (with_reducible repeat (first | refine blk_drewN ?_ _ | refine blk_drew ?_ | refine blk_alloc ?_ _)); exact BK584.out) Tryd.underlying53 rfl (by kernel_rfl)) rfl ?_
  exact ⟨_, _, by first | rfl | (simp [errW_none, errW_some] <;> rfl) | (simp [*, errW_none, errW_some] <;> rfl), by (with_reducible repeat (first | apply Kd.R_alloc | apply Kd.R_drewN | apply Kd.R_drew)); exact Kd.R_mono (Kd.R_far (p := ⟨gb584, 1, none⟩) (Kd.R_far (p := ⟨gb584, 0, none⟩) (Kd.R_types HO591.out BK584.out (by decide)) (fun _ hk => hk.2) (.slice Ao9 t589.length co9)) (fun _ hk => hk.2) (.slice Ao11 t592.length co11)) (fun _ hk => hk.1), by (with_reducible repeat (first | apply Kd.R_alloc | apply Kd.R_drewN | apply Kd.R_drew)); exact Kd.R_mono (Kd.R_far (p := ⟨gb584, 1, none⟩) (Kd.R_far (p := ⟨gb584, 0, none⟩) (Kd.R_types HO594.out BK584.out (by decide)) (fun _ hk => hk.2) (.slice Ao9 t589.length co9)) (fun _ hk => hk.2) (.slice Ao11 t592.length co11)) (fun _ hk => hk.1), by repeat (first | (with_reducible first | exact HB.out | apply below_alloc | apply pw_below_drewN | apply below_drew1 | refine below_set ?_ GE584.out) | exact HB.out)⟩
 ·replace c3 := Bool.eq_false_iff.mpr c3
  subst c3
  have H1 : (some (([] : List Int), ([] : List Int), 2)) = some (r1, r2, r3) := by rw [if_neg (show ¬ (false = true) by decide)] at H; exact H
  clear H
  have H := H1
  clear H1
  simp only [Option.some.injEq, Prod.mk.injEq] at H
  obtain ⟨rfl, rfl, rfl⟩ := H
  go_enter Tryd.func52, Tryd.ntmps52
  go_wp2_with (first | ((with_reducible refine gate_dst (N := 2) rfl ?_); refine box_event ?hg (N := 2) ?hd (cs := #[.slice none 0 0, .slice none 0 0]) (t := 53) ?hr ?_; (case hd => rfl); (case hg => rfl); (case hr => first | (go_simp; done) | (go_simp; rfl)); intro gb584 hg w12 hbox hb; have n0_ := Aside0.mk (below_step (Qaw) hb); have n1_ := Aside0.mk (hbox); have n2_ := Aside0.mk ((by rw [hg]; exact (below_size (Qaw)) : w.heap.size ≤ gb584)); have n3_ := Aside0.mk ((by rw [hg]; exact (below_size (Qaw)) : w.heap.size ≤ gb584)); clear HB; have HB := n0_; have BK584 := n1_; have GW584 := n2_; have GE584 := n3_; clear n0_ n1_ n2_ n3_; clear hb hbox hg) | ((with_reducible refine gate_callee (f := 59) rfl ?_); refine goesL_ (some 8) rfl rfl Tryd.func59 (by kernel_rfl) rfl #[.slice A0 l0.length c0] rfl (Qls) ?_; (with_reducible refine (width_read.calls k (fun k_ => k_ < w.heap.size) _ _ l0 t585 false _ ?side1 A2.out).mono ?_); (case side1 => exact Kd.V_mk HC0.out (Kd.F_below (Kd.C_F (Kd.heap_int .i64) HR0.out) (Qag GE584.out))); rintro e w13 ⟨v586, rfl, ho0, hb⟩; refine ⟨_, rfl, ?_⟩; have n0_ := Aside0.mk (Kd.V_lower (Kd.V_mono (ok' := fun k_ => k_ ≠ gb584) ho0 (fun k_ hk_ => Or.elim hk_ (fun hs_ => fun e_ => Nat.not_le.2 hs_ (by rw [e_]; exact GW584.out)) (fun hn_ => (Kd.freshB (g := gb584) (o := .cells #[.slice none 0 0, .slice none 0 0] 53 (0, 0)) (Qbl BK584.out) k_ hn_)))) (below_size (Qag GE584.out))); have n1_ := Aside0.mk (blk_below (g := gb584) (o := .cells #[.slice none 0 0, .slice none 0 0] 53 (0, 0)) (Qbl BK584.out) hb); have n2_ := Aside0.mk (below_step (Qag GE584.out) hb); clear BK584; clear HB; have HO587 := n0_; have BK584 := n1_; have HB := n2_; clear n0_ n1_ n2_; (try clear hb); (try clear hb2); (try clear hk); (try clear hi); (try clear ho0); have hcz14_0 : w13.cell? ⟨gb584, 0, none⟩ = some (.slice none 0 0) := (blk_cell BK584.out 0).trans rfl; have hcz14_1 : w13.cell? ⟨gb584, 1, none⟩ = some (.slice none 0 0) := (blk_cell BK584.out 1).trans rfl; have hfz14_0 := blk_frozen BK584.out 0; have hfz14_1 := blk_frozen BK584.out 1))
  refine bodyPost_ret (results_ct rfl _ _ gb584 53 #[.slice none 0 0, .slice none 0 0] (0, 0) _ rfl (by (with_reducible repeat (first | refine blk_drewN ?_ _ | refine blk_drew ?_ | refine blk_alloc ?_ _)); refine blk_put (cs := #[.slice none 0 0, .slice none 0 0]) ?_ 1 _ rfl; (with_reducible repeat (first | refine blk_drewN ?_ _ | refine blk_drew ?_ | refine blk_alloc ?_ _)); refine blk_put (cs := #[.slice none 0 0, .slice none 0 0]) ?_ 0 _ rfl; (with_reducible repeat (first | refine blk_drewN ?_ _ | refine blk_drew ?_ | refine blk_alloc ?_ _)); exact BK584.out) Tryd.underlying53 rfl (by kernel_rfl)) rfl ?_
  exact ⟨_, _, by first | rfl | (simp [errW_none, errW_some] <;> rfl) | (simp [*, errW_none, errW_some] <;> rfl), by first | exact Kd.R_nil _ _ _ _ _ | exact Kd.N_nil _ _ _ _ _ | exact Kd.V_nil _ _ _ _ _ | exact Kd.Q_nil _ _ _ _ _ | exact Kd.S_nil _ _ _ _ _, by first | exact Kd.R_nil _ _ _ _ _ | exact Kd.N_nil _ _ _ _ _ | exact Kd.V_nil _ _ _ _ _ | exact Kd.Q_nil _ _ _ _ _ | exact Kd.S_nil _ _ _ _ _, by repeat (first | (with_reducible first | exact HB.out | apply below_alloc | apply pw_below_drewN | apply below_drew1 | refine below_set ?_ GE584.out) | exact HB.out)⟩
end
end Go.Proofs.YtoffehihicabcaaDoor.X
end
section
namespace Go.Proofs.YtoffehihicabcaaDoor.X
open Go.RowKit YtoffehihicabcaaDoorW.PrintWords YtoffehihicabcaaDoorW.PrintLast YtoffehihicabcaaDoorW.PrintMore YtoffehihicabcaaDoor.T
def goneAt (O : List Nat) (i : Nat) : Nat := lset (O.take i)
noncomputable def higher (G O : List Nat) (i : Nat) : Nat := nbset G (goneAt O i) (O.getD i 0)
noncomputable def bagAt (G O : List Nat) (i : Nat) : Nat := higher G O i ||| 2 ^ O.getD i 0
noncomputable def parFrom (G O : List Nat) (i : Nat) : Nat → Nat → Int
 | 0, _ => if i + 1 = O.length then -1 else ((i + 1 : Nat) : Int)
 | d + 1, k => if (higher G O i).testBit (O.getD k 0) then (k : Int) else parFrom G O i d (k + 1)
noncomputable def parAt (G O : List Nat) (i : Nat) : Int := parFrom G O i (O.length - (i + 1)) (i + 1)
noncomputable def bagsL (G O : List Nat) (i : Nat) : List Int := (List.range i).map fun j => ((bagAt G O j : Nat) : Int)
noncomputable def parsL (G O : List Nat) (i : Nat) : List Int := (List.range i).map (parAt G O)
theorem bagsL_succ (G O : List Nat) (i : Nat) : bagsL G O (i + 1) = bagsL G O i ++ [((bagAt G O i : Nat) : Int)] := by simp [bagsL, List.range_succ]
theorem parsL_succ (G O : List Nat) (i : Nat) : parsL G O (i + 1) = parsL G O i ++ [parAt G O i] := by simp [parsL, List.range_succ]
theorem goneAt_succ (O : List Nat) {i : Nat} (hi : i < O.length) : goneAt O (i + 1) = goneAt O i ||| 2 ^ O.getD i 0 := by
 unfold goneAt
 rw [List.take_succ_eq_append_getElem hi, lset_snoc, List.getD_eq_getElem?_getD, List.getElem?_eq_getElem hi]
 rfl
section
variable {G O : List Nat} (hG : Gr 9 G) (hO : ∀ v ∈ O, v < G.length) (hl : O.length ≤ 9)
include hG hO hl
omit hG hl in
theorem o_in {i : Nat} (hi : i < O.length) : O.getD i 0 < G.length := by
 rw [List.getD_eq_getElem?_getD, List.getElem?_eq_getElem hi]
 exact hO _ (List.getElem_mem hi)
omit hG hl in
theorem gone_lt (i : Nat) : goneAt O i < 2 ^ G.length := lset_lt fun v hv => hO v (List.mem_of_mem_take hv)
omit hl in
theorem bag_lt {i : Nat} (hi : i < O.length) : bagAt G O i < 2 ^ G.length := Nat.or_lt_two_pow (nbset_lt hG _ _) (Nat.pow_lt_pow_right (by omega) (o_in hO hi))
theorem decomp_l1 (i : Nat) (hi : i < O.length) (X : List Int × List Int) (g0 : Int)
  (next : Ev (fun k => width_town_decompose.l0 k (gi G) (gi O) g0 (gi O) (O.length : Int) ((i + 1 : Nat) : Int) (bagsL G O (i + 1)) (parsL G O (i + 1))) X) :
  ∀ d k, k + d = O.length → parFrom G O i d k = parAt G O i → Ev (fun m => width_town_decompose.l1 m (gi G) (gi O) g0 ((higher G O i : Nat) : Int) ((i + 1 : Nat) : Int) (k : Int) (gi O) (O.length : Int) (i : Int) (bagsL G O (i + 1)) (parsL G O i)) X := by
 have hn := hG.most
 have h29 : 2 ^ G.length ≤ 2 ^ 9 := Nat.pow_le_pow_right (by omega) hn
 have hgl := gi_length O
 have hpl : (parsL G O i).length = i := by simp [parsL]
 rw [parsL_succ] at next
 intro d
 induction d with
 | zero =>
  intro k hk hp
  rw [parFrom] at hp
  by_cases h : i + 1 = O.length
  ·rw [if_pos h] at hp
   refine Ev.step (fun m => ?_) next
   rw [width_town_decompose.l1, if_neg (by omega), if_pos (by omega), if_pos (by omega), wrap_succ i (by omega), ← hp]
  ·rw [if_neg h] at hp
   refine Ev.step (fun m => ?_) next
   rw [width_town_decompose.l1, if_neg (by omega), if_neg (by omega), if_pos (by omega), wrap_succ i (by omega), ← hp]
 | succ d ih =>
  intro k hk hp
  have hkl : k < O.length := by omega
  have hv := o_in hO hkl
  rw [parFrom] at hp
  have hr : rd (gi O) (k : Int) = ((O.getD k 0 : Nat) : Int) := rd_gi O k
  have hh : higher G O i < 2 ^ G.length := nbset_lt hG _ _
  generalize O.getD k 0 = u at *
  by_cases hb : (higher G O i).testBit u = true
  ·rw [if_pos hb] at hp
   refine Ev.step (fun m => ?_) next
   rw [width_town_decompose.l1, if_pos (by omega), if_pos (by omega), hr, if_pos (by omega), if_pos ((bit_one _ u (by omega) (by omega)).2 hb), if_neg (by omega), if_pos (by omega), wrap_succ i (by omega), ← hp]
  ·rw [if_neg hb] at hp
   refine Ev.step (fun m => ?_) (ih (k + 1) (by omega) hp)
   rw [width_town_decompose.l1, if_pos (by omega), if_pos (by omega), hr, if_pos (by omega), if_neg (fun h => hb ((bit_one _ u (by omega) (by omega)).1 h)), wrap_succ k (by omega)]
theorem decomp_l0 : ∀ d i, i + d = O.length → Ev (fun m => width_town_decompose.l0 m (gi G) (gi O) ((goneAt O i : Nat) : Int) (gi O) (O.length : Int) (i : Int) (bagsL G O i) (parsL G O i)) (bagsL G O O.length, parsL G O O.length) := by
 have hn := hG.most
 have h29 : 2 ^ G.length ≤ 2 ^ 9 := Nat.pow_le_pow_right (by omega) hn
 have hgl := gi_length O
 intro d
 induction d with
 | zero =>
  intro i hi
  obtain rfl : i = O.length := by omega
  exact Ev.step (f := fun _ => some (bagsL G O O.length, parsL G O O.length)) (fun m => by rw [width_town_decompose.l0, if_neg (by omega)]) (Ev.some rfl)
 | succ d ih =>
  intro i hi
  have hil : i < O.length := by omega
  have hv := o_in hO hil
  have hbl : (bagsL G O i).length = i := by simp [bagsL]
  have hr : rd (gi O) (i : Int) = ((O.getD i 0 : Nat) : Int) := rd_gi O i
  have hg := gone_lt (G := G) hO i
  have hgs := goneAt_succ O hil
  have next := ih (i + 1) (by omega)
  have hbs := bagsL_succ G O i
  have hbag : bagAt G O i = higher G O i ||| 2 ^ O.getD i 0 := rfl
  have hhd : higher G O i = diff (diff (Around G (conset G (2 ^ O.getD i 0) (goneAt O i ||| 2 ^ O.getD i 0))) (goneAt O i)) (2 ^ O.getD i 0) := rfl
  have hl1 := decomp_l1 hG hO hl i hil _ _ next (O.length - (i + 1)) (i + 1) (by omega) rfl
  rw [hgs] at hl1
  rw [hbs, hbag] at hl1
  generalize O.getD i 0 = u at *
  generalize goneAt O i = gn at *
  have hp : 2 ^ u < 2 ^ G.length := Nat.pow_lt_pow_right (by omega) hv
  have hc := conset_lt G (2 ^ u) (gn ||| 2 ^ u)
  have hA := Around_lt hG (conset G (2 ^ u) (gn ||| 2 ^ u))
  have hd : diff (Around G (conset G (2 ^ u) (gn ||| 2 ^ u))) gn < 2 ^ G.length := Nat.lt_of_le_of_lt (diff_le _ _) hA
  have hd2 : diff (diff (Around G (conset G (2 ^ u) (gn ||| 2 ^ u))) gn) (2 ^ u) < 2 ^ G.length := Nat.lt_of_le_of_lt (diff_le _ _) hd
  have e1 := s_one u (by omega)
  have e2 := b_or gn (2 ^ u) (by omega) (by omega)
  have e3 := b_andNot _ gn (show Around G (conset G (2 ^ u) (gn ||| 2 ^ u)) < 2 ^ 62 by omega) (by omega)
  have e4 := b_andNot _ (2 ^ u) (show diff (Around G (conset G (2 ^ u) (gn ||| 2 ^ u))) gn < 2 ^ 62 by omega) (by omega)
  rw [hhd] at hl1
  have e5 := b_or _ (2 ^ u) (show diff (diff (Around G (conset G (2 ^ u) (gn ||| 2 ^ u))) gn) (2 ^ u) < 2 ^ 62 by omega) (by omega)
  refine Ev.step (fun m => by rw [width_town_decompose.l0, if_pos (by omega), if_pos (by omega), if_pos (by omega), hr, if_pos (by omega), e1, e2, wrap_succ i (by omega)]) (Ev.bind (part_ev G hG _ _ hp (or_lt hg hp)) (Ev.bind (around_ev G hG _ hc) ?_))
  refine Ev.if_pos (by omega) ?_
  rw [e3, e4, e5]
  exact hl1
end
theorem decompose_ev {G : List Nat} (hG : Gr 9 G) {W : Nat} (hW : IsWidth G W) (hO : ∀ v ∈ ordL G W, v < G.length) (hl : (ordL G W).length ≤ 9) : Ev (fun k => width_town_decompose.f k (gi G)) (bagsL G (ordL G W) (ordL G W).length, parsL G (ordL G W) (ordL G W).length) := by
 unfold width_town_decompose.f
 have h : width_town_order.f (gi G) = some (gi (ordL G W)) := by
  unfold width_town_order.f
  rw [if_pos ((chk_iff 9 (by omega) _).2 ⟨G, rfl, hG⟩), gi_toNatO, (widthN_is hG).uniq hW]
 refine Ev.bind1 h ?_
 ·rw [gi_length]
  exact decomp_l0 hG hO hl (ordL G W).length 0 (by omega)
theorem way_trans {adj : Nat → Nat → Prop} {S : Nat → Prop} {a x u : Nat} (h : T.Way adj S a x) (hx : S x) (k : T.Way adj S x u) : T.Way adj S a u := by
 induction k with
 | one e => exact .more h hx e
 | more _ hy e ih => exact .more ih hy e
theorem way_symm {adj : Nat → Nat → Prop} (hs : ∀ x y, adj x y → adj y x) {S : Nat → Prop} {v u : Nat} (h : T.Way adj S v u) : T.Way adj S u v := by
 induction h with
 | one e => exact .one (hs _ _ e)
 | more _ hx e ih => exact way_trans (.one (hs _ _ e)) hx ih
theorem way_mono {adj : Nat → Nat → Prop} {S S' : Nat → Prop} (hS : ∀ x, S x → S' x) {v u : Nat} (h : T.Way adj S v u) : T.Way adj S' v u := by
 induction h with
 | one e => exact .one e
 | more _ hx e ih => exact .more ih (hS _ hx) e
structure OrdL (G O : List Nat) : Prop where
 nd : O.Nodup
 inn : ∀ v ∈ O, v < G.length
 len : O.length = G.length
section
variable {G O : List Nat} (hG : Gr 9 G) (h : OrdL G O)
include hG h
omit hG in
theorem o_at {v : Nat} (hv : v < G.length) : ∃ p, p < O.length ∧ O.getD p 0 = v := by
 have hm := covers_of_nodup h.len h.nd h.inn v hv
 obtain ⟨p, hp, e⟩ := List.mem_iff_getElem.1 hm
 exact ⟨p, hp, by rw [List.getD_eq_getElem?_getD, List.getElem?_eq_getElem hp]; exact e⟩
omit hG in
theorem o_inj {p q : Nat} (hp : p < O.length) (hq : q < O.length) (e : O.getD p 0 = O.getD q 0) : p = q := by
 simp only [List.getD_eq_getElem?_getD, List.getElem?_eq_getElem hp, List.getElem?_eq_getElem hq, Option.getD_some] at e
 exact (List.getElem_inj h.nd).1 e
omit hG in
theorem gone_bit {p i : Nat} (hp : p < O.length) : bset (goneAt O i) (O.getD p 0) ↔ p < i := by
 unfold goneAt
 rw [lset_bit, List.mem_take_iff_getElem]
 constructor
 ·rintro ⟨j, hj, e⟩
  have hj2 : j < O.length := by omega
  have : j = p := o_inj h hj2 hp (by rw [List.getD_eq_getElem?_getD, List.getElem?_eq_getElem hj2]; exact e)
  omega
 ·intro hi
  exact ⟨p, by omega, by rw [List.getD_eq_getElem?_getD, List.getElem?_eq_getElem hp]; rfl⟩
theorem higher_bit {i : Nat} (hi : i < O.length) (u : Nat) : bset (higher G O i) u ↔ Nb (Adj G) (bset (goneAt O i)) (O.getD i 0) u := by
 unfold higher
 exact nbset_bit hG (h.inn _ (by rw [List.getD_eq_getElem?_getD, List.getElem?_eq_getElem hi]; exact List.getElem_mem hi)) u
theorem bag_bit {i p : Nat} (hi : i < O.length) (hp : p < O.length) : bset (bagAt G O i) (O.getD p 0) ↔ p = i ∨ (i < p ∧ bset (higher G O i) (O.getD p 0)) := by
 unfold bagAt
 rw [or_bit]
 constructor
 ·rintro (hb | e)
  ·have hn := (higher_bit hG h hi _).1 hb
   have h1 : ¬ p < i := fun hlt => hn.2.1 ((gone_bit h hp).2 hlt)
   have h2 : p ≠ i := fun e => hn.2.2 (by rw [e])
   exact .inr ⟨by omega, hb⟩
  ·exact .inl (o_inj h hp hi e)
 ·rintro (rfl | ⟨_, hb⟩)
  ·exact .inr rfl
  ·exact .inl hb
omit hG h in
theorem par_spec (i : Nat) : ∀ d k, k + d = O.length → i < k → (∃ j : Nat, parFrom G O i d k = (j : Int) ∧ k ≤ j ∧ j < O.length ∧ bset (higher G O i) (O.getD j 0) ∧ ∀ m, k ≤ m → m < j → ¬ bset (higher G O i) (O.getD m 0)) ∨
  ((∀ m, k ≤ m → m < O.length → ¬ bset (higher G O i) (O.getD m 0)) ∧ parFrom G O i d k = if i + 1 = O.length then -1 else ((i + 1 : Nat) : Int))
 | 0, k, hk, hik => .inr ⟨fun m h1 h2 => by omega, rfl⟩
 | d + 1, k, hk, hik => by
  rw [parFrom]
  by_cases hb : (higher G O i).testBit (O.getD k 0) = true
  ·rw [if_pos hb]
   exact .inl ⟨k, rfl, Nat.le_refl _, by omega, hb, fun m h1 h2 => by omega⟩
  ·rw [if_neg hb]
   rcases par_spec i d (k + 1) (by omega) (by omega) with ⟨j, h1, h2, h3, h4, h5⟩ | ⟨h1, h2⟩
   ·refine .inl ⟨j, h1, by omega, h3, h4, fun m h6 h7 => ?_⟩
    by_cases e : m = k
    ·subst e; exact hb
    ·exact h5 m (by omega) h7
   ·refine .inr ⟨fun m h6 h7 => ?_, h2⟩
    by_cases e : m = k
    ·subst e; exact hb
    ·exact h1 m (by omega) h7
omit hG h in
theorem par_rng {i : Nat} (hi : i < O.length) : (i + 1 = O.length ∧ parAt G O i = -1) ∨ ∃ j : Nat, parAt G O i = (j : Int) ∧ i < j ∧ j < O.length := by
 unfold parAt
 rcases par_spec (G := G) (O := O) i (O.length - (i + 1)) (i + 1) (by omega) (by omega) with ⟨j, h1, h2, h3, _⟩ | ⟨_, h2⟩
 ·exact .inr ⟨j, h1, by omega, h3⟩
 ·by_cases e : i + 1 = O.length
  ·rw [if_pos e] at h2; exact .inl ⟨e, h2⟩
  ·rw [if_neg e] at h2; exact .inr ⟨i + 1, h2, by omega, by omega⟩
omit hG h in
theorem bags_rd {i n : Nat} (hi : i < n) : rd (bagsL G O n) (i : Int) = ((bagAt G O i : Nat) : Int) := by
 unfold rd bagsL
 rw [Int.toNat_natCast, List.getD_eq_getElem?_getD, List.getElem?_map, List.getElem?_range hi]
 rfl
omit hG h in
theorem pars_rd {i n : Nat} (hi : i < n) : rd (parsL G O n) (i : Int) = parAt G O i := by
 unfold rd parsL
 rw [Int.toNat_natCast, List.getD_eq_getElem?_getD, List.getElem?_map, List.getElem?_range hi]
 rfl
omit hG h in
theorem bags_bit {i n v : Nat} (hi : i < n) : bitI (rd (bagsL G O n) (i : Int)) v = (bagAt G O i).testBit v := by
 rw [bags_rd hi]; rfl
omit hG h in
theorem roots_one : ∀ d i t, i + d = O.length → 0 < d → rootsF (parsL G O O.length) d i t = t + 1
 | 0, i, t, hi, h0 => by omega
 | d + 1, i, t, hi, _ => by
  rw [rootsF, pars_rd (by omega)]
  rcases par_rng (G := G) (O := O) (i := i) (by omega) with ⟨e, hp⟩ | ⟨j, hp, h1, h2⟩
  ·obtain rfl : d = 0 := by omega
   rw [hp, if_pos (by omega), rootsF]
  ·rw [hp, if_neg (by omega)]
   exact roots_one d (i + 1) t (by omega) (by omega)
omit hG h in
theorem up_out : ∀ d (i : Nat), i < O.length → O.length ≤ i + d → upN (parsL G O O.length) d (i : Int) < 0
 | 0, i, hi, hd => by omega
 | d + 1, i, hi, hd => by
  rw [upN, upI, if_neg (by omega), pars_rd hi]
  rcases par_rng (G := G) (O := O) hi with ⟨_, hp⟩ | ⟨j, hp, h1, h2⟩
  ·rw [hp, upN_neg _ (by omega)]; omega
  ·rw [hp]
   exact up_out d j h2 (by omega)
omit hG h in
theorem tops_one (B P : List Int) (v p : Nat) : ∀ (d i t : Nat), (∀ j : Nat, i ≤ j → j < i + d → ((bitI (rd B (j : Int)) v && (decide (rd P (j : Int) < 0) || !bitI (rd B (rd P (j : Int))) v)) = true ↔ j = p)) → topsF B P v d i t = t + (if i ≤ p ∧ p < i + d then 1 else 0)
 | 0, i, t, hc => by
  rw [topsF, if_neg (by omega)]
  rfl
 | d + 1, i, t, hc => by
  rw [topsF, tops_one B P v p d (i + 1) _ fun j h1 h2 => hc j (by omega) (by omega)]
  have hi := hc i (Nat.le_refl _) (by omega)
  by_cases e : i = p
  ·rw [if_pos (hi.2 e), if_neg (by omega), if_pos (by omega)]
  ·rw [if_neg (fun hx => e (hi.1 hx))]
   by_cases e2 : i ≤ p ∧ p < i + (d + 1)
   ·rw [if_pos (by omega), if_pos e2]
   ·rw [if_neg (by omega), if_neg e2]
theorem decomp_td : TD G (bagsL G O O.length) (parsL G O O.length) := by
 have hn := hG.most
 have hp0 := hG.pos
 have hl := h.len
 have hbl : (bagsL G O O.length).length = O.length := by simp [bagsL]
 have hpl : (parsL G O O.length).length = O.length := by simp [parsL]
 refine ⟨by omega, by omega, by omega, fun i hi => ?_, ?_, fun i hi => ?_, fun v hv => ?_, fun v u hvu => ?_⟩
 ·rw [hbl] at hi ⊢
  have hb := bag_lt hG h.inn hi
  unfold InT
  rw [pars_rd hi, bags_rd hi]
  rcases par_rng (G := G) (O := O) hi with ⟨_, hp⟩ | ⟨j, hp, h1, h2⟩
  ·rw [hp]; omega
  ·rw [hp]; omega
 ·rw [hbl, roots_one (G := G) (O := O) O.length 0 0 (by omega) (by omega)]
 ·rw [hbl] at hi ⊢
  exact up_out (G := G) (O := O) O.length i hi (by omega)
 ·obtain ⟨p, hp, e⟩ := o_at h hv
  rw [hbl, tops_one _ _ v p O.length 0 0 fun j _ hj => ?_, if_pos (by omega)]
  have hjl : j < O.length := by omega
  rw [bags_bit hjl, pars_rd hjl, ← e]
  have hbj := bag_bit hG h hjl hp
  unfold bset at hbj
  rw [Bool.and_eq_true, hbj]
  have par_bit : ∀ k : Nat, k < O.length → bitI (rd (bagsL G O O.length) (k : Int)) (O.getD p 0) = (bagAt G O k).testBit (O.getD p 0) := fun k hk => bags_bit hk
  constructor
  ·rintro ⟨rfl | ⟨hlt, hb⟩, htop⟩
   ·rfl
   ·-- the parent holds the node, too
    exfalso
    rcases par_spec (G := G) (O := O) j (O.length - (j + 1)) (j + 1) (by omega) (by omega) with ⟨k, h1, h2, h3, h4, h5⟩ | ⟨h1, _⟩
    ·have hpk : parAt G O j = (k : Int) := h1
     rw [hpk, par_bit k h3] at htop
     have hkp : k ≤ p := Nat.le_of_not_lt fun hx => h5 p (by omega) hx hb
     have hbk : (bagAt G O k).testBit (O.getD p 0) = true := (bag_bit hG h h3 hp).2 (by
      by_cases ekp : k = p
      ·exact .inl ekp.symm
      ·refine .inr ⟨by omega, (higher_bit hG h h3 _).2 ⟨?_, fun hx => ?_, fun hx => ?_⟩⟩
       ·have w1 := ((higher_bit hG h hjl _).1 h4).1
        have w2 := ((higher_bit hG h hjl _).1 hb).1
        have sub : ∀ x, bset (goneAt O j) x → bset (goneAt O k) x := fun x hx => by
         have hxn : x < G.length := bit_lt (gone_lt (G := G) h.inn j) hx
         obtain ⟨q, hq, eq⟩ := o_at h hxn
         rw [← eq] at hx ⊢
         rw [gone_bit h hq] at hx ⊢
         omega
        have hj2 : bset (goneAt O k) (O.getD j 0) := (gone_bit h hjl).2 (by omega)
        exact way_trans (way_symm (fun x y e => hG.adj_symm e) (way_mono sub w1)) hj2 (way_mono sub w2)
       ·have := (gone_bit h hp).1 hx; omega
       ·have := o_inj h hp h3 hx; omega)
     rw [hbk] at htop
     simp at htop
     omega
    ·exact h1 p (by omega) hp hb
  ·rintro rfl
   refine ⟨.inl rfl, ?_⟩
   rcases par_rng (G := G) (O := O) hjl with ⟨_, hpj⟩ | ⟨k, hpk, h1, h2⟩
   ·rw [hpj]; rfl
   ·rw [hpk, par_bit k h2]
    have : (bagAt G O k).testBit (O.getD j 0) = false := by
     cases hb : (bagAt G O k).testBit (O.getD j 0)
     ·rfl
     ·rcases (bag_bit hG h h2 hjl).1 hb with e | ⟨e, _⟩ <;> omega
    rw [this]
    simp
 ·have hv := hG.adj_lt' hvu
  have hu := hG.adj_lt hvu
  obtain ⟨p, hp, ep⟩ := o_at h hv
  obtain ⟨q, hq, eq⟩ := o_at h hu
  have hne : p ≠ q := fun e => by
   rw [e, eq] at ep
   rw [ep] at hvu
   exact hG.adj_irr hvu
  rw [hbl]
  rcases Nat.lt_or_gt_of_ne hne with hlt | hlt
  ·refine ⟨p, hp, ?_, ?_⟩
   ·rw [bags_bit hp, ← ep]; exact (bag_bit hG h hp hp).2 (.inl rfl)
   ·rw [bags_bit hp, ← eq]
    refine (bag_bit hG h hp hq).2 (.inr ⟨hlt, (higher_bit hG h hp _).2 ⟨.one (by rw [ep, eq]; exact hvu), fun hx => ?_, fun hx => ?_⟩⟩)
    ·have := (gone_bit h hq).1 hx; omega
    ·have := o_inj h hq hp hx; omega
  ·refine ⟨q, hq, ?_, ?_⟩
   ·rw [bags_bit hq, ← ep]
    refine (bag_bit hG h hq hp).2 (.inr ⟨hlt, (higher_bit hG h hq _).2 ⟨.one (by rw [ep, eq]; exact hG.adj_symm hvu), fun hx => ?_, fun hx => ?_⟩⟩)
    ·have := (gone_bit h hp).1 hx; omega
    ·have := o_inj h hp hq hx; omega
   ·rw [bags_bit hq, ← eq]; exact (bag_bit hG h hq hq).2 (.inl rfl)
end
theorem treeWidth_l0 (B P : List Int) (hB : ∀ i, i < B.length → 0 ≤ rd B (i : Int) ∧ rd B (i : Int) < 512) (hl : B.length ≤ 30) : ∀ d i m, i + d = B.length → m ≤ 9 → Ev (fun k => width_Tree_width.l0 k (m : Nat) B (B.length : Int) (i : Int)) ((mostF B d i m : Int) - 1) := by
 intro d
 induction d with
 | zero =>
  intro i m hi hm
  rw [mostF]
  refine Ev.step (f := fun _ => some (wrap64 ((m : Int) - 1))) (fun k => by rw [width_Tree_width.l0, if_neg (by omega)]) (Ev.some ?_)
  rw [w64_small _ (by omega) (by omega)]
 | succ d ih =>
  intro i m hi hm
  obtain ⟨b1, b2⟩ := hB i (by omega)
  obtain ⟨b, hb⟩ : ∃ b : Nat, rd B (i : Int) = (b : Int) := ⟨(rd B (i : Int)).toNat, by omega⟩
  have hbt : (rd B (i : Int)).toNat = b := by omega
  have hpc := pc_le b 9
  rw [mostF, hbt]
  refine Ev.step (fun k => by rw [width_Tree_width.l0, if_pos (by omega), if_pos (by omega), if_pos (by omega), hb, wrap_succ i (by omega)]) (Ev.bind1 (count_eq b (by omega)) ?_)
  rw [mx_nat]
  exact ih (i + 1) _ (by omega) (by omega)
theorem treeWidth_ev {G : List Nat} (hG : Gr 9 G) {B P : List Int} (h : TD G B P) : Ev (fun k => width_Tree_width.f k B P) ((mostF B B.length 0 0 : Int) - 1) := by
 have h29 : 2 ^ G.length ≤ 2 ^ 9 := Nat.pow_le_pow_right (by omega) hG.most
 unfold width_Tree_width.f
 exact treeWidth_l0 B P (fun i hi => by have := h.inn i hi; exact ⟨this.2.2.1, by have := this.2.2.2; omega⟩) h.most B.length 0 0 (by omega) (by omega)
end Go.Proofs.YtoffehihicabcaaDoor.X
end
section
namespace Go.Proofs.YtoffehihicabcaaDoor.T
open Go.RowKit YtoffehihicabcaaDoorW.PrintWords YtoffehihicabcaaDoorW.PrintLast YtoffehihicabcaaDoorW.PrintMore
def TopOf (par : Nat → Option Nat) (β : Nat → Nat → Prop) (v k : Nat) : Prop := β k v ∧ ∀ p, par k = some p → ¬ β p v
structure ATD (I : Nat → Prop) (par : Nat → Option Nat) (β : Nat → Nat → Prop) (V : Nat → Prop) (adj : Nat → Nat → Prop) (ρ : Nat → Nat) : Prop where
 inn : ∀ k p, I k → par k = some p → I p
 rank : ∀ k p, I k → par k = some p → ρ p < ρ k
 root : ∃ r, I r ∧ par r = none ∧ ∀ k, I k → par k = none → k = r
 sub : ∀ k v, I k → β k v → V v
 top : ∀ v, V v → ∃ t, I t ∧ TopOf par β v t ∧ ∀ k, I k → TopOf par β v k → k = t
 edge : ∀ u v, adj u v → ∃ k, I k ∧ β k u ∧ β k v
inductive Anc (par : Nat → Option Nat) : Nat → Nat → Prop
 | refl (k : Nat) : Anc par k k
 | step {k q t : Nat} : par k = some q → Anc par q t → Anc par k t
section
variable {I : Nat → Prop} {par : Nat → Option Nat} {β : Nat → Nat → Prop} {V : Nat → Prop} {adj : Nat → Nat → Prop} {ρ : Nat → Nat} (h : ATD I par β V adj ρ)
include h
theorem anc_rank {k t : Nat} (hk : I k) (ha : Anc par k t) : ρ t ≤ ρ k ∧ (t ≠ k → ρ t < ρ k) := by
 induction ha with
 | refl k => exact ⟨Nat.le_refl _, fun e => absurd rfl e⟩
 | @step k q t e _ ih =>
  have h1 := h.rank k q hk e
  have h2 := (ih (h.inn k q hk e)).1
  exact ⟨by omega, fun _ => by omega⟩
theorem up_top {v t : Nat} (ht : ∀ k, I k → TopOf par β v k → k = t) : ∀ (d k : Nat), ρ k ≤ d → I k → β k v → Anc par k t := by
 intro d
 induction d with
 | zero =>
  intro k hd hk hb
  have : TopOf par β v k := ⟨hb, fun p e => by have := h.rank k p hk e; omega⟩
  rw [← ht k hk this]
  exact .refl k
 | succ d ih =>
  intro k hd hk hb
  by_cases hx : ∃ p, par k = some p ∧ β p v
  ·obtain ⟨p, e, hp⟩ := hx
   have := h.rank k p hk e
   exact .step e (ih p (by omega) (h.inn k p hk e) hp)
  ·have : TopOf par β v k := ⟨hb, fun p e hp => hx ⟨p, e, hp⟩⟩
   rw [← ht k hk this]
   exact .refl k
theorem up_has {v t : Nat} (ht : ∀ k, I k → TopOf par β v k → k = t) {m a : Nat} (hm : I m) (ha : Anc par m a) (hb : β m v) (hr : ρ t ≤ ρ a) : β a v := by
 induction ha with
 | refl k => exact hb
 | @step k q a e hqa ih =>
  have hq := h.inn k q hm e
  refine ih hq ?_ hr
  apply Classical.byContradiction
  intro hn
  have : TopOf par β v k := ⟨hb, fun p e2 hp => by
   rw [e] at e2
   obtain rfl := Option.some.inj e2
   exact hn hp⟩
  have ek := ht k hm this
  have h1 := h.rank k q hm e
  have h2 := (anc_rank h hq hqa).1
  rw [← ek] at hr
  omega
theorem clique_bag {S : List Nat} (hne : S ≠ []) (hV : ∀ v ∈ S, V v) (hS : ∀ u ∈ S, ∀ v ∈ S, u ≠ v → adj u v) : ∃ k, I k ∧ ∀ v ∈ S, β k v := by
 have low : ∀ L : List Nat, L ≠ [] → (∀ v ∈ L, V v) → ∃ v t, v ∈ L ∧ I t ∧ TopOf par β v t ∧ (∀ k, I k → TopOf par β v k → k = t) ∧ ∀ u ∈ L, ∀ t', I t' → TopOf par β u t' → ρ t' ≤ ρ t := by
  intro L
  induction L with
  | nil => intro hn; exact absurd rfl hn
  | cons x L ih =>
   intro _ hL
   obtain ⟨tx, i1, i2, i3⟩ := h.top x (hL x List.mem_cons_self)
   by_cases hl : L = []
   ·subst hl
    refine ⟨x, tx, List.mem_cons_self, i1, i2, i3, fun u hu t' h1 h2 => ?_⟩
    rw [List.mem_singleton.1 hu] at h2
    rw [i3 t' h1 h2]
    exact Nat.le_refl _
   ·obtain ⟨v, t, j1, j2, j3, j4, j5⟩ := ih hl fun u hu => hL u (List.mem_cons_of_mem _ hu)
    by_cases hc : ρ tx ≤ ρ t
    ·refine ⟨v, t, List.mem_cons_of_mem _ j1, j2, j3, j4, fun u hu t' h1 h2 => ?_⟩
     rcases List.mem_cons.1 hu with rfl | hu
     ·rw [i3 t' h1 h2]; exact hc
     ·exact j5 u hu t' h1 h2
    ·refine ⟨x, tx, List.mem_cons_self, i1, i2, i3, fun u hu t' h1 h2 => ?_⟩
     rcases List.mem_cons.1 hu with rfl | hu
     ·rw [i3 t' h1 h2]; exact Nat.le_refl _
     ·have := j5 u hu t' h1 h2; omega
 obtain ⟨v, t, j1, j2, j3, j4, j5⟩ := low S hne hV
 refine ⟨t, j2, fun u hu => ?_⟩
 by_cases e : u = v
 ·rw [e]; exact j3.1
 ·obtain ⟨m, hm, hbu, hbv⟩ := h.edge u v (hS u hu v j1 e)
  obtain ⟨tu, k1, k2, k3⟩ := h.top u (hV u hu)
  exact up_has h k3 hm (up_top h j4 _ m (Nat.le_refl _) hm hbv) hbu (j5 u hu tu k1 k2)
theorem merge_atd {i p : Nat} (hi : I i) (hp : par i = some p) :
  ATD (fun k => I k ∧ k ≠ i) (fun k => if par k = some i then some p else par k) (fun k v => β k v ∨ (k = p ∧ β i v)) V adj ρ := by
 have hpI := h.inn i p hi hp
 have hrp := h.rank i p hi hp
 have hpi : p ≠ i := fun e => by rw [e] at hrp; omega
 have par' : ∀ k q, I k → (if par k = some i then some p else par k) = some q → (par k = some i ∧ q = p) ∨ (par k ≠ some i ∧ par k = some q) := fun k q hk e => by
  by_cases hx : par k = some i
  ·rw [if_pos hx] at e; exact .inl ⟨hx, (Option.some.inj e).symm⟩
  ·rw [if_neg hx] at e; exact .inr ⟨hx, e⟩
 refine ⟨fun k q hk e => ?_, fun k q hk e => ?_, ?_, fun k v hk hb => ?_, fun v hv => ?_, fun u v huv => ?_⟩
 ·rcases par' k q hk.1 e with ⟨_, rfl⟩ | ⟨h1, h2⟩
  ·exact ⟨hpI, hpi⟩
  ·exact ⟨h.inn k q hk.1 h2, fun e => h1 (by rw [h2, e])⟩
 ·rcases par' k q hk.1 e with ⟨h1, rfl⟩ | ⟨_, h2⟩
  ·have := h.rank k i hk.1 h1; omega
  ·exact h.rank k q hk.1 h2
 ·obtain ⟨r, r1, r2, r3⟩ := h.root
  refine ⟨r, ⟨r1, fun e => by rw [e, hp] at r2; cases r2⟩, ?_, fun k hk e => ?_⟩
  ·show (if par r = some i then some p else par r) = none
   rw [if_neg (by rw [r2]; simp), r2]
  ·have e : (if par k = some i then some p else par k) = none := e
   by_cases hx : par k = some i
   ·rw [if_pos hx] at e; cases e
   ·rw [if_neg hx] at e; exact r3 k hk.1 e
 ·rcases hb with hb | ⟨_, hb⟩
  ·exact h.sub k v hk.1 hb
  ·exact h.sub i v hi hb
 ·obtain ⟨t, t1, t2, t3⟩ := h.top v hv
  have low : ∀ k, I k → β k v → ρ t ≤ ρ k := fun k hk hb => (anc_rank h hk (up_top h t3 _ k (Nat.le_refl _) hk hb)).1
  have first : ∀ k, (I k ∧ k ≠ i) → TopOf (fun k => if par k = some i then some p else par k) (fun k v => β k v ∨ (k = p ∧ β i v)) v k → (t = i ∧ k = p) ∨ (t ≠ i ∧ k = t) := by
   rintro k ⟨hk, hki⟩ ⟨hb, hno⟩
   have hb : β k v ∨ (k = p ∧ β i v) := hb
   have hno : ∀ q, (if par k = some i then some p else par k) = some q → ¬ (β q v ∨ (q = p ∧ β i v)) := hno
   by_cases hkv : β k v
   ·-- k is a top
    have : TopOf par β v k := ⟨hkv, fun q e hq => by
     by_cases hx : par k = some i
     ·rw [hx] at e
      obtain rfl := Option.some.inj e
      exact hno p (if_pos hx) (.inr ⟨rfl, hq⟩)
     ·exact hno q (by rw [if_neg hx, e]) (.inl hq)⟩
    have ek := t3 k hk this
    exact .inr ⟨fun e => hki (ek.trans e), ek⟩
   ·rcases hb with hb1 | ⟨e0, hb2⟩
    ·exact absurd hb1 hkv
    ·have : TopOf par β v i := ⟨hb2, fun q e hq => by
      rw [hp] at e
      have e3 := Option.some.inj e
      rw [e0, e3] at hkv
      exact hkv hq⟩
     exact .inl ⟨(t3 i hi this).symm, e0⟩
  by_cases hti : t = i
  ·refine ⟨p, ⟨hpI, hpi⟩, ⟨.inr ⟨rfl, by rw [← hti]; exact t2.1⟩, fun q e => ?_⟩, fun k hk ht => ?_⟩
   ·rcases par' p q hpI e with ⟨h1, _⟩ | ⟨_, h2⟩
    ·have := h.rank p i hpI h1; omega
    ·have h3 := h.rank p q hpI h2
     rintro (hq | ⟨rfl, _⟩)
     ·have := low q (h.inn p q hpI h2) hq
      rw [hti] at this
      omega
     ·omega
   ·rcases first k hk ht with ⟨_, e⟩ | ⟨e, _⟩
    ·exact e
    ·exact absurd hti e
  ·refine ⟨t, ⟨t1, hti⟩, ⟨.inl t2.1, fun q e => ?_⟩, fun k hk ht => ?_⟩
   ·rcases par' t q t1 e with ⟨h1, rfl⟩ | ⟨h1, h2⟩
    ·have hA : ¬ β i v := t2.2 i h1
     have := h.rank t i t1 h1
     rintro (hq | ⟨_, hq⟩)
     ·have := low _ hpI hq; omega
     ·exact hA hq
    ·have hq0 := t2.2 q h2
     rintro (hq | ⟨rfl, hq⟩)
     ·exact hq0 hq
     ·-- q = p: i would be a top
      have : TopOf par β v i := ⟨hq, fun q' e' hq' => by
       rw [hp] at e'
       obtain rfl := Option.some.inj e'
       exact hq0 hq'⟩
      exact hti (t3 i hi this).symm
   ·rcases first k hk ht with ⟨e, _⟩ | ⟨_, e⟩
    ·exact absurd e hti
    ·exact e
 ·obtain ⟨k, k1, k2, k3⟩ := h.edge u v huv
  by_cases e : k = i
  ·subst e
   exact ⟨p, ⟨hpI, hpi⟩, .inr ⟨rfl, k2⟩, .inr ⟨rfl, k3⟩⟩
  ·exact ⟨k, ⟨k1, e⟩, .inl k2, .inl k3⟩
end
end Go.Proofs.YtoffehihicabcaaDoor.T
end
section
namespace Go.Proofs.YtoffehihicabcaaDoor.X
open Go.RowKit YtoffehihicabcaaDoorW.PrintWords YtoffehihicabcaaDoorW.PrintLast YtoffehihicabcaaDoorW.PrintMore YtoffehihicabcaaDoor.T
def parO (P : List Int) (k : Nat) : Option Nat := if rd P (k : Int) < 0 then none else some (rd P (k : Int)).toNat
def bet (B : List Int) (k v : Nat) : Prop := bitI (rd B (k : Int)) v = true
theorem parO_some {P : List Int} {k p : Nat} : parO P k = some p ↔ rd P (k : Int) = (p : Int) := by
 unfold parO
 by_cases h : rd P (k : Int) < 0
 ·rw [if_pos h]
  exact ⟨fun e => (by cases e), fun e => by omega⟩
 ·rw [if_neg h]
  constructor
  ·intro e; have := Option.some.inj e; omega
  ·intro e; congr 1; omega
theorem parO_none {P : List Int} {k : Nat} : parO P k = none ↔ rd P (k : Int) < 0 := by
 unfold parO
 by_cases h : rd P (k : Int) < 0
 ·rw [if_pos h]; exact ⟨fun _ => h, fun _ => rfl⟩
 ·rw [if_neg h]; exact ⟨fun e => (by cases e), fun e => absurd e h⟩
theorem top_cond (B P : List Int) (v k : Nat) : (bitI (rd B (k : Int)) v && (decide (rd P (k : Int) < 0) || !bitI (rd B (rd P (k : Int))) v)) = true ↔ TopOf (parO P) (bet B) v k := by
 unfold TopOf bet
 rw [Bool.and_eq_true, Bool.or_eq_true, decide_eq_true_eq, Bool.not_eq_true']
 constructor
 ·rintro ⟨h1, h2⟩
  refine ⟨h1, fun p e hp => ?_⟩
  rw [parO_some] at e
  rcases h2 with h2 | h2
  ·omega
  ·rw [e, hp] at h2; cases h2
 ·rintro ⟨h1, h2⟩
  refine ⟨h1, ?_⟩
  by_cases h : rd P (k : Int) < 0
  ·exact .inl h
  ·right
   have h3 := h2 (rd P (k : Int)).toNat (parO_some.2 (by omega))
   rw [show (((rd P (k : Int)).toNat : Nat) : Int) = rd P (k : Int) by omega] at h3
   simpa using h3
theorem tops_len (B P : List Int) (v : Nat) : ∀ (d i t : Nat), topsF B P v d i t = t + ((List.range' i d).filter fun (k : Nat) => bitI (rd B (k : Int)) v && (decide (rd P (k : Int) < 0) || !bitI (rd B (rd P (k : Int))) v)).length
 | 0, i, t => by simp [topsF]
 | d + 1, i, t => by
  rw [topsF, tops_len B P v d (i + 1), List.range'_succ, List.filter_cons]
  split <;> simp <;> omega
theorem roots_len (P : List Int) : ∀ (d i t : Nat), rootsF P d i t = t + ((List.range' i d).filter fun (k : Nat) => decide (rd P (k : Int) < 0)).length
 | 0, i, t => by simp [rootsF]
 | d + 1, i, t => by
  rw [rootsF, roots_len P d (i + 1), List.range'_succ, List.filter_cons]
  by_cases h : rd P (i : Int) < 0
  ·rw [if_pos h, if_pos (by simp [h])]; simp; omega
  ·rw [if_neg h, if_neg (by simp [h])]
theorem one_len (n : Nat) (q : Nat → Bool) : ((List.range' 0 n).filter q).length = 1 ↔ ∃ t, t < n ∧ q t = true ∧ ∀ k, k < n → q k = true → k = t := by
 have hnd : ((List.range' 0 n).filter q).Nodup := List.Pairwise.filter _ (List.nodup_range' (step := 1))
 have hm : ∀ k, k ∈ (List.range' 0 n).filter q ↔ k < n ∧ q k = true := fun k => by
  rw [List.mem_filter, List.mem_range'_1]
  constructor
  ·rintro ⟨h1, h2⟩; exact ⟨by omega, h2⟩
  ·rintro ⟨h1, h2⟩; exact ⟨by omega, h2⟩
 constructor
 ·intro h
  obtain ⟨t, ht⟩ := List.length_eq_one_iff.1 h
  have h1 := (hm t).1 (by rw [ht]; exact List.mem_singleton.2 rfl)
  refine ⟨t, h1.1, h1.2, fun k hk hq => ?_⟩
  have := (hm k).2 ⟨hk, hq⟩
  rw [ht] at this
  exact List.mem_singleton.1 this
 ·rintro ⟨t, h1, h2, h3⟩
  refine Nat.le_antisymm ?_ (List.length_pos_of_mem ((hm t).2 ⟨h1, h2⟩))
  have := nodup_le hnd (m := [t]) fun k hk => by
   have := (hm k).1 hk
   rw [h3 k this.1 this.2]
   exact List.mem_singleton.2 rfl
  simpa using this
def depF (P : List Int) : Nat → Int → Nat
 | 0, _ => 0
 | d + 1, a => if a < 0 then 0 else depF P d (rd P a) + 1
theorem depF_more (P : List Int) : ∀ (d : Nat) (a : Int), upN P d a < 0 → depF P (d + 1) a = depF P d a
 | 0, a, h => by
  rw [upN] at h
  show (if a < 0 then 0 else depF P 0 (rd P a) + 1) = 0
  rw [if_pos h]
 | d + 1, a, h => by
  rw [upN, upI] at h
  rw [depF]
  by_cases h0 : a < 0
  ·rw [if_pos h0, depF, if_pos h0]
  ·rw [if_neg h0] at h
   rw [if_neg h0, depF_more P d _ h]
   conv => rhs; rw [depF, if_neg h0]
theorem td_to {G : List Nat} {B P : List Int} (hG : Gr 9 G) (h : TD G B P) : ATD (fun k => k < B.length) (parO P) (bet B) (fun v => v < G.length) (Adj G) (fun k => depF P B.length (k : Int)) := by
 have inn : ∀ k p : Nat, k < B.length → parO P k = some p → p < B.length := fun k p hk e => by
  rw [parO_some] at e
  have := (h.inn k hk).2.1
  omega
 refine ⟨inn, fun k p hk e => ?_, ?_, fun k v hk hb => ?_, fun v hv => ?_, fun u v huv => ?_⟩
 ·have hp := inn k p hk e
  rw [parO_some] at e
  have h1 := depF_more P B.length (k : Int) (h.acyc k hk)
  rw [depF, if_neg (by omega), e] at h1
  show depF P B.length (p : Int) < depF P B.length (k : Int)
  omega
 ·have h1 := h.root
  rw [roots_len, Nat.zero_add, one_len] at h1
  obtain ⟨r, r1, r2, r3⟩ := h1
  exact ⟨r, r1, parO_none.2 (by simpa using r2), fun k hk e => r3 k hk (by simpa using parO_none.1 e)⟩
 ·have := h.inn k hk
  unfold bet bitI at hb
  exact bit_lt (show (rd B (k : Int)).toNat < 2 ^ G.length by have := this.2.2; omega) hb
 ·have h1 := h.tops v hv
  rw [tops_len, Nat.zero_add, one_len] at h1
  obtain ⟨t, t1, t2, t3⟩ := h1
  exact ⟨t, t1, (top_cond B P v t).1 t2, fun k hk ht => t3 k hk ((top_cond B P v k).2 ht)⟩
 ·exact h.edge u v huv
theorem td_of {G : List Nat} {B P : List Int} {ρ : Nat → Nat} (h1 : 1 ≤ B.length) (h2 : B.length ≤ 30) (h3 : P.length = B.length) (h4 : ∀ i, i < B.length → InT G B P B.length i) (h : ATD (fun k => k < B.length) (parO P) (bet B) (fun v => v < G.length) (Adj G) ρ) : TD G B P := by
 have climb : ∀ d (k : Nat), k < B.length → ρ k ≤ d → upN P (d + 1) (k : Int) < 0 := by
  intro d
  induction d with
  | zero =>
   intro k hk hd
   cases e : parO P k with
   | none =>
    have := parO_none.1 e
    rw [upN, upN, upI, if_neg (by omega)]
    exact this
   | some p => have := h.rank k p hk e; omega
  | succ d ih =>
   intro k hk hd
   cases e : parO P k with
   | none =>
    have := parO_none.1 e
    rw [upN, upI, if_neg (by omega), upN_neg P this]
    exact this
   | some p =>
    have h5 := h.rank k p hk e
    have h6 := h.inn k p hk e
    rw [parO_some] at e
    rw [upN, upI, if_neg (by omega), e]
    exact ih p h6 (by omega)
 refine ⟨h1, h2, h3, h4, ?_, fun i hi => up_within (fun j hj => (h4 j hj).2.1) hi (climb _ i hi (Nat.le_refl _)), fun v hv => ?_, fun v u hvu => h.edge v u hvu⟩
 ·rw [roots_len, Nat.zero_add, one_len]
  obtain ⟨r, r1, r2, r3⟩ := h.root
  exact ⟨r, r1, by simpa using parO_none.1 r2, fun k hk e => r3 k hk (parO_none.2 (by simpa using e))⟩
 ·rw [tops_len, Nat.zero_add, one_len]
  obtain ⟨t, t1, t2, t3⟩ := h.top v hv
  exact ⟨t, t1, (top_cond B P v t).2 t2, fun k hk e => t3 k hk ((top_cond B P v k).1 e)⟩
end Go.Proofs.YtoffehihicabcaaDoor.X
end
section
namespace Go.Proofs.YtoffehihicabcaaDoor.T
open Go.RowKit YtoffehihicabcaaDoorW.PrintWords YtoffehihicabcaaDoorW.PrintLast YtoffehihicabcaaDoorW.PrintMore
def up (v u : Nat) : Nat := if u < v then u else u + 1
def down (v u : Nat) : Nat := if u < v then u else u - 1
theorem down_up (v u : Nat) : down v (up v u) = u := by
 unfold down up
 by_cases h : u < v
 ·rw [if_pos h, if_pos h]
 ·rw [if_neg h, if_neg (by omega)]; omega
theorem up_ne (v u : Nat) : up v u ≠ v := by unfold up; split <;> omega
theorem up_inj (v a b : Nat) (h : up v a = up v b) : a = b := by rw [← down_up v a, h, down_up]
theorem up_onto {v u : Nat} (h : u ≠ v) : up v (down v u) = u := by
 unfold up down
 by_cases h1 : u < v
 ·rw [if_pos h1, if_pos h1]
 ·rw [if_neg h1, if_neg (by omega)]; omega
end Go.Proofs.YtoffehihicabcaaDoor.T
end
section
namespace Go.Proofs.YtoffehihicabcaaDoor.X
open Go.RowKit YtoffehihicabcaaDoorW.PrintWords YtoffehihicabcaaDoorW.PrintLast YtoffehihicabcaaDoorW.PrintMore YtoffehihicabcaaDoor.T
theorem atd_map {I I' : Nat → Prop} {par par' : Nat → Option Nat} {β β' : Nat → Nat → Prop} {V : Nat → Prop} {adj : Nat → Nat → Prop} {ρ : Nat → Nat} (f : Nat → Nat) (hf : ∀ a b, f a = f b → a = b) (hI : ∀ k, I' k → I (f k)) (hI2 : ∀ k, I k → ∃ k', I' k' ∧ f k' = k)
  (hp : ∀ k, I' k → par (f k) = (par' k).map f) (hb : ∀ k v, I' k → (β' k v ↔ β (f k) v)) (h : ATD I par β V adj ρ) : ATD I' par' β' V adj (fun k => ρ (f k)) := by
 have some' : ∀ k q, I' k → par' k = some q → par (f k) = some (f q) := fun k q hk e => by rw [hp k hk, e]; rfl
 have inn : ∀ k q, I' k → par' k = some q → I' q := fun k q hk e => by
  obtain ⟨q', h1, h2⟩ := hI2 _ (h.inn _ _ (hI k hk) (some' k q hk e))
  rw [← hf _ _ h2]; exact h1
 have top' : ∀ v k, I' k → (TopOf par' β' v k ↔ TopOf par β v (f k)) := fun v k hk => by
  constructor
  ·rintro ⟨h1, h2⟩
   refine ⟨(hb k v hk).1 h1, fun q e hq => ?_⟩
   rw [hp k hk] at e
   cases e2 : par' k with
   | none => rw [e2] at e; cases e
   | some q' =>
    rw [e2] at e
    have e3 : f q' = q := Option.some.inj e
    exact h2 q' e2 ((hb q' v (inn k q' hk e2)).2 (by rw [e3]; exact hq))
  ·rintro ⟨h1, h2⟩
   exact ⟨(hb k v hk).2 h1, fun q e hq => h2 (f q) (some' k q hk e) ((hb q v (inn k q hk e)).1 hq)⟩
 refine ⟨inn, fun k q hk e => h.rank _ _ (hI k hk) (some' k q hk e), ?_, fun k v hk hv => h.sub _ v (hI k hk) ((hb k v hk).1 hv), fun v hv => ?_, fun u v huv => ?_⟩
 ·obtain ⟨r, r1, r2, r3⟩ := h.root
  obtain ⟨r', h1, h2⟩ := hI2 r r1
  refine ⟨r', h1, ?_, fun k hk e => hf _ _ ?_⟩
  ·have := hp r' h1
   rw [h2, r2] at this
   cases e : par' r' with
   | none => rfl
   | some q => rw [e] at this; cases this
  ·rw [h2]
   exact r3 _ (hI k hk) (by rw [hp k hk, e]; rfl)
 ·obtain ⟨t, t1, t2, t3⟩ := h.top v hv
  obtain ⟨t', h1, h2⟩ := hI2 t t1
  exact ⟨t', h1, (top' v t' h1).2 (by rw [h2]; exact t2), fun k hk hk2 => hf _ _ (by rw [h2]; exact t3 _ (hI k hk) ((top' v k hk).1 hk2))⟩
 ·obtain ⟨k, k1, k2, k3⟩ := h.edge u v huv
  obtain ⟨k', h1, h2⟩ := hI2 k k1
  exact ⟨k', h1, (hb k' u h1).2 (by rw [h2]; exact k2), (hb k' v h1).2 (by rw [h2]; exact k3)⟩
def mergeB (B : List Int) (i p : Nat) : List Int := (B.set p ((((rd B (p : Int)).toNat ||| (rd B (i : Int)).toNat : Nat)) : Int)).eraseIdx i
def mergeP (P : List Int) (i p : Nat) : List Int := ((P.map fun q => if q = (i : Int) then (p : Int) else q).eraseIdx i).map fun q => if q > (i : Int) then q - 1 else q
theorem rd_set (l : List Int) (i j : Nat) (x : Int) (hi : i < l.length) : rd (l.set i x) (j : Int) = if j = i then x else rd l (j : Int) := by
 unfold rd
 simp only [Int.toNat_natCast, List.getD_eq_getElem?_getD, List.getElem?_set]
 by_cases h : i = j
 ·subst h; simp [hi]
 ·rw [if_neg h, if_neg (fun e => h e.symm)]
theorem rd_erase (l : List Int) (i j : Nat) : rd (l.eraseIdx i) (j : Int) = rd l ((T.up i j : Nat) : Int) := by
 unfold rd T.up
 simp only [Int.toNat_natCast, List.getD_eq_getElem?_getD, List.getElem?_eraseIdx]
 split <;> rfl
theorem rd_map (l : List Int) (f : Int → Int) (j : Nat) (hj : j < l.length) : rd (l.map f) (j : Int) = f (rd l (j : Int)) := by
 unfold rd
 simp only [Int.toNat_natCast, List.getD_eq_getElem?_getD, List.getElem?_map, List.getElem?_eq_getElem hj]
 rfl
theorem mergeB_len {B : List Int} {i p : Nat} (hi : i < B.length) : (mergeB B i p).length = B.length - 1 := by
 unfold mergeB
 rw [List.length_eraseIdx, if_pos (by rw [List.length_set]; exact hi), List.length_set]
theorem mergeP_len {P : List Int} {i p : Nat} (hi : i < P.length) : (mergeP P i p).length = P.length - 1 := by
 unfold mergeP
 rw [List.length_map, List.length_eraseIdx, if_pos (by rw [List.length_map]; exact hi), List.length_map]
theorem mergeB_rd {B : List Int} {i p : Nat} (hp : p < B.length) (j : Nat) : rd (mergeB B i p) (j : Int) = if T.up i j = p then (((rd B (p : Int)).toNat ||| (rd B (i : Int)).toNat : Nat) : Int) else rd B ((T.up i j : Nat) : Int) := by
 unfold mergeB
 rw [rd_erase, rd_set _ _ _ _ hp]
theorem mergeP_rd {P : List Int} {i p : Nat} (hi : i < P.length) {j : Nat} (hj : j < P.length - 1) : rd (mergeP P i p) (j : Int) = if (if rd P ((T.up i j : Nat) : Int) = (i : Int) then (p : Int) else rd P ((T.up i j : Nat) : Int)) > (i : Int) then (if rd P ((T.up i j : Nat) : Int) = (i : Int) then (p : Int) else rd P ((T.up i j : Nat) : Int)) - 1 else (if rd P ((T.up i j : Nat) : Int) = (i : Int) then (p : Int) else rd P ((T.up i j : Nat) : Int)) := by
 have hu : T.up i j < P.length := by unfold T.up; split <;> omega
 unfold mergeP
 rw [rd_map _ _ _ (by rw [List.length_eraseIdx, if_pos (by rw [List.length_map]; exact hi), List.length_map]; exact hj), rd_erase, rd_map _ _ _ hu]
theorem merge_td {G : List Nat} (hG : Gr 9 G) {B P : List Int} (h : TD G B P) {i p : Nat} (hi : i < B.length) (hp : rd P (i : Int) = (p : Int)) : TD G (mergeB B i p) (mergeP P i p) := by
 have hA := td_to hG h
 have hpn : p < B.length := hA.inn i p hi (parO_some.2 hp)
 have hrk := hA.rank i p hi (parO_some.2 hp)
 have hpi : p ≠ i := fun e => by rw [e] at hrk; omega
 have hl := h.len
 have hM := merge_atd hA hi (parO_some.2 hp)
 have hbl := mergeB_len (B := B) (p := p) hi
 have hpl := mergeP_len (P := P) (p := p) (show i < P.length by omega)
 have h30 := h.most
 have upl : ∀ k, k < B.length - 1 → T.up i k < B.length := fun k hk => by unfold T.up; split <;> omega
 have hrow : ∀ k, k < B.length - 1 → InT G (mergeB B i p) (mergeP P i p) (B.length - 1) k ∧ parO (mergeP P i p) k = (if rd P ((T.up i k : Nat) : Int) < 0 then none else some (T.down i (if rd P ((T.up i k : Nat) : Int) = (i : Int) then p else (rd P ((T.up i k : Nat) : Int)).toNat))) := fun k hk => by
  have hu := upl k hk
  obtain ⟨a1, a2, a3, a4⟩ := h.inn _ hu
  obtain ⟨b1, b2, b3, b4⟩ := h.inn p hpn
  obtain ⟨c1, c2, c3, c4⟩ := h.inn i hi
  have hq := mergeP_rd (P := P) (p := p) (show i < P.length by omega) (show k < P.length - 1 by omega)
  have hself : rd P ((T.up i k : Nat) : Int) ≠ ((T.up i k : Nat) : Int) := fun e => by
   have := hA.rank _ _ hu (parO_some.2 e)
   omega
  generalize rd P ((T.up i k : Nat) : Int) = q at *
  have hor : ((rd B (p : Int)).toNat ||| (rd B (i : Int)).toNat) < 2 ^ G.length := Nat.or_lt_two_pow (by omega) (by omega)
  have hB : 0 ≤ rd (mergeB B i p) (k : Int) ∧ rd (mergeB B i p) (k : Int) < ((2 ^ G.length : Nat) : Int) := by
   rw [mergeB_rd hpn]
   split <;> omega
  constructor
  ·unfold InT
   refine ⟨?_, ?_, hB.1, hB.2⟩
   ·rw [hq]
    by_cases e : q = (i : Int)
    ·rw [if_pos e]; split <;> omega
    ·rw [if_neg e]; split <;> omega
   ·rw [hq]
    by_cases e : q = (i : Int)
    ·rw [if_pos e]; split <;> omega
    ·rw [if_neg e]; split <;> omega
  ·unfold parO
   rw [hq]
   by_cases h0 : q < 0
   ·rw [if_neg (show ¬ q = (i : Int) by omega), if_neg (show ¬ q > (i : Int) by omega), if_pos h0, if_pos h0]
   ·rw [if_neg h0]
    unfold T.down
    by_cases e : q = (i : Int)
    ·rw [if_pos e, if_pos e]
     by_cases e2 : (p : Int) > (i : Int)
     ·rw [if_pos e2, if_neg (by omega), if_neg (by omega)]; congr 1; omega
     ·rw [if_neg e2, if_neg (by omega), if_pos (by omega)]; congr 1
    ·rw [if_neg e, if_neg e]
     by_cases e2 : q > (i : Int)
     ·rw [if_pos e2, if_neg (by omega), if_neg (by omega)]; congr 1; omega
     ·rw [if_neg e2, if_neg (by omega), if_pos (by omega)]
 refine td_of (by rw [hbl]; omega) (by omega) (by omega) (fun k hk => by rw [hbl] at hk ⊢; exact (hrow k hk).1) (ρ := fun k => depF P B.length ((T.up i k : Nat) : Int)) ?_
 refine atd_map (T.up i) (T.up_inj i) (fun k hk => ?_) (fun k hk => ?_) (fun k hk => ?_) (fun k v hk => ?_) hM
 ·rw [hbl] at hk
  exact ⟨upl k hk, T.up_ne i k⟩
 ·refine ⟨T.down i k, ?_, T.up_onto hk.2⟩
  show T.down i k < (mergeB B i p).length
  have h1 : k < B.length := hk.1
  have h2 : k ≠ i := hk.2
  rw [hbl]
  unfold T.down
  split <;> omega
 ·rw [hbl] at hk
  rw [(hrow k hk).2]
  show (if parO P (T.up i k) = some i then some p else parO P (T.up i k)) = _
  have hu := upl k hk
  have hin := (h.inn _ hu).1
  by_cases h0 : rd P ((T.up i k : Nat) : Int) < 0
  ·have := parO_none.2 h0
   rw [this, if_pos h0, if_neg (by simp)]
   rfl
  ·rw [if_neg h0]
   have hs : parO P (T.up i k) = some (rd P ((T.up i k : Nat) : Int)).toNat := by unfold parO; rw [if_neg h0]
   rw [hs]
   by_cases e : rd P ((T.up i k : Nat) : Int) = (i : Int)
   ·rw [if_pos e, if_pos (by rw [e]; simp)]
    simp only [Option.map_some]
    rw [T.up_onto hpi]
   ·rw [if_neg e, if_neg (fun hx => e (by have := Option.some.inj hx; omega))]
    simp only [Option.map_some]
    rw [T.up_onto (by omega)]
 ·rw [hbl] at hk
  unfold bet
  rw [mergeB_rd hpn]
  by_cases e : T.up i k = p
  ·rw [if_pos e, e]
   unfold bitI
   rw [Int.toNat_natCast, Nat.testBit_or, Bool.or_eq_true]
   simp
  ·rw [if_neg e]
   simp [e]
def bagN (B : List Int) (i : Int) : Nat := (rd B i).toNat
def okM (B P : List Int) (i : Nat) : Bool := decide (0 ≤ rd P (i : Int)) && (decide (diff (bagN B (i : Int)) (bagN B (rd P (i : Int))) = 0) || decide (diff (bagN B (rd P (i : Int))) (bagN B (i : Int)) = 0))
def pickM (B P : List Int) : Option Nat := (List.range P.length).find? (okM B P)
def narN : Nat → List Int → List Int → List Int × List Int
 | 0, B, P => (B, P)
 | d + 1, B, P => match pickM B P with
  | some i => narN d (mergeB B i (rd P (i : Int)).toNat) (mergeP P i (rd P (i : Int)).toNat)
  | none => (B, P)
theorem diff_zero {a b : Nat} : diff a b = 0 ↔ ∀ v, bset a v → bset b v := by
 constructor
 ·intro h v hv
  have := diff_testBit a b v
  rw [h, Nat.zero_testBit] at this
  unfold bset at *
  rw [hv] at this
  simpa using this
 ·intro h
  apply Nat.eq_of_testBit_eq
  intro v
  rw [diff_testBit, Nat.zero_testBit]
  cases ha : a.testBit v
  ·rfl
  ·have := h v ha
   unfold bset at this
   rw [this]; rfl
theorem pickM_some {B P : List Int} {i : Nat} (h : pickM B P = some i) : i < P.length ∧ 0 ≤ rd P (i : Int) ∧ ((∀ v, bset (bagN B (i : Int)) v → bset (bagN B (rd P (i : Int))) v) ∨ ∀ v, bset (bagN B (rd P (i : Int))) v → bset (bagN B (i : Int)) v) := by
 unfold pickM at h
 have h1 := List.find?_some h
 have h2 := List.mem_of_find?_eq_some h
 unfold okM at h1
 rw [Bool.and_eq_true, Bool.or_eq_true, decide_eq_true_eq, decide_eq_true_eq, decide_eq_true_eq, diff_zero, diff_zero] at h1
 exact ⟨List.mem_range.1 h2, h1.1, h1.2⟩
theorem or_absorb {a b : Nat} (h : ∀ v, bset b v → bset a v) : a ||| b = a := by
 apply Nat.eq_of_testBit_eq
 intro v
 rw [Nat.testBit_or]
 cases hb : b.testBit v
 ·simp
 ·have := h v hb
  unfold bset at this
  rw [this]; rfl
theorem merge_bags {G : List Nat} {B P : List Int} (h : TD G B P) {i : Nat} (hpk : pickM B P = some i) : ∃ p : Nat, rd P (i : Int) = (p : Int) ∧ i < B.length ∧ p < B.length ∧ ∀ j : Nat, j < (mergeB B i p).length → ∃ k : Nat, k < B.length ∧ rd (mergeB B i p) (j : Int) = rd B (k : Int) := by
 obtain ⟨h1, h2, h3⟩ := pickM_some hpk
 have hi : i < B.length := by rw [← h.len]; exact h1
 obtain ⟨a1, a2, a3, a4⟩ := h.inn i hi
 obtain ⟨p, hp⟩ : ∃ p : Nat, rd P (i : Int) = (p : Int) := ⟨(rd P (i : Int)).toNat, by omega⟩
 have hpn : p < B.length := by omega
 obtain ⟨b1, b2, b3, b4⟩ := h.inn p hpn
 refine ⟨p, hp, hi, hpn, fun j hj => ?_⟩
 rw [mergeB_len hi] at hj
 have hu : T.up i j < B.length := by unfold T.up; split <;> omega
 rw [mergeB_rd hpn]
 by_cases e : T.up i j = p
 ·rw [if_pos e]
  rw [hp] at h3
  unfold bagN at h3
  rcases h3 with h3 | h3
  ·exact ⟨p, hpn, by rw [or_absorb h3]; omega⟩
  ·exact ⟨i, hi, by rw [Nat.or_comm, or_absorb h3]; omega⟩
 ·rw [if_neg e]
  exact ⟨_, hu, rfl⟩
theorem nar_spec {G : List Nat} (hG : Gr 9 G) : ∀ (d : Nat) (B P : List Int), B.length ≤ d → TD G B P → TD G (narN d B P).1 (narN d B P).2 ∧ pickM (narN d B P).1 (narN d B P).2 = none ∧ ∀ j : Nat, j < (narN d B P).1.length → ∃ k : Nat, k < B.length ∧ rd (narN d B P).1 (j : Int) = rd B (k : Int)
 | 0, B, P, hl, h => by have := h.pos; omega
 | d + 1, B, P, hl, h => by
  rw [narN]
  cases hpk : pickM B P with
  | none => exact ⟨h, hpk, fun j hj => ⟨j, hj, rfl⟩⟩
  | some i =>
   obtain ⟨p, hp, hi, hpn, hb⟩ := merge_bags h hpk
   have hpt : (rd P (i : Int)).toNat = p := by omega
   simp only
   rw [hpt]
   have ht := merge_td hG h hi hp
   obtain ⟨r1, r2, r3⟩ := nar_spec hG d (mergeB B i p) (mergeP P i p) (by rw [mergeB_len hi]; omega) ht
   refine ⟨r1, r2, fun j hj => ?_⟩
   obtain ⟨k, hk, e⟩ := r3 j hj
   obtain ⟨m, hm, e2⟩ := hb k hk
   exact ⟨m, hm, by rw [e, e2]⟩
end Go.Proofs.YtoffehihicabcaaDoor.X
end
section
namespace Go.Proofs.YtoffehihicabcaaDoor.X
open Go.RowKit YtoffehihicabcaaDoorW.PrintWords YtoffehihicabcaaDoorW.PrintLast YtoffehihicabcaaDoorW.PrintMore YtoffehihicabcaaDoor.T
attribute [local go_sem] max2_int min2_int max_two min_two max_three min_three max_four min_four
def upTo (f : Int → Int) (k : Nat) (P : List Int) : List Int := (P.take k).map f ++ P.drop k
theorem upTo_len (f : Int → Int) (k : Nat) (P : List Int) : (upTo f k P).length = P.length := by simp [upTo]; omega
theorem upTo_zero (f : Int → Int) (P : List Int) : upTo f 0 P = P := by simp [upTo]
theorem upTo_all (f : Int → Int) (P : List Int) : upTo f P.length P = P.map f := by simp [upTo]
theorem upTo_rd (f : Int → Int) (P : List Int) {k : Nat} (h : k < P.length) : rd (upTo f k P) (k : Int) = rd P (k : Int) := by
 unfold rd upTo
 rw [Int.toNat_natCast, List.getD_eq_getElem?_getD, List.getD_eq_getElem?_getD, List.getElem?_append_right (by simp; omega)]
 simp
 rw [show k - min k P.length = 0 by omega, Nat.add_zero]
theorem upTo_set (f : Int → Int) (P : List Int) {k : Nat} (h : k < P.length) : (upTo f k P).set k (f (rd P (k : Int))) = upTo f (k + 1) P := by
 have e : rd P (k : Int) = P[k] := by
  unfold rd
  rw [Int.toNat_natCast, List.getD_eq_getElem?_getD, List.getElem?_eq_getElem h]; rfl
 unfold upTo
 rw [e, List.set_append_right _ _ (by simp; omega), List.drop_eq_getElem_cons h, show k - ((P.take k).map f).length = 0 by simp; omega, List.set_cons_zero, List.take_add_one, List.getElem?_eq_getElem h]
 simp only [List.map_append, Option.toList_some, List.map_cons, List.map_nil, List.append_assoc, List.singleton_append]
theorem upTo_same (f : Int → Int) (P : List Int) {k : Nat} (h : k < P.length) (e : f (rd P (k : Int)) = rd P (k : Int)) : upTo f (k + 1) P = upTo f k P := by
 rw [← upTo_set f P h, e]
 apply List.ext_getElem?
 intro j
 rw [List.getElem?_set]
 split
 ·next h2 =>
  subst h2
  have h3 := upTo_rd f P h
  unfold rd at h3
  rw [Int.toNat_natCast, List.getD_eq_getElem?_getD] at h3
  rw [upTo_len]
  rw [if_pos h, List.getElem?_eq_getElem (by rw [upTo_len]; exact h)] at *
  rw [Option.getD_some] at h3
  unfold rd
  rw [Int.toNat_natCast, ← h3]
 ·rfl
structure MS (w0 W : World) (xB gB cB gP cP : Nat) (B P : List Int) : Prop where
 blk : W.heap[xB]? = some (.cells #[.slice (some ⟨gB, 0, none⟩) B.length cB, .slice (some ⟨gP, 0, none⟩) P.length cP] 53 (0, 0))
 rB : Kd.R (Kd.int .i64) 3 W w0.heap.size (fun k => k = gB) (.slice (some ⟨gB, 0, none⟩) B.length cB) B
 rP : Kd.R (Kd.int .i64) 3 W w0.heap.size (fun k => k = gP) (.slice (some ⟨gP, 0, none⟩) P.length cP) P
 below : Below w0.heap.size w0 W
 ge : w0.heap.size ≤ xB
 nB : xB ≠ gB
 nP : xB ≠ gP
 nBP : gB ≠ gP
section
variable {w0 W V : World} {xB gB cB gP cP : Nat} {B P : List Int}
theorem MS.low (h : MS w0 W xB gB cB gP cP B P) (hb : Below W.heap.size W V) : MS w0 V xB gB cB gP cP B P :=
 ⟨blk_below h.blk hb, Kd.R_below h.rB hb, Kd.R_below h.rP hb, below_step h.below hb, h.ge, h.nB, h.nP, h.nBP⟩
theorem MS.drew (h : MS w0 W xB gB cB gP cP B P) : MS w0 W.drew xB gB cB gP cP B P := h.low (below_drew (Below.refl _ _))
theorem MS.xb (h : MS w0 W xB gB cB gP cP B P) : W.cell? ⟨xB, 0, none⟩ = some (.slice (some ⟨gB, 0, none⟩) B.length cB) := (blk_cell h.blk 0).trans rfl
theorem MS.xp (h : MS w0 W xB gB cB gP cP B P) : W.cell? ⟨xB, 1, none⟩ = some (.slice (some ⟨gP, 0, none⟩) P.length cP) := (blk_cell h.blk 1).trans rfl
theorem MS.cb (h : MS w0 W xB gB cB gP cP B P) (i : Nat) (hi : i < B.length) : W.cell? ⟨gB, i, none⟩ = some (.int .i64 (rd B (i : Int))) ∧ W.frozen? ⟨gB, i, none⟩ = false := by
 have := Kd.R_cell (0 : Int) h.rB (i : Int) (by omega) (by omega)
 rw [Int.toNat_natCast] at this
 exact this
theorem MS.cp (h : MS w0 W xB gB cB gP cP B P) (i : Nat) (hi : i < P.length) : W.cell? ⟨gP, i, none⟩ = some (.int .i64 (rd P (i : Int))) ∧ W.frozen? ⟨gP, i, none⟩ = false := by
 have := Kd.R_cell (0 : Int) h.rP (i : Int) (by omega) (by omega)
 rw [Int.toNat_natCast] at this
 exact this
theorem MS.gBge (h : MS w0 W xB gB cB gP cP B P) : w0.heap.size ≤ gB := own_base2 (Kd.own_of_R h.rB) gB (by simp [Value.ownBlock])
theorem MS.gPge (h : MS w0 W xB gB cB gP cP B P) : w0.heap.size ≤ gP := own_base2 (Kd.own_of_R h.rP) gP (by simp [Value.ownBlock])
theorem MS.setB (h : MS w0 W xB gB cB gP cP B P) (p : Nat) (z : Int) : MS w0 (W.setCell ⟨gB, p, none⟩ (.int .i64 z)) xB gB cB gP cP (B.set p z) P := by
 have h2 := (Kd.R_put h.rB (p : Int) z).1
 rw [Int.toNat_natCast] at h2
 exact ⟨by rw [List.length_set]; exact blk_far (p := ⟨gB, p, none⟩) h.blk h.nB _, by rw [List.length_set]; exact h2, Kd.R_far (p := ⟨gB, p, none⟩) h.rP (fun k e => by rw [e]; exact fun e2 => h.nBP e2.symm) _, below_set h.below h.gBge, h.ge, h.nB, h.nP, h.nBP⟩
theorem MS.setP (h : MS w0 W xB gB cB gP cP B P) (p : Nat) (z : Int) : MS w0 (W.setCell ⟨gP, p, none⟩ (.int .i64 z)) xB gB cB gP cP B (P.set p z) := by
 have h2 := (Kd.R_put h.rP (p : Int) z).1
 rw [Int.toNat_natCast] at h2
 exact ⟨by rw [List.length_set]; exact blk_far (p := ⟨gP, p, none⟩) h.blk h.nP _, Kd.R_far (p := ⟨gP, p, none⟩) h.rB (fun k e => by rw [e]; exact h.nBP) _, by rw [List.length_set]; exact h2, below_set h.below h.gPge, h.ge, h.nB, h.nP, h.nBP⟩
theorem MS.delB (h : MS w0 W xB gB cB gP cP B P) (i : Nat) (hi : i < B.length) (j : Int) (hj : j = ((i + 1 : Nat) : Int)) (L : List Int) (hL : B.eraseIdx i = L) :
  Calls Tryd.prog 103 #[.slice (some ⟨gB, 0, none⟩) B.length cB, .int .i64 (i : Int), .int .i64 j] W fun e w' => e = .returned (.slice (some ⟨gB, 0, none⟩) L.length cB) ∧ (w'.cell? ⟨xB, 0, none⟩ = some (.slice (some ⟨gB, 0, none⟩) B.length cB) ∧ w'.frozen? ⟨xB, 0, none⟩ = false) ∧ MS w0 (w'.setCell ⟨xB, 0, none⟩ (.slice (some ⟨gB, 0, none⟩) L.length cB)) xB gB cB gP cP L P := by
 subst hj hL
 refine (del_calls W _ gB cB i B h.rB hi).mono ?_
 rintro e w' ⟨rfl, h1, h2⟩
 have hx := (h2.block xB (blk_lt h.blk) (fun e => h.nB (Option.some.inj e))).trans h.blk
 have hp := Kd.R_grown h.rP h2 (fun k e e2 => h.nBP (by rw [e] at e2; exact (Option.some.inj e2).symm))
 have hbl := h.below.grown h2 h.below.size (fun k e => by rw [← Option.some.inj e]; exact h.gBge)
 exact ⟨rfl, ⟨(blk_cell hx 0).trans rfl, blk_frozen hx 0⟩, blk_put hx 0 _ rfl, Kd.R_far (p := ⟨xB, 0, none⟩) h1 (fun k e => by rw [e]; exact fun e2 => h.nB e2.symm) _, Kd.R_far (p := ⟨xB, 0, none⟩) hp (fun k e => by rw [e]; exact fun e2 => h.nP e2.symm) _, below_set hbl h.ge, h.ge, h.nB, h.nP, h.nBP⟩
theorem MS.delP (h : MS w0 W xB gB cB gP cP B P) (i : Nat) (hi : i < P.length) (j : Int) (hj : j = ((i + 1 : Nat) : Int)) (L : List Int) (hL : P.eraseIdx i = L) :
  Calls Tryd.prog 103 #[.slice (some ⟨gP, 0, none⟩) P.length cP, .int .i64 (i : Int), .int .i64 j] W fun e w' => e = .returned (.slice (some ⟨gP, 0, none⟩) L.length cP) ∧ (w'.cell? ⟨xB, 1, none⟩ = some (.slice (some ⟨gP, 0, none⟩) P.length cP) ∧ w'.frozen? ⟨xB, 1, none⟩ = false) ∧ MS w0 (w'.setCell ⟨xB, 1, none⟩ (.slice (some ⟨gP, 0, none⟩) L.length cP)) xB gB cB gP cP B L := by
 subst hj hL
 refine (del_calls W _ gP cP i P h.rP hi).mono ?_
 rintro e w' ⟨rfl, h1, h2⟩
 have hx := (h2.block xB (blk_lt h.blk) (fun e => h.nP (Option.some.inj e))).trans h.blk
 have hp := Kd.R_grown h.rB h2 (fun k e e2 => h.nBP (by rw [e] at e2; exact Option.some.inj e2))
 have hbl := h.below.grown h2 h.below.size (fun k e => by rw [← Option.some.inj e]; exact h.gPge)
 exact ⟨rfl, ⟨(blk_cell hx 1).trans rfl, blk_frozen hx 1⟩, blk_put hx 1 _ rfl, Kd.R_far (p := ⟨xB, 1, none⟩) hp (fun k e => by rw [e]; exact fun e2 => h.nB e2.symm) _, Kd.R_far (p := ⟨xB, 1, none⟩) h1 (fun k e => by rw [e]; exact fun e2 => h.nP e2.symm) _, below_set hbl h.ge, h.ge, h.nB, h.nP, h.nBP⟩
end
def pa (i p : Nat) (q : Int) : Int := if q = (i : Int) then (p : Int) else q
def pd (i : Nat) (q : Int) : Int := if q > (i : Int) then q - 1 else q
theorem merge_is (B P : List Int) (i p b : Nat) (hb : (rd B (p : Int)).toNat ||| (rd B (i : Int)).toNat = b) : mergeB B i p = (B.set p (b : Int)).eraseIdx i ∧ mergeP P i p = ((P.map (pa i p)).eraseIdx i).map (pd i) := by
 unfold mergeB mergeP
 rw [hb]
 exact ⟨rfl, rfl⟩
theorem pick_at {B P : List Int} {i : Nat} (hi : i < P.length) (hlo : ∀ j, j < i → okM B P j = false) (h : okM B P i = true) : pickM B P = some i := by
 unfold pickM
 rw [List.find?_range_eq_some]
 exact ⟨h, List.mem_range.2 hi, fun j hj => by rw [hlo j hj]; rfl⟩
theorem pick_no {B P : List Int} (hlo : ∀ j, j < P.length → okM B P j = false) : pickM B P = none := by
 unfold pickM
 rw [List.find?_eq_none]
 intro j hj
 rw [hlo j (List.mem_range.1 hj)]
 simp
set_option maxHeartbeats 8000000 in
set_option maxRecDepth 100000 in
theorem merge_calls {G : List Nat} (hG : Gr 9 G) (w0 W : World) (xB gB cB gP cP : Nat) (B P : List Int) (hT : TD G B P) (hS : MS w0 W xB gB cB gP cP B P) (R : Option Nat) (hR : pickM B P = R) :
  Calls Tryd.prog 79 #[.pointer (some ⟨xB, 0, none⟩)] W fun e w' => (R = none ∧ e = .returned (.bool false) ∧ MS w0 w' xB gB cB gP cP B P) ∨ ∃ i p : Nat, R = some i ∧ rd P (i : Int) = (p : Int) ∧ e = .returned (.bool true) ∧ MS w0 w' xB gB cB gP cP (mergeB B i p) (mergeP P i p) := by
 have HLEN := Aside0.mk hT.len
 have hm2 : P.length ≤ 30 := by have := hT.len; have := hT.most; omega
 have hm := hT.most
 have HS := Aside0.mk hS
 have HT := Aside0.mk hT
 have HR := Aside0.mk hR
 have x1 := hS.xp
 have p9 : 2 ^ G.length ≤ 512 := Nat.pow_le_pow_right (n := 2) (by omega) (show G.length ≤ 9 from hG.most)
 clear hS hT hR
 go_enter Tryd.func79, Tryd.ntmps79
 go_wp2
 go_loopg [14] P.length (fun kq v14 w' => ∃ i : Nat, v14 = .int .i64 (i : Int) ∧ i + kq = P.length ∧ Aside0 (∀ j, j < i → okM B P j = false) ∧ Aside0 (MS w0 w' xB gB cB gP cP B P))
 case atStart => exact ⟨0, rfl, by omega, ⟨fun j hj => by omega⟩, HS⟩
 case round =>
  clear HS x1
  obtain ⟨i, rfl, hi, HL, HS⟩ := hrel
  by_cases hil : i < P.length
  ·have hi1 : ((i : Int) < (P.length : Int)) = True := eq_true (by omega)
   have hi2 : decide ((i : Int) < (P.length : Int)) = true := decide_eq_true (by omega)
   cases gk with
   | zero => omega
   | succ gi =>
   have c1 := (HS.out.cp i hil).1
   obtain ⟨t1, t2, t3, t4⟩ := HT.out.inn i (by have := HLEN.out; omega)
   obtain ⟨q, hq⟩ : ∃ q, rd P (i : Int) = q := ⟨_, rfl⟩
   rw [hq] at c1 t1 t2
   by_cases hq0 : q < 0
   ·have hd1 : decide (q < 0) = true := decide_eq_true hq0
    have HK : Aside0 (okM B P i = false) := ⟨by
     unfold okM
     rw [hq, show decide (0 ≤ q) = false from decide_eq_false (by omega)]
     rfl⟩
    clear hq hq0 t1 t2 t3 t4
    go_wp2
    have f0 := HS.out.xb
    have f0d : wr.drew.cell? ⟨xB, 0, none⟩ = _ := f0
    clear f0 c1
    refine start_ (n := 38) (S := fun w' => w'.cell? ⟨xB, 0, none⟩ = some (.slice (some ⟨gB, 0, none⟩) B.length cB)) (ds := []) (Qbz 38 0) (by kernel_rfl) rfl rfl (f0d) (fun hHeld => ?_)
    refine Qpu 0 19 ?_ ?_ (Qbz 38 1) (by kernel_rfl) ?_
    refine Qpu 1 20 ?_ ?_ (Qbz 38 3) (by kernel_rfl) ?_
    refine Qpu 2 21 ?_ ?_ (Qbz 38 7) (by kernel_rfl) ?_
    refine Qpn 3 22 ?_ (Qbz 38 15) (by kernel_rfl) ?_
    refine Qpn 4 23 ?_ (Qbz 38 31) (by kernel_rfl) ?_
    refine Qpn 5 24 ?_ (Qbz 38 63) (by kernel_rfl) ?_
    refine Qpn 6 25 ?_ (Qbz 38 127) (by kernel_rfl) ?_
    refine Qpn 7 26 ?_ (Qbz 38 255) (by kernel_rfl) ?_
    refine Qpn 8 27 ?_ (Qbz 38 511) (by kernel_rfl) ?_
    refine Qpn 9 28 ?_ (Qbz 38 1023) (by kernel_rfl) ?_
    refine Qpn 10 29 ?_ (Qbz 38 2047) (by kernel_rfl) ?_
    refine Qpn 11 30 ?_ (Qbz 38 4095) (by kernel_rfl) ?_
    refine Qpn 12 31 ?_ (Qbz 38 8191) (by kernel_rfl) ?_
    refine Qpn 13 32 ?_ (Qbz 38 16383) (by kernel_rfl) ?_
    refine Qpn 14 33 ?_ (Qbz 38 32767) (by kernel_rfl) ?_
    refine Qpn 15 34 ?_ (Qbz 38 65535) (by kernel_rfl) ?_
    refine Qpn 16 35 ?_ (Qbz 38 131071) (by kernel_rfl) ?_
    refine Qpn 17 36 ?_ (Qbz 38 262143) (by kernel_rfl) ?_
    refine Qpn 18 37 ?_ (Qbz 38 524287) (by kernel_rfl) ?_
    refine Qpn 19 38 ?_ (Qbz 38 1048575) (by kernel_rfl) ?_
    refine Qpn 20 39 ?_ (Qbz 38 2097151) (by kernel_rfl) ?_
    refine Qpn 21 40 ?_ (Qbz 38 4194303) (by kernel_rfl) ?_
    refine Qpn 22 41 ?_ (Qbz 38 8388607) (by kernel_rfl) ?_
    refine Qpn 23 42 ?_ (Qbz 38 16777215) (by kernel_rfl) ?_
    refine Qpn 24 43 ?_ (Qbz 38 33554431) (by kernel_rfl) ?_
    refine Qpn 25 44 ?_ (Qbz 38 67108863) (by kernel_rfl) ?_
    refine Qpn 26 45 ?_ (Qbz 38 134217727) (by kernel_rfl) ?_
    refine Qpn 27 46 ?_ (Qbz 38 268435455) (by kernel_rfl) ?_
    refine Qpn 28 47 ?_ (Qbz 38 536870911) (by kernel_rfl) ?_
    refine Qpn 29 48 ?_ (Qbz 38 1073741823) (by kernel_rfl) ?_
    refine Qpn 30 49 ?_ (Qbz 38 2147483647) (by kernel_rfl) ?_
    refine Qpn 31 50 ?_ (Qbz 38 4294967295) (by kernel_rfl) ?_
    refine Qpn 32 51 ?_ (Qbz 38 8589934591) (by kernel_rfl) ?_
    refine Qpn 33 52 ?_ (Qbz 38 17179869183) (by kernel_rfl) ?_
    refine Qpn 34 53 ?_ (Qbz 38 34359738367) (by kernel_rfl) ?_
    refine Qpn 35 54 ?_ (Qbz 38 68719476735) (by kernel_rfl) ?_
    refine Qpn 36 55 ?_ (Qbz 38 137438953471) (by kernel_rfl) ?_
    refine Qpu 37 56 ?_ ?_ (Qbz 38 274877906943) (by kernel_rfl) ?_
    refine done_ (by kernel_rfl) ?_
    go_wp2
    go_roundg gi
    case measure => omega
    case rel => exact ⟨i + 1, by go_num, by omega, ⟨fun j hj => by
     by_cases e : j = i
     ·rw [e]; exact HK.out
     ·exact HL.out j (by omega)⟩, ⟨HS.out.drew⟩⟩
   ·obtain ⟨p, rfl⟩ := Int.eq_ofNat_of_zero_le (show 0 ≤ q by omega)
    have hd1 : decide ((p : Int) < 0) = false := decide_eq_false hq0
    have hp : p < B.length := by omega
    obtain ⟨s1, s2, s3, s4⟩ := HT.out.inn p hp
    have cb1 := (HS.out.cb i (by have := HLEN.out; omega)).1
    have cb2 := (HS.out.cb p hp).1
    obtain ⟨bi, hbi⟩ : ∃ a : Nat, rd B (i : Int) = (a : Int) := ⟨(rd B (i : Int)).toNat, by omega⟩
    obtain ⟨bp, hbp⟩ : ∃ a : Nat, rd B (p : Int) = (a : Int) := ⟨(rd B (p : Int)).toNat, by omega⟩
    have hpl : ((p : Int) < (B.length : Int)) = True := eq_true (by omega)
    have hpl2 : decide ((p : Int) < (B.length : Int)) = true := decide_eq_true (by omega)
    have hpl3 : ((i : Int) < (B.length : Int)) = True := eq_true (by have := HLEN.out; omega)
    have hpl4 : decide ((i : Int) < (B.length : Int)) = true := decide_eq_true (by have := HLEN.out; omega)
    have hbi2 : bi < 512 := by omega
    have hbp2 : bp < 512 := by omega
    have hK : okM B P i = (decide (diff bi bp = 0) || decide (diff bp bi = 0)) := by
     unfold okM bagN
     rw [hq, hbi, hbp, show decide (0 ≤ (p : Int)) = true from decide_eq_true (by omega)]
     simp
    have e1 := b_andNot bi bp (by omega) (by omega)
    have e2 := b_andNot bp bi (by omega) (by omega)
    have e3 := b_or bp bi (by omega) (by omega)
    obtain ⟨bx, hbx⟩ : ∃ x, bp ||| bi = x := ⟨_, rfl⟩
    have HM : Aside0 (mergeB B i p = (B.set p (bx : Int)).eraseIdx i ∧ mergeP P i p = ((P.map (pa i p)).eraseIdx i).map (pd i)) := ⟨merge_is B P i p bx (by rw [hbp, hbi]; simpa using hbx)⟩
    rw [hbx] at e3
    rw [hbi] at cb1
    rw [hbp] at cb2
    have HQ := Aside0.mk hq
    clear hq t1 t2 t3 t4 s1 s2 s3 s4 hbi hbp hbx hq0
    generalize diff bi bp = d1 at *
    generalize diff bp bi = d2 at *
    have f0 := HS.out.xb
    have f0d : wr.drew.cell? ⟨xB, 0, none⟩ = _ := f0
    have f1d : wr.drew.cell? ⟨gB, i, none⟩ = _ := cb1
    have f2d : wr.drew.cell? ⟨gB, p, none⟩ = _ := cb2
    clear f0 cb1 cb2
    have F1 := Aside0.mk f1d
    have F2 := Aside0.mk f2d
    have go : ∀ (hk : okM B P i = true), Aside0 (∃ i0 p0 : Nat, R = some i0 ∧ rd P (i0 : Int) = (p0 : Int) ∧ i0 = i ∧ p0 = p) := fun hk => ⟨i, p, by rw [← HR.out]; exact pick_at hil HL.out hk, HQ.out, rfl, rfl⟩
    by_cases h1 : d1 = 0
    ·have hb1 : ((d1 : Int) != 0) = false := by rw [h1]; rfl
     have GO := go (by rw [hK, h1]; rfl)
     clear h1 hK go
     go_wp2
     refine start_ (n := 38) (S := fun w' => w'.cell? ⟨xB, 0, none⟩ = some (.slice (some ⟨gB, 0, none⟩) B.length cB) ∧ w'.cell? ⟨gB, i, none⟩ = some (.int .i64 (bi : Int)) ∧ w'.cell? ⟨gB, p, none⟩ = some (.int .i64 (bp : Int))) (ds := []) (Qbz 38 0) (by kernel_rfl) rfl rfl ⟨f0d, f1d, f2d⟩ (fun hHeld => ?_)
     refine Qpu 0 19 ?_ ?_ (Qbz 38 1) (by kernel_rfl) ?_
     refine Qpu 1 20 ?_ ?_ (Qbz 38 3) (by kernel_rfl) ?_
     refine Qpu 2 21 ?_ ?_ (Qbz 38 7) (by kernel_rfl) ?_
     refine Qpu 3 22 ?_ ?_ (Qbz 38 15) (by kernel_rfl) ?_
     refine Qpu 4 23 ?_ ?_ (Qbz 38 31) (by kernel_rfl) ?_
     refine Qpu 5 24 ?_ ?_ (Qbz 38 63) (by kernel_rfl) ?_
     refine Qpu 7 26 ?_ ?_ (Qbz 38 191) (by kernel_rfl) ?_
     refine Qpu 10 29 ?_ ?_ (Qbz 38 1215) (by kernel_rfl) ?_
     refine Qpu 11 30 ?_ ?_ (Qbz 38 3263) (by kernel_rfl) ?_
     refine Qpu 12 31 ?_ ?_ (Qbz 38 7359) (by kernel_rfl) ?_
     refine Qpu 14 33 ?_ ?_ (Qbz 38 23743) (by kernel_rfl) ?_
     refine take_ (i := 6) (N := some 25) (v := ?_) (a' := ?_) (Qbz 38 23807) rfl rfl (by kernel_rfl) (fun _ _ _ h => h) (Or.inl ⟨by rfl, ?_⟩) hHeld ?_ ?_;rotate_left;(·rintro w' ⟨s0, s1, s2⟩;go_simp;with_reducible rfl);rotate_left;(·simp only [Act.put, Qp1, Qp2, Qp3, i64_w, i32_w];rfl)
     refine Qpu 8 27 ?_ ?_ (Qbz 38 24063) (by kernel_rfl) ?_
     refine take_ (i := 9) (N := some 28) (v := ?_) (a' := ?_) (Qbz 38 24575) rfl rfl (by kernel_rfl) (fun _ _ _ h => h) (Or.inl ⟨by rfl, ?_⟩) hHeld ?_ ?_;rotate_left;(·rintro w' ⟨s0, s1, s2⟩;go_simp;with_reducible rfl);rotate_left;(·simp only [Act.put, Qp1, Qp2, Qp3, i64_w, i32_w];rfl)
     refine take_ (i := 13) (N := some 32) (v := ?_) (a' := ?_) (Qbz 38 32767) rfl rfl (by kernel_rfl) (fun _ _ _ h => h) (Or.inl ⟨by rfl, ?_⟩) hHeld ?_ ?_;rotate_left;(·rintro w' ⟨s0, s1, s2⟩;go_simp;with_reducible rfl);rotate_left;(·simp only [Act.put, Qp1, Qp2, Qp3, i64_w, i32_w];rfl)
     refine Qpu 15 34 ?_ ?_ (Qbz 38 65535) (by kernel_rfl) ?_
     refine take_ (i := 16) (N := some 35) (v := ?_) (a' := ?_) (Qbz 38 131071) rfl rfl (by kernel_rfl) (fun _ _ _ h => h) (Or.inl ⟨by rfl, ?_⟩) hHeld ?_ ?_;rotate_left;(·rintro w' ⟨s0, s1, s2⟩;go_simp;with_reducible rfl);rotate_left;(·simp only [Act.put, Qp1, Qp2, Qp3, i64_w, i32_w];rfl)
     refine Qpu 17 36 ?_ ?_ (Qbz 38 262143) (by kernel_rfl) ?_
     refine Qpu 18 37 ?_ ?_ (Qbz 38 524287) (by kernel_rfl) ?_
     refine Qpu 19 38 ?_ ?_ (Qbz 38 1048575) (by kernel_rfl) ?_
     refine Qpn 20 39 ?_ (Qbz 38 2097151) (by kernel_rfl) ?_
     refine Qpn 21 40 ?_ (Qbz 38 4194303) (by kernel_rfl) ?_
     refine Qpn 22 41 ?_ (Qbz 38 8388607) (by kernel_rfl) ?_
     refine Qpn 23 42 ?_ (Qbz 38 16777215) (by kernel_rfl) ?_
     refine Qpn 24 43 ?_ (Qbz 38 33554431) (by kernel_rfl) ?_
     refine Qpn 25 44 ?_ (Qbz 38 67108863) (by kernel_rfl) ?_
     refine Qpn 26 45 ?_ (Qbz 38 134217727) (by kernel_rfl) ?_
     refine Qpn 27 46 ?_ (Qbz 38 268435455) (by kernel_rfl) ?_
     refine Qpn 28 47 ?_ (Qbz 38 536870911) (by kernel_rfl) ?_
     refine Qpn 29 48 ?_ (Qbz 38 1073741823) (by kernel_rfl) ?_
     refine Qpn 30 49 ?_ (Qbz 38 2147483647) (by kernel_rfl) ?_
     refine Qpn 31 50 ?_ (Qbz 38 4294967295) (by kernel_rfl) ?_
     refine Qpn 32 51 ?_ (Qbz 38 8589934591) (by kernel_rfl) ?_
     refine Qpn 33 52 ?_ (Qbz 38 17179869183) (by kernel_rfl) ?_
     refine Qpn 34 53 ?_ (Qbz 38 34359738367) (by kernel_rfl) ?_
     refine Qpn 35 54 ?_ (Qbz 38 68719476735) (by kernel_rfl) ?_
     refine Qpu 36 55 ?_ ?_ (Qbz 38 137438953471) (by kernel_rfl) ?_
     refine Qpu 37 56 ?_ ?_ (Qbz 38 274877906943) (by kernel_rfl) ?_
     refine done_ (by kernel_rfl) ?_
     go_wp2
     obtain ⟨i0, p0, hR0, hp0, rfl, rfl⟩ := GO.out
     clear GO hHeld f0d f1d f2d c1 e1 e2 hd1 HL HR
     have HS2 := Aside0.mk HS.out.drew
     clear HS
     generalize wr.drew = w2 at *
     have f0d : w2.drew.cell? ⟨xB, 0, none⟩ = some (.slice (some ⟨gB, 0, none⟩) B.length cB) := HS2.out.xb
     have f1d : w2.drew.cell? ⟨gB, i0, none⟩ = some (.int .i64 (bi : Int)) := F1.out
     have f2d : w2.drew.cell? ⟨gB, p0, none⟩ = some (.int .i64 (bp : Int)) := F2.out
     have f3d : w2.drew.frozen? ⟨gB, p0, none⟩ = false := (HS2.out.cb p0 hp).2
     refine start_ (n := 17) (S := fun w' => w'.cell? ⟨xB, 0, none⟩ = some (.slice (some ⟨gB, 0, none⟩) B.length cB) ∧ w'.cell? ⟨gB, i0, none⟩ = some (.int .i64 (bi : Int)) ∧ w'.cell? ⟨gB, p0, none⟩ = some (.int .i64 (bp : Int)) ∧ w'.frozen? ⟨gB, p0, none⟩ = false) (ds := [16]) (Qbz 17 0) (by kernel_rfl) rfl rfl ⟨f0d, f1d, f2d, f3d⟩ (fun hHeld => ?_)
     refine Qpu 0 57 ?_ ?_ (Qbz 17 1) (by kernel_rfl) ?_
     refine Qpu 1 58 ?_ ?_ (Qbz 17 3) (by kernel_rfl) ?_
     refine Qpu 2 59 ?_ ?_ (Qbz 17 7) (by kernel_rfl) ?_
     refine Qpu 4 61 ?_ ?_ (Qbz 17 23) (by kernel_rfl) ?_
     refine Qpu 7 64 ?_ ?_ (Qbz 17 151) (by kernel_rfl) ?_
     refine Qpu 8 65 ?_ ?_ (Qbz 17 407) (by kernel_rfl) ?_
     refine Qpu 9 66 ?_ ?_ (Qbz 17 919) (by kernel_rfl) ?_
     refine Qpu 11 68 ?_ ?_ (Qbz 17 2967) (by kernel_rfl) ?_
     refine take_ (i := 3) (N := some 60) (v := ?_) (a' := ?_) (Qbz 17 2975) rfl rfl (by kernel_rfl) (fun _ _ _ h => h) (Or.inl ⟨by rfl, ?_⟩) hHeld ?_ ?_;rotate_left;(·rintro w' ⟨s0, s1, s2, s3⟩;go_simp;with_reducible rfl);rotate_left;(·simp only [Act.put, Qp1, Qp2, Qp3, i64_w, i32_w];rfl)
     refine Qpu 5 62 ?_ ?_ (Qbz 17 3007) (by kernel_rfl) ?_
     refine take_ (i := 6) (N := some 63) (v := ?_) (a' := ?_) (Qbz 17 3071) rfl rfl (by kernel_rfl) (fun _ _ _ h => h) (Or.inl ⟨by rfl, ?_⟩) hHeld ?_ ?_;rotate_left;(·rintro w' ⟨s0, s1, s2, s3⟩;go_simp;with_reducible rfl);rotate_left;(·simp only [Act.put, Qp1, Qp2, Qp3, i64_w, i32_w];rfl)
     refine take_ (i := 10) (N := some 67) (v := ?_) (a' := ?_) (Qbz 17 4095) rfl rfl (by kernel_rfl) (fun _ _ _ h => h) (Or.inl ⟨by rfl, ?_⟩) hHeld ?_ ?_;rotate_left;(·rintro w' ⟨s0, s1, s2, s3⟩;go_simp;with_reducible rfl);rotate_left;(·simp only [Act.put, Qp1, Qp2, Qp3, i64_w, i32_w];rfl)
     refine Qpu 12 69 ?_ ?_ (Qbz 17 8191) (by kernel_rfl) ?_
     refine take_ (i := 13) (N := some 70) (v := ?_) (a' := ?_) (Qbz 17 16383) rfl rfl (by kernel_rfl) (fun _ _ _ h => h) (Or.inl ⟨by rfl, ?_⟩) hHeld ?_ ?_;rotate_left;(·rintro w' ⟨s0, s1, s2, s3⟩;go_simp;with_reducible rfl);rotate_left;(·simp only [Act.put, Qp1, Qp2, Qp3, i64_w, i32_w];rfl)
     refine Qpu 14 71 ?_ ?_ (Qbz 17 32767) (by kernel_rfl) ?_
     refine Qpu 15 72 ?_ ?_ (Qbz 17 65535) (by kernel_rfl) ?_
     refine last_ (i := 16) (N := none) (Qbz 17 131071) rfl rfl (by kernel_rfl) (by decide) (fun K hK => ?_)
     refine skip_ (w1 := ?_) (by rfl) rfl ?_ ?_
     rotate_left
     ·go_simp
      rfl
     refine hK.out _ _ ?_
     clear hK K
     refine done_ (by kernel_rfl) ?_
     have HS3 : Aside0 (MS w0 ((w2.setCell ⟨gB, p0, none⟩ (.int .i64 (bx : Int))).drew) xB gB cB gP cP (B.set p0 (bx : Int)) P) := ⟨(HS2.out.setB p0 (bx : Int)).drew⟩
     generalize (w2.setCell ⟨gB, p0, none⟩ (.int .i64 (bx : Int))).drew = w3 at *
     obtain ⟨B1, hB1⟩ : ∃ L, B.set p0 (bx : Int) = L := ⟨_, rfl⟩
     have HLB1 : Aside0 (B1.length = B.length) := ⟨by rw [← hB1, List.length_set]⟩
     rw [hB1] at HS3 HM
     clear HS2 f0d f1d f2d f3d hHeld e3 F1 F2 hB1
     have x1 := HS3.out.xp
     go_wp2
     go_loopg [78] P.length (fun kq v78 w' => ∃ k : Nat, v78 = .int .i64 (k : Int) ∧ k + kq = P.length ∧ Aside0 (MS w0 w' xB gB cB gP cP B1 (upTo (pa i0 p0) k P)))
     case atStart => exact ⟨0, rfl, by omega, ⟨by rw [upTo_zero]; exact HS3.out⟩⟩
     case round =>
      clear HS3 x1
      obtain ⟨k, rfl, hk, HS4⟩ := hrel
      by_cases hkl : k < P.length
      ·have hk1 : ((k : Int) < (P.length : Int)) = True := eq_true (by omega)
       have hk2 : decide ((k : Int) < (P.length : Int)) = true := decide_eq_true (by omega)
       cases gk with
       | zero => omega
       | succ gk' =>
       obtain ⟨y1, y2⟩ := HS4.out.cp k (by rw [upTo_len]; exact hkl)
       rw [upTo_rd _ _ hkl] at y1
       have y3 := HS4.out.xp
       rw [upTo_len] at y3
       obtain ⟨q, hq⟩ : ∃ q, rd P (k : Int) = q := ⟨_, rfl⟩
       rw [hq] at y1
       by_cases hqi : q = (i0 : Int)
       ·have hqb : (q == (i0 : Int)) = true := by rw [hqi]; simp
        have HU : Aside0 ((upTo (pa i0 p0) k P).set k (p0 : Int) = upTo (pa i0 p0) (k + 1) P) := ⟨by rw [← upTo_set _ _ hkl, hq, pa, if_pos hqi]⟩
        clear hq hqi
        go_wp2
        go_roundg gk'
        case measure => omega
        case rel => exact ⟨k + 1, by go_num, by omega, ⟨by rw [← HU.out]; exact HS4.out.setP k (p0 : Int)⟩⟩
       ·have hqb : (q == (i0 : Int)) = false := beq_eq_false_iff_ne.2 hqi
        have HU : Aside0 (upTo (pa i0 p0) k P = upTo (pa i0 p0) (k + 1) P) := ⟨by rw [upTo_same _ _ hkl (by rw [hq, pa, if_neg hqi])]⟩
        clear hq hqi
        go_wp2
        go_roundg gk'
        case measure => omega
        case rel => exact ⟨k + 1, by go_num, by omega, ⟨by rw [← HU.out]; exact HS4.out⟩⟩
      ·have hk1 : ((k : Int) < (P.length : Int)) = False := eq_false (by omega)
       have hk2 : decide ((k : Int) < (P.length : Int)) = false := decide_eq_false (by omega)
       obtain rfl : k = P.length := by omega
       have HS5 := Aside0.mk HS4.out
       rw [upTo_all] at HS5
       have hbd2 : ∀ k : Nat, k < ((P.map (pa i0 p0)).eraseIdx i0).length → -1 ≤ rd ((P.map (pa i0 p0)).eraseIdx i0) (k : Int) ∧ rd ((P.map (pa i0 p0)).eraseIdx i0) (k : Int) < 31 := by
        intro k hk
        have hu : T.up i0 k < P.length := by
         rw [List.length_eraseIdx, if_pos (by rw [List.length_map]; exact hil), List.length_map] at hk
         unfold T.up; split <;> omega
        rw [rd_erase, rd_map _ _ _ hu]
        obtain ⟨t1, t2, _, _⟩ := HT.out.inn _ (show T.up i0 k < B.length by have := HLEN.out; omega)
        unfold pa
        split <;> omega
       obtain ⟨P1, hP1⟩ : ∃ L, P.map (pa i0 p0) = L := ⟨_, rfl⟩
       have HLP1 : Aside0 (P1.length = P.length) := ⟨by rw [← hP1, List.length_map]⟩
       rw [hP1] at HS5 HM hbd2
       clear HS4 hP1
       have z0 := HS5.out.xb
       have hd0 : Aside0 (i0 < B1.length) := ⟨by have := HLEN.out; have := HLB1.out; omega⟩
       have hd1 : Aside0 (i0 < P1.length) := ⟨by have := HLP1.out; omega⟩
       obtain ⟨B2, hB2⟩ : ∃ L, B1.eraseIdx i0 = L := ⟨_, rfl⟩
       obtain ⟨P2, hP2⟩ : ∃ L, P1.eraseIdx i0 = L := ⟨_, rfl⟩
       rw [hB2, hP2] at HM
       rw [hP2] at hbd2
       have hm3 : P2.length ≤ 30 := by rw [← hP2, List.length_eraseIdx]; have := HLP1.out; split <;> omega
       have HB2 := Aside0.mk hB2
       have HP2 := Aside0.mk hP2
       have HBD := Aside0.mk hbd2
       clear hB2 hP2 HLP1 HLB1 hbd2
       go_wp2_with (first | (go_at_call 103; with_reducible refine (HS5.out.delB i0 hd0.out ((i0 : Int) + 1) (by omega) B2 HB2.out).mono ?_; rintro e w5 ⟨rfl, ⟨hx1, hx2⟩, hx3⟩; have HS6 := Aside0.mk hx3; have hx4 := hx3.xp; clear hx3) | (go_at_call 103; with_reducible refine (HS6.out.delP i0 hd1.out ((i0 : Int) + 1) (by omega) P2 HP2.out).mono ?_; rintro e w7 ⟨rfl, ⟨hx5, hx6⟩, hx7⟩; have HS7 := Aside0.mk hx7; have hx8 := hx7.xp; clear hx7))
       go_loopg [121] P2.length (fun kq v121 w' => ∃ k : Nat, v121 = .int .i64 (k : Int) ∧ k + kq = P2.length ∧ Aside0 (MS w0 w' xB gB cB gP cP B2 (upTo (pd i0) k P2)))
       case atStart => exact ⟨0, rfl, by omega, ⟨by rw [upTo_zero]; exact HS7.out⟩⟩
       case round =>
        clear HS5 HS6 HS7 hx1 hx2 hx4 hx5 hx6 hx8 z0
        obtain ⟨m, rfl, hk, HS8⟩ := hrel
        by_cases hml : m < P2.length
        ·have hk1 : ((m : Int) < (P2.length : Int)) = True := eq_true (by omega)
         have hk2 : decide ((m : Int) < (P2.length : Int)) = true := decide_eq_true (by omega)
         cases gk with
         | zero => omega
         | succ gm =>
         obtain ⟨y1, y2⟩ := HS8.out.cp m (by rw [upTo_len]; exact hml)
         rw [upTo_rd _ _ hml] at y1
         have y3 := HS8.out.xp
         rw [upTo_len] at y3
         obtain ⟨b1, b2⟩ := HBD.out m hml
         obtain ⟨q, hq⟩ : ∃ q, rd P2 (m : Int) = q := ⟨_, rfl⟩
         rw [hq] at y1 b1 b2
         by_cases hqi : q > (i0 : Int)
         ·have hqb : decide (q > (i0 : Int)) = true := decide_eq_true hqi
          have hqc : decide ((i0 : Int) < q) = true := decide_eq_true hqi
          have HU : Aside0 ((upTo (pd i0) m P2).set m (q - 1) = upTo (pd i0) (m + 1) P2) := ⟨by rw [← upTo_set _ _ hml, hq, pd, if_pos hqi]⟩
          clear hq hqi
          go_wp2
          go_roundg gm
          case measure => omega
          case rel => exact ⟨m + 1, by go_num, by omega, ⟨by rw [← HU.out]; exact HS8.out.setP m (q - 1)⟩⟩
         ·have hqb : decide (q > (i0 : Int)) = false := decide_eq_false hqi
          have hqc : decide ((i0 : Int) < q) = false := decide_eq_false hqi
          have HU : Aside0 (upTo (pd i0) m P2 = upTo (pd i0) (m + 1) P2) := ⟨by rw [upTo_same _ _ hml (by rw [hq, pd, if_neg hqi])]⟩
          clear hq hqi
          go_wp2
          go_roundg gm
          case measure => omega
          case rel => exact ⟨m + 1, by go_num, by omega, ⟨by rw [← HU.out]; exact HS8.out⟩⟩
        ·have hk1 : ((m : Int) < (P2.length : Int)) = False := eq_false (by omega)
         have hk2 : decide ((m : Int) < (P2.length : Int)) = false := decide_eq_false (by omega)
         obtain rfl : m = P2.length := by omega
         have HS9 := Aside0.mk HS8.out
         rw [upTo_all] at HS9
         clear HS8
         go_wp2
         go_ret
         exact .inr ⟨i0, p0, hR0, hp0, rfl, by rw [HM.out.1, HM.out.2]; exact HS9.out⟩
    ·have hb1 : ((d1 : Int) != 0) = true := bne_iff_ne.2 (by omega)
     by_cases h2 : d2 = 0
     ·have hb2 : ((d2 : Int) != 0) = false := by rw [h2]; rfl
      have GO := go (by rw [hK, h2]; simp)
      clear h1 h2 hK go
      go_wp2
      refine start_ (n := 38) (S := fun w' => w'.cell? ⟨xB, 0, none⟩ = some (.slice (some ⟨gB, 0, none⟩) B.length cB) ∧ w'.cell? ⟨gB, i, none⟩ = some (.int .i64 (bi : Int)) ∧ w'.cell? ⟨gB, p, none⟩ = some (.int .i64 (bp : Int))) (ds := []) (Qbz 38 0) (by kernel_rfl) rfl rfl ⟨f0d, f1d, f2d⟩ (fun hHeld => ?_)
      refine Qpu 0 19 ?_ ?_ (Qbz 38 1) (by kernel_rfl) ?_
      refine Qpu 1 20 ?_ ?_ (Qbz 38 3) (by kernel_rfl) ?_
      refine Qpu 2 21 ?_ ?_ (Qbz 38 7) (by kernel_rfl) ?_
      refine Qpu 3 22 ?_ ?_ (Qbz 38 15) (by kernel_rfl) ?_
      refine Qpu 4 23 ?_ ?_ (Qbz 38 31) (by kernel_rfl) ?_
      refine Qpu 5 24 ?_ ?_ (Qbz 38 63) (by kernel_rfl) ?_
      refine Qpu 7 26 ?_ ?_ (Qbz 38 191) (by kernel_rfl) ?_
      refine Qpu 10 29 ?_ ?_ (Qbz 38 1215) (by kernel_rfl) ?_
      refine Qpu 11 30 ?_ ?_ (Qbz 38 3263) (by kernel_rfl) ?_
      refine Qpu 12 31 ?_ ?_ (Qbz 38 7359) (by kernel_rfl) ?_
      refine Qpu 14 33 ?_ ?_ (Qbz 38 23743) (by kernel_rfl) ?_
      refine take_ (i := 6) (N := some 25) (v := ?_) (a' := ?_) (Qbz 38 23807) rfl rfl (by kernel_rfl) (fun _ _ _ h => h) (Or.inl ⟨by rfl, ?_⟩) hHeld ?_ ?_;rotate_left;(·rintro w' ⟨s0, s1, s2⟩;go_simp;with_reducible rfl);rotate_left;(·simp only [Act.put, Qp1, Qp2, Qp3, i64_w, i32_w];rfl)
      refine Qpu 8 27 ?_ ?_ (Qbz 38 24063) (by kernel_rfl) ?_
      refine take_ (i := 9) (N := some 28) (v := ?_) (a' := ?_) (Qbz 38 24575) rfl rfl (by kernel_rfl) (fun _ _ _ h => h) (Or.inl ⟨by rfl, ?_⟩) hHeld ?_ ?_;rotate_left;(·rintro w' ⟨s0, s1, s2⟩;go_simp;with_reducible rfl);rotate_left;(·simp only [Act.put, Qp1, Qp2, Qp3, i64_w, i32_w];rfl)
      refine take_ (i := 13) (N := some 32) (v := ?_) (a' := ?_) (Qbz 38 32767) rfl rfl (by kernel_rfl) (fun _ _ _ h => h) (Or.inl ⟨by rfl, ?_⟩) hHeld ?_ ?_;rotate_left;(·rintro w' ⟨s0, s1, s2⟩;go_simp;with_reducible rfl);rotate_left;(·simp only [Act.put, Qp1, Qp2, Qp3, i64_w, i32_w];rfl)
      refine Qpu 15 34 ?_ ?_ (Qbz 38 65535) (by kernel_rfl) ?_
      refine take_ (i := 16) (N := some 35) (v := ?_) (a' := ?_) (Qbz 38 131071) rfl rfl (by kernel_rfl) (fun _ _ _ h => h) (Or.inl ⟨by rfl, ?_⟩) hHeld ?_ ?_;rotate_left;(·rintro w' ⟨s0, s1, s2⟩;go_simp;with_reducible rfl);rotate_left;(·simp only [Act.put, Qp1, Qp2, Qp3, i64_w, i32_w];rfl)
      refine Qpu 17 36 ?_ ?_ (Qbz 38 262143) (by kernel_rfl) ?_
      refine Qpu 18 37 ?_ ?_ (Qbz 38 524287) (by kernel_rfl) ?_
      refine Qpu 19 38 ?_ ?_ (Qbz 38 1048575) (by kernel_rfl) ?_
      refine Qpu 20 39 ?_ ?_ (Qbz 38 2097151) (by kernel_rfl) ?_
      refine Qpu 21 40 ?_ ?_ (Qbz 38 4194303) (by kernel_rfl) ?_
      refine Qpu 22 41 ?_ ?_ (Qbz 38 8388607) (by kernel_rfl) ?_
      refine Qpu 24 43 ?_ ?_ (Qbz 38 25165823) (by kernel_rfl) ?_
      refine Qpu 27 46 ?_ ?_ (Qbz 38 159383551) (by kernel_rfl) ?_
      refine Qpu 28 47 ?_ ?_ (Qbz 38 427819007) (by kernel_rfl) ?_
      refine Qpu 29 48 ?_ ?_ (Qbz 38 964689919) (by kernel_rfl) ?_
      refine Qpu 31 50 ?_ ?_ (Qbz 38 3112173567) (by kernel_rfl) ?_
      refine take_ (i := 23) (N := some 42) (v := ?_) (a' := ?_) (Qbz 38 3120562175) rfl rfl (by kernel_rfl) (fun _ _ _ h => h) (Or.inl ⟨by rfl, ?_⟩) hHeld ?_ ?_;rotate_left;(·rintro w' ⟨s0, s1, s2⟩;go_simp;with_reducible rfl);rotate_left;(·simp only [Act.put, Qp1, Qp2, Qp3, i64_w, i32_w];rfl)
      refine Qpu 25 44 ?_ ?_ (Qbz 38 3154116607) (by kernel_rfl) ?_
      refine take_ (i := 26) (N := some 45) (v := ?_) (a' := ?_) (Qbz 38 3221225471) rfl rfl (by kernel_rfl) (fun _ _ _ h => h) (Or.inl ⟨by rfl, ?_⟩) hHeld ?_ ?_;rotate_left;(·rintro w' ⟨s0, s1, s2⟩;go_simp;with_reducible rfl);rotate_left;(·simp only [Act.put, Qp1, Qp2, Qp3, i64_w, i32_w];rfl)
      refine take_ (i := 30) (N := some 49) (v := ?_) (a' := ?_) (Qbz 38 4294967295) rfl rfl (by kernel_rfl) (fun _ _ _ h => h) (Or.inl ⟨by rfl, ?_⟩) hHeld ?_ ?_;rotate_left;(·rintro w' ⟨s0, s1, s2⟩;go_simp;with_reducible rfl);rotate_left;(·simp only [Act.put, Qp1, Qp2, Qp3, i64_w, i32_w];rfl)
      refine Qpu 32 51 ?_ ?_ (Qbz 38 8589934591) (by kernel_rfl) ?_
      refine take_ (i := 33) (N := some 52) (v := ?_) (a' := ?_) (Qbz 38 17179869183) rfl rfl (by kernel_rfl) (fun _ _ _ h => h) (Or.inl ⟨by rfl, ?_⟩) hHeld ?_ ?_;rotate_left;(·rintro w' ⟨s0, s1, s2⟩;go_simp;with_reducible rfl);rotate_left;(·simp only [Act.put, Qp1, Qp2, Qp3, i64_w, i32_w];rfl)
      refine Qpu 34 53 ?_ ?_ (Qbz 38 34359738367) (by kernel_rfl) ?_
      refine Qpu 35 54 ?_ ?_ (Qbz 38 68719476735) (by kernel_rfl) ?_
      refine Qpu 36 55 ?_ ?_ (Qbz 38 137438953471) (by kernel_rfl) ?_
      refine Qpu 37 56 ?_ ?_ (Qbz 38 274877906943) (by kernel_rfl) ?_
      refine done_ (by kernel_rfl) ?_
      go_wp2
      obtain ⟨i0, p0, hR0, hp0, rfl, rfl⟩ := GO.out
      clear GO hHeld f0d f1d f2d c1 e1 e2 hd1 HL HR
      have HS2 := Aside0.mk HS.out.drew
      clear HS
      generalize wr.drew = w2 at *
      have f0d : w2.drew.cell? ⟨xB, 0, none⟩ = some (.slice (some ⟨gB, 0, none⟩) B.length cB) := HS2.out.xb
      have f1d : w2.drew.cell? ⟨gB, i0, none⟩ = some (.int .i64 (bi : Int)) := F1.out
      have f2d : w2.drew.cell? ⟨gB, p0, none⟩ = some (.int .i64 (bp : Int)) := F2.out
      have f3d : w2.drew.frozen? ⟨gB, p0, none⟩ = false := (HS2.out.cb p0 hp).2
      refine start_ (n := 17) (S := fun w' => w'.cell? ⟨xB, 0, none⟩ = some (.slice (some ⟨gB, 0, none⟩) B.length cB) ∧ w'.cell? ⟨gB, i0, none⟩ = some (.int .i64 (bi : Int)) ∧ w'.cell? ⟨gB, p0, none⟩ = some (.int .i64 (bp : Int)) ∧ w'.frozen? ⟨gB, p0, none⟩ = false) (ds := [16]) (Qbz 17 0) (by kernel_rfl) rfl rfl ⟨f0d, f1d, f2d, f3d⟩ (fun hHeld => ?_)
      refine Qpu 0 57 ?_ ?_ (Qbz 17 1) (by kernel_rfl) ?_
      refine Qpu 1 58 ?_ ?_ (Qbz 17 3) (by kernel_rfl) ?_
      refine Qpu 2 59 ?_ ?_ (Qbz 17 7) (by kernel_rfl) ?_
      refine Qpu 4 61 ?_ ?_ (Qbz 17 23) (by kernel_rfl) ?_
      refine Qpu 7 64 ?_ ?_ (Qbz 17 151) (by kernel_rfl) ?_
      refine Qpu 8 65 ?_ ?_ (Qbz 17 407) (by kernel_rfl) ?_
      refine Qpu 9 66 ?_ ?_ (Qbz 17 919) (by kernel_rfl) ?_
      refine Qpu 11 68 ?_ ?_ (Qbz 17 2967) (by kernel_rfl) ?_
      refine take_ (i := 3) (N := some 60) (v := ?_) (a' := ?_) (Qbz 17 2975) rfl rfl (by kernel_rfl) (fun _ _ _ h => h) (Or.inl ⟨by rfl, ?_⟩) hHeld ?_ ?_;rotate_left;(·rintro w' ⟨s0, s1, s2, s3⟩;go_simp;with_reducible rfl);rotate_left;(·simp only [Act.put, Qp1, Qp2, Qp3, i64_w, i32_w];rfl)
      refine Qpu 5 62 ?_ ?_ (Qbz 17 3007) (by kernel_rfl) ?_
      refine take_ (i := 6) (N := some 63) (v := ?_) (a' := ?_) (Qbz 17 3071) rfl rfl (by kernel_rfl) (fun _ _ _ h => h) (Or.inl ⟨by rfl, ?_⟩) hHeld ?_ ?_;rotate_left;(·rintro w' ⟨s0, s1, s2, s3⟩;go_simp;with_reducible rfl);rotate_left;(·simp only [Act.put, Qp1, Qp2, Qp3, i64_w, i32_w];rfl)
      refine take_ (i := 10) (N := some 67) (v := ?_) (a' := ?_) (Qbz 17 4095) rfl rfl (by kernel_rfl) (fun _ _ _ h => h) (Or.inl ⟨by rfl, ?_⟩) hHeld ?_ ?_;rotate_left;(·rintro w' ⟨s0, s1, s2, s3⟩;go_simp;with_reducible rfl);rotate_left;(·simp only [Act.put, Qp1, Qp2, Qp3, i64_w, i32_w];rfl)
      refine Qpu 12 69 ?_ ?_ (Qbz 17 8191) (by kernel_rfl) ?_
      refine take_ (i := 13) (N := some 70) (v := ?_) (a' := ?_) (Qbz 17 16383) rfl rfl (by kernel_rfl) (fun _ _ _ h => h) (Or.inl ⟨by rfl, ?_⟩) hHeld ?_ ?_;rotate_left;(·rintro w' ⟨s0, s1, s2, s3⟩;go_simp;with_reducible rfl);rotate_left;(·simp only [Act.put, Qp1, Qp2, Qp3, i64_w, i32_w];rfl)
      refine Qpu 14 71 ?_ ?_ (Qbz 17 32767) (by kernel_rfl) ?_
      refine Qpu 15 72 ?_ ?_ (Qbz 17 65535) (by kernel_rfl) ?_
      refine last_ (i := 16) (N := none) (Qbz 17 131071) rfl rfl (by kernel_rfl) (by decide) (fun K hK => ?_)
      refine skip_ (w1 := ?_) (by rfl) rfl ?_ ?_
      rotate_left
      ·go_simp
       rfl
      refine hK.out _ _ ?_
      clear hK K
      refine done_ (by kernel_rfl) ?_
      have HS3 : Aside0 (MS w0 ((w2.setCell ⟨gB, p0, none⟩ (.int .i64 (bx : Int))).drew) xB gB cB gP cP (B.set p0 (bx : Int)) P) := ⟨(HS2.out.setB p0 (bx : Int)).drew⟩
      generalize (w2.setCell ⟨gB, p0, none⟩ (.int .i64 (bx : Int))).drew = w3 at *
      obtain ⟨B1, hB1⟩ : ∃ L, B.set p0 (bx : Int) = L := ⟨_, rfl⟩
      have HLB1 : Aside0 (B1.length = B.length) := ⟨by rw [← hB1, List.length_set]⟩
      rw [hB1] at HS3 HM
      clear HS2 f0d f1d f2d f3d hHeld e3 F1 F2 hB1
      have x1 := HS3.out.xp
      go_wp2
      go_loopg [78] P.length (fun kq v78 w' => ∃ k : Nat, v78 = .int .i64 (k : Int) ∧ k + kq = P.length ∧ Aside0 (MS w0 w' xB gB cB gP cP B1 (upTo (pa i0 p0) k P)))
      case atStart => exact ⟨0, rfl, by omega, ⟨by rw [upTo_zero]; exact HS3.out⟩⟩
      case round =>
       clear HS3 x1
       obtain ⟨k, rfl, hk, HS4⟩ := hrel
       by_cases hkl : k < P.length
       ·have hk1 : ((k : Int) < (P.length : Int)) = True := eq_true (by omega)
        have hk2 : decide ((k : Int) < (P.length : Int)) = true := decide_eq_true (by omega)
        cases gk with
        | zero => omega
        | succ gk' =>
        obtain ⟨y1, y2⟩ := HS4.out.cp k (by rw [upTo_len]; exact hkl)
        rw [upTo_rd _ _ hkl] at y1
        have y3 := HS4.out.xp
        rw [upTo_len] at y3
        obtain ⟨q, hq⟩ : ∃ q, rd P (k : Int) = q := ⟨_, rfl⟩
        rw [hq] at y1
        by_cases hqi : q = (i0 : Int)
        ·have hqb : (q == (i0 : Int)) = true := by rw [hqi]; simp
         have HU : Aside0 ((upTo (pa i0 p0) k P).set k (p0 : Int) = upTo (pa i0 p0) (k + 1) P) := ⟨by rw [← upTo_set _ _ hkl, hq, pa, if_pos hqi]⟩
         clear hq hqi
         go_wp2
         go_roundg gk'
         case measure => omega
         case rel => exact ⟨k + 1, by go_num, by omega, ⟨by rw [← HU.out]; exact HS4.out.setP k (p0 : Int)⟩⟩
        ·have hqb : (q == (i0 : Int)) = false := beq_eq_false_iff_ne.2 hqi
         have HU : Aside0 (upTo (pa i0 p0) k P = upTo (pa i0 p0) (k + 1) P) := ⟨by rw [upTo_same _ _ hkl (by rw [hq, pa, if_neg hqi])]⟩
         clear hq hqi
         go_wp2
         go_roundg gk'
         case measure => omega
         case rel => exact ⟨k + 1, by go_num, by omega, ⟨by rw [← HU.out]; exact HS4.out⟩⟩
       ·have hk1 : ((k : Int) < (P.length : Int)) = False := eq_false (by omega)
        have hk2 : decide ((k : Int) < (P.length : Int)) = false := decide_eq_false (by omega)
        obtain rfl : k = P.length := by omega
        have HS5 := Aside0.mk HS4.out
        rw [upTo_all] at HS5
        have hbd2 : ∀ k : Nat, k < ((P.map (pa i0 p0)).eraseIdx i0).length → -1 ≤ rd ((P.map (pa i0 p0)).eraseIdx i0) (k : Int) ∧ rd ((P.map (pa i0 p0)).eraseIdx i0) (k : Int) < 31 := by
         intro k hk
         have hu : T.up i0 k < P.length := by
          rw [List.length_eraseIdx, if_pos (by rw [List.length_map]; exact hil), List.length_map] at hk
          unfold T.up; split <;> omega
         rw [rd_erase, rd_map _ _ _ hu]
         obtain ⟨t1, t2, _, _⟩ := HT.out.inn _ (show T.up i0 k < B.length by have := HLEN.out; omega)
         unfold pa
         split <;> omega
        obtain ⟨P1, hP1⟩ : ∃ L, P.map (pa i0 p0) = L := ⟨_, rfl⟩
        have HLP1 : Aside0 (P1.length = P.length) := ⟨by rw [← hP1, List.length_map]⟩
        rw [hP1] at HS5 HM hbd2
        clear HS4 hP1
        have z0 := HS5.out.xb
        have hd0 : Aside0 (i0 < B1.length) := ⟨by have := HLEN.out; have := HLB1.out; omega⟩
        have hd1 : Aside0 (i0 < P1.length) := ⟨by have := HLP1.out; omega⟩
        obtain ⟨B2, hB2⟩ : ∃ L, B1.eraseIdx i0 = L := ⟨_, rfl⟩
        obtain ⟨P2, hP2⟩ : ∃ L, P1.eraseIdx i0 = L := ⟨_, rfl⟩
        rw [hB2, hP2] at HM
        rw [hP2] at hbd2
        have hm3 : P2.length ≤ 30 := by rw [← hP2, List.length_eraseIdx]; have := HLP1.out; split <;> omega
        have HB2 := Aside0.mk hB2
        have HP2 := Aside0.mk hP2
        have HBD := Aside0.mk hbd2
        clear hB2 hP2 HLP1 HLB1 hbd2
        go_wp2_with (first | (go_at_call 103; with_reducible refine (HS5.out.delB i0 hd0.out ((i0 : Int) + 1) (by omega) B2 HB2.out).mono ?_; rintro e w5 ⟨rfl, ⟨hx1, hx2⟩, hx3⟩; have HS6 := Aside0.mk hx3; have hx4 := hx3.xp; clear hx3) | (go_at_call 103; with_reducible refine (HS6.out.delP i0 hd1.out ((i0 : Int) + 1) (by omega) P2 HP2.out).mono ?_; rintro e w7 ⟨rfl, ⟨hx5, hx6⟩, hx7⟩; have HS7 := Aside0.mk hx7; have hx8 := hx7.xp; clear hx7))
        go_loopg [121] P2.length (fun kq v121 w' => ∃ k : Nat, v121 = .int .i64 (k : Int) ∧ k + kq = P2.length ∧ Aside0 (MS w0 w' xB gB cB gP cP B2 (upTo (pd i0) k P2)))
        case atStart => exact ⟨0, rfl, by omega, ⟨by rw [upTo_zero]; exact HS7.out⟩⟩
        case round =>
         clear HS5 HS6 HS7 hx1 hx2 hx4 hx5 hx6 hx8 z0
         obtain ⟨m, rfl, hk, HS8⟩ := hrel
         by_cases hml : m < P2.length
         ·have hk1 : ((m : Int) < (P2.length : Int)) = True := eq_true (by omega)
          have hk2 : decide ((m : Int) < (P2.length : Int)) = true := decide_eq_true (by omega)
          cases gk with
          | zero => omega
          | succ gm =>
          obtain ⟨y1, y2⟩ := HS8.out.cp m (by rw [upTo_len]; exact hml)
          rw [upTo_rd _ _ hml] at y1
          have y3 := HS8.out.xp
          rw [upTo_len] at y3
          obtain ⟨b1, b2⟩ := HBD.out m hml
          obtain ⟨q, hq⟩ : ∃ q, rd P2 (m : Int) = q := ⟨_, rfl⟩
          rw [hq] at y1 b1 b2
          by_cases hqi : q > (i0 : Int)
          ·have hqb : decide (q > (i0 : Int)) = true := decide_eq_true hqi
           have hqc : decide ((i0 : Int) < q) = true := decide_eq_true hqi
           have HU : Aside0 ((upTo (pd i0) m P2).set m (q - 1) = upTo (pd i0) (m + 1) P2) := ⟨by rw [← upTo_set _ _ hml, hq, pd, if_pos hqi]⟩
           clear hq hqi
           go_wp2
           go_roundg gm
           case measure => omega
           case rel => exact ⟨m + 1, by go_num, by omega, ⟨by rw [← HU.out]; exact HS8.out.setP m (q - 1)⟩⟩
          ·have hqb : decide (q > (i0 : Int)) = false := decide_eq_false hqi
           have hqc : decide ((i0 : Int) < q) = false := decide_eq_false hqi
           have HU : Aside0 (upTo (pd i0) m P2 = upTo (pd i0) (m + 1) P2) := ⟨by rw [upTo_same _ _ hml (by rw [hq, pd, if_neg hqi])]⟩
           clear hq hqi
           go_wp2
           go_roundg gm
           case measure => omega
           case rel => exact ⟨m + 1, by go_num, by omega, ⟨by rw [← HU.out]; exact HS8.out⟩⟩
         ·have hk1 : ((m : Int) < (P2.length : Int)) = False := eq_false (by omega)
          have hk2 : decide ((m : Int) < (P2.length : Int)) = false := decide_eq_false (by omega)
          obtain rfl : m = P2.length := by omega
          have HS9 := Aside0.mk HS8.out
          rw [upTo_all] at HS9
          clear HS8
          go_wp2
          go_ret
          exact .inr ⟨i0, p0, hR0, hp0, rfl, by rw [HM.out.1, HM.out.2]; exact HS9.out⟩
     ·have hb2 : ((d2 : Int) != 0) = true := bne_iff_ne.2 (by omega)
      have HK : Aside0 (okM B P i = false) := ⟨by rw [hK, decide_eq_false h1, decide_eq_false h2]; rfl⟩
      clear h1 h2 hK go
      go_wp2
      refine start_ (n := 38) (S := fun w' => w'.cell? ⟨xB, 0, none⟩ = some (.slice (some ⟨gB, 0, none⟩) B.length cB) ∧ w'.cell? ⟨gB, i, none⟩ = some (.int .i64 (bi : Int)) ∧ w'.cell? ⟨gB, p, none⟩ = some (.int .i64 (bp : Int))) (ds := []) (Qbz 38 0) (by kernel_rfl) rfl rfl ⟨f0d, f1d, f2d⟩ (fun hHeld => ?_)
      refine Qpu 0 19 ?_ ?_ (Qbz 38 1) (by kernel_rfl) ?_
      refine Qpu 1 20 ?_ ?_ (Qbz 38 3) (by kernel_rfl) ?_
      refine Qpu 2 21 ?_ ?_ (Qbz 38 7) (by kernel_rfl) ?_
      refine Qpu 3 22 ?_ ?_ (Qbz 38 15) (by kernel_rfl) ?_
      refine Qpu 4 23 ?_ ?_ (Qbz 38 31) (by kernel_rfl) ?_
      refine Qpu 5 24 ?_ ?_ (Qbz 38 63) (by kernel_rfl) ?_
      refine Qpu 7 26 ?_ ?_ (Qbz 38 191) (by kernel_rfl) ?_
      refine Qpu 10 29 ?_ ?_ (Qbz 38 1215) (by kernel_rfl) ?_
      refine Qpu 11 30 ?_ ?_ (Qbz 38 3263) (by kernel_rfl) ?_
      refine Qpu 12 31 ?_ ?_ (Qbz 38 7359) (by kernel_rfl) ?_
      refine Qpu 14 33 ?_ ?_ (Qbz 38 23743) (by kernel_rfl) ?_
      refine take_ (i := 6) (N := some 25) (v := ?_) (a' := ?_) (Qbz 38 23807) rfl rfl (by kernel_rfl) (fun _ _ _ h => h) (Or.inl ⟨by rfl, ?_⟩) hHeld ?_ ?_;rotate_left;(·rintro w' ⟨s0, s1, s2⟩;go_simp;with_reducible rfl);rotate_left;(·simp only [Act.put, Qp1, Qp2, Qp3, i64_w, i32_w];rfl)
      refine Qpu 8 27 ?_ ?_ (Qbz 38 24063) (by kernel_rfl) ?_
      refine take_ (i := 9) (N := some 28) (v := ?_) (a' := ?_) (Qbz 38 24575) rfl rfl (by kernel_rfl) (fun _ _ _ h => h) (Or.inl ⟨by rfl, ?_⟩) hHeld ?_ ?_;rotate_left;(·rintro w' ⟨s0, s1, s2⟩;go_simp;with_reducible rfl);rotate_left;(·simp only [Act.put, Qp1, Qp2, Qp3, i64_w, i32_w];rfl)
      refine take_ (i := 13) (N := some 32) (v := ?_) (a' := ?_) (Qbz 38 32767) rfl rfl (by kernel_rfl) (fun _ _ _ h => h) (Or.inl ⟨by rfl, ?_⟩) hHeld ?_ ?_;rotate_left;(·rintro w' ⟨s0, s1, s2⟩;go_simp;with_reducible rfl);rotate_left;(·simp only [Act.put, Qp1, Qp2, Qp3, i64_w, i32_w];rfl)
      refine Qpu 15 34 ?_ ?_ (Qbz 38 65535) (by kernel_rfl) ?_
      refine take_ (i := 16) (N := some 35) (v := ?_) (a' := ?_) (Qbz 38 131071) rfl rfl (by kernel_rfl) (fun _ _ _ h => h) (Or.inl ⟨by rfl, ?_⟩) hHeld ?_ ?_;rotate_left;(·rintro w' ⟨s0, s1, s2⟩;go_simp;with_reducible rfl);rotate_left;(·simp only [Act.put, Qp1, Qp2, Qp3, i64_w, i32_w];rfl)
      refine Qpu 17 36 ?_ ?_ (Qbz 38 262143) (by kernel_rfl) ?_
      refine Qpu 18 37 ?_ ?_ (Qbz 38 524287) (by kernel_rfl) ?_
      refine Qpu 19 38 ?_ ?_ (Qbz 38 1048575) (by kernel_rfl) ?_
      refine Qpu 20 39 ?_ ?_ (Qbz 38 2097151) (by kernel_rfl) ?_
      refine Qpu 21 40 ?_ ?_ (Qbz 38 4194303) (by kernel_rfl) ?_
      refine Qpu 22 41 ?_ ?_ (Qbz 38 8388607) (by kernel_rfl) ?_
      refine Qpu 24 43 ?_ ?_ (Qbz 38 25165823) (by kernel_rfl) ?_
      refine Qpu 27 46 ?_ ?_ (Qbz 38 159383551) (by kernel_rfl) ?_
      refine Qpu 28 47 ?_ ?_ (Qbz 38 427819007) (by kernel_rfl) ?_
      refine Qpu 29 48 ?_ ?_ (Qbz 38 964689919) (by kernel_rfl) ?_
      refine Qpu 31 50 ?_ ?_ (Qbz 38 3112173567) (by kernel_rfl) ?_
      refine take_ (i := 23) (N := some 42) (v := ?_) (a' := ?_) (Qbz 38 3120562175) rfl rfl (by kernel_rfl) (fun _ _ _ h => h) (Or.inl ⟨by rfl, ?_⟩) hHeld ?_ ?_;rotate_left;(·rintro w' ⟨s0, s1, s2⟩;go_simp;with_reducible rfl);rotate_left;(·simp only [Act.put, Qp1, Qp2, Qp3, i64_w, i32_w];rfl)
      refine Qpu 25 44 ?_ ?_ (Qbz 38 3154116607) (by kernel_rfl) ?_
      refine take_ (i := 26) (N := some 45) (v := ?_) (a' := ?_) (Qbz 38 3221225471) rfl rfl (by kernel_rfl) (fun _ _ _ h => h) (Or.inl ⟨by rfl, ?_⟩) hHeld ?_ ?_;rotate_left;(·rintro w' ⟨s0, s1, s2⟩;go_simp;with_reducible rfl);rotate_left;(·simp only [Act.put, Qp1, Qp2, Qp3, i64_w, i32_w];rfl)
      refine take_ (i := 30) (N := some 49) (v := ?_) (a' := ?_) (Qbz 38 4294967295) rfl rfl (by kernel_rfl) (fun _ _ _ h => h) (Or.inl ⟨by rfl, ?_⟩) hHeld ?_ ?_;rotate_left;(·rintro w' ⟨s0, s1, s2⟩;go_simp;with_reducible rfl);rotate_left;(·simp only [Act.put, Qp1, Qp2, Qp3, i64_w, i32_w];rfl)
      refine Qpu 32 51 ?_ ?_ (Qbz 38 8589934591) (by kernel_rfl) ?_
      refine take_ (i := 33) (N := some 52) (v := ?_) (a' := ?_) (Qbz 38 17179869183) rfl rfl (by kernel_rfl) (fun _ _ _ h => h) (Or.inl ⟨by rfl, ?_⟩) hHeld ?_ ?_;rotate_left;(·rintro w' ⟨s0, s1, s2⟩;go_simp;with_reducible rfl);rotate_left;(·simp only [Act.put, Qp1, Qp2, Qp3, i64_w, i32_w];rfl)
      refine Qpu 34 53 ?_ ?_ (Qbz 38 34359738367) (by kernel_rfl) ?_
      refine Qpu 35 54 ?_ ?_ (Qbz 38 68719476735) (by kernel_rfl) ?_
      refine Qpu 36 55 ?_ ?_ (Qbz 38 137438953471) (by kernel_rfl) ?_
      refine Qpu 37 56 ?_ ?_ (Qbz 38 274877906943) (by kernel_rfl) ?_
      refine done_ (by kernel_rfl) ?_
      go_wp2
      go_roundg gi
      case measure => omega
      case rel => exact ⟨i + 1, by go_num, by omega, ⟨fun j hj => by
       by_cases e : j = i
       ·rw [e]; exact HK.out
       ·exact HL.out j (by omega)⟩, ⟨HS.out.drew⟩⟩
  ·have hi1 : ((i : Int) < (P.length : Int)) = False := eq_false (by omega)
   have hi2 : decide ((i : Int) < (P.length : Int)) = false := decide_eq_false (by omega)
   have HN : Aside0 (R = none) := ⟨by rw [← HR.out]; exact pick_no fun j hj => HL.out j (by omega)⟩
   go_wp2
   go_ret
   exact .inl ⟨HN.out, rfl, HS.out⟩
theorem gi_toNatT (G : List Nat) : (gi G).map Int.toNat = G := by
 unfold gi
 rw [List.map_map]
 conv => rhs; rw [← List.map_id G]
 exact List.map_congr_left fun x _ => by simp
theorem p9T {n : Nat} (h : n ≤ 9) : 2 ^ n ≤ 512 := Nat.pow_le_pow_right (n := 2) (by omega) h
theorem bitJT (a y : Nat) (ha : a < 2 ^ 62) (hy : y < 62) : ∃ J : Int, ((a : Int) / 2 ^ min y 64) = J ∧ ((a : Int) / 2 ^ y) = J ∧ shr .i64 (a : Int) (y : Int) = J ∧ (Go.bits .and .i64 J 1 == 1) = a.testBit y ∧ (Go.bits .and .i64 J 1 == 0) = !a.testBit y := by
 have e := s_shr a y hy
 refine ⟨_, rfl, ?_, ?_, ?_, ?_⟩
 ·rw [Nat.min_eq_left (by omega)]
 ·rw [e, Nat.min_eq_left (by omega)]; simp
 ·rw [show ((a : Int) / 2 ^ min y 64) = shr .i64 (a : Int) (y : Int) by rw [e, Nat.min_eq_left (by omega)]; simp, bit_at a y ha hy]
  cases a.testBit y <;> rfl
 ·rw [show ((a : Int) / 2 ^ min y 64) = shr .i64 (a : Int) (y : Int) by rw [e, Nat.min_eq_left (by omega)]; simp, bit_at a y ha hy]
  cases a.testBit y <;> rfl
theorem cell_sameT {W V : World} {a : Addr} (h : V.heap[a.block]? = W.heap[a.block]?) : V.cell? a = W.cell? a := by
 unfold World.cell?
 rw [h]
theorem heap_setT (W : World) (a : Addr) (v : Value) (b : Nat) (h : b ≠ a.block) : (W.setCell a v).heap[b]? = W.heap[b]? := Below.heap_setCell W a v b h
theorem blk_ltT {W : World} {g : Nat} {o : Obj} (h : W.heap[g]? = some o) : g < W.heap.size := (Array.getElem?_eq_some_iff.1 h).1
set_option maxHeartbeats 4000000 in
set_option maxRecDepth 100000 in
theorem cyclic_calls (A0 : Option Addr) (n0 c0 : Nat) (A1 : Option Addr) (c1 : Nat) (P : List Int) (at_ : Int) (hP : InP P) (hn : P.length ≤ 30) (ha1 : at_ < (P.length : Int)) (w : World) (hr : Kd.C (Kd.int .i64) w A1 P.length P) :
  Calls Tryd.prog 101 #[.agg #[.slice A0 n0 c0, .slice A1 P.length c1], .int .i64 at_] w fun e w' => e = .returned (.bool (cycB P P.length at_)) ∧ Below w.heap.size w w' := by
 have HR := Aside0.mk hr
 have HP := Aside0.mk hP
 obtain ⟨R, hR⟩ : ∃ r, cycB P P.length at_ = r := ⟨_, rfl⟩
 rw [hR]
 have HC := Aside0.mk hR
 clear hr hP hR
 go_enter Tryd.func101, Tryd.ntmps101
 go_wp2_with (first | ((with_reducible refine gate_dst (N := 2) rfl ?_); refine box_event ?hg (N := 2) ?hd (cs := #[.slice A0 n0 c0, .slice A1 P.length c1]) (t := 53) ?hr ?_; (case hd => rfl); (case hg => rfl); (case hr => first | (go_simp; done) | (go_simp; rfl)); intro ga hga w7 hbox hb7; have HBOX := Aside0.mk hbox; have HB7 := Aside0.mk hb7; have hz1 : w7.cell? ⟨ga, 1, none⟩ = some (.slice A1 P.length c1) := (blk_cell hbox 1).trans rfl; clear hbox hb7 hga))
 go_loopg [1, 8] P.length (fun kq v1 v8 w' => ∃ (i : Nat) (x : Int), v1 = .int .i64 x ∧ v8 = .int .i64 (i : Int) ∧ i + kq = P.length ∧ Aside0 (cycB P kq x = R ∧ x < (P.length : Int)) ∧ w' = w7)
 case atStart => exact ⟨0, at_, rfl, rfl, by omega, ⟨HC.out, ha1⟩, rfl⟩
 case round =>
  clear HC
  obtain ⟨i, x, rfl, rfl, hi, HC, rfl⟩ := hrel
  obtain ⟨hc, hx⟩ := HC.out
  clear HC
  by_cases hil : i < P.length
  ·have hi1 : ((i : Int) < (P.length : Int)) = True := eq_true (by omega)
   have hi2 : decide ((i : Int) < (P.length : Int)) = true := decide_eq_true (by omega)
   cases gk with
   | zero => omega
   | succ gi =>
   simp only [cycB] at hc
   by_cases hx0 : x < 0
   ·rw [if_pos hx0] at hc
    subst hc
    have hd1 : decide (x < 0) = true := decide_eq_true hx0
    clear hx0
    go_wp2
    go_ret
    exact ⟨rfl, HB7.out⟩
   ·rw [if_neg hx0] at hc
    have hd1 : decide (x < 0) = false := decide_eq_false hx0
    obtain ⟨xn, rfl⟩ := Int.eq_ofNat_of_zero_le (show 0 ≤ x by omega)
    have hxl : xn < P.length := by omega
    obtain ⟨ad, e1, hgx⟩ := Kd.at_int (Kd.C_below HR.out HB7.out) (xn : Int) (by omega) (by omega)
    subst e1
    rw [Int.toNat_natCast] at hgx
    obtain ⟨h1, h2⟩ := HP.out xn hxl
    have hj1 : ((xn : Int) < (P.length : Int)) = True := eq_true (by omega)
    have hj2 : decide ((xn : Int) < (P.length : Int)) = true := decide_eq_true (by omega)
    generalize rd P (xn : Int) = y at *
    have HC2 := Aside0.mk hc
    clear hc hx0
    go_wp2
    go_roundg gi
    case measure => omega
    case rel => exact ⟨i + 1, y, rfl, by go_num, by omega, ⟨HC2.out, h2⟩, rfl⟩
  ·have hi1 : ((i : Int) < (P.length : Int)) = False := eq_false (by omega)
   have hi2 : decide ((i : Int) < (P.length : Int)) = false := decide_eq_false (by omega)
   obtain rfl : gk = 0 := by omega
   simp only [cycB] at hc
   have hd3 : decide (x ≥ 0) = R := hc
   have hd4 : decide (0 ≤ x) = R := hc
   clear hc
   go_wp2
   go_ret
   exact ⟨by first | rfl | (rw [hd4]), HB7.out⟩
theorem cyc1 (xB : Nat) (A0 : Option Addr) (n0 c0 : Nat) (A1 : Option Addr) (c1 : Nat) (P : List Int) (at_ : Int) (hP : InP P) (hn : P.length ≤ 30) (ha1 : at_ < (P.length : Int)) (w : World) (hr : Kd.C (Kd.int .i64) w A1 P.length P) (h0 : w.cell? ⟨xB, 0, none⟩ = some (.slice A0 n0 c0)) (h1 : w.cell? ⟨xB, 1, none⟩ = some (.slice A1 P.length c1)) :
  Calls Tryd.prog 100 #[.int .i64 at_, .pointer (some ⟨xB, 0, none⟩)] w fun e w' => e = .returned (.bool (cycB P P.length at_)) ∧ Below w.heap.size w w' := by
 have HC := Aside0.mk (cyclic_calls A0 n0 c0 A1 c1 P at_ hP hn ha1 w hr)
 clear hP hn ha1 hr
 go_enter Tryd.func100, Tryd.ntmps100
 go_wp2_with (go_at_call 101; refine HC.out.mono ?_; rintro e w3 ⟨rfl, hb⟩)
 go_ret
 exact ⟨rfl, hb⟩
theorem both1 (uB vB : Nat) (u v b : Nat) (hu : u < 62) (hv : v < 62) (hb : b < 2 ^ 62) (w : World) (h0 : w.cell? ⟨uB, 0, none⟩ = some (.int .i64 (u : Int))) (h1 : w.cell? ⟨vB, 0, none⟩ = some (.int .i64 (v : Int))) :
  Calls Tryd.prog 102 #[.int .i64 (b : Int), .pointer (some ⟨uB, 0, none⟩), .pointer (some ⟨vB, 0, none⟩)] w fun e w' => e = .returned (.bool (bothB u v (b : Int))) ∧ Below w.heap.size w w' := by
 obtain ⟨J, hJ1, hJ2, hJ3, hJ4, hJ5⟩ := bitJT b u hb hu
 obtain ⟨K, hK1, hK2, hK3, hK4, hK5⟩ := bitJT b v hb hv
 have HB := Aside0.mk (show bothB u v (b : Int) = (b.testBit u && b.testBit v) from rfl)
 have hz1 : (0 : Int) ≤ (u : Int) := by omega
 have hz2 : (0 : Int) ≤ (v : Int) := by omega
 clear hb hJ3 hJ5 hK3 hK5
 rw [HB.out]
 cases hbt : b.testBit u
 ·rw [hbt] at hJ4
  clear hbt
  generalize b.testBit v = bv at *
  go_enter Tryd.func102, Tryd.ntmps102
  go_wp2
  go_ret
  exact ⟨rfl, Below.refl _ _⟩
 ·rw [hbt] at hJ4
  clear hbt
  generalize b.testBit v = bv at *
  go_enter Tryd.func102, Tryd.ntmps102
  go_wp2
  go_ret
  exact ⟨rfl, Below.refl _ _⟩
set_option maxHeartbeats 2000000 in
theorem index_cyc (A : Option Addr) (c : Nat) (l : List Int) (p : Int → Bool) (xB : Nat) (w : World) (hx : Kd.C (Kd.int .i64) w A l.length l) (hl : l.length ≤ 1000)
  (hp : ∀ W, Below w.heap.size w W → ∀ x ∈ l, Calls Tryd.prog 100 #[.int .i64 x, .pointer (some ⟨xB, 0, none⟩)] W fun e w' => e = .returned (.bool (p x)) ∧ Below W.heap.size W w') :
  Calls Tryd.prog 84 #[.slice A l.length c, .func (.func 100) #[] #[.pointer (some ⟨xB, 0, none⟩)]] w fun e w' => ∃ z, e = .returned (.int .i64 z) ∧ decide (z ≥ 0) = l.any p ∧ Below w.heap.size w w' := by
 have HX := Aside0.mk hx
 have HP := Aside0.mk hp
 clear hx hp
 go_enter Tryd.func84, Tryd.ntmps84
 go_wp2
 go_loopg [8] l.length (fun kq v8 w' => ∃ i : Nat, v8 = .int .i64 (i : Int) ∧ i + kq = l.length ∧ Aside0 ((l.drop i).any p = l.any p) ∧ Aside0 (Below w.heap.size w w'))
 case atStart => exact ⟨0, rfl, by omega, ⟨rfl⟩, ⟨Below.refl _ _⟩⟩
 case round =>
  obtain ⟨i, rfl, hi, HA, HB⟩ := hrel
  by_cases hil : i < l.length
  ·have hi1 : ((i : Int) < (l.length : Int)) = True := eq_true (by omega)
   have hi2 : decide ((i : Int) < (l.length : Int)) = true := decide_eq_true (by omega)
   cases gk with
   | zero => omega
   | succ gi =>
   obtain ⟨ad, e1, hgx⟩ := Kd.at_int (Kd.C_below HX.out HB.out) (i : Int) (by omega) (by omega)
   subst e1
   have hra : rd l (i : Int) = l[i] := by unfold rd; rw [Int.toNat_natCast, List.getD_eq_getElem?_getD, List.getElem?_eq_getElem hil]; rfl
   rw [hra, Int.toNat_natCast] at hgx
   have hm : l[i] ∈ l := List.getElem_mem hil
   have ha := HA.out
   rw [List.drop_eq_getElem_cons hil, List.any_cons] at ha
   have HC := Aside0.mk (HP.out wr HB.out _ hm)
   generalize l[i] = x at *
   clear hra HA
   cases hpx : p x
   ·rw [hpx] at HC ha
    have HA2 : Aside0 ((l.drop (i + 1)).any p = l.any p) := ⟨by simpa using ha⟩
    clear ha hpx hm
    go_wp2_with (go_at_call 100; refine HC.out.mono ?_; rintro e w3 ⟨rfl, hb⟩)
    go_roundg gi
    case measure => omega
    case rel => exact ⟨i + 1, by go_num, by omega, HA2, ⟨below_step HB.out hb⟩⟩
   ·rw [hpx] at HC ha
    have HA2 : Aside0 (true = l.any p) := ⟨by simpa using ha⟩
    clear ha hpx hm
    go_wp2_with (go_at_call 100; refine HC.out.mono ?_; rintro e w3 ⟨rfl, hb⟩)
    go_ret
    exact ⟨_, rfl, by rw [← HA2.out]; exact decide_eq_true (by omega), below_step HB.out hb⟩
  ·have hi1 : ((i : Int) < (l.length : Int)) = False := eq_false (by omega)
   have hi2 : decide ((i : Int) < (l.length : Int)) = false := decide_eq_false (by omega)
   have ha := HA.out
   rw [List.drop_eq_nil_of_le (by omega)] at ha
   have HA2 : Aside0 (false = l.any p) := ⟨ha⟩
   clear ha HA
   go_wp2
   go_ret
   exact ⟨_, rfl, by rw [← HA2.out]; rfl, HB.out⟩
theorem contains_cyc (A : Option Addr) (c : Nat) (l : List Int) (p : Int → Bool) (xB : Nat) (w : World) (hx : Kd.C (Kd.int .i64) w A l.length l) (hl : l.length ≤ 1000)
  (hp : ∀ W, Below w.heap.size w W → ∀ x ∈ l, Calls Tryd.prog 100 #[.int .i64 x, .pointer (some ⟨xB, 0, none⟩)] W fun e w' => e = .returned (.bool (p x)) ∧ Below W.heap.size W w') :
  Calls Tryd.prog 54 #[.slice A l.length c, .func (.func 100) #[] #[.pointer (some ⟨xB, 0, none⟩)]] w fun e w' => e = .returned (.bool (l.any p)) ∧ Below w.heap.size w w' := by
 have HI := Aside0.mk (index_cyc A c l p xB w hx hl hp)
 clear hx hl hp
 go_enter Tryd.func54, Tryd.ntmps54
 go_wp2_with (go_at_call 84; refine HI.out.mono ?_; rintro e w3 ⟨z, rfl, hz, hb⟩)
 go_ret
 exact ⟨by rw [← hz]; rfl, hb⟩
set_option maxHeartbeats 2000000 in
theorem index_both (A : Option Addr) (c : Nat) (l : List Int) (p : Int → Bool) (uB vB : Nat) (w : World) (hx : Kd.C (Kd.int .i64) w A l.length l) (hl : l.length ≤ 1000)
  (hp : ∀ W, Below w.heap.size w W → ∀ x ∈ l, Calls Tryd.prog 102 #[.int .i64 x, .pointer (some ⟨uB, 0, none⟩), .pointer (some ⟨vB, 0, none⟩)] W fun e w' => e = .returned (.bool (p x)) ∧ Below W.heap.size W w') :
  Calls Tryd.prog 84 #[.slice A l.length c, .func (.func 102) #[] #[.pointer (some ⟨uB, 0, none⟩), .pointer (some ⟨vB, 0, none⟩)]] w fun e w' => ∃ z, e = .returned (.int .i64 z) ∧ decide (z ≥ 0) = l.any p ∧ Below w.heap.size w w' := by
 have HX := Aside0.mk hx
 have HP := Aside0.mk hp
 clear hx hp
 go_enter Tryd.func84, Tryd.ntmps84
 go_wp2
 go_loopg [8] l.length (fun kq v8 w' => ∃ i : Nat, v8 = .int .i64 (i : Int) ∧ i + kq = l.length ∧ Aside0 ((l.drop i).any p = l.any p) ∧ Aside0 (Below w.heap.size w w'))
 case atStart => exact ⟨0, rfl, by omega, ⟨rfl⟩, ⟨Below.refl _ _⟩⟩
 case round =>
  obtain ⟨i, rfl, hi, HA, HB⟩ := hrel
  by_cases hil : i < l.length
  ·have hi1 : ((i : Int) < (l.length : Int)) = True := eq_true (by omega)
   have hi2 : decide ((i : Int) < (l.length : Int)) = true := decide_eq_true (by omega)
   cases gk with
   | zero => omega
   | succ gi =>
   obtain ⟨ad, e1, hgx⟩ := Kd.at_int (Kd.C_below HX.out HB.out) (i : Int) (by omega) (by omega)
   subst e1
   have hra : rd l (i : Int) = l[i] := by unfold rd; rw [Int.toNat_natCast, List.getD_eq_getElem?_getD, List.getElem?_eq_getElem hil]; rfl
   rw [hra, Int.toNat_natCast] at hgx
   have hm : l[i] ∈ l := List.getElem_mem hil
   have ha := HA.out
   rw [List.drop_eq_getElem_cons hil, List.any_cons] at ha
   have HC := Aside0.mk (HP.out wr HB.out _ hm)
   generalize l[i] = x at *
   clear hra HA
   cases hpx : p x
   ·rw [hpx] at HC ha
    have HA2 : Aside0 ((l.drop (i + 1)).any p = l.any p) := ⟨by simpa using ha⟩
    clear ha hpx hm
    go_wp2_with (go_at_call 102; refine HC.out.mono ?_; rintro e w3 ⟨rfl, hb⟩)
    go_roundg gi
    case measure => omega
    case rel => exact ⟨i + 1, by go_num, by omega, HA2, ⟨below_step HB.out hb⟩⟩
   ·rw [hpx] at HC ha
    have HA2 : Aside0 (true = l.any p) := ⟨by simpa using ha⟩
    clear ha hpx hm
    go_wp2_with (go_at_call 102; refine HC.out.mono ?_; rintro e w3 ⟨rfl, hb⟩)
    go_ret
    exact ⟨_, rfl, by rw [← HA2.out]; exact decide_eq_true (by omega), below_step HB.out hb⟩
  ·have hi1 : ((i : Int) < (l.length : Int)) = False := eq_false (by omega)
   have hi2 : decide ((i : Int) < (l.length : Int)) = false := decide_eq_false (by omega)
   have ha := HA.out
   rw [List.drop_eq_nil_of_le (by omega)] at ha
   have HA2 : Aside0 (false = l.any p) := ⟨ha⟩
   clear ha HA
   go_wp2
   go_ret
   exact ⟨_, rfl, by rw [← HA2.out]; rfl, HB.out⟩
theorem contains_both (A : Option Addr) (c : Nat) (l : List Int) (p : Int → Bool) (uB vB : Nat) (w : World) (hx : Kd.C (Kd.int .i64) w A l.length l) (hl : l.length ≤ 1000)
  (hp : ∀ W, Below w.heap.size w W → ∀ x ∈ l, Calls Tryd.prog 102 #[.int .i64 x, .pointer (some ⟨uB, 0, none⟩), .pointer (some ⟨vB, 0, none⟩)] W fun e w' => e = .returned (.bool (p x)) ∧ Below W.heap.size W w') :
  Calls Tryd.prog 54 #[.slice A l.length c, .func (.func 102) #[] #[.pointer (some ⟨uB, 0, none⟩), .pointer (some ⟨vB, 0, none⟩)]] w fun e w' => e = .returned (.bool (l.any p)) ∧ Below w.heap.size w w' := by
 have HI := Aside0.mk (index_both A c l p uB vB w hx hl hp)
 clear hx hl hp
 go_enter Tryd.func54, Tryd.ntmps54
 go_wp2_with (go_at_call 84; refine HI.out.mono ?_; rintro e w3 ⟨z, rfl, hz, hb⟩)
 go_ret
 exact ⟨by rw [← hz]; rfl, hb⟩
theorem wnodes_all : ∀ x : Fin 512, width_nodes.f 12 (x.val : Int) = some (gi (els x.val 9)) := by decide +kernel
theorem wall_f {G : List Nat} (hG : Gr 9 G) : width_town_all.f (gi G) = some ((2 ^ G.length - 1 : Nat) : Int) := all_eq G hG.most
set_option maxHeartbeats 16000000 in
set_option maxRecDepth 100000 in
theorem tree_calls (Ag : Option Addr) (cg : Nat) (G : List Nat) (hG : Gr 9 G) (hcg : G.length ≤ cg) (A0 : Option Addr) (c0 : Nat) (B : List Int) (A1 : Option Addr) (c1 : Nat) (P : List Int) (R : Bool) (hR : treeB G B P = R) (w : World) (hGL : GL w) (hrg : Kd.C (Kd.int .i64) w Ag (gi G).length (gi G)) (hr0 : Kd.C (Kd.int .i64) w A0 B.length B) (hr1 : Kd.C (Kd.int .i64) w A1 P.length P) :
  Calls Tryd.prog 78 #[.slice Ag G.length cg, .agg #[.slice A0 B.length c0, .slice A1 P.length c1]] w fun e w' => e = .returned (.bool R) ∧ Below w.heap.size w w' := by
 have hn := hG.most
 have HG := Aside0.mk hG
 have HGL := Aside0.mk hGL
 have HRG := Aside0.mk hrg
 have HR0 := Aside0.mk hr0
 have HR1 := Aside0.mk hr1
 have HL := Aside0.mk (gi_length G)
 have HALL := Aside0.mk (wall_f hG)
 have HN7 := Aside0.mk (p9T hn)
 unfold treeB at hR
 clear hG hGL hrg hr0 hr1
 by_cases hb1 : B.length < 1
 ·rw [if_pos hb1] at hR
  subst hR
  have hd1 : decide ((B.length : Int) < 1) = true := decide_eq_true (by omega)
  clear hb1
  go_enter Tryd.func78, Tryd.ntmps78
  go_wp2_with (first | ((with_reducible refine gate_dst (N := 3) rfl ?_); refine box_event ?hg (N := 3) ?hd (cs := #[.slice A0 B.length c0, .slice A1 P.length c1]) (t := 53) ?hr ?_; (case hd => rfl); (case hg => rfl); (case hr => first | (go_simp; done) | (go_simp; rfl)); intro xB hga w7 hbox hb7; have HBOX := Aside0.mk hbox; have HB7 := Aside0.mk hb7; have hz0 : w7.cell? ⟨xB, 0, none⟩ = some (.slice A0 B.length c0) := (blk_cell hbox 0).trans rfl; have hz1 : w7.cell? ⟨xB, 1, none⟩ = some (.slice A1 P.length c1) := (blk_cell hbox 1).trans rfl; clear hbox hb7 hga))
  go_ret
  exact ⟨rfl, HB7.out⟩
 ·rw [if_neg hb1] at hR
  have hd1 : decide ((B.length : Int) < 1) = false := decide_eq_false (by omega)
  by_cases hb30 : 30 < B.length
  ·rw [if_pos hb30] at hR
   subst hR
   have hd2 : decide ((B.length : Int) > 30) = true := decide_eq_true (by omega)
   clear hb1 hb30
   go_enter Tryd.func78, Tryd.ntmps78
   go_wp2_with (first | ((with_reducible refine gate_dst (N := 3) rfl ?_); refine box_event ?hg (N := 3) ?hd (cs := #[.slice A0 B.length c0, .slice A1 P.length c1]) (t := 53) ?hr ?_; (case hd => rfl); (case hg => rfl); (case hr => first | (go_simp; done) | (go_simp; rfl)); intro xB hga w7 hbox hb7; have HBOX := Aside0.mk hbox; have HB7 := Aside0.mk hb7; have hz0 : w7.cell? ⟨xB, 0, none⟩ = some (.slice A0 B.length c0) := (blk_cell hbox 0).trans rfl; have hz1 : w7.cell? ⟨xB, 1, none⟩ = some (.slice A1 P.length c1) := (blk_cell hbox 1).trans rfl; clear hbox hb7 hga))
   go_ret
   exact ⟨rfl, HB7.out⟩
  ·rw [if_neg hb30] at hR
   have hd2 : decide ((B.length : Int) > 30) = false := decide_eq_false (by omega)
   by_cases hpl : P.length = B.length
   ·rw [if_pos hpl] at hR
    have hd3 : ((P.length : Int) == (B.length : Int)) = true := by rw [hpl]; simp
    have hd4 : ((P.length : Int) != (B.length : Int)) = false := by rw [hpl]; simp
    have HPL := Aside0.mk hpl
    have hn1 : 1 ≤ B.length := by omega
    have hn30 : B.length ≤ 30 := by omega
    obtain ⟨T1, hT1⟩ : ∃ r, tl1 B P B.length (2 ^ G.length - 1) B.length 0 0 0 = r := ⟨_, rfl⟩
    rw [hT1] at hR
    have HT1 := Aside0.mk hT1
    have HR := Aside0.mk hR
    have HOK : Aside0 (∀ r, T1 = some r → ∀ j, j < B.length → -1 ≤ rd P (j : Int) ∧ rd P (j : Int) < (B.length : Int) ∧ 0 ≤ rd B (j : Int) ∧ rd B (j : Int) ≤ ((2 ^ G.length - 1 : Nat) : Int)) := ⟨fun r e j hj => tl1_ok B P B.length (2 ^ G.length - 1) B.length 0 0 0 r (by rw [hT1, e]) j (Nat.zero_le _) (by omega)⟩
    obtain ⟨PA, hPA⟩ : ∃ x, 2 ^ G.length - 1 = x := ⟨_, rfl⟩
    rw [hPA] at HT1 HOK HALL
    have HPA := Aside0.mk hPA
    have hPA7 : PA < 512 := by rw [← hPA]; have := HN7.out; omega
    clear hb1 hb30 hpl hT1 hR hPA
    go_enter Tryd.func78, Tryd.ntmps78
    go_wp2_with (first | ((with_reducible refine gate_dst (N := 3) rfl ?_); refine box_event ?hg (N := 3) ?hd (cs := #[.slice A0 B.length c0, .slice A1 P.length c1]) (t := 53) ?hr ?_; (case hd => rfl); (case hg => rfl); (case hr => first | (go_simp; done) | (go_simp; rfl)); intro xB hga w7 hbox hb7; have HBOX := Aside0.mk hbox; have HB7 := Aside0.mk hb7; have hz0 : w7.cell? ⟨xB, 0, none⟩ = some (.slice A0 B.length c0) := (blk_cell hbox 0).trans rfl; have hz1 : w7.cell? ⟨xB, 1, none⟩ = some (.slice A1 P.length c1) := (blk_cell hbox 1).trans rfl; clear hbox hb7 hga))
    go_loopg [6, 7, 35] B.length (fun kq v6 v7 v35 w' => ∃ (i ro ac : Nat), v6 = .int .i64 (ro : Int) ∧ v7 = .int .i64 (ac : Int) ∧ v35 = .int .i64 (i : Int) ∧ i + kq = B.length ∧ Aside0 (tl1 B P B.length PA kq i ro ac = T1 ∧ ro ≤ i ∧ ac < 512) ∧ Aside0 (Below w7.heap.size w7 w'))
    case atStart => exact ⟨0, 0, 0, rfl, rfl, rfl, by omega, ⟨HT1.out, Nat.le_refl _, by decide⟩, ⟨Below.refl _ _⟩⟩
    case round =>
     clear HT1
     obtain ⟨i, ro, ac, rfl, rfl, rfl, hi, HT, HB⟩ := hrel
     by_cases hil : i < B.length
     ·have hi1 : ((i : Int) < (B.length : Int)) = True := eq_true (by omega)
      have hi2 : decide ((i : Int) < (B.length : Int)) = true := decide_eq_true (by omega)
      have hi3 : ((i : Int) < (P.length : Int)) = True := eq_true (by have := HPL.out; omega)
      have hi4 : decide ((i : Int) < (P.length : Int)) = true := decide_eq_true (by have := HPL.out; omega)
      cases gk with
      | zero => omega
      | succ gq =>
      obtain ⟨ht, hro, hac⟩ := HT.out
      simp only [tl1] at ht
      obtain ⟨adP, e1, hgp⟩ := Kd.at_int (Kd.C_below (Kd.C_below HR1.out HB7.out) HB.out) (i : Int) (by omega) (by have := HPL.out; omega)
      subst e1
      obtain ⟨adB, e2, hgb⟩ := Kd.at_int (Kd.C_below (Kd.C_below HR0.out HB7.out) HB.out) (i : Int) (by omega) (by omega)
      subst e2
      rw [Int.toNat_natCast] at hgp hgb
      have hgb0 := hgb
      generalize rd P (i : Int) = p at *
      generalize rd B (i : Int) = b at *
      have hbc := blk_below HBOX.out HB.out
      have f0d : wr.drew.cell? ⟨xB, 0, none⟩ = some (.slice (some adB) B.length c0) := (blk_cell hbc 0).trans rfl
      have f1d : wr.drew.cell? (adB.add i) = some (.int .i64 b) := hgb
      have fbd : Below w7.heap.size w7 wr.drew := below_drew HB.out
      clear HT hbc
      by_cases hp1 : p < -1
      ·rw [if_pos hp1] at ht
       have hd5 : decide (p < -1) = true := decide_eq_true hp1
       subst ht
       have hr := HR.out
       simp only [treeB2] at hr
       subst hr
       clear hp1
       go_wp2_with (fail)
       refine start_ (n := 25) (S := fun w' => Below w7.heap.size w7 w') (ds := []) (Qbz 25 0) (by kernel_rfl) rfl rfl (fbd) (fun hHeld => ?_)
       refine Qpu 0 40 ?_ ?_ (Qbz 25 1) (by kernel_rfl) ?_
       refine Qpu 1 41 ?_ ?_ (Qbz 25 3) (by kernel_rfl) ?_
       refine Qpu 2 42 ?_ ?_ (Qbz 25 7) (by kernel_rfl) ?_
       refine Qpn 3 43 ?_ (Qbz 25 15) (by kernel_rfl) ?_
       refine Qpn 4 44 ?_ (Qbz 25 31) (by kernel_rfl) ?_
       refine Qpn 5 45 ?_ (Qbz 25 63) (by kernel_rfl) ?_
       refine Qpu 6 46 ?_ ?_ (Qbz 25 127) (by kernel_rfl) ?_
       refine Qpu 7 47 ?_ ?_ (Qbz 25 255) (by kernel_rfl) ?_
       refine Qpn 8 48 ?_ (Qbz 25 511) (by kernel_rfl) ?_
       refine Qpn 9 49 ?_ (Qbz 25 1023) (by kernel_rfl) ?_
       refine Qpn 10 50 ?_ (Qbz 25 2047) (by kernel_rfl) ?_
       refine Qpn 11 51 ?_ (Qbz 25 4095) (by kernel_rfl) ?_
       refine Qpn 12 52 ?_ (Qbz 25 8191) (by kernel_rfl) ?_
       refine Qpn 13 53 ?_ (Qbz 25 16383) (by kernel_rfl) ?_
       refine Qpu 14 54 ?_ ?_ (Qbz 25 32767) (by kernel_rfl) ?_
       refine Qpu 15 55 ?_ ?_ (Qbz 25 65535) (by kernel_rfl) ?_
       refine Qpn 16 56 ?_ (Qbz 25 131071) (by kernel_rfl) ?_
       refine Qpn 17 57 ?_ (Qbz 25 262143) (by kernel_rfl) ?_
       refine Qpn 18 58 ?_ (Qbz 25 524287) (by kernel_rfl) ?_
       refine Qpn 19 59 ?_ (Qbz 25 1048575) (by kernel_rfl) ?_
       refine Qpn 20 60 ?_ (Qbz 25 2097151) (by kernel_rfl) ?_
       refine Qpn 21 61 ?_ (Qbz 25 4194303) (by kernel_rfl) ?_
       refine Qpn 22 62 ?_ (Qbz 25 8388607) (by kernel_rfl) ?_
       refine Qpn 23 63 ?_ (Qbz 25 16777215) (by kernel_rfl) ?_
       refine Qpu 24 64 ?_ ?_ (Qbz 25 33554431) (by kernel_rfl) ?_
       refine done_ (by kernel_rfl) ?_
       go_wp2
       go_ret
       exact ⟨rfl, below_step HB7.out fbd⟩
      ·rw [if_neg hp1] at ht
       have hd5 : decide (p < -1) = false := decide_eq_false hp1
       by_cases hp2 : (B.length : Int) ≤ p
       ·rw [if_pos hp2] at ht
        have hd6 : decide (p ≥ (B.length : Int)) = true := decide_eq_true hp2
        have hd7 : decide ((B.length : Int) ≤ p) = true := decide_eq_true hp2
        subst ht
        have hr := HR.out
        simp only [treeB2] at hr
        subst hr
        clear hp1 hp2
        go_wp2_with (fail)
        refine start_ (n := 25) (S := fun w' => Below w7.heap.size w7 w') (ds := []) (Qbz 25 0) (by kernel_rfl) rfl rfl (fbd) (fun hHeld => ?_)
        refine Qpu 0 40 ?_ ?_ (Qbz 25 1) (by kernel_rfl) ?_
        refine Qpu 1 41 ?_ ?_ (Qbz 25 3) (by kernel_rfl) ?_
        refine Qpu 2 42 ?_ ?_ (Qbz 25 7) (by kernel_rfl) ?_
        refine Qpu 3 43 ?_ ?_ (Qbz 25 15) (by kernel_rfl) ?_
        refine Qpu 4 44 ?_ ?_ (Qbz 25 31) (by kernel_rfl) ?_
        refine Qpu 5 45 ?_ ?_ (Qbz 25 63) (by kernel_rfl) ?_
        refine Qpu 6 46 ?_ ?_ (Qbz 25 127) (by kernel_rfl) ?_
        refine Qpu 7 47 ?_ ?_ (Qbz 25 255) (by kernel_rfl) ?_
        refine Qpn 8 48 ?_ (Qbz 25 511) (by kernel_rfl) ?_
        refine Qpn 9 49 ?_ (Qbz 25 1023) (by kernel_rfl) ?_
        refine Qpn 10 50 ?_ (Qbz 25 2047) (by kernel_rfl) ?_
        refine Qpn 11 51 ?_ (Qbz 25 4095) (by kernel_rfl) ?_
        refine Qpn 12 52 ?_ (Qbz 25 8191) (by kernel_rfl) ?_
        refine Qpn 13 53 ?_ (Qbz 25 16383) (by kernel_rfl) ?_
        refine Qpu 14 54 ?_ ?_ (Qbz 25 32767) (by kernel_rfl) ?_
        refine Qpu 15 55 ?_ ?_ (Qbz 25 65535) (by kernel_rfl) ?_
        refine Qpn 16 56 ?_ (Qbz 25 131071) (by kernel_rfl) ?_
        refine Qpn 17 57 ?_ (Qbz 25 262143) (by kernel_rfl) ?_
        refine Qpn 18 58 ?_ (Qbz 25 524287) (by kernel_rfl) ?_
        refine Qpn 19 59 ?_ (Qbz 25 1048575) (by kernel_rfl) ?_
        refine Qpn 20 60 ?_ (Qbz 25 2097151) (by kernel_rfl) ?_
        refine Qpn 21 61 ?_ (Qbz 25 4194303) (by kernel_rfl) ?_
        refine Qpn 22 62 ?_ (Qbz 25 8388607) (by kernel_rfl) ?_
        refine Qpn 23 63 ?_ (Qbz 25 16777215) (by kernel_rfl) ?_
        refine Qpu 24 64 ?_ ?_ (Qbz 25 33554431) (by kernel_rfl) ?_
        refine done_ (by kernel_rfl) ?_
        go_wp2
        go_ret
        exact ⟨rfl, below_step HB7.out fbd⟩
       ·rw [if_neg hp2] at ht
        have hd6 : decide (p ≥ (B.length : Int)) = false := decide_eq_false hp2
        have hd7 : decide ((B.length : Int) ≤ p) = false := decide_eq_false hp2
        by_cases hb1 : b < 0
        ·rw [if_pos hb1] at ht
         have hd8 : decide (b < 0) = true := decide_eq_true hb1
         subst ht
         have hr := HR.out
         simp only [treeB2] at hr
         subst hr
         clear hp1 hp2 hb1
         go_wp2_with (fail)
         refine start_ (n := 25) (S := fun w' => w'.cell? ⟨xB, 0, none⟩ = some (.slice (some adB) B.length c0) ∧ w'.cell? (adB.add i) = some (.int .i64 b) ∧ Below w7.heap.size w7 w') (ds := []) (Qbz 25 0) (by kernel_rfl) rfl rfl ⟨f0d, f1d, fbd⟩ (fun hHeld => ?_)
         refine Qpu 0 40 ?_ ?_ (Qbz 25 1) (by kernel_rfl) ?_
         refine Qpu 1 41 ?_ ?_ (Qbz 25 3) (by kernel_rfl) ?_
         refine Qpu 2 42 ?_ ?_ (Qbz 25 7) (by kernel_rfl) ?_
         refine Qpu 3 43 ?_ ?_ (Qbz 25 15) (by kernel_rfl) ?_
         refine Qpu 4 44 ?_ ?_ (Qbz 25 31) (by kernel_rfl) ?_
         refine Qpu 5 45 ?_ ?_ (Qbz 25 63) (by kernel_rfl) ?_
         refine Qpu 6 46 ?_ ?_ (Qbz 25 127) (by kernel_rfl) ?_
         refine Qpu 7 47 ?_ ?_ (Qbz 25 255) (by kernel_rfl) ?_
         refine Qpu 8 48 ?_ ?_ (Qbz 25 511) (by kernel_rfl) ?_
         refine Qpu 10 50 ?_ ?_ (Qbz 25 1535) (by kernel_rfl) ?_
         refine take_ (i := 9) (N := some 49) (v := ?_) (a' := ?_) (Qbz 25 2047) rfl rfl (by kernel_rfl) (fun _ _ _ h => h) (Or.inl ⟨by rfl, ?_⟩) hHeld ?_ ?_;rotate_left;(·rintro w' ⟨s0, s1, s2⟩;go_simp;with_reducible rfl);rotate_left;(·simp only [Act.put, Qp1, Qp2, Qp3, i64_w, i32_w];rfl)
         refine Qpu 11 51 ?_ ?_ (Qbz 25 4095) (by kernel_rfl) ?_
         refine take_ (i := 12) (N := some 52) (v := ?_) (a' := ?_) (Qbz 25 8191) rfl rfl (by kernel_rfl) (fun _ _ _ h => h) (Or.inl ⟨by rfl, ?_⟩) hHeld ?_ ?_;rotate_left;(·rintro w' ⟨s0, s1, s2⟩;go_simp;with_reducible rfl);rotate_left;(·simp only [Act.put, Qp1, Qp2, Qp3, i64_w, i32_w];rfl)
         refine Qpu 13 53 ?_ ?_ (Qbz 25 16383) (by kernel_rfl) ?_
         refine Qpu 14 54 ?_ ?_ (Qbz 25 32767) (by kernel_rfl) ?_
         refine Qpu 15 55 ?_ ?_ (Qbz 25 65535) (by kernel_rfl) ?_
         refine Qpn 16 56 ?_ (Qbz 25 131071) (by kernel_rfl) ?_
         refine Qpn 17 57 ?_ (Qbz 25 262143) (by kernel_rfl) ?_
         refine Qpn 18 58 ?_ (Qbz 25 524287) (by kernel_rfl) ?_
         refine Qpn 19 59 ?_ (Qbz 25 1048575) (by kernel_rfl) ?_
         refine Qpn 20 60 ?_ (Qbz 25 2097151) (by kernel_rfl) ?_
         refine Qpn 21 61 ?_ (Qbz 25 4194303) (by kernel_rfl) ?_
         refine Qpn 22 62 ?_ (Qbz 25 8388607) (by kernel_rfl) ?_
         refine Qpn 23 63 ?_ (Qbz 25 16777215) (by kernel_rfl) ?_
         refine Qpu 24 64 ?_ ?_ (Qbz 25 33554431) (by kernel_rfl) ?_
         refine done_ (by kernel_rfl) ?_
         go_wp2
         go_ret
         exact ⟨rfl, below_step HB7.out fbd⟩
        ·rw [if_neg hb1] at ht
         have hd8 : decide (b < 0) = false := decide_eq_false hb1
         have CALL : Aside0 (∀ W, (W.cell? ⟨xB, 0, none⟩ = some (.slice (some adB) B.length c0) ∧ W.cell? (adB.add i) = some (.int .i64 b) ∧ Below w7.heap.size w7 W) → Calls Tryd.prog 67 #[.slice Ag G.length cg] W fun e w' => e = .returned (.int .i64 (PA : Int)) ∧ w'.cell? ⟨xB, 0, none⟩ = some (.slice (some adB) B.length c0) ∧ w'.cell? (adB.add i) = some (.int .i64 b) ∧ Below w7.heap.size w7 w') := ⟨fun W hW => by
          have := width_town_all.calls Ag cg (gi G) _ W (Kd.C_below (Kd.C_below HRG.out HB7.out) hW.2.2) (by rw [HL.out]; exact hcg) HALL.out
          rw [HL.out] at this
          exact this.mono fun e w' ⟨h, m, hm⟩ => ⟨h, by rw [hm]; exact ⟨hW.1, hW.2.1, pw_below_drewN hW.2.2 m⟩⟩⟩
         by_cases hb2 : (PA : Int) < b
         ·rw [if_pos hb2] at ht
          have hd9 : decide (b > (PA : Int)) = true := decide_eq_true hb2
          have hd10 : decide ((PA : Int) < b) = true := decide_eq_true hb2
          subst ht
          have hr := HR.out
          simp only [treeB2] at hr
          subst hr
          clear hp1 hp2 hb1 hb2
          go_wp2_with (fail)
          refine start_ (n := 25) (S := fun w' => w'.cell? ⟨xB, 0, none⟩ = some (.slice (some adB) B.length c0) ∧ w'.cell? (adB.add i) = some (.int .i64 b) ∧ Below w7.heap.size w7 w') (ds := []) (Qbz 25 0) (by kernel_rfl) rfl rfl ⟨f0d, f1d, fbd⟩ (fun hHeld => ?_)
          refine Qpu 0 40 ?_ ?_ (Qbz 25 1) (by kernel_rfl) ?_
          refine Qpu 1 41 ?_ ?_ (Qbz 25 3) (by kernel_rfl) ?_
          refine Qpu 2 42 ?_ ?_ (Qbz 25 7) (by kernel_rfl) ?_
          refine Qpu 3 43 ?_ ?_ (Qbz 25 15) (by kernel_rfl) ?_
          refine Qpu 4 44 ?_ ?_ (Qbz 25 31) (by kernel_rfl) ?_
          refine Qpu 5 45 ?_ ?_ (Qbz 25 63) (by kernel_rfl) ?_
          refine Qpu 6 46 ?_ ?_ (Qbz 25 127) (by kernel_rfl) ?_
          refine Qpu 7 47 ?_ ?_ (Qbz 25 255) (by kernel_rfl) ?_
          refine Qpu 8 48 ?_ ?_ (Qbz 25 511) (by kernel_rfl) ?_
          refine Qpu 10 50 ?_ ?_ (Qbz 25 1535) (by kernel_rfl) ?_
          refine take_ (i := 9) (N := some 49) (v := ?_) (a' := ?_) (Qbz 25 2047) rfl rfl (by kernel_rfl) (fun _ _ _ h => h) (Or.inl ⟨by rfl, ?_⟩) hHeld ?_ ?_;rotate_left;(·rintro w' ⟨s0, s1, s2⟩;go_simp;with_reducible rfl);rotate_left;(·simp only [Act.put, Qp1, Qp2, Qp3, i64_w, i32_w];rfl)
          refine Qpu 11 51 ?_ ?_ (Qbz 25 4095) (by kernel_rfl) ?_
          refine take_ (i := 12) (N := some 52) (v := ?_) (a' := ?_) (Qbz 25 8191) rfl rfl (by kernel_rfl) (fun _ _ _ h => h) (Or.inl ⟨by rfl, ?_⟩) hHeld ?_ ?_;rotate_left;(·rintro w' ⟨s0, s1, s2⟩;go_simp;with_reducible rfl);rotate_left;(·simp only [Act.put, Qp1, Qp2, Qp3, i64_w, i32_w];rfl)
          refine Qpu 13 53 ?_ ?_ (Qbz 25 16383) (by kernel_rfl) ?_
          refine Qpu 14 54 ?_ ?_ (Qbz 25 32767) (by kernel_rfl) ?_
          refine Qpu 15 55 ?_ ?_ (Qbz 25 65535) (by kernel_rfl) ?_
          refine Qpu 16 56 ?_ ?_ (Qbz 25 131071) (by kernel_rfl) ?_
          refine Qpu 18 58 ?_ ?_ (Qbz 25 393215) (by kernel_rfl) ?_
          refine Qpu 21 61 ?_ ?_ (Qbz 25 2490367) (by kernel_rfl) ?_
          refine take_ (i := 17) (N := some 57) (v := ?_) (a' := ?_) (Qbz 25 2621439) rfl rfl (by kernel_rfl) (fun _ _ _ h => h) (Or.inl ⟨by rfl, ?_⟩) hHeld ?_ ?_;rotate_left;(·rintro w' ⟨s0, s1, s2⟩;go_simp;with_reducible rfl);rotate_left;(·simp only [Act.put, Qp1, Qp2, Qp3, i64_w, i32_w];rfl)
          refine Qpu 19 59 ?_ ?_ (Qbz 25 3145727) (by kernel_rfl) ?_
          refine take_ (i := 20) (N := some 60) (v := ?_) (a' := ?_) (Qbz 25 4194303) rfl rfl (by kernel_rfl) (fun _ _ _ h => h) (Or.inl ⟨by rfl, ?_⟩) hHeld ?_ ?_;rotate_left;(·rintro w' ⟨s0, s1, s2⟩;go_simp;with_reducible rfl);rotate_left;(·simp only [Act.put, Qp1, Qp2, Qp3, i64_w, i32_w];rfl)
          refine one_ (i := 22) (N := some 62) (Qbz 25 8388607) rfl rfl (by kernel_rfl) (by decide) (fun K hK => ?_)
          refine goes_ Tryd.func67 (by kernel_rfl) rfl #[.slice Ag G.length cg] (by rfl) rfl rfl (by simp only [List.map_toArray, List.map_cons, List.map_nil]; rfl) ?_
          with_reducible refine (CALL.out _ hHeld).mono ?_
          rintro e w3 ⟨rfl, g0, g1, gB⟩
          refine ⟨_, rfl, ?_⟩
          refine hK.out _ _ ⟨g0, g1, gB⟩ (fun hHeld => ?_)
          clear hK K
          refine norm_ (a' := ?_) ?_ ?_
          rotate_left
          ·show Act.put _ (some 62) _ = _
           simp only [Act.put, Qp1, Qp2, Qp3, i64_w, i32_w]
           rfl
          refine Qpu 23 63 ?_ ?_ (Qbz 25 16777215) (by kernel_rfl) ?_
          refine Qpu 24 64 ?_ ?_ (Qbz 25 33554431) (by kernel_rfl) ?_
          refine done_ (by kernel_rfl) ?_
          go_wp2
          go_ret
          exact ⟨rfl, below_step HB7.out gB⟩
         ·rw [if_neg hb2] at ht
          have hd9 : decide (b > (PA : Int)) = false := decide_eq_false hb2
          have hd10 : decide ((PA : Int) < b) = false := decide_eq_false hb2
          obtain ⟨bn, rfl⟩ := Int.eq_ofNat_of_zero_le (show 0 ≤ b by omega)
          rw [Int.toNat_natCast] at ht
          have hd12 : decide (PA < bn) = false := decide_eq_false (by omega)
          have hd13 : decide (bn > PA) = false := decide_eq_false (by omega)
          have hor := b_or ac bn (by omega) (by omega)
          have hac2 : ac ||| bn < 512 := Nat.or_lt_two_pow (n := 9) hac (by omega)
          generalize ac ||| bn = a2 at *
          by_cases hp0 : p < 0
          ·rw [if_pos hp0] at ht
           have hd11 : decide (p < 0) = true := decide_eq_true hp0
           have HT2 := Aside0.mk ht
           clear hp1 hp2 hb1 hb2 ht hp0
           go_wp2_with (fail)
           refine start_ (n := 25) (S := fun w' => w'.cell? ⟨xB, 0, none⟩ = some (.slice (some adB) B.length c0) ∧ w'.cell? (adB.add i) = some (.int .i64 (bn : Int)) ∧ Below w7.heap.size w7 w') (ds := []) (Qbz 25 0) (by kernel_rfl) rfl rfl ⟨f0d, f1d, fbd⟩ (fun hHeld => ?_)
           refine Qpu 0 40 ?_ ?_ (Qbz 25 1) (by kernel_rfl) ?_
           refine Qpu 1 41 ?_ ?_ (Qbz 25 3) (by kernel_rfl) ?_
           refine Qpu 2 42 ?_ ?_ (Qbz 25 7) (by kernel_rfl) ?_
           refine Qpu 3 43 ?_ ?_ (Qbz 25 15) (by kernel_rfl) ?_
           refine Qpu 4 44 ?_ ?_ (Qbz 25 31) (by kernel_rfl) ?_
           refine Qpu 5 45 ?_ ?_ (Qbz 25 63) (by kernel_rfl) ?_
           refine Qpu 6 46 ?_ ?_ (Qbz 25 127) (by kernel_rfl) ?_
           refine Qpu 7 47 ?_ ?_ (Qbz 25 255) (by kernel_rfl) ?_
           refine Qpu 8 48 ?_ ?_ (Qbz 25 511) (by kernel_rfl) ?_
           refine Qpu 10 50 ?_ ?_ (Qbz 25 1535) (by kernel_rfl) ?_
           refine take_ (i := 9) (N := some 49) (v := ?_) (a' := ?_) (Qbz 25 2047) rfl rfl (by kernel_rfl) (fun _ _ _ h => h) (Or.inl ⟨by rfl, ?_⟩) hHeld ?_ ?_;rotate_left;(·rintro w' ⟨s0, s1, s2⟩;go_simp;with_reducible rfl);rotate_left;(·simp only [Act.put, Qp1, Qp2, Qp3, i64_w, i32_w];rfl)
           refine Qpu 11 51 ?_ ?_ (Qbz 25 4095) (by kernel_rfl) ?_
           refine take_ (i := 12) (N := some 52) (v := ?_) (a' := ?_) (Qbz 25 8191) rfl rfl (by kernel_rfl) (fun _ _ _ h => h) (Or.inl ⟨by rfl, ?_⟩) hHeld ?_ ?_;rotate_left;(·rintro w' ⟨s0, s1, s2⟩;go_simp;with_reducible rfl);rotate_left;(·simp only [Act.put, Qp1, Qp2, Qp3, i64_w, i32_w];rfl)
           refine Qpu 13 53 ?_ ?_ (Qbz 25 16383) (by kernel_rfl) ?_
           refine Qpu 14 54 ?_ ?_ (Qbz 25 32767) (by kernel_rfl) ?_
           refine Qpu 15 55 ?_ ?_ (Qbz 25 65535) (by kernel_rfl) ?_
           refine Qpu 16 56 ?_ ?_ (Qbz 25 131071) (by kernel_rfl) ?_
           refine Qpu 18 58 ?_ ?_ (Qbz 25 393215) (by kernel_rfl) ?_
           refine Qpu 21 61 ?_ ?_ (Qbz 25 2490367) (by kernel_rfl) ?_
           refine take_ (i := 17) (N := some 57) (v := ?_) (a' := ?_) (Qbz 25 2621439) rfl rfl (by kernel_rfl) (fun _ _ _ h => h) (Or.inl ⟨by rfl, ?_⟩) hHeld ?_ ?_;rotate_left;(·rintro w' ⟨s0, s1, s2⟩;go_simp;with_reducible rfl);rotate_left;(·simp only [Act.put, Qp1, Qp2, Qp3, i64_w, i32_w];rfl)
           refine Qpu 19 59 ?_ ?_ (Qbz 25 3145727) (by kernel_rfl) ?_
           refine take_ (i := 20) (N := some 60) (v := ?_) (a' := ?_) (Qbz 25 4194303) rfl rfl (by kernel_rfl) (fun _ _ _ h => h) (Or.inl ⟨by rfl, ?_⟩) hHeld ?_ ?_;rotate_left;(·rintro w' ⟨s0, s1, s2⟩;go_simp;with_reducible rfl);rotate_left;(·simp only [Act.put, Qp1, Qp2, Qp3, i64_w, i32_w];rfl)
           refine one_ (i := 22) (N := some 62) (Qbz 25 8388607) rfl rfl (by kernel_rfl) (by decide) (fun K hK => ?_)
           refine goes_ Tryd.func67 (by kernel_rfl) rfl #[.slice Ag G.length cg] (by rfl) rfl rfl (by simp only [List.map_toArray, List.map_cons, List.map_nil]; rfl) ?_
           with_reducible refine (CALL.out _ hHeld).mono ?_
           rintro e w3 ⟨rfl, g0, g1, gB⟩
           refine ⟨_, rfl, ?_⟩
           refine hK.out _ _ ⟨g0, g1, gB⟩ (fun hHeld => ?_)
           clear hK K
           refine norm_ (a' := ?_) ?_ ?_
           rotate_left
           ·show Act.put _ (some 62) _ = _
            simp only [Act.put, Qp1, Qp2, Qp3, i64_w, i32_w]
            rfl
           refine Qpu 23 63 ?_ ?_ (Qbz 25 16777215) (by kernel_rfl) ?_
           refine Qpu 24 64 ?_ ?_ (Qbz 25 33554431) (by kernel_rfl) ?_
           refine done_ (by kernel_rfl) ?_
           go_wp2
           go_roundg gq
           case measure => omega
           case rel => exact ⟨i + 1, ro + 1, a2, by go_num, rfl, by go_num, by omega, ⟨HT2.out, by omega, hac2⟩, ⟨gB⟩⟩
          ·rw [if_neg hp0] at ht
           have hd11 : decide (p < 0) = false := decide_eq_false hp0
           have HT2 := Aside0.mk ht
           clear hp1 hp2 hb1 hb2 ht hp0
           go_wp2_with (fail)
           refine start_ (n := 25) (S := fun w' => w'.cell? ⟨xB, 0, none⟩ = some (.slice (some adB) B.length c0) ∧ w'.cell? (adB.add i) = some (.int .i64 (bn : Int)) ∧ Below w7.heap.size w7 w') (ds := []) (Qbz 25 0) (by kernel_rfl) rfl rfl ⟨f0d, f1d, fbd⟩ (fun hHeld => ?_)
           refine Qpu 0 40 ?_ ?_ (Qbz 25 1) (by kernel_rfl) ?_
           refine Qpu 1 41 ?_ ?_ (Qbz 25 3) (by kernel_rfl) ?_
           refine Qpu 2 42 ?_ ?_ (Qbz 25 7) (by kernel_rfl) ?_
           refine Qpu 3 43 ?_ ?_ (Qbz 25 15) (by kernel_rfl) ?_
           refine Qpu 4 44 ?_ ?_ (Qbz 25 31) (by kernel_rfl) ?_
           refine Qpu 5 45 ?_ ?_ (Qbz 25 63) (by kernel_rfl) ?_
           refine Qpu 6 46 ?_ ?_ (Qbz 25 127) (by kernel_rfl) ?_
           refine Qpu 7 47 ?_ ?_ (Qbz 25 255) (by kernel_rfl) ?_
           refine Qpu 8 48 ?_ ?_ (Qbz 25 511) (by kernel_rfl) ?_
           refine Qpu 10 50 ?_ ?_ (Qbz 25 1535) (by kernel_rfl) ?_
           refine take_ (i := 9) (N := some 49) (v := ?_) (a' := ?_) (Qbz 25 2047) rfl rfl (by kernel_rfl) (fun _ _ _ h => h) (Or.inl ⟨by rfl, ?_⟩) hHeld ?_ ?_;rotate_left;(·rintro w' ⟨s0, s1, s2⟩;go_simp;with_reducible rfl);rotate_left;(·simp only [Act.put, Qp1, Qp2, Qp3, i64_w, i32_w];rfl)
           refine Qpu 11 51 ?_ ?_ (Qbz 25 4095) (by kernel_rfl) ?_
           refine take_ (i := 12) (N := some 52) (v := ?_) (a' := ?_) (Qbz 25 8191) rfl rfl (by kernel_rfl) (fun _ _ _ h => h) (Or.inl ⟨by rfl, ?_⟩) hHeld ?_ ?_;rotate_left;(·rintro w' ⟨s0, s1, s2⟩;go_simp;with_reducible rfl);rotate_left;(·simp only [Act.put, Qp1, Qp2, Qp3, i64_w, i32_w];rfl)
           refine Qpu 13 53 ?_ ?_ (Qbz 25 16383) (by kernel_rfl) ?_
           refine Qpu 14 54 ?_ ?_ (Qbz 25 32767) (by kernel_rfl) ?_
           refine Qpu 15 55 ?_ ?_ (Qbz 25 65535) (by kernel_rfl) ?_
           refine Qpu 16 56 ?_ ?_ (Qbz 25 131071) (by kernel_rfl) ?_
           refine Qpu 18 58 ?_ ?_ (Qbz 25 393215) (by kernel_rfl) ?_
           refine Qpu 21 61 ?_ ?_ (Qbz 25 2490367) (by kernel_rfl) ?_
           refine take_ (i := 17) (N := some 57) (v := ?_) (a' := ?_) (Qbz 25 2621439) rfl rfl (by kernel_rfl) (fun _ _ _ h => h) (Or.inl ⟨by rfl, ?_⟩) hHeld ?_ ?_;rotate_left;(·rintro w' ⟨s0, s1, s2⟩;go_simp;with_reducible rfl);rotate_left;(·simp only [Act.put, Qp1, Qp2, Qp3, i64_w, i32_w];rfl)
           refine Qpu 19 59 ?_ ?_ (Qbz 25 3145727) (by kernel_rfl) ?_
           refine take_ (i := 20) (N := some 60) (v := ?_) (a' := ?_) (Qbz 25 4194303) rfl rfl (by kernel_rfl) (fun _ _ _ h => h) (Or.inl ⟨by rfl, ?_⟩) hHeld ?_ ?_;rotate_left;(·rintro w' ⟨s0, s1, s2⟩;go_simp;with_reducible rfl);rotate_left;(·simp only [Act.put, Qp1, Qp2, Qp3, i64_w, i32_w];rfl)
           refine one_ (i := 22) (N := some 62) (Qbz 25 8388607) rfl rfl (by kernel_rfl) (by decide) (fun K hK => ?_)
           refine goes_ Tryd.func67 (by kernel_rfl) rfl #[.slice Ag G.length cg] (by rfl) rfl rfl (by simp only [List.map_toArray, List.map_cons, List.map_nil]; rfl) ?_
           with_reducible refine (CALL.out _ hHeld).mono ?_
           rintro e w3 ⟨rfl, g0, g1, gB⟩
           refine ⟨_, rfl, ?_⟩
           refine hK.out _ _ ⟨g0, g1, gB⟩ (fun hHeld => ?_)
           clear hK K
           refine norm_ (a' := ?_) ?_ ?_
           rotate_left
           ·show Act.put _ (some 62) _ = _
            simp only [Act.put, Qp1, Qp2, Qp3, i64_w, i32_w]
            rfl
           refine Qpu 23 63 ?_ ?_ (Qbz 25 16777215) (by kernel_rfl) ?_
           refine Qpu 24 64 ?_ ?_ (Qbz 25 33554431) (by kernel_rfl) ?_
           refine done_ (by kernel_rfl) ?_
           go_wp2
           go_roundg gq
           case measure => omega
           case rel => exact ⟨i + 1, ro, a2, rfl, rfl, by go_num, by omega, ⟨HT2.out, by omega, hac2⟩, ⟨gB⟩⟩
     ·have hi1 : ((i : Int) < (B.length : Int)) = False := eq_false (by omega)
      have hi2 : decide ((i : Int) < (B.length : Int)) = false := decide_eq_false (by omega)
      have hi3 : ((i : Int) < (P.length : Int)) = False := eq_false (by have := HPL.out; omega)
      have hi4 : decide ((i : Int) < (P.length : Int)) = false := decide_eq_false (by have := HPL.out; omega)
      obtain rfl : gk = 0 := by omega
      obtain ⟨ht, hro, hac⟩ := HT.out
      simp only [tl1] at ht
      subst ht
      clear HT
      have hr := HR.out
      simp only [treeB2] at hr
      have CAL2 : Aside0 (∀ W, Below wr.heap.size wr W → Calls Tryd.prog 67 #[.slice Ag G.length cg] W fun e w' => e = .returned (.int .i64 (PA : Int)) ∧ Below wr.heap.size wr w') := ⟨fun W hW => by
       have := width_town_all.calls Ag cg (T.gi G) _ W (Kd.C_below (Kd.C_below (Kd.C_below HRG.out HB7.out) HB.out) hW) (by rw [HL.out]; exact hcg) HALL.out
       rw [HL.out] at this
       exact this.mono fun e w' ⟨h, m, hm⟩ => ⟨h, by rw [hm]; exact pw_below_drewN hW m⟩⟩
      have hinp : InP P := fun j hj => by
       have := HOK.out _ rfl j (by have := HPL.out; omega)
       have e := HPL.out
       omega
      have hbc := blk_below HBOX.out HB.out
      have hz1' : wr.cell? ⟨xB, 1, none⟩ = some (.slice A1 P.length c1) := (blk_cell hbc 1).trans rfl
      have CCY : Aside0 (∀ W, Below wr.heap.size wr W → Calls Tryd.prog 54 #[.slice A1 P.length c1, .func (.func 100) #[] #[.pointer (some ⟨xB, 0, none⟩)]] W fun e w' => e = .returned (.bool (P.any (cycB P P.length))) ∧ Below W.heap.size W w') := ⟨fun W hW => contains_cyc A1 c1 P (cycB P P.length) xB W (Kd.C_below (Kd.C_below (Kd.C_below HR1.out HB7.out) HB.out) hW) (by have := HPL.out; omega) (fun V hV x hx => by
       have hb2 := below_step hW hV
       refine cyc1 xB A0 B.length c0 A1 c1 P x hinp (by have := HPL.out; omega) ?_ V (Kd.C_below (Kd.C_below (Kd.C_below HR1.out HB7.out) HB.out) hb2) ((blk_cell (blk_below hbc hb2) 0).trans rfl) ((blk_cell (blk_below hbc hb2) 1).trans rfl)
       obtain ⟨j, hj, e⟩ := List.getElem_of_mem hx
       have := (hinp j hj).2
       unfold rd at this
       rw [Int.toNat_natCast, List.getD_eq_getElem?_getD, List.getElem?_eq_getElem hj] at this
       rw [← e]
       exact this)⟩
      have HBC := Aside0.mk hbc
      have hro30 : ro ≤ 30 := by omega
      by_cases h1 : ro = 1
      ·subst h1
       rw [if_pos rfl] at hr
       by_cases h2 : ac = PA
       ·subst h2
        rw [if_pos HPA.out.symm] at hr
        have hx5 : ((ac : Int) == (ac : Int)) = true := by simp
        have hx6 : ((ac : Int) != (ac : Int)) = false := by simp
        obtain ⟨cy, hcy⟩ : ∃ b, P.any (cycB P P.length) = b := ⟨_, rfl⟩
        rw [hcy] at CCY hr
        clear hcy hbc
        cases cy
        ·rw [if_neg (by simp)] at hr
         have HR2 := Aside0.mk hr
         clear hr hz1
         go_wp2_with (first
          | (go_at_call 67; refine (CAL2.out _ (Below.refl _ _)).mono ?_; rintro e w3 ⟨rfl, hb3⟩; have HB3 := Aside0.mk hb3; have hz3 : w3.cell? ⟨xB, 1, none⟩ = some (.slice A1 P.length c1) := (blk_cell (blk_below HBC.out hb3) 1).trans rfl; clear hb3)
          | (go_at_call 54; refine (CCY.out _ HB3.out).mono ?_; rintro e w4 ⟨rfl, hb4⟩; have HB4 := Aside0.mk (below_step HB3.out hb4); clear hb4))
         have HB5 : Aside0 (Below w7.heap.size w7 w4) := ⟨below_step HB.out HB4.out⟩
         have HOK2 : Aside0 (∀ j, j < B.length → -1 ≤ rd P (j : Int) ∧ rd P (j : Int) < (B.length : Int) ∧ 0 ≤ rd B (j : Int) ∧ rd B (j : Int) < 512) := ⟨fun j hj => by
          have := HOK.out _ rfl j hj
          omega⟩
         obtain ⟨adB, eB, _⟩ := Kd.at_int HR0.out 0 (by omega) (by omega)
         subst eB
         obtain ⟨adP, eP, _⟩ := Kd.at_int HR1.out 0 (by omega) (by have := HPL.out; omega)
         subst eP
         clear HB4 HB3 CAL2 CCY HALL HOK hz0
         clear HB
         go_loopg [93] G.length (fun kq v93 w' => ∃ v : Nat, v93 = .int .i64 (v : Int) ∧ v + kq = G.length ∧ Aside0 (tl2 G B P kq v = R) ∧ Aside0 (Below w7.heap.size w7 w'))
         case atStart => exact ⟨0, rfl, by omega, HR2, HB5⟩
         case round =>
          clear HR2 HB5
          obtain ⟨v, rfl, hv, HT2, HB⟩ := hrel
          by_cases hvl : v < G.length
          ·have hv1 : ((v : Int) < (G.length : Int)) = True := eq_true (by omega)
           have hv2 : decide ((v : Int) < (G.length : Int)) = true := decide_eq_true (by omega)
           cases gk with
           | zero => omega
           | succ gq =>
           have ht := HT2.out
           simp only [tl2] at ht
           obtain ⟨TP, hTP⟩ : ∃ t, topsF B P v B.length 0 0 = t := ⟨_, rfl⟩
           rw [hTP] at ht
           have HTP := Aside0.mk hTP
           have HT3 := Aside0.mk ht
           clear HT2 ht hTP
           go_wp2_with (first | ((with_reducible refine gate_dst (N := 10) rfl ?_); refine box_event ?hg (N := 10) ?hd (cs := #[.int .i64 0]) (t := 3) ?hr ?_; (case hd => rfl); (case hg => rfl); (case hr => first | (go_simp; done) | (go_simp; rfl)); intro vB hgv w8' hbox hb8; have HGV := Aside0.mk (show wr.heap.size ≤ vB by rw [hgv]; exact Nat.le_refl _); clear hgv; have hv0 : w8'.cell? ⟨vB, 0, none⟩ = some (.int .i64 0) := (blk_cell hbox 0).trans rfl; have hvf := blk_frozen hbox 0; have hx0 : ∀ u : Value, (w8'.setCell ⟨vB, 0, none⟩ u).cell? ⟨xB, 0, none⟩ = some (.slice (some adB) B.length c0) := (fun u => (cell_sameT (heap_setT _ ⟨vB, 0, none⟩ u _ (by have := HGV.out; have := HB.out.size; have := blk_ltT HBOX.out; show xB ≠ vB; omega))).trans ((blk_cell (blk_below (blk_below HBOX.out HB.out) hb8) 0).trans rfl)); have HBV := Aside0.mk hbox; have HB8 := Aside0.mk hb8; clear hbox hb8))
           have hcv := blk_set HBV.out 0 (.int .i64 (v : Int))
           have HB9 : Aside0 (Below w7.heap.size w7 (w8'.setCell ⟨vB, 0, none⟩ (.int .i64 (v : Int)))) := ⟨below_then HB.out HB.out.size (below_set HB8.out HGV.out)⟩
           generalize w8'.setCell ⟨vB, 0, none⟩ (.int .i64 (v : Int)) = w9 at *
           have HCV := Aside0.mk hcv
           have HBOX9 := Aside0.mk (blk_below HBOX.out HB9.out)
           clear hcv HBV HB8 HGV hv0 hvf hx0 HB
           go_loopg [11, 99] B.length (fun kq v11 v99 w' => ∃ i t : Nat, v11 = .int .i64 (t : Int) ∧ v99 = .int .i64 (i : Int) ∧ i + kq = B.length ∧ Aside0 (topsF B P v kq i t = TP ∧ t ≤ i) ∧ Aside0 (Below w9.heap.size w9 w'))
           case atStart => exact ⟨0, 0, rfl, rfl, by omega, ⟨HTP.out, Nat.le_refl _⟩, ⟨Below.refl _ _⟩⟩
           case round =>
            clear HTP
            obtain ⟨i, t, rfl, rfl, hi, HT, HB⟩ := hrel
            by_cases hil : i < B.length
            ·have hi1 : ((i : Int) < (B.length : Int)) = True := eq_true (by omega)
             have hi2 : decide ((i : Int) < (B.length : Int)) = true := decide_eq_true (by omega)
             have hi3 : ((i : Int) < (P.length : Int)) = True := eq_true (by have := HPL.out; omega)
             have hi4 : decide ((i : Int) < (P.length : Int)) = true := decide_eq_true (by have := HPL.out; omega)
             cases gk with
             | zero => omega
             | succ gx =>
             obtain ⟨ht, hti⟩ := HT.out
             simp only [topsF] at ht
             obtain ⟨hk1, hk2, hk3, hk4⟩ := HOK2.out i hil
             have hcB := Kd.C_below (Kd.C_below (Kd.C_below HR0.out HB7.out) HB9.out) HB.out
             have hcP := Kd.C_below (Kd.C_below (Kd.C_below HR1.out HB7.out) HB9.out) HB.out
             obtain ⟨adP', e1, hgp⟩ := Kd.at_int hcP (i : Int) (by omega) (by have := HPL.out; omega)
             injection e1 with e1
             subst e1
             obtain ⟨adB', e2, hgb⟩ := Kd.at_int hcB (i : Int) (by omega) (by omega)
             injection e2 with e2
             subst e2
             rw [Int.toNat_natCast] at hgp hgb
             obtain ⟨p, hp⟩ : ∃ p, rd P (i : Int) = p := ⟨_, rfl⟩
             rw [hp] at hgp ht hk1 hk2
             obtain ⟨bn, hbn⟩ := Int.eq_ofNat_of_zero_le hk3
             rw [hbn] at hgb ht hk4
             have hbn7 : bn < 512 := by omega
             have hcv2 := blk_below HCV.out HB.out
             have hcx2 := blk_below HBOX9.out HB.out
             have fvd : wr.drew.cell? ⟨vB, 0, none⟩ = some (.int .i64 (v : Int)) := (blk_cell hcv2 0).trans rfl
             have f0d : wr.drew.cell? ⟨xB, 0, none⟩ = some (.slice (some adB) B.length c0) := (blk_cell hcx2 0).trans rfl
             have f1d : wr.drew.cell? ⟨xB, 1, none⟩ = some (.slice (some adP) P.length c1) := (blk_cell hcx2 1).trans rfl
             have fpd : wr.drew.cell? (adP.add i) = some (.int .i64 p) := hgp
             have hzv : (0 : Int) ≤ (v : Int) := by omega
             obtain ⟨J, hJ1, hJ2, hJ3, hJ4, hJ5⟩ := bitJT bn v (by omega) (by omega)
             have hbi : bitI (bn : Int) v = bn.testBit v := rfl
             rw [hbi] at ht
             clear HT hk3 hbn hp hcv2 hcx2 hbi hJ3 hJ5 hcP
             cases hbt : bn.testBit v
             ·rw [hbt] at hJ4 ht
              have HT4 : Aside0 (topsF B P v gx (i + 1) t = TP) := ⟨by simpa using ht⟩
              clear ht hbt hcB
              go_wp2_with (fail)
              refine start_ (n := 28) (S := fun w' => w'.cell? ⟨vB, 0, none⟩ = some (.int .i64 (v : Int))) (ds := []) (Qbz 28 0) (by kernel_rfl) rfl rfl (fvd) (fun hHeld => ?_)
              refine Qpu 0 104 ?_ ?_ (Qbz 28 1) (by kernel_rfl) ?_
              refine take_ (i := 1) (N := some 105) (v := ?_) (a' := ?_) (Qbz 28 3) rfl rfl (by kernel_rfl) (fun _ _ _ h => h) (Or.inl ⟨by rfl, ?_⟩) hHeld ?_ ?_;rotate_left;(·intro w' s0;go_simp;with_reducible rfl);rotate_left;(·simp only [Act.put, Qp1, Qp2, Qp3, i64_w, i32_w];rfl)
              refine Qpu 2 106 ?_ ?_ (Qbz 28 7) (by kernel_rfl) ?_
              refine Qpu 3 107 ?_ ?_ (Qbz 28 15) (by kernel_rfl) ?_
              refine Qpu 4 108 ?_ ?_ (Qbz 28 31) (by kernel_rfl) ?_
              refine Qpu 5 109 ?_ ?_ (Qbz 28 63) (by kernel_rfl) ?_
              refine Qpn 6 110 ?_ (Qbz 28 127) (by kernel_rfl) ?_
              refine Qpn 7 111 ?_ (Qbz 28 255) (by kernel_rfl) ?_
              refine Qpn 8 112 ?_ (Qbz 28 511) (by kernel_rfl) ?_
              refine Qpn 9 113 ?_ (Qbz 28 1023) (by kernel_rfl) ?_
              refine Qpn 10 114 ?_ (Qbz 28 2047) (by kernel_rfl) ?_
              refine Qpn 11 115 ?_ (Qbz 28 4095) (by kernel_rfl) ?_
              refine Qpn 12 116 ?_ (Qbz 28 8191) (by kernel_rfl) ?_
              refine Qpn 13 117 ?_ (Qbz 28 16383) (by kernel_rfl) ?_
              refine Qpn 14 118 ?_ (Qbz 28 32767) (by kernel_rfl) ?_
              refine Qpn 15 119 ?_ (Qbz 28 65535) (by kernel_rfl) ?_
              refine Qpn 16 120 ?_ (Qbz 28 131071) (by kernel_rfl) ?_
              refine Qpn 17 121 ?_ (Qbz 28 262143) (by kernel_rfl) ?_
              refine Qpn 18 122 ?_ (Qbz 28 524287) (by kernel_rfl) ?_
              refine Qpn 19 123 ?_ (Qbz 28 1048575) (by kernel_rfl) ?_
              refine Qpn 20 124 ?_ (Qbz 28 2097151) (by kernel_rfl) ?_
              refine Qpn 21 125 ?_ (Qbz 28 4194303) (by kernel_rfl) ?_
              refine Qpn 22 126 ?_ (Qbz 28 8388607) (by kernel_rfl) ?_
              refine Qpn 23 127 ?_ (Qbz 28 16777215) (by kernel_rfl) ?_
              refine Qpn 24 128 ?_ (Qbz 28 33554431) (by kernel_rfl) ?_
              refine Qpn 25 129 ?_ (Qbz 28 67108863) (by kernel_rfl) ?_
              refine Qpn 26 130 ?_ (Qbz 28 134217727) (by kernel_rfl) ?_
              refine Qpu 27 131 ?_ ?_ (Qbz 28 268435455) (by kernel_rfl) ?_
              refine done_ (by kernel_rfl) ?_
              go_wp2
              go_roundg gx
              case measure => omega
              case rel => exact ⟨i + 1, t, rfl, by go_num, by omega, ⟨HT4.out, by omega⟩, ⟨below_drew HB.out⟩⟩
             ·rw [hbt] at hJ4 ht
              by_cases hp0 : p < 0
              ·have hd1' : decide (p < 0) = true := decide_eq_true hp0
               rw [hd1'] at ht
               have HT4 : Aside0 (topsF B P v gx (i + 1) (t + 1) = TP) := ⟨by simpa using ht⟩
               clear ht hbt hcB hp0
               go_wp2_with (fail)
               refine start_ (n := 28) (S := fun w' => w'.cell? ⟨vB, 0, none⟩ = some (.int .i64 (v : Int)) ∧ w'.cell? ⟨xB, 1, none⟩ = some (.slice (some adP) P.length c1) ∧ w'.cell? (adP.add i) = some (.int .i64 p)) (ds := []) (Qbz 28 0) (by kernel_rfl) rfl rfl ⟨fvd, f1d, fpd⟩ (fun hHeld => ?_)
               refine Qpu 0 104 ?_ ?_ (Qbz 28 1) (by kernel_rfl) ?_
               refine take_ (i := 1) (N := some 105) (v := ?_) (a' := ?_) (Qbz 28 3) rfl rfl (by kernel_rfl) (fun _ _ _ h => h) (Or.inl ⟨by rfl, ?_⟩) hHeld ?_ ?_;rotate_left;(·rintro w' ⟨s0, s1, s2⟩;go_simp;with_reducible rfl);rotate_left;(·simp only [Act.put, Qp1, Qp2, Qp3, i64_w, i32_w];rfl)
               refine Qpu 2 106 ?_ ?_ (Qbz 28 7) (by kernel_rfl) ?_
               refine Qpu 3 107 ?_ ?_ (Qbz 28 15) (by kernel_rfl) ?_
               refine Qpu 4 108 ?_ ?_ (Qbz 28 31) (by kernel_rfl) ?_
               refine Qpu 5 109 ?_ ?_ (Qbz 28 63) (by kernel_rfl) ?_
               refine Qpu 6 110 ?_ ?_ (Qbz 28 127) (by kernel_rfl) ?_
               refine Qpu 8 112 ?_ ?_ (Qbz 28 383) (by kernel_rfl) ?_
               refine take_ (i := 7) (N := some 111) (v := ?_) (a' := ?_) (Qbz 28 511) rfl rfl (by kernel_rfl) (fun _ _ _ h => h) (Or.inl ⟨by rfl, ?_⟩) hHeld ?_ ?_;rotate_left;(·rintro w' ⟨s0, s1, s2⟩;go_simp;with_reducible rfl);rotate_left;(·simp only [Act.put, Qp1, Qp2, Qp3, i64_w, i32_w];rfl)
               refine Qpu 9 113 ?_ ?_ (Qbz 28 1023) (by kernel_rfl) ?_
               refine take_ (i := 10) (N := some 114) (v := ?_) (a' := ?_) (Qbz 28 2047) rfl rfl (by kernel_rfl) (fun _ _ _ h => h) (Or.inl ⟨by rfl, ?_⟩) hHeld ?_ ?_;rotate_left;(·rintro w' ⟨s0, s1, s2⟩;go_simp;with_reducible rfl);rotate_left;(·simp only [Act.put, Qp1, Qp2, Qp3, i64_w, i32_w];rfl)
               refine Qpu 11 115 ?_ ?_ (Qbz 28 4095) (by kernel_rfl) ?_
               refine Qpu 12 116 ?_ ?_ (Qbz 28 8191) (by kernel_rfl) ?_
               refine Qpn 13 117 ?_ (Qbz 28 16383) (by kernel_rfl) ?_
               refine Qpn 14 118 ?_ (Qbz 28 32767) (by kernel_rfl) ?_
               refine Qpn 15 119 ?_ (Qbz 28 65535) (by kernel_rfl) ?_
               refine Qpn 16 120 ?_ (Qbz 28 131071) (by kernel_rfl) ?_
               refine Qpn 17 121 ?_ (Qbz 28 262143) (by kernel_rfl) ?_
               refine Qpn 18 122 ?_ (Qbz 28 524287) (by kernel_rfl) ?_
               refine Qpn 19 123 ?_ (Qbz 28 1048575) (by kernel_rfl) ?_
               refine Qpn 20 124 ?_ (Qbz 28 2097151) (by kernel_rfl) ?_
               refine Qpn 21 125 ?_ (Qbz 28 4194303) (by kernel_rfl) ?_
               refine Qpn 22 126 ?_ (Qbz 28 8388607) (by kernel_rfl) ?_
               refine Qpn 23 127 ?_ (Qbz 28 16777215) (by kernel_rfl) ?_
               refine Qpn 24 128 ?_ (Qbz 28 33554431) (by kernel_rfl) ?_
               refine Qpn 25 129 ?_ (Qbz 28 67108863) (by kernel_rfl) ?_
               refine Qpu 26 130 ?_ ?_ (Qbz 28 134217727) (by kernel_rfl) ?_
               refine Qpu 27 131 ?_ ?_ (Qbz 28 268435455) (by kernel_rfl) ?_
               refine done_ (by kernel_rfl) ?_
               go_wp2
               go_roundg gx
               case measure => omega
               case rel => exact ⟨i + 1, t + 1, by go_num, by go_num, by omega, ⟨HT4.out, by omega⟩, ⟨below_drew HB.out⟩⟩
              ·have hd1' : decide (p < 0) = false := decide_eq_false hp0
               rw [hd1'] at ht
               obtain ⟨pn, rfl⟩ := Int.eq_ofNat_of_zero_le (show 0 ≤ p by omega)
               have hpn : pn < B.length := by omega
               obtain ⟨hm1, hm2, hm3, hm4⟩ := HOK2.out pn hpn
               obtain ⟨adB'', e3, hgc⟩ := Kd.at_int hcB (pn : Int) (by omega) (by omega)
               injection e3 with e3
               subst e3
               rw [Int.toNat_natCast] at hgc
               obtain ⟨cn, hcn⟩ := Int.eq_ofNat_of_zero_le hm3
               rw [hcn] at hgc ht hm4
               have hcn7 : cn < 512 := by omega
               have fcd : wr.drew.cell? (adB.add pn) = some (.int .i64 (cn : Int)) := hgc
               have hci : bitI (cn : Int) v = cn.testBit v := rfl
               rw [hci] at ht
               obtain ⟨J2, hK1, hK2, hK3, hK4, hK5⟩ := bitJT cn v (by omega) (by omega)
               have hp5 : ((pn : Int) < (B.length : Int)) = True := eq_true (by omega)
               have hp6 : decide ((pn : Int) < (B.length : Int)) = true := decide_eq_true (by omega)
               have hd1n : decide ((pn : Int) < 0) = false := hd1'
               clear hm1 hm2 hm3 hcn hci hK3 hK4 hcB hbt hp0
               cases hct : cn.testBit v
               ·rw [hct] at hK5 ht
                have HT4 : Aside0 (topsF B P v gx (i + 1) (t + 1) = TP) := ⟨by simpa using ht⟩
                clear ht hct
                go_wp2_with (fail)
                refine start_ (n := 28) (S := fun w' => w'.cell? ⟨vB, 0, none⟩ = some (.int .i64 (v : Int)) ∧ w'.cell? ⟨xB, 0, none⟩ = some (.slice (some adB) B.length c0) ∧ w'.cell? ⟨xB, 1, none⟩ = some (.slice (some adP) P.length c1) ∧ w'.cell? (adP.add i) = some (.int .i64 (pn : Int)) ∧ w'.cell? (adB.add pn) = some (.int .i64 (cn : Int))) (ds := []) (Qbz 28 0) (by kernel_rfl) rfl rfl ⟨fvd, f0d, f1d, fpd, fcd⟩ (fun hHeld => ?_)
                refine Qpu 0 104 ?_ ?_ (Qbz 28 1) (by kernel_rfl) ?_
                refine take_ (i := 1) (N := some 105) (v := ?_) (a' := ?_) (Qbz 28 3) rfl rfl (by kernel_rfl) (fun _ _ _ h => h) (Or.inl ⟨by rfl, ?_⟩) hHeld ?_ ?_;rotate_left;(·rintro w' ⟨s0, s1, s2, s3, s4⟩;go_simp;with_reducible rfl);rotate_left;(·simp only [Act.put, Qp1, Qp2, Qp3, i64_w, i32_w];rfl)
                refine Qpu 2 106 ?_ ?_ (Qbz 28 7) (by kernel_rfl) ?_
                refine Qpu 3 107 ?_ ?_ (Qbz 28 15) (by kernel_rfl) ?_
                refine Qpu 4 108 ?_ ?_ (Qbz 28 31) (by kernel_rfl) ?_
                refine Qpu 5 109 ?_ ?_ (Qbz 28 63) (by kernel_rfl) ?_
                refine Qpu 6 110 ?_ ?_ (Qbz 28 127) (by kernel_rfl) ?_
                refine Qpu 8 112 ?_ ?_ (Qbz 28 383) (by kernel_rfl) ?_
                refine take_ (i := 7) (N := some 111) (v := ?_) (a' := ?_) (Qbz 28 511) rfl rfl (by kernel_rfl) (fun _ _ _ h => h) (Or.inl ⟨by rfl, ?_⟩) hHeld ?_ ?_;rotate_left;(·rintro w' ⟨s0, s1, s2, s3, s4⟩;go_simp;with_reducible rfl);rotate_left;(·simp only [Act.put, Qp1, Qp2, Qp3, i64_w, i32_w];rfl)
                refine Qpu 9 113 ?_ ?_ (Qbz 28 1023) (by kernel_rfl) ?_
                refine take_ (i := 10) (N := some 114) (v := ?_) (a' := ?_) (Qbz 28 2047) rfl rfl (by kernel_rfl) (fun _ _ _ h => h) (Or.inl ⟨by rfl, ?_⟩) hHeld ?_ ?_;rotate_left;(·rintro w' ⟨s0, s1, s2, s3, s4⟩;go_simp;with_reducible rfl);rotate_left;(·simp only [Act.put, Qp1, Qp2, Qp3, i64_w, i32_w];rfl)
                refine Qpu 11 115 ?_ ?_ (Qbz 28 4095) (by kernel_rfl) ?_
                refine Qpu 12 116 ?_ ?_ (Qbz 28 8191) (by kernel_rfl) ?_
                refine Qpu 13 117 ?_ ?_ (Qbz 28 16383) (by kernel_rfl) ?_
                refine Qpu 15 119 ?_ ?_ (Qbz 28 49151) (by kernel_rfl) ?_
                refine Qpu 17 121 ?_ ?_ (Qbz 28 180223) (by kernel_rfl) ?_
                refine take_ (i := 14) (N := some 118) (v := ?_) (a' := ?_) (Qbz 28 196607) rfl rfl (by kernel_rfl) (fun _ _ _ h => h) (Or.inl ⟨by rfl, ?_⟩) hHeld ?_ ?_;rotate_left;(·rintro w' ⟨s0, s1, s2, s3, s4⟩;go_simp;with_reducible rfl);rotate_left;(·simp only [Act.put, Qp1, Qp2, Qp3, i64_w, i32_w];rfl)
                refine take_ (i := 16) (N := some 120) (v := ?_) (a' := ?_) (Qbz 28 262143) rfl rfl (by kernel_rfl) (fun _ _ _ h => h) (Or.inl ⟨by rfl, ?_⟩) hHeld ?_ ?_;rotate_left;(·rintro w' ⟨s0, s1, s2, s3, s4⟩;go_simp;with_reducible rfl);rotate_left;(·simp only [Act.put, Qp1, Qp2, Qp3, i64_w, i32_w];rfl)
                refine Qpu 18 122 ?_ ?_ (Qbz 28 524287) (by kernel_rfl) ?_
                refine take_ (i := 19) (N := some 123) (v := ?_) (a' := ?_) (Qbz 28 1048575) rfl rfl (by kernel_rfl) (fun _ _ _ h => h) (Or.inl ⟨by rfl, ?_⟩) hHeld ?_ ?_;rotate_left;(·rintro w' ⟨s0, s1, s2, s3, s4⟩;go_simp;with_reducible rfl);rotate_left;(·simp only [Act.put, Qp1, Qp2, Qp3, i64_w, i32_w];rfl)
                refine Qpu 20 124 ?_ ?_ (Qbz 28 2097151) (by kernel_rfl) ?_
                refine take_ (i := 21) (N := some 125) (v := ?_) (a' := ?_) (Qbz 28 4194303) rfl rfl (by kernel_rfl) (fun _ _ _ h => h) (Or.inl ⟨by rfl, ?_⟩) hHeld ?_ ?_;rotate_left;(·rintro w' ⟨s0, s1, s2, s3, s4⟩;go_simp;with_reducible rfl);rotate_left;(·simp only [Act.put, Qp1, Qp2, Qp3, i64_w, i32_w];rfl)
                refine take_ (i := 22) (N := some 126) (v := ?_) (a' := ?_) (Qbz 28 8388607) rfl rfl (by kernel_rfl) (fun _ _ _ h => h) (Or.inl ⟨by rfl, ?_⟩) hHeld ?_ ?_;rotate_left;(·rintro w' ⟨s0, s1, s2, s3, s4⟩;go_simp;with_reducible rfl);rotate_left;(·simp only [Act.put, Qp1, Qp2, Qp3, i64_w, i32_w];rfl)
                refine Qpu 23 127 ?_ ?_ (Qbz 28 16777215) (by kernel_rfl) ?_
                refine Qpu 24 128 ?_ ?_ (Qbz 28 33554431) (by kernel_rfl) ?_
                refine Qpu 25 129 ?_ ?_ (Qbz 28 67108863) (by kernel_rfl) ?_
                refine Qpu 26 130 ?_ ?_ (Qbz 28 134217727) (by kernel_rfl) ?_
                refine Qpu 27 131 ?_ ?_ (Qbz 28 268435455) (by kernel_rfl) ?_
                refine done_ (by kernel_rfl) ?_
                go_wp2
                go_roundg gx
                case measure => omega
                case rel => exact ⟨i + 1, t + 1, by go_num, by go_num, by omega, ⟨HT4.out, by omega⟩, ⟨below_drew HB.out⟩⟩
               ·rw [hct] at hK5 ht
                have HT4 : Aside0 (topsF B P v gx (i + 1) t = TP) := ⟨by simpa using ht⟩
                clear ht hct
                go_wp2_with (fail)
                refine start_ (n := 28) (S := fun w' => w'.cell? ⟨vB, 0, none⟩ = some (.int .i64 (v : Int)) ∧ w'.cell? ⟨xB, 0, none⟩ = some (.slice (some adB) B.length c0) ∧ w'.cell? ⟨xB, 1, none⟩ = some (.slice (some adP) P.length c1) ∧ w'.cell? (adP.add i) = some (.int .i64 (pn : Int)) ∧ w'.cell? (adB.add pn) = some (.int .i64 (cn : Int))) (ds := []) (Qbz 28 0) (by kernel_rfl) rfl rfl ⟨fvd, f0d, f1d, fpd, fcd⟩ (fun hHeld => ?_)
                refine Qpu 0 104 ?_ ?_ (Qbz 28 1) (by kernel_rfl) ?_
                refine take_ (i := 1) (N := some 105) (v := ?_) (a' := ?_) (Qbz 28 3) rfl rfl (by kernel_rfl) (fun _ _ _ h => h) (Or.inl ⟨by rfl, ?_⟩) hHeld ?_ ?_;rotate_left;(·rintro w' ⟨s0, s1, s2, s3, s4⟩;go_simp;with_reducible rfl);rotate_left;(·simp only [Act.put, Qp1, Qp2, Qp3, i64_w, i32_w];rfl)
                refine Qpu 2 106 ?_ ?_ (Qbz 28 7) (by kernel_rfl) ?_
                refine Qpu 3 107 ?_ ?_ (Qbz 28 15) (by kernel_rfl) ?_
                refine Qpu 4 108 ?_ ?_ (Qbz 28 31) (by kernel_rfl) ?_
                refine Qpu 5 109 ?_ ?_ (Qbz 28 63) (by kernel_rfl) ?_
                refine Qpu 6 110 ?_ ?_ (Qbz 28 127) (by kernel_rfl) ?_
                refine Qpu 8 112 ?_ ?_ (Qbz 28 383) (by kernel_rfl) ?_
                refine take_ (i := 7) (N := some 111) (v := ?_) (a' := ?_) (Qbz 28 511) rfl rfl (by kernel_rfl) (fun _ _ _ h => h) (Or.inl ⟨by rfl, ?_⟩) hHeld ?_ ?_;rotate_left;(·rintro w' ⟨s0, s1, s2, s3, s4⟩;go_simp;with_reducible rfl);rotate_left;(·simp only [Act.put, Qp1, Qp2, Qp3, i64_w, i32_w];rfl)
                refine Qpu 9 113 ?_ ?_ (Qbz 28 1023) (by kernel_rfl) ?_
                refine take_ (i := 10) (N := some 114) (v := ?_) (a' := ?_) (Qbz 28 2047) rfl rfl (by kernel_rfl) (fun _ _ _ h => h) (Or.inl ⟨by rfl, ?_⟩) hHeld ?_ ?_;rotate_left;(·rintro w' ⟨s0, s1, s2, s3, s4⟩;go_simp;with_reducible rfl);rotate_left;(·simp only [Act.put, Qp1, Qp2, Qp3, i64_w, i32_w];rfl)
                refine Qpu 11 115 ?_ ?_ (Qbz 28 4095) (by kernel_rfl) ?_
                refine Qpu 12 116 ?_ ?_ (Qbz 28 8191) (by kernel_rfl) ?_
                refine Qpu 13 117 ?_ ?_ (Qbz 28 16383) (by kernel_rfl) ?_
                refine Qpu 15 119 ?_ ?_ (Qbz 28 49151) (by kernel_rfl) ?_
                refine Qpu 17 121 ?_ ?_ (Qbz 28 180223) (by kernel_rfl) ?_
                refine take_ (i := 14) (N := some 118) (v := ?_) (a' := ?_) (Qbz 28 196607) rfl rfl (by kernel_rfl) (fun _ _ _ h => h) (Or.inl ⟨by rfl, ?_⟩) hHeld ?_ ?_;rotate_left;(·rintro w' ⟨s0, s1, s2, s3, s4⟩;go_simp;with_reducible rfl);rotate_left;(·simp only [Act.put, Qp1, Qp2, Qp3, i64_w, i32_w];rfl)
                refine take_ (i := 16) (N := some 120) (v := ?_) (a' := ?_) (Qbz 28 262143) rfl rfl (by kernel_rfl) (fun _ _ _ h => h) (Or.inl ⟨by rfl, ?_⟩) hHeld ?_ ?_;rotate_left;(·rintro w' ⟨s0, s1, s2, s3, s4⟩;go_simp;with_reducible rfl);rotate_left;(·simp only [Act.put, Qp1, Qp2, Qp3, i64_w, i32_w];rfl)
                refine Qpu 18 122 ?_ ?_ (Qbz 28 524287) (by kernel_rfl) ?_
                refine take_ (i := 19) (N := some 123) (v := ?_) (a' := ?_) (Qbz 28 1048575) rfl rfl (by kernel_rfl) (fun _ _ _ h => h) (Or.inl ⟨by rfl, ?_⟩) hHeld ?_ ?_;rotate_left;(·rintro w' ⟨s0, s1, s2, s3, s4⟩;go_simp;with_reducible rfl);rotate_left;(·simp only [Act.put, Qp1, Qp2, Qp3, i64_w, i32_w];rfl)
                refine Qpu 20 124 ?_ ?_ (Qbz 28 2097151) (by kernel_rfl) ?_
                refine take_ (i := 21) (N := some 125) (v := ?_) (a' := ?_) (Qbz 28 4194303) rfl rfl (by kernel_rfl) (fun _ _ _ h => h) (Or.inl ⟨by rfl, ?_⟩) hHeld ?_ ?_;rotate_left;(·rintro w' ⟨s0, s1, s2, s3, s4⟩;go_simp;with_reducible rfl);rotate_left;(·simp only [Act.put, Qp1, Qp2, Qp3, i64_w, i32_w];rfl)
                refine take_ (i := 22) (N := some 126) (v := ?_) (a' := ?_) (Qbz 28 8388607) rfl rfl (by kernel_rfl) (fun _ _ _ h => h) (Or.inl ⟨by rfl, ?_⟩) hHeld ?_ ?_;rotate_left;(·rintro w' ⟨s0, s1, s2, s3, s4⟩;go_simp;with_reducible rfl);rotate_left;(·simp only [Act.put, Qp1, Qp2, Qp3, i64_w, i32_w];rfl)
                refine Qpu 23 127 ?_ ?_ (Qbz 28 16777215) (by kernel_rfl) ?_
                refine Qpu 24 128 ?_ ?_ (Qbz 28 33554431) (by kernel_rfl) ?_
                refine Qpu 25 129 ?_ ?_ (Qbz 28 67108863) (by kernel_rfl) ?_
                refine Qpu 26 130 ?_ ?_ (Qbz 28 134217727) (by kernel_rfl) ?_
                refine Qpu 27 131 ?_ ?_ (Qbz 28 268435455) (by kernel_rfl) ?_
                refine done_ (by kernel_rfl) ?_
                go_wp2
                go_roundg gx
                case measure => omega
                case rel => exact ⟨i + 1, t, rfl, by go_num, by omega, ⟨HT4.out, by omega⟩, ⟨below_drew HB.out⟩⟩
            ·have hi1 : ((i : Int) < (B.length : Int)) = False := eq_false (by omega)
             have hi2 : decide ((i : Int) < (B.length : Int)) = false := decide_eq_false (by omega)
             obtain rfl : gk = 0 := by omega
             obtain ⟨ht, hti⟩ := HT.out
             simp only [topsF] at ht
             subst ht
             have ht := HT3.out
             clear HT HT3
             by_cases htp : t = 1
             ·subst htp
              rw [if_pos rfl] at ht
              have hx7 : ((1 : Int) != 1) = false := by decide
              obtain ⟨s, hs⟩ : ∃ s, G.getD v 0 = s := ⟨_, rfl⟩
              obtain ⟨adG, e4, hgg⟩ := Kd.at_int (Kd.C_below (Kd.C_below (Kd.C_below HRG.out HB7.out) HB9.out) HB.out) (v : Int) (by omega) (by rw [HL.out]; omega)
              subst e4
              have hsl := HG.out.row v
              rw [rd_gi, Int.toNat_natCast, hs] at hgg
              rw [hs] at ht hsl
              have hs7 : s < 512 := Nat.lt_of_lt_of_le hsl HN7.out
              have HWN := Aside0.mk (wnodes_all ⟨s, hs7⟩)
              obtain ⟨L, hL⟩ : ∃ L, els s 9 = L := ⟨_, rfl⟩
              have HLM : Aside0 (∀ u ∈ L, u < 62) := ⟨fun u hu => by
               rw [← hL] at hu
               have := (mem_els.1 hu).1
               omega⟩
              have HWN2 : Aside0 (width_nodes.f 12 (s : Int) = some (gi L)) := ⟨by rw [← hL]; exact HWN.out⟩
              rw [hL] at ht
              have hll : L.length ≤ 9 := by rw [← hL]; rw [els_length]; exact pc_le s 9
              have hfv : wr.cell? ⟨vB, 0, none⟩ = some (.int .i64 (v : Int)) := (blk_cell (blk_below HCV.out HB.out) 0).trans rfl
              have HND := Aside0.mk (width_nodes.calls 12 (s : Int) (gi L) wr (GL_below HGL.out (below_step HB7.out (below_step HB9.out HB.out))) HWN2.out)
              have HT5 := Aside0.mk ht
              have HLG := Aside0.mk (gi_length L)
              clear ht hL hs hsl hs7 HWN
              go_wp2_with (go_at_call 98; refine HND.out.mono ?_; rintro e w10 ⟨u5, rfl, hu, hb10⟩; obtain ⟨A5, c5, eu, hc5, hC5⟩ := Kd.R_reads hu; subst eu; have HC5 := Aside0.mk hC5; have HB10 := Aside0.mk hb10; clear hu hb10 hC5 hc5)
              rw [HLG.out]
              have HBT : Aside0 (Below w9.heap.size w9 w10) := ⟨below_step HB.out HB10.out⟩
              have HBOX9 := Aside0.mk (blk_below HBOX9.out HBT.out)
              have HCV9 := Aside0.mk (blk_below HCV.out HBT.out)
              have HB11 : Aside0 (Below w7.heap.size w7 w10) := ⟨below_step HB9.out HBT.out⟩
              clear HB HB10 HND hfv hgg
              have HCBOTH : Aside0 (∀ (uB u : Nat), u < 62 → ∀ W, Below w10.heap.size w10 W → W.cell? ⟨uB, 0, none⟩ = some (.int .i64 (u : Int)) → Calls Tryd.prog 54 #[.slice (some adB) B.length c0, .func (.func 102) #[] #[.pointer (some ⟨uB, 0, none⟩), .pointer (some ⟨vB, 0, none⟩)]] W fun e w' => e = .returned (.bool (B.any (bothB u v))) ∧ Below W.heap.size W w') := ⟨fun uB u hu W hW hc => contains_both (some adB) c0 B (bothB u v) uB vB W (Kd.C_below (Kd.C_below (Kd.C_below HR0.out HB7.out) HB11.out) hW) (by omega) (fun V hV x hx => by
               obtain ⟨j, hj, e⟩ := List.getElem_of_mem hx
               obtain ⟨_, _, q3, q4⟩ := HOK2.out j hj
               unfold rd at q3 q4
               rw [Int.toNat_natCast, List.getD_eq_getElem?_getD, List.getElem?_eq_getElem hj] at q3 q4
               rw [← e]
               obtain ⟨xn, hxn⟩ := Int.eq_ofNat_of_zero_le (show 0 ≤ B[j] from q3)
               have q5 : B[j] < 512 := q4
               rw [hxn] at q5 ⊢
               exact both1 uB vB u v xn hu (by omega) (by omega) V ((hV.cell (World.block_lt_of_cell? W _ hc)).trans hc) ((blk_cell (blk_below HCV9.out (below_step hW hV)) 0).trans rfl))⟩
              go_loopg [143] L.length (fun kq v143 w' => ∃ j : Nat, v143 = .int .i64 (j : Int) ∧ j + kq = L.length ∧ Aside0 ((nbF B v (L.drop j) && tl2 G B P gq (v + 1)) = R) ∧ Aside0 (Below w10.heap.size w10 w'))
              case atStart => exact ⟨0, rfl, by omega, HT5, ⟨Below.refl _ _⟩⟩
              case round =>
               clear HT5
               obtain ⟨j, rfl, hj, HT5, HB⟩ := hrel
               by_cases hjl : j < L.length
               ·have hj1 : ((j : Int) < (L.length : Int)) = True := eq_true (by omega)
                have hj2 : decide ((j : Int) < (L.length : Int)) = true := decide_eq_true (by omega)
                cases gk with
                | zero => omega
                | succ gy =>
                obtain ⟨ad5, e5, hg5⟩ := Kd.at_int (Kd.C_below HC5.out HB.out) (j : Int) (by omega) (by rw [HLG.out]; omega)
                subst e5
                have hra : L.getD j 0 = L[j] := by rw [List.getD_eq_getElem?_getD, List.getElem?_eq_getElem hjl]; rfl
                rw [rd_gi, hra, Int.toNat_natCast] at hg5
                have hu62 := HLM.out L[j] (List.getElem_mem hjl)
                have ht := HT5.out
                rw [List.drop_eq_getElem_cons hjl] at ht
                simp only [nbF] at ht
                generalize L[j] = u at *
                clear HT5 hra
                obtain ⟨an, han⟩ : ∃ b, B.any (bothB u v) = b := ⟨_, rfl⟩
                have HCBU : Aside0 (∀ uB W, Below wr.heap.size wr W → W.cell? ⟨uB, 0, none⟩ = some (.int .i64 (u : Int)) → Calls Tryd.prog 54 #[.slice (some adB) B.length c0, .func (.func 102) #[] #[.pointer (some ⟨uB, 0, none⟩), .pointer (some ⟨vB, 0, none⟩)]] W fun e w' => e = .returned (.bool an) ∧ Below W.heap.size W w') := ⟨fun uB W hW hc => by rw [← han]; exact HCBOTH.out uB u hu62 W (below_step HB.out hW) hc⟩
                rw [han] at ht
                clear han
                cases an
                ·obtain rfl : false = R := by simpa using ht
                 clear ht
                 go_wp2_with (first
               | ((with_reducible refine gate_dst (N := 15) rfl ?_); refine box_event ?hg (N := 15) ?hd (cs := #[.int .i64 0]) (t := 3) ?hr ?_; (case hd => rfl); (case hg => rfl); (case hr => first | (go_simp; done) | (go_simp; rfl)); intro uB hgu w12' hbox hb12; have HGU := Aside0.mk (show wr.heap.size ≤ uB by rw [hgu]; exact Nat.le_refl _); clear hgu; have hu0 : w12'.cell? ⟨uB, 0, none⟩ = some (.int .i64 0) := (blk_cell hbox 0).trans rfl; have huf := blk_frozen hbox 0; have hux0 : ∀ x : Value, (w12'.setCell ⟨uB, 0, none⟩ x).cell? ⟨xB, 0, none⟩ = some (.slice (some adB) B.length c0) := (fun x => (cell_sameT (heap_setT _ ⟨uB, 0, none⟩ x _ (by have := HGU.out; have := HB.out.size; have := blk_ltT HBOX9.out; show xB ≠ uB; omega))).trans ((blk_cell (blk_below (blk_below HBOX9.out HB.out) hb12) 0).trans rfl)); have HBU := Aside0.mk hbox; have HB12 := Aside0.mk hb12; have HBS : Aside0 (Below wr.heap.size wr (w12'.setCell ⟨uB, 0, none⟩ (.int .i64 (u : Int)))) := ⟨below_set hb12 HGU.out⟩; have HCB := Aside0.mk (HCBU.out uB _ HBS.out (by have := HGU.out; exact (blk_cell (blk_set hbox 0 (.int .i64 (u : Int))) 0).trans rfl)); clear hbox hb12)
               | (go_at_call 54; refine HCB.out.mono ?_; rintro e w13 ⟨rfl, hb13⟩; have HB13 := Aside0.mk (below_step HBS.out hb13); clear hb13))
                 go_ret
                 exact ⟨rfl, below_step HB7.out (below_step HB11.out (below_step HB.out HB13.out))⟩
                ·have HT6 : Aside0 ((nbF B v (L.drop (j + 1)) && tl2 G B P gq (v + 1)) = R) := ⟨by simpa using ht⟩
                 clear ht
                 go_wp2_with (first
               | ((with_reducible refine gate_dst (N := 15) rfl ?_); refine box_event ?hg (N := 15) ?hd (cs := #[.int .i64 0]) (t := 3) ?hr ?_; (case hd => rfl); (case hg => rfl); (case hr => first | (go_simp; done) | (go_simp; rfl)); intro uB hgu w12' hbox hb12; have HGU := Aside0.mk (show wr.heap.size ≤ uB by rw [hgu]; exact Nat.le_refl _); clear hgu; have hu0 : w12'.cell? ⟨uB, 0, none⟩ = some (.int .i64 0) := (blk_cell hbox 0).trans rfl; have huf := blk_frozen hbox 0; have hux0 : ∀ x : Value, (w12'.setCell ⟨uB, 0, none⟩ x).cell? ⟨xB, 0, none⟩ = some (.slice (some adB) B.length c0) := (fun x => (cell_sameT (heap_setT _ ⟨uB, 0, none⟩ x _ (by have := HGU.out; have := HB.out.size; have := blk_ltT HBOX9.out; show xB ≠ uB; omega))).trans ((blk_cell (blk_below (blk_below HBOX9.out HB.out) hb12) 0).trans rfl)); have HBU := Aside0.mk hbox; have HB12 := Aside0.mk hb12; have HBS : Aside0 (Below wr.heap.size wr (w12'.setCell ⟨uB, 0, none⟩ (.int .i64 (u : Int)))) := ⟨below_set hb12 HGU.out⟩; have HCB := Aside0.mk (HCBU.out uB _ HBS.out (by have := HGU.out; exact (blk_cell (blk_set hbox 0 (.int .i64 (u : Int))) 0).trans rfl)); clear hbox hb12)
               | (go_at_call 54; refine HCB.out.mono ?_; rintro e w13 ⟨rfl, hb13⟩; have HB13 := Aside0.mk (below_step HBS.out hb13); clear hb13))
                 go_roundg gy
                 case measure => omega
                 case rel => exact ⟨j + 1, by go_num, by omega, HT6, ⟨below_step HB.out HB13.out⟩⟩
               ·have hj1 : ((j : Int) < (L.length : Int)) = False := eq_false (by omega)
                have hj2 : decide ((j : Int) < (L.length : Int)) = false := decide_eq_false (by omega)
                obtain rfl : gk = 0 := by omega
                have ht := HT5.out
                rw [List.drop_eq_nil_of_le (by omega)] at ht
                simp only [nbF, Bool.true_and] at ht
                have HT6 := Aside0.mk ht
                clear ht HT5
                go_wp2
                go_roundg gq
                case measure => omega
                case rel => exact ⟨v + 1, by go_num, by omega, HT6, ⟨below_step HB11.out HB.out⟩⟩
             ·rw [if_neg htp] at ht
              subst ht
              have hx1 : ((t : Int) == 1) = false := by simp; omega
              have hx2 : ((t : Int) != 1) = true := by simp; omega
              have hx3 : (t = 1) = False := eq_false htp
              clear htp
              go_wp2
              go_ret
              exact ⟨rfl, below_step HB7.out (below_step HB9.out HB.out)⟩
          ·have hv1 : ((v : Int) < (G.length : Int)) = False := eq_false (by omega)
           have hv2 : decide ((v : Int) < (G.length : Int)) = false := decide_eq_false (by omega)
           obtain rfl : gk = 0 := by omega
           have ht := HT2.out
           simp only [tl2] at ht
           subst ht
           clear HT2
           go_wp2
           go_ret
           exact ⟨rfl, below_step HB7.out HB.out⟩
        ·rw [if_pos rfl] at hr
         subst hr
         clear hz1
         go_wp2_with (first
          | (go_at_call 67; refine (CAL2.out _ (Below.refl _ _)).mono ?_; rintro e w3 ⟨rfl, hb3⟩; have HB3 := Aside0.mk hb3; have hz3 : w3.cell? ⟨xB, 1, none⟩ = some (.slice A1 P.length c1) := (blk_cell (blk_below HBC.out hb3) 1).trans rfl; clear hb3)
          | (go_at_call 54; refine (CCY.out _ HB3.out).mono ?_; rintro e w4 ⟨rfl, hb4⟩; have HB4 := Aside0.mk (below_step HB3.out hb4); clear hb4))
         go_ret
         exact ⟨rfl, below_step HB7.out (below_step HB.out HB4.out)⟩
       ·rw [if_neg (by rw [HPA.out]; exact h2)] at hr
        subst hr
        have hx5 : ((ac : Int) == (PA : Int)) = false := by simp; omega
        have hx6 : ((ac : Int) != (PA : Int)) = true := by simp; omega
        clear h2 hbc
        go_wp2_with (go_at_call 67; refine (CAL2.out _ (Below.refl _ _)).mono ?_; rintro e w3 ⟨rfl, hb3⟩)
        go_ret
        exact ⟨rfl, below_step HB7.out (below_step HB.out hb3)⟩
      ·rw [if_neg h1] at hr
       subst hr
       have hx1 : ((ro : Int) == 1) = false := by simp; omega
       have hx2 : ((ro : Int) != 1) = true := by simp; omega
       have hx3 : (ro = 1) = False := eq_false h1
       clear h1 hbc
       go_wp2
       go_ret
       exact ⟨rfl, below_step HB7.out HB.out⟩
   ·rw [if_neg hpl] at hR
    subst hR
    have hd3 : ((P.length : Int) == (B.length : Int)) = false := by simp; omega
    have hd4 : ((P.length : Int) != (B.length : Int)) = true := by simp; omega
    clear hb1 hb30 hpl
    go_enter Tryd.func78, Tryd.ntmps78
    go_wp2_with (first | ((with_reducible refine gate_dst (N := 3) rfl ?_); refine box_event ?hg (N := 3) ?hd (cs := #[.slice A0 B.length c0, .slice A1 P.length c1]) (t := 53) ?hr ?_; (case hd => rfl); (case hg => rfl); (case hr => first | (go_simp; done) | (go_simp; rfl)); intro xB hga w7 hbox hb7; have HBOX := Aside0.mk hbox; have HB7 := Aside0.mk hb7; have hz0 : w7.cell? ⟨xB, 0, none⟩ = some (.slice A0 B.length c0) := (blk_cell hbox 0).trans rfl; have hz1 : w7.cell? ⟨xB, 1, none⟩ = some (.slice A1 P.length c1) := (blk_cell hbox 1).trans rfl; clear hbox hb7 hga))
    go_ret
    exact ⟨rfl, HB7.out⟩
def width_town_tree.f (g : List Int) (B P : List Int) : Option Bool := if chk 9 g = true then some (treeB (g.map Int.toNat) B P) else none
theorem width_town_tree.calls (Ag : Option Addr) (cg : Nat) (g : List Int) (A0 : Option Addr) (c0 : Nat) (B : List Int) (A1 : Option Addr) (c1 : Nat) (P : List Int) (r : Bool) (w : World) (hGL : GL w) (hrg : Kd.C (Kd.int .i64) w Ag g.length g) (hcg : g.length ≤ cg) (hr0 : Kd.C (Kd.int .i64) w A0 B.length B) (hc0 : B.length ≤ c0) (hr1 : Kd.C (Kd.int .i64) w A1 P.length P) (hc1 : P.length ≤ c1) (h : width_town_tree.f g B P = some r) :
  Calls Tryd.prog 78 #[.slice Ag g.length cg, .agg #[.slice A0 B.length c0, .slice A1 P.length c1]] w fun e w' => e = .returned (.bool r) ∧ Below w.heap.size w w' := by
 unfold width_town_tree.f at h
 by_cases hchk : chk 9 g = true
 ·rw [if_pos hchk] at h
  obtain ⟨G, rfl, hG⟩ := (chk_iff 9 (by omega) _).1 hchk
  rw [gi_toNatT] at h
  rw [gi_length] at hcg ⊢
  exact tree_calls Ag cg G hG hcg A0 c0 B A1 c1 P r (Option.some.inj h) w hGL hrg hr0 hr1
 ·rw [if_neg hchk] at h
  cases h
end Go.Proofs.YtoffehihicabcaaDoor.X
end
section
namespace Go.Proofs.YtoffehihicabcaaDoor.X
open Go.RowKit YtoffehihicabcaaDoorW.PrintWords YtoffehihicabcaaDoorW.PrintLast YtoffehihicabcaaDoorW.PrintMore
attribute [local go_sem] max2_int min2_int max_two min_two max_three min_three max_four min_four
noncomputable section
def slices_Clone_int_int.f (l0 : List Int) : Option (List Int) := (some (([] : List Int) : List Int)).bind fun y279 => (if y279.length + l0.length < 17592186044416 then (some (y279 ++ l0)) else (none))
set_option maxHeartbeats 8000000 in
set_option maxRecDepth 100000 in
theorem slices_Clone_int_int.calls_some (a0 : Addr) (c0 : Nat) (l0 : List Int) (r : List Int) (w : World) (hr0 : Kd.C (Kd.int .i64) w (some a0) l0.length l0) (hc0 : l0.length ≤ c0) (h : slices_Clone_int_int.f l0 = some r) :
  Calls Tryd.prog 72 #[.slice (some a0) l0.length c0] w fun e w' => ∃ v0_ : Value, e = .returned (v0_) ∧ Kd.R (Kd.int .i64) 3 w' w.heap.size (fun _ => True) v0_ r ∧ Below w.heap.size w w' := by
 have HR0 := Aside0.mk hr0
 have HC0 := Aside0.mk hc0
 clear hr0 hc0
 have HB := Aside0.mk (Below.refl w.heap.size w)
 have H : ((some (([] : List Int) : List Int)).bind fun y279 => (if y279.length + l0.length < 17592186044416 then (some (y279 ++ l0)) else (none))) = some r := h
 clear h
 obtain ⟨y279, hy279⟩ : ∃ y_ : List Int, y_ = (([] : List Int)) := ⟨_, rfl⟩
 replace H : (if y279.length + l0.length < 17592186044416 then (some (y279 ++ l0)) else (none)) = some r := by first | (rw [hy279]; with_reducible exact H) | (have H2_ := (Option.bind_some _ _).symm.trans H; rw [hy279]; with_reducible exact H2_) | (have H2_ := (Option.bind_some _ _).symm.trans H; with_reducible exact H2_) | with_reducible exact H | (rw [hy279]; exact H) | exact H
 have Ny279 := Aside0.mk hy279
 clear hy279
 by_cases c2 : y279.length + l0.length < 17592186044416
 ·rw [if_pos c2] at H
  have LMc2 := Aside0.mk c2
  clear c2
  obtain ⟨y282, hy282⟩ : ∃ y_ : List Int, y_ = (y279 ++ l0) := ⟨_, rfl⟩
  replace H : (some y282) = some r := by first | (rw [hy282]; with_reducible exact H) | (have H2_ := (Option.bind_some _ _).symm.trans H; rw [hy282]; with_reducible exact H2_) | (have H2_ := (Option.bind_some _ _).symm.trans H; with_reducible exact H2_) | with_reducible exact H | (rw [hy282]; exact H) | exact H
  have Ny282 := Aside0.mk hy282
  clear hy282
  obtain rfl := Option.some.inj H
  have heq_ := fun (w : World) => Lib.run_eql_slice_nil (P := Tryd.prog) w 22 3 (some a0) l0.length c0 0 0 Tryd.underlying22
  go_enter Tryd.func72, Tryd.ntmps72
  go_wp2_with (first | ((with_reducible refine gate_dst (N := 5) rfl ?_); refine Kd.R_lit (Kd.int .i64) _ 3 ?hg (N := 5) ?hd (xs := ([] : List Int)) (inner := []) (ok := fun _ => True) (okp := fun _ => True) ?hr ?hp (fun _ hk => hk) trivial (Below.refl _ _) (Nat.le_refl _) (by simp) ?_; (case hd => rfl); (case hg => rfl); (case hr => first | (go_simp; done) | (go_simp; rfl)); (case hp => exact (Reps.none _ _)); intro v280 w3 ho4 hb hg_ hnew_; clear hg_ hnew_; (first | rw [← Ny279.out] at ho4 | (simp only [Int.reduceToNat] at ho4; rw [← Ny279.out] at ho4)); have n0_ := Aside0.mk (Kd.R_lower ho4 (below_size (Qaw))); have n1_ := Aside0.mk (below_step (Qaw) hb); clear HB; have HO281 := n0_; have HB := n1_; clear n0_ n1_; clear hb ho4) | ((with_reducible refine gate_builtin (b := .append) (xs := #[.tmp 5, .tmp 6]) rfl ?_); at_builtin; refine Kd.R_append_rows (Kd.int .i64) (w0 := w) w.heap.size rfl (.tmp 5) (.tmp 6) 22 3 (.int .i64 0) 8 rfl Tryd.underlying22 info3 rfl (by decide) (by omega) v280 y279 l0 _ _ _ (fun _ => True) (fun _ => False) rfl rfl ?aO ?aR (fun _ _ h => h) (fun _ h => h.elim) ?aF ?aB ?aS ?aL ?_; (case aR => exact Qsc (Kd.C_below HR0.out HB.out)); (case aB => exact (Qaw)); (case aF => exact (fun _ _ => trivial)); (case aO => exact (Qro HO281.out)); (case aS => exact (below_size (Qaw))); (case aL => have := LMc2.out; omega); intro v283 w5 ho hb hg hat; rw [← Ny282.out] at ho; have n0_ := Aside0.mk (hb); have n1_ := Aside0.mk (ho); clear HB; clear HO281; have HB := n0_; have HO284 := n1_; clear n0_ n1_; clear ho hb hg hat))
  go_ret
  exact ⟨_, by first | rfl | (simp [errW_none, errW_some] <;> rfl) | (simp [*, errW_none, errW_some] <;> rfl), by (with_reducible repeat (first | apply Kd.R_alloc | apply Kd.R_drewN | apply Kd.R_drew)); exact HO284.out, by repeat (first | (with_reducible first | exact HB.out | apply below_alloc | apply pw_below_drewN | apply below_drew1) | exact HB.out)⟩
 ·rw [if_neg c2] at H
  exact absurd H (by simp)
theorem slices_Clone_int_int.calls (A0 : Option Addr) (c0 : Nat) (l0 : List Int) (r : List Int) (w : World) (hr0 : Kd.C (Kd.int .i64) w A0 l0.length l0) (hc0 : l0.length ≤ c0) (h : slices_Clone_int_int.f l0 = some r) :
  Calls Tryd.prog 72 #[.slice A0 l0.length c0] w fun e w' => ∃ v0_ : Value, e = .returned (v0_) ∧ Kd.R (Kd.int .i64) 3 w' w.heap.size (fun _ => True) v0_ r ∧ Below w.heap.size w w' := by
 cases A0 with
 | some a0 => exact slices_Clone_int_int.calls_some a0 c0 l0 r w hr0 hc0 h
 | none =>
  have hl : l0 = [] := by
   rcases Nat.eq_zero_or_pos l0.length with h0 | h0
   ·exact List.length_eq_zero_iff.mp h0
   ·obtain ⟨ad, he, _⟩ := hr0.2.2 h0
    cases he
  subst hl
  obtain rfl : [] = r := by simpa [slices_Clone_int_int.f] using h
  clear h hr0 hc0
  have heq_ := fun (w : World) => Lib.run_eql_slice_nil (P := Tryd.prog) w 22 3 none 0 c0 0 0 Tryd.underlying22
  go_enter Tryd.func72, Tryd.ntmps72
  go_wp2
  go_ret
  exact ⟨_, rfl, Kd.R_nil _ _ _ _ _, Below.refl _ _⟩
end
end Go.Proofs.YtoffehihicabcaaDoor.X
end
