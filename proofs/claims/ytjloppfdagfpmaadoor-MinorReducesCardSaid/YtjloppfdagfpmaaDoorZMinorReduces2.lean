/- Part 2 of what MinorReduces rests on: contracts of the functions that it reaches, and what they compute, in plain words. -/
import Derived.Test.YtjloppfdagfpmaaDoorZMinorReduces0
import Derived.Test.YtjloppfdagfpmaaDoorZMinorReduces1
import Derived.WalkSpells
import Derived.Deep.Slices
import Derived.Deep.Fields
import Derived.ChangeSame
import Derived.ChangeArms
set_option linter.unusedVariables false
set_option linter.unusedSimpArgs false
section
namespace Go.Proofs.YtjloppfdagfpmaaDoor.X
open Go.RowKit YtjloppfdagfpmaaDoorW.PrintWords YtjloppfdagfpmaaDoorW.PrintLast YtjloppfdagfpmaaDoorW.PrintMore
attribute [local go_sem] max2_int min2_int max_two min_two max_three min_three max_four min_four
/-! ### lampblackref07_Reduce: function 43 -/
mutual
def lampblackref07_Reduce.l0 : Nat → List Int → List (S62) → Int → Option ((List (S62)) × Int)
 | 0, _, _, _ => none
 | k + 1, x0, x4, x5 => if x5 = 0 then (some (x4, 0)) else (lampblackref07_Reduce.l1 k x0 x4 x5 false (x0.length : Int) 0)
def lampblackref07_Reduce.l1 : Nat → List Int → List (S62) → Int → Bool → Int → Int → Option ((List (S62)) × Int)
 | 0, _, _, _, _, _, _ => none
 | k + 1, x0, x4, x5, x6, x18, x19 => if x19 < x18 then ((lampblackref07_reduced.f k x0 x5 x19).bind fun bt464 => (if bt464.2.2.2.2.2 = true then (if x6 = true then (lampblackref07_Reduce.l1 k x0 x4 x5 x6 x18 (wrap64 (x19 + 1))) else (if 0 ≤ x19 then (if x4.length < 4398046511104 then (lampblackref07_Reduce.l1 k bt464.2.2.2.2.1 (x4 ++ [(⟨bt464.1, bt464.2.1, bt464.2.2.1, bt464.2.2.2.1⟩ : S62)]) (Go.bits .andNot .i64 x5 (shl .i64 1 x19)) true x18 (wrap64 (x19 + 1))) else (none)) else (none))) else (lampblackref07_Reduce.l1 k x0 x4 x5 x6 x18 (wrap64 (x19 + 1))))) else (if x6 = true then (lampblackref07_Reduce.l0 k x0 x4 x5) else (some (([] : List (S62)), 4)))
end
def lampblackref07_Reduce.f (k : Nat) (l0 : List Int) : Option ((List (S62)) × Int) := lampblackref07_Reduce.l0 k l0 ([] : List (S62)) (wrap64 ((shl .i64 1 (l0.length : Int)) - 1))
set_option maxHeartbeats 8000000 in
set_option maxRecDepth 100000 in
theorem lampblackref07_Reduce.calls (k : Nat) (P0_ : Nat → Prop) (A0 : Option Addr) (c0 : Nat) (l0 : List Int) (r1 : List (S62)) (r2 : Int) (w : World) (hs0 : Kd.V (Kd.int .i64) 3 w w.heap.size (fun k_ => P0_ k_) (.slice A0 l0.length c0) l0) (h : lampblackref07_Reduce.f k l0 = some (r1, r2)) :
  Calls Tryd.prog 43 #[.slice A0 l0.length c0] w fun e w' => ∃ v0_ : Value, e = .returned (.tuple #[v0_, .int .i64 r2]) ∧ Kd.R k62 62 w' w.heap.size (fun k_ => (w.heap.size ≤ k_)) v0_ r1 ∧ Below w.heap.size w w' := by
 have hu62 := Tryd.underlying62
 have HO0 := Aside0.mk (show Kd.V (Kd.int .i64) 3 w w.heap.size (fun k_ => (P0_ k_ ∨ w.heap.size ≤ k_)) (.slice A0 l0.length c0) l0 from Kd.V_mono hs0 (fun k_ hk => .inl hk))
 have HB := Aside0.mk (Below.refl w.heap.size w)
 have H : (lampblackref07_Reduce.l0 k l0 ([] : List (S62)) (wrap64 ((shl .i64 1 (l0.length : Int)) - 1))) = some (r1, r2) := h
 clear h
 obtain ⟨ji2, hji2⟩ : ∃ j_ : Int, (shl .i64 1 (l0.length : Int)) = j_ := ⟨_, rfl⟩
 replace H : (lampblackref07_Reduce.l0 k l0 ([] : List (S62)) (wrap64 ((ji2) - 1))) = some (r1, r2) := by first | (rw [hji2] at H; exact H) | (simp only [hji2] at H ⊢; exact H)
 have hji2_ : (IntKind.i64.wrap (1 * 2 ^ min (l0.length : Int).toNat 64)) = ji2 := hji2
 have hji2z : (l0.length : Int) ≤ 64 → (IntKind.i64.wrap (1 * 2 ^ (l0.length : Int).toNat)) = ji2 := shl_small hji2
 have hji2p : (IntKind.i64.wrap (1 * 2 ^ min l0.length 64)) = ji2 := hji2_
 have hji2q : (l0.length : Int) ≤ 64 → (IntKind.i64.wrap (1 * 2 ^ l0.length)) = ji2 := hji2z
 have hji2r : (IntKind.i64.wrap (2 ^ min l0.length 64)) = ji2 := by have h_ := hji2p; rw [Int.one_mul] at h_; exact h_
 have hji2s : (l0.length : Int) ≤ 64 → (IntKind.i64.wrap (2 ^ l0.length)) = ji2 := fun hle_ => by have h_ := hji2q hle_; rw [Int.one_mul] at h_; exact h_
 have hji2u : (IntKind.i64.wrap (2 ^ min (l0.length : Int).toNat 64)) = ji2 := by have h_ := hji2_; rw [Int.one_mul] at h_; exact h_
 have hji2v : (l0.length : Int) ≤ 64 → (IntKind.i64.wrap (2 ^ (l0.length : Int).toNat)) = ji2 := fun hle_ => by have h_ := hji2z hle_; rw [Int.one_mul] at h_; exact h_
 have hji2y : (wrap64 (1 * 2 ^ min (l0.length : Int).toNat 64)) = ji2 := (i64_w _).symm.trans hji2_
 have hji2x : (l0.length : Int) ≤ 64 → (wrap64 (1 * 2 ^ (l0.length : Int).toNat)) = ji2 := fun h_ => (i64_w _).symm.trans (hji2z h_)
 have H' := Aside0.mk H
 clear H
 go_enter Tryd.func43, Tryd.ntmps43
 go_wp2
 go_loopg [0, 4, 5] k (fun kq v0 v4 v5 w' => ∃ (x0_1 : List Int) (x4_1 : List (S62)) (x5_1 : Int), v5 = .int .i64 x5_1 ∧ Aside0 (lampblackref07_Reduce.l0 kq x0_1 x4_1 x5_1 = some (r1, r2)) ∧ Aside0 (kq ≤ k) ∧ Aside0 (Kd.V (Kd.int .i64) 3 w' w.heap.size (fun k_ => (P0_ k_ ∨ w.heap.size ≤ k_) ∧ some k_ ≠ (v4 : Value).ownBlock) v0 x0_1) ∧ Aside0 (Kd.R k62 62 w' w.heap.size (fun k_ => (w.heap.size ≤ k_)) v4 x4_1) ∧ Aside0 (Below w.heap.size w w'))
 case atStart => exact ⟨(l0), (([] : List (S62))), (wrap64 ((ji2) - 1)), (by first | rfl | (simp; done) | (simp only [← hji2] <;> (first | rfl | simp)) | (simp [*]; done)), H', ⟨Nat.le_refl _⟩, ⟨by (with_reducible repeat (first | apply Kd.V_alloc | apply Kd.V_drewN | apply Kd.V_drew)); exact Kd.V_mono HO0.out (fun _ hk => ⟨hk, (by simp [Value.ownBlock])⟩)⟩, ⟨by first | exact Kd.R_nil _ _ _ _ _ | exact Kd.N_nil _ _ _ _ _ | exact Kd.V_nil _ _ _ _ _ | exact Kd.Q_nil _ _ _ _ _ | exact Kd.S_nil _ _ _ _ _⟩, ⟨by repeat (first | (with_reducible first | exact HB.out | apply below_alloc | apply pw_below_drewN | apply below_drew1) | exact HB.out)⟩⟩
 case round =>
  clear H'
  try clear p2
  obtain ⟨x0_1, x4_1, x5_1, rfl, HA, HK1, HO_0, HO_4, HB⟩ := hrel
  cases gk with
  | zero => exact absurd HA.out (by simp [lampblackref07_Reduce.l0])
  | succ k1 =>
   have H := HA.out
   clear HA
   simp only [lampblackref07_Reduce.l0] at H
   by_cases c3 : x5_1 = 0
   ·rw [if_pos c3] at H
    have c3b0 : (x5_1 == 0) = true := beq_iff_eq.mpr c3
    have c3b1 : (x5_1 != 0) = false := bne_eq_false_iff_eq.mpr c3
    clear c3
    simp only [Option.some.injEq, Prod.mk.injEq] at H
    obtain ⟨rfl, rfl⟩ := H
    go_wp2
    go_ret2
    exact ⟨_, by first | rfl | (simp [errW_none, errW_some] <;> rfl) | (simp only [← hji2]; first | rfl | (simp [errW_none, errW_some] <;> rfl)) | (simp [*, errW_none, errW_some] <;> rfl), by (with_reducible repeat (first | apply Kd.R_alloc | apply Kd.R_drewN | apply Kd.R_drew)); exact HO_4.out, by repeat (first | (with_reducible first | exact HB.out | apply below_alloc | apply pw_below_drewN | apply below_drew1) | exact HB.out)⟩
   ·rw [if_neg c3] at H
    have c3b0 : (x5_1 == 0) = false := beq_eq_false_iff_ne.mpr c3
    have c3b1 : (x5_1 != 0) = true := bne_iff_ne.mpr c3
    have H' := Aside0.mk H
    clear H
    obtain ⟨Ao4, co4, eo4⟩ := Kd.V_slice HO_0.out
    subst eo4
    go_wp2
    go_loopg [0, 4, 5, 6, 19] k1 (fun kq v0 v4 v5 v6 v19 w' => ∃ (x0_2 : List Int) (x4_2 : List (S62)) (x5_2 : Int) (x6_2 : Bool) (x19_2 : Int), v5 = .int .i64 x5_2 ∧ v6 = .bool x6_2 ∧ v19 = .int .i64 x19_2 ∧ Aside0 (lampblackref07_Reduce.l1 kq x0_2 x4_2 x5_2 x6_2 (x0_1.length : Int) x19_2 = some (r1, r2)) ∧ Aside0 (kq ≤ k1) ∧ Aside0 (Kd.V (Kd.int .i64) 3 w' w.heap.size (fun k_ => (P0_ k_ ∨ w.heap.size ≤ k_) ∧ some k_ ≠ (v4 : Value).ownBlock) v0 x0_2) ∧ Aside0 (Kd.R k62 62 w' w.heap.size (fun k_ => (w.heap.size ≤ k_)) v4 x4_2) ∧ Aside0 (Below w.heap.size w w'))
    case atStart => exact ⟨(x0_1), (x4_1), (x5_1), (false), (0), (by first | rfl | (simp; done) | (simp [*]; done)), (by first | rfl | (simp; done) | (simp [*]; done)), (by first | rfl | (simp; done) | (simp [*]; done)), H', ⟨Nat.le_refl _⟩, ⟨by (with_reducible repeat (first | apply Kd.V_alloc | apply Kd.V_drewN | apply Kd.V_drew)); exact HO_0.out⟩, ⟨by (with_reducible repeat (first | apply Kd.R_alloc | apply Kd.R_drewN | apply Kd.R_drew)); exact HO_4.out⟩, ⟨by repeat (first | (with_reducible first | exact HB.out | apply below_alloc | apply pw_below_drewN | apply below_drew1) | exact HB.out)⟩⟩
    case round =>
     clear H'
     try clear p2
     try clear c3
     try clear c3b0
     try clear c3b1
     try clear c4
     try clear p2
     obtain ⟨x0_2, x4_2, x5_2, x6_2, x19_2, rfl, rfl, rfl, HA, HK2, HO_0, HO_4, HB⟩ := hrel
     cases gk with
     | zero => exact absurd HA.out (by simp [lampblackref07_Reduce.l1])
     | succ k2 =>
      have H := HA.out
      clear HA
      simp only [lampblackref07_Reduce.l1] at H
      by_cases c5 : x19_2 < (x0_1.length : Int)
      ·rw [if_pos c5] at H
       have c5b0 : decide (x19_2 < (x0_1.length : Int)) = true := decide_eq_true c5
       clear c5
       replace H := Option.bind_eq_some_iff.mp H
       obtain ⟨⟨t464, t465, t466, t467, t468, t471⟩, A60, H⟩ := H
       replace H : (if t471 = true then (if x6_2 = true then (lampblackref07_Reduce.l1 k2 x0_2 x4_2 x5_2 x6_2 (x0_1.length : Int) (wrap64 (x19_2 + 1))) else (if 0 ≤ x19_2 then (if x4_2.length < 4398046511104 then (lampblackref07_Reduce.l1 k2 t468 (x4_2 ++ [(⟨t464, t465, t466, t467⟩ : S62)]) (Go.bits .andNot .i64 x5_2 (shl .i64 1 x19_2)) true (x0_1.length : Int) (wrap64 (x19_2 + 1))) else (none)) else (none))) else (lampblackref07_Reduce.l1 k2 x0_2 x4_2 x5_2 x6_2 (x0_1.length : Int) (wrap64 (x19_2 + 1)))) = some (r1, r2) := H
       have A6 := Aside0.mk A60
       clear A60
       by_cases c7 : t471 = true
       ·subst c7
        have H1 : (if x6_2 = true then (lampblackref07_Reduce.l1 k2 x0_2 x4_2 x5_2 x6_2 (x0_1.length : Int) (wrap64 (x19_2 + 1))) else (if 0 ≤ x19_2 then (if x4_2.length < 4398046511104 then (lampblackref07_Reduce.l1 k2 t468 (x4_2 ++ [(⟨t464, t465, t466, t467⟩ : S62)]) (Go.bits .andNot .i64 x5_2 (shl .i64 1 x19_2)) true (x0_1.length : Int) (wrap64 (x19_2 + 1))) else (none)) else (none))) = some (r1, r2) := by rw [if_pos rfl] at H; exact H
        clear H
        have H := H1
        clear H1
        by_cases c8 : x6_2 = true
        ·subst c8
         have H1 : (lampblackref07_Reduce.l1 k2 x0_2 x4_2 x5_2 true (x0_1.length : Int) (wrap64 (x19_2 + 1))) = some (r1, r2) := by rw [if_pos rfl] at H; exact H
         clear H
         have H := H1
         clear H1
         have H' := Aside0.mk H
         clear H
         obtain ⟨Ao9, co9, eo9⟩ := Kd.V_slice HO_0.out
         subst eo9
         go_wp2_with (first | ((with_reducible refine gate_callee (f := 81) rfl ?_); refine goesL_ (some 26) rfl rfl Tryd.func81 (by kernel_rfl) rfl #[.slice Ao9 x0_2.length co9, .int .i64 x5_2, .int .i64 x19_2] rfl (Qls) ?_; (with_reducible refine (lampblackref07_reduced.calls k2 (fun k_ => ((P0_ k_ ∨ w.heap.size ≤ k_) ∧ some k_ ≠ (u4 : Value).ownBlock)) _ _ x0_2 x5_2 x19_2 t464 t465 t466 t467 t468 true _ ?side1 A6.out).mono ?_); (case side1 => exact HO_0.out); rintro e w10 ⟨v469, rfl, ho0, hb⟩; refine ⟨_, rfl, ?_⟩; have n0_ := Aside0.mk (Kd.V_below (by (with_reducible repeat (first | apply Kd.V_alloc | apply Kd.V_drewN | apply Kd.V_drew)); exact HO_0.out) hb); have n1_ := Aside0.mk (Kd.R_below (Qro HO_4.out) hb); have n2_ := Aside0.mk (Kd.V_lower (Kd.V_mono (ok' := fun k_ => (P0_ k_ ∨ w.heap.size ≤ k_) ∧ some k_ ≠ (u4 : Value).ownBlock) ho0 (fun k_ hk_ => ⟨Or.elim hk_ (fun hs_ => hs_.1) (fun hn_ => (.inr (Nat.le_trans (below_size (Qaw)) hn_))), Or.elim hk_ (fun hs_ => hs_.2) (fun hn_ => (Kd.fresh' (Kd.R_lt (Qro HO_4.out)) k_ hn_))⟩)) (below_size (Qaw))); have n3_ := Aside0.mk (below_step (Qaw) hb); clear HO_0; clear HO_4; clear HB; have HO_0 := n0_; have HO_4 := n1_; have HO470 := n2_; have HB := n3_; clear n0_ n1_ n2_ n3_; (try clear hb); (try clear hb2); (try clear hk); (try clear hi); (try clear ho0)) | ((with_reducible refine gate_dst (N := 8) rfl ?_); refine box_event ?hg (N := 8) ?hd (cs := #[.int .i64 0, .int .i64 0, .int .i64 0, .int .i64 0]) (t := 62) ?hr ?_; (case hd => rfl); (case hg => rfl); (case hr => first | (go_simp; done) | (go_simp; rfl)); intro gb472 hg w11 hbox hb; have n0_ := Aside0.mk (Kd.V_below (Kd.V_elderB (by (with_reducible repeat (first | apply Kd.V_alloc | apply Kd.V_drewN | apply Kd.V_drew)); exact HO_0.out) gb472 (Nat.le_of_eq hg.symm)) hb); have n1_ := Aside0.mk (Kd.R_below (Kd.R_elderB (Qro HO_4.out) gb472 (Nat.le_of_eq hg.symm)) hb); have n2_ := Aside0.mk (Kd.V_below (Kd.V_elderB (by (with_reducible repeat (first | apply Kd.V_alloc | apply Kd.V_drewN | apply Kd.V_drew)); exact HO470.out) gb472 (Nat.le_of_eq hg.symm)) hb); have n3_ := Aside0.mk (below_step (Qaw) hb); have n4_ := Aside0.mk (hbox); have n5_ := Aside0.mk ((by rw [hg]; exact (below_size (Qaw)) : w.heap.size ≤ gb472)); have n6_ := Aside0.mk ((by rw [hg]; exact (below_size (Qaw)) : w.heap.size ≤ gb472)); clear HO_0; clear HO_4; clear HO470; clear HB; have HO_0 := n0_; have HO_4 := n1_; have HO470 := n2_; have HB := n3_; have BK472 := n4_; have GW472 := n5_; have GE472 := n6_; clear n0_ n1_ n2_ n3_ n4_ n5_ n6_; clear hb hbox hg; have hcz12_0 : w11.cell? ⟨gb472, 0, none⟩ = some (.int .i64 0) := (blk_cell BK472.out 0).trans rfl; have hcz12_1 : w11.cell? ⟨gb472, 1, none⟩ = some (.int .i64 0) := (blk_cell BK472.out 1).trans rfl; have hcz12_2 : w11.cell? ⟨gb472, 2, none⟩ = some (.int .i64 0) := (blk_cell BK472.out 2).trans rfl; have hcz12_3 : w11.cell? ⟨gb472, 3, none⟩ = some (.int .i64 0) := (blk_cell BK472.out 3).trans rfl; have hfz12_0 := blk_frozen BK472.out 0; have hfz12_1 := blk_frozen BK472.out 1; have hfz12_2 := blk_frozen BK472.out 2; have hfz12_3 := blk_frozen BK472.out 3))
         go_roundg k2
         case measure => have := HK1.out; have := HK2.out; omega
         case rel => exact ⟨(x0_2), (x4_2), (x5_2), (true), (wrap64 (x19_2 + 1)), (by first | rfl | (simp; done) | (simp [*]; done)), (by first | rfl | (simp; done) | (simp [*]; done)), (by first | rfl | (simp; done) | (simp [*]; done)), H', ⟨by have := HK1.out; have := HK2.out; omega⟩, ⟨by (with_reducible repeat (first | apply Kd.V_alloc | apply Kd.V_drewN | apply Kd.V_drew)); exact Kd.V_mono (Kd.V_far (p := ⟨gb472, 3, none⟩) (Kd.V_far (p := ⟨gb472, 2, none⟩) (Kd.V_far (p := ⟨gb472, 1, none⟩) (Kd.V_far (p := ⟨gb472, 0, none⟩) (Kd.V_mono HO_0.out (fun k_ hk => (⟨hk, hk.2⟩ : _ ∧ k_ ≠ gb472))) (fun _ hk => hk.2) (.int .i64 t464)) (fun _ hk => hk.2) (.int .i64 t465)) (fun _ hk => hk.2) (.int .i64 t466)) (fun _ hk => hk.2) (.int .i64 t467)) (fun _ hk => ⟨hk.1.1.1, hk.1.1.2⟩)⟩, ⟨by (with_reducible repeat (first | apply Kd.R_alloc | apply Kd.R_drewN | apply Kd.R_drew)); exact Kd.R_mono (Kd.R_far (p := ⟨gb472, 3, none⟩) (Kd.R_far (p := ⟨gb472, 2, none⟩) (Kd.R_far (p := ⟨gb472, 1, none⟩) (Kd.R_far (p := ⟨gb472, 0, none⟩) (Kd.R_mono HO_4.out (fun k_ hk => (⟨hk, hk.2⟩ : _ ∧ k_ ≠ gb472))) (fun _ hk => hk.2) (.int .i64 t464)) (fun _ hk => hk.2) (.int .i64 t465)) (fun _ hk => hk.2) (.int .i64 t466)) (fun _ hk => hk.2) (.int .i64 t467)) (fun _ hk => hk.1.1)⟩, ⟨by repeat (first | (with_reducible first | exact HB.out | apply below_alloc | apply pw_below_drewN | apply below_drew1 | refine below_set ?_ GE472.out) | exact HB.out)⟩⟩
        ·replace c8 := Bool.eq_false_iff.mpr c8
         subst c8
         have H1 : (if 0 ≤ x19_2 then (if x4_2.length < 4398046511104 then (lampblackref07_Reduce.l1 k2 t468 (x4_2 ++ [(⟨t464, t465, t466, t467⟩ : S62)]) (Go.bits .andNot .i64 x5_2 (shl .i64 1 x19_2)) true (x0_1.length : Int) (wrap64 (x19_2 + 1))) else (none)) else (none)) = some (r1, r2) := by rw [if_neg (show ¬ (false = true) by decide)] at H; exact H
         clear H
         have H := H1
         clear H1
         by_cases c13 : 0 ≤ x19_2
         ·rw [if_pos c13] at H
          have c13b0 := eq_true c13
          have c13b1 : decide (0 ≤ x19_2) = true := decide_eq_true c13
          clear c13
          obtain ⟨ji14, hji14⟩ : ∃ j_ : Int, (shl .i64 1 x19_2) = j_ := ⟨_, rfl⟩
          replace H : (if x4_2.length < 4398046511104 then (lampblackref07_Reduce.l1 k2 t468 (x4_2 ++ [(⟨t464, t465, t466, t467⟩ : S62)]) (Go.bits .andNot .i64 x5_2 (ji14)) true (x0_1.length : Int) (wrap64 (x19_2 + 1))) else (none)) = some (r1, r2) := by first | (rw [hji14] at H; exact H) | (simp only [hji14] at H ⊢; exact H)
          (try rw [hji14] at A6)
          have hji14_ : (IntKind.i64.wrap (1 * 2 ^ min x19_2.toNat 64)) = ji14 := hji14
          have hji14z : x19_2 ≤ 64 → (IntKind.i64.wrap (1 * 2 ^ x19_2.toNat)) = ji14 := shl_small hji14
          have hji14u : (IntKind.i64.wrap (2 ^ min x19_2.toNat 64)) = ji14 := by have h_ := hji14_; rw [Int.one_mul] at h_; exact h_
          have hji14v : x19_2 ≤ 64 → (IntKind.i64.wrap (2 ^ x19_2.toNat)) = ji14 := fun hle_ => by have h_ := hji14z hle_; rw [Int.one_mul] at h_; exact h_
          have hji14y : (wrap64 (1 * 2 ^ min x19_2.toNat 64)) = ji14 := (i64_w _).symm.trans hji14_
          have hji14x : x19_2 ≤ 64 → (wrap64 (1 * 2 ^ x19_2.toNat)) = ji14 := fun h_ => (i64_w _).symm.trans (hji14z h_)
          by_cases c15 : x4_2.length < 4398046511104
          ·rw [if_pos c15] at H
           have LMc15 := Aside0.mk c15
           clear c15
           obtain ⟨y473, hy473⟩ : ∃ y_ : List (S62), y_ = (x4_2 ++ [(⟨t464, t465, t466, t467⟩ : S62)]) := ⟨_, rfl⟩
           replace H : (lampblackref07_Reduce.l1 k2 t468 y473 (Go.bits .andNot .i64 x5_2 (ji14)) true (x0_1.length : Int) (wrap64 (x19_2 + 1))) = some (r1, r2) := by first | (rw [hy473]; with_reducible exact H) | (have H2_ := (Option.bind_some _ _).symm.trans H; rw [hy473]; with_reducible exact H2_) | (have H2_ := (Option.bind_some _ _).symm.trans H; with_reducible exact H2_) | with_reducible exact H | (rw [hy473]; exact H) | exact H
           have Ny473 := Aside0.mk hy473
           clear hy473
           have H' := Aside0.mk H
           clear H
           obtain ⟨Ao16, co16, eo16⟩ := Kd.V_slice HO_0.out
           subst eo16
           go_wp2_with (first | ((with_reducible refine gate_callee (f := 81) rfl ?_); refine goesL_ (some 26) rfl rfl Tryd.func81 (by kernel_rfl) rfl #[.slice Ao16 x0_2.length co16, .int .i64 x5_2, .int .i64 x19_2] rfl (Qls) ?_; (with_reducible refine (lampblackref07_reduced.calls k2 (fun k_ => ((P0_ k_ ∨ w.heap.size ≤ k_) ∧ some k_ ≠ (u4 : Value).ownBlock)) _ _ x0_2 x5_2 x19_2 t464 t465 t466 t467 t468 true _ ?side1 A6.out).mono ?_); (case side1 => exact HO_0.out); rintro e w17 ⟨v469, rfl, ho0, hb⟩; refine ⟨_, rfl, ?_⟩; have n0_ := Aside0.mk (Kd.V_below (by (with_reducible repeat (first | apply Kd.V_alloc | apply Kd.V_drewN | apply Kd.V_drew)); exact HO_0.out) hb); have n1_ := Aside0.mk (Kd.R_below (Qro HO_4.out) hb); have n2_ := Aside0.mk (Kd.V_lower (Kd.V_mono (ok' := fun k_ => (P0_ k_ ∨ w.heap.size ≤ k_) ∧ some k_ ≠ (u4 : Value).ownBlock) ho0 (fun k_ hk_ => ⟨Or.elim hk_ (fun hs_ => hs_.1) (fun hn_ => (.inr (Nat.le_trans (below_size (Qaw)) hn_))), Or.elim hk_ (fun hs_ => hs_.2) (fun hn_ => (Kd.fresh' (Kd.R_lt (Qro HO_4.out)) k_ hn_))⟩)) (below_size (Qaw))); have n3_ := Aside0.mk (below_step (Qaw) hb); clear HO_0; clear HO_4; clear HB; have HO_0 := n0_; have HO_4 := n1_; have HO470 := n2_; have HB := n3_; clear n0_ n1_ n2_ n3_; (try clear hb); (try clear hb2); (try clear hk); (try clear hi); (try clear ho0)) | ((with_reducible refine gate_dst (N := 8) rfl ?_); refine box_event ?hg (N := 8) ?hd (cs := #[.int .i64 0, .int .i64 0, .int .i64 0, .int .i64 0]) (t := 62) ?hr ?_; (case hd => rfl); (case hg => rfl); (case hr => first | (go_simp; done) | (go_simp; rfl)); intro gb472 hg w18 hbox hb; have n0_ := Aside0.mk (Kd.V_below (Kd.V_elderB (by (with_reducible repeat (first | apply Kd.V_alloc | apply Kd.V_drewN | apply Kd.V_drew)); exact HO_0.out) gb472 (Nat.le_of_eq hg.symm)) hb); have n1_ := Aside0.mk (Kd.R_below (Kd.R_elderB (Qro HO_4.out) gb472 (Nat.le_of_eq hg.symm)) hb); have n2_ := Aside0.mk (Kd.V_below (Kd.V_elderB (by (with_reducible repeat (first | apply Kd.V_alloc | apply Kd.V_drewN | apply Kd.V_drew)); exact HO470.out) gb472 (Nat.le_of_eq hg.symm)) hb); have n3_ := Aside0.mk (below_step (Qaw) hb); have n4_ := Aside0.mk (hbox); have n5_ := Aside0.mk ((by rw [hg]; exact (below_size (Qaw)) : w.heap.size ≤ gb472)); have n6_ := Aside0.mk ((by rw [hg]; exact (below_size (Qaw)) : w.heap.size ≤ gb472)); clear HO_0; clear HO_4; clear HO470; clear HB; have HO_0 := n0_; have HO_4 := n1_; have HO470 := n2_; have HB := n3_; have BK472 := n4_; have GW472 := n5_; have GE472 := n6_; clear n0_ n1_ n2_ n3_ n4_ n5_ n6_; clear hb hbox hg; have hcz19_0 : w18.cell? ⟨gb472, 0, none⟩ = some (.int .i64 0) := (blk_cell BK472.out 0).trans rfl; have hcz19_1 : w18.cell? ⟨gb472, 1, none⟩ = some (.int .i64 0) := (blk_cell BK472.out 1).trans rfl; have hcz19_2 : w18.cell? ⟨gb472, 2, none⟩ = some (.int .i64 0) := (blk_cell BK472.out 2).trans rfl; have hcz19_3 : w18.cell? ⟨gb472, 3, none⟩ = some (.int .i64 0) := (blk_cell BK472.out 3).trans rfl; have hfz19_0 := blk_frozen BK472.out 0; have hfz19_1 := blk_frozen BK472.out 1; have hfz19_2 := blk_frozen BK472.out 2; have hfz19_3 := blk_frozen BK472.out 3) | ((with_reducible refine gate_builtin (b := .append) (xs := #[.tmp 40, .tmp 42]) rfl ?_); at_builtin; refine Kd.R_append k62 (w0 := w) w.heap.size rfl (.tmp 40) (.tmp 42) 52 62 (.agg #[(.int .i64 0), (.int .i64 0), (.int .i64 0), (.int .i64 0)]) 32 rfl Tryd.underlying52 info62 rfl (by decide) (by omega) u4 x4_2 (⟨t464, t465, t466, t467⟩ : S62) [.int .i64 t464, .int .i64 t465, .int .i64 t466, .int .i64 t467] (fun k_ => (w.heap.size ≤ k_) ∧ k_ ≠ gb472) (fun _ => False) rfl (by first | (go_simp; done) | (go_simp; rfl)) ?aP (fun _ hk => hk.elim) ?aF ?aO ?aB ?aS ?aL ?_; (case aP => exact k62_mkM _ _ _ (⟨t464, t465, t466, t467⟩ : S62)); (case aB => exact (by repeat (first | (with_reducible first | exact HB.out | apply below_alloc | apply pw_below_drewN | apply below_drew1 | refine below_set ?_ GE472.out) | exact HB.out))); (case aF => exact (fun k_ hk => ⟨(Nat.le_trans (below_size (by repeat (first | (with_reducible first | exact HB.out | apply below_alloc | apply pw_below_drewN | apply below_drew1 | refine below_set ?_ GE472.out) | exact HB.out))) hk), Kd.freshB (g := gb472) (o := .cells #[.int .i64 t464, .int .i64 t465, .int .i64 t466, .int .i64 t467] 62 (0, 0)) (by (with_reducible repeat (first | refine blk_drewN ?_ _ | refine blk_drew ?_ | refine blk_alloc ?_ _)); refine blk_put (cs := #[.int .i64 t464, .int .i64 t465, .int .i64 t466, .int .i64 0]) ?_ 3 _ rfl; (with_reducible repeat (first | refine blk_drewN ?_ _ | refine blk_drew ?_ | refine blk_alloc ?_ _)); refine blk_put (cs := #[.int .i64 t464, .int .i64 t465, .int .i64 0, .int .i64 0]) ?_ 2 _ rfl; (with_reducible repeat (first | refine blk_drewN ?_ _ | refine blk_drew ?_ | refine blk_alloc ?_ _)); refine blk_put (cs := #[.int .i64 t464, .int .i64 0, .int .i64 0, .int .i64 0]) ?_ 1 _ rfl; (with_reducible repeat (first | refine blk_drewN ?_ _ | refine blk_drew ?_ | refine blk_alloc ?_ _)); refine blk_put (cs := #[.int .i64 0, .int .i64 0, .int .i64 0, .int .i64 0]) ?_ 0 _ rfl; (with_reducible repeat (first | refine blk_drewN ?_ _ | refine blk_drew ?_ | refine blk_alloc ?_ _)); exact BK472.out) k_ hk⟩)); (case aO => exact (by (with_reducible repeat (first | apply Kd.R_alloc | apply Kd.R_drewN | apply Kd.R_drew)); exact Kd.R_mono (Kd.R_far (p := ⟨gb472, 3, none⟩) (Kd.R_far (p := ⟨gb472, 2, none⟩) (Kd.R_far (p := ⟨gb472, 1, none⟩) (Kd.R_far (p := ⟨gb472, 0, none⟩) (Kd.R_mono HO_4.out (fun k_ hk => (⟨hk, hk.2⟩ : _ ∧ k_ ≠ gb472))) (fun _ hk => hk.2) (.int .i64 t464)) (fun _ hk => hk.2) (.int .i64 t465)) (fun _ hk => hk.2) (.int .i64 t466)) (fun _ hk => hk.2) (.int .i64 t467)) (fun _ hk => ⟨hk.1.1, hk.1.2⟩))); (case aS => exact (below_size (by repeat (first | (with_reducible first | exact HB.out | apply below_alloc | apply pw_below_drewN | apply below_drew1 | refine below_set ?_ GE472.out) | exact HB.out)))); (case aL => have := LMc15.out; omega); intro v474 w20 ho hb hg hat; rw [← Ny473.out] at ho; have n0_ := Aside0.mk (Kd.V_afterv (ok := (fun k_ => (P0_ k_ ∨ w.heap.size ≤ k_) ∧ k_ ≠ gb472)) (by (with_reducible repeat (first | apply Kd.V_alloc | apply Kd.V_drewN | apply Kd.V_drew)); exact Kd.V_mono (Kd.V_far (p := ⟨gb472, 3, none⟩) (Kd.V_far (p := ⟨gb472, 2, none⟩) (Kd.V_far (p := ⟨gb472, 1, none⟩) (Kd.V_far (p := ⟨gb472, 0, none⟩) (Kd.V_mono HO_0.out (fun k_ hk => (⟨hk, hk.2⟩ : _ ∧ k_ ≠ gb472))) (fun _ hk => hk.2) (.int .i64 t464)) (fun _ hk => hk.2) (.int .i64 t465)) (fun _ hk => hk.2) (.int .i64 t466)) (fun _ hk => hk.2) (.int .i64 t467)) (fun _ hk => ⟨⟨hk.1.1.1, hk.1.2⟩, hk.1.1.2⟩)) hg hat); have n1_ := Aside0.mk (Kd.V_afterv (ok := (fun k_ => (P0_ k_ ∨ w.heap.size ≤ k_) ∧ k_ ≠ gb472)) (by (with_reducible repeat (first | apply Kd.V_alloc | apply Kd.V_drewN | apply Kd.V_drew)); exact Kd.V_mono (Kd.V_far (p := ⟨gb472, 3, none⟩) (Kd.V_far (p := ⟨gb472, 2, none⟩) (Kd.V_far (p := ⟨gb472, 1, none⟩) (Kd.V_far (p := ⟨gb472, 0, none⟩) (Kd.V_mono HO470.out (fun k_ hk => (⟨hk, hk.2⟩ : _ ∧ k_ ≠ gb472))) (fun _ hk => hk.2) (.int .i64 t464)) (fun _ hk => hk.2) (.int .i64 t465)) (fun _ hk => hk.2) (.int .i64 t466)) (fun _ hk => hk.2) (.int .i64 t467)) (fun _ hk => ⟨⟨hk.1.1.1, hk.1.2⟩, hk.1.1.2⟩)) hg hat); have n2_ := Aside0.mk (blk_grown (g := gb472) (o := .cells #[.int .i64 t464, .int .i64 t465, .int .i64 t466, .int .i64 t467] 62 (0, 0)) (by (with_reducible repeat (first | refine blk_drewN ?_ _ | refine blk_drew ?_ | refine blk_alloc ?_ _)); refine blk_put (cs := #[.int .i64 t464, .int .i64 t465, .int .i64 t466, .int .i64 0]) ?_ 3 _ rfl; (with_reducible repeat (first | refine blk_drewN ?_ _ | refine blk_drew ?_ | refine blk_alloc ?_ _)); refine blk_put (cs := #[.int .i64 t464, .int .i64 t465, .int .i64 0, .int .i64 0]) ?_ 2 _ rfl; (with_reducible repeat (first | refine blk_drewN ?_ _ | refine blk_drew ?_ | refine blk_alloc ?_ _)); refine blk_put (cs := #[.int .i64 t464, .int .i64 0, .int .i64 0, .int .i64 0]) ?_ 1 _ rfl; (with_reducible repeat (first | refine blk_drewN ?_ _ | refine blk_drew ?_ | refine blk_alloc ?_ _)); refine blk_put (cs := #[.int .i64 0, .int .i64 0, .int .i64 0, .int .i64 0]) ?_ 0 _ rfl; (with_reducible repeat (first | refine blk_drewN ?_ _ | refine blk_drew ?_ | refine blk_alloc ?_ _)); exact BK472.out) hg (Kd.R_away HO_4.out (fun _ hk => hk.2))); have n3_ := Aside0.mk (hb); have n4_ := Aside0.mk (ho); clear HO_0; clear HO470; clear BK472; clear HB; clear HO_4; have HO_0 := n0_; have HO470 := n1_; have BK472 := n2_; have HB := n3_; have HO475 := n4_; clear n0_ n1_ n2_ n3_ n4_; clear ho hb hg hat))
           go_roundg k2
           case measure => have := HK1.out; have := HK2.out; omega
           case rel => exact ⟨(t468), (y473), (Go.bits .andNot .i64 x5_2 (ji14)), (true), (wrap64 (x19_2 + 1)), (by first | rfl | (simp; done) | (simp only [← hji14] <;> (first | rfl | simp)) | (simp [*]; done)), (by first | rfl | (simp; done) | (simp [*]; done)), (by first | rfl | (simp; done) | (simp [*]; done)), H', ⟨by have := HK1.out; have := HK2.out; omega⟩, ⟨by (with_reducible repeat (first | apply Kd.V_alloc | apply Kd.V_drewN | apply Kd.V_drew)); exact Kd.V_mono HO470.out (fun _ hk => ⟨hk.1.1, hk.2⟩)⟩, ⟨by (with_reducible repeat (first | apply Kd.R_alloc | apply Kd.R_drewN | apply Kd.R_drew)); exact Kd.R_mono HO475.out (fun _ hk => hk.1)⟩, ⟨by repeat (first | (with_reducible first | exact HB.out | apply below_alloc | apply pw_below_drewN | apply below_drew1 | refine below_set ?_ GE472.out) | exact HB.out)⟩⟩
          ·rw [if_neg c15] at H
           exact absurd H (by simp)
         ·rw [if_neg c13] at H
          exact absurd H (by simp)
       ·replace c7 := Bool.eq_false_iff.mpr c7
        subst c7
        have H1 : (lampblackref07_Reduce.l1 k2 x0_2 x4_2 x5_2 x6_2 (x0_1.length : Int) (wrap64 (x19_2 + 1))) = some (r1, r2) := by rw [if_neg (show ¬ (false = true) by decide)] at H; exact H
        clear H
        have H := H1
        clear H1
        have H' := Aside0.mk H
        clear H
        obtain ⟨Ao21, co21, eo21⟩ := Kd.V_slice HO_0.out
        subst eo21
        go_wp2_with (first | ((with_reducible refine gate_callee (f := 81) rfl ?_); refine goesL_ (some 26) rfl rfl Tryd.func81 (by kernel_rfl) rfl #[.slice Ao21 x0_2.length co21, .int .i64 x5_2, .int .i64 x19_2] rfl (Qls) ?_; (with_reducible refine (lampblackref07_reduced.calls k2 (fun k_ => ((P0_ k_ ∨ w.heap.size ≤ k_) ∧ some k_ ≠ (u4 : Value).ownBlock)) _ _ x0_2 x5_2 x19_2 t464 t465 t466 t467 t468 false _ ?side1 A6.out).mono ?_); (case side1 => exact HO_0.out); rintro e w22 ⟨v469, rfl, ho0, hb⟩; refine ⟨_, rfl, ?_⟩; have n0_ := Aside0.mk (Kd.V_below (by (with_reducible repeat (first | apply Kd.V_alloc | apply Kd.V_drewN | apply Kd.V_drew)); exact HO_0.out) hb); have n1_ := Aside0.mk (Kd.R_below (Qro HO_4.out) hb); have n2_ := Aside0.mk (Kd.V_lower (Kd.V_mono (ok' := fun k_ => (P0_ k_ ∨ w.heap.size ≤ k_) ∧ some k_ ≠ (u4 : Value).ownBlock) ho0 (fun k_ hk_ => ⟨Or.elim hk_ (fun hs_ => hs_.1) (fun hn_ => (.inr (Nat.le_trans (below_size (Qaw)) hn_))), Or.elim hk_ (fun hs_ => hs_.2) (fun hn_ => (Kd.fresh' (Kd.R_lt (Qro HO_4.out)) k_ hn_))⟩)) (below_size (Qaw))); have n3_ := Aside0.mk (below_step (Qaw) hb); clear HO_0; clear HO_4; clear HB; have HO_0 := n0_; have HO_4 := n1_; have HO470 := n2_; have HB := n3_; clear n0_ n1_ n2_ n3_; (try clear hb); (try clear hb2); (try clear hk); (try clear hi); (try clear ho0)) | ((with_reducible refine gate_dst (N := 8) rfl ?_); refine box_event ?hg (N := 8) ?hd (cs := #[.int .i64 0, .int .i64 0, .int .i64 0, .int .i64 0]) (t := 62) ?hr ?_; (case hd => rfl); (case hg => rfl); (case hr => first | (go_simp; done) | (go_simp; rfl)); intro gb472 hg w23 hbox hb; have n0_ := Aside0.mk (Kd.V_below (Kd.V_elderB (by (with_reducible repeat (first | apply Kd.V_alloc | apply Kd.V_drewN | apply Kd.V_drew)); exact HO_0.out) gb472 (Nat.le_of_eq hg.symm)) hb); have n1_ := Aside0.mk (Kd.R_below (Kd.R_elderB (Qro HO_4.out) gb472 (Nat.le_of_eq hg.symm)) hb); have n2_ := Aside0.mk (Kd.V_below (Kd.V_elderB (by (with_reducible repeat (first | apply Kd.V_alloc | apply Kd.V_drewN | apply Kd.V_drew)); exact HO470.out) gb472 (Nat.le_of_eq hg.symm)) hb); have n3_ := Aside0.mk (below_step (Qaw) hb); have n4_ := Aside0.mk (hbox); have n5_ := Aside0.mk ((by rw [hg]; exact (below_size (Qaw)) : w.heap.size ≤ gb472)); have n6_ := Aside0.mk ((by rw [hg]; exact (below_size (Qaw)) : w.heap.size ≤ gb472)); clear HO_0; clear HO_4; clear HO470; clear HB; have HO_0 := n0_; have HO_4 := n1_; have HO470 := n2_; have HB := n3_; have BK472 := n4_; have GW472 := n5_; have GE472 := n6_; clear n0_ n1_ n2_ n3_ n4_ n5_ n6_; clear hb hbox hg; have hcz24_0 : w23.cell? ⟨gb472, 0, none⟩ = some (.int .i64 0) := (blk_cell BK472.out 0).trans rfl; have hcz24_1 : w23.cell? ⟨gb472, 1, none⟩ = some (.int .i64 0) := (blk_cell BK472.out 1).trans rfl; have hcz24_2 : w23.cell? ⟨gb472, 2, none⟩ = some (.int .i64 0) := (blk_cell BK472.out 2).trans rfl; have hcz24_3 : w23.cell? ⟨gb472, 3, none⟩ = some (.int .i64 0) := (blk_cell BK472.out 3).trans rfl; have hfz24_0 := blk_frozen BK472.out 0; have hfz24_1 := blk_frozen BK472.out 1; have hfz24_2 := blk_frozen BK472.out 2; have hfz24_3 := blk_frozen BK472.out 3))
        go_roundg k2
        case measure => have := HK1.out; have := HK2.out; omega
        case rel => exact ⟨(x0_2), (x4_2), (x5_2), (x6_2), (wrap64 (x19_2 + 1)), (by first | rfl | (simp; done) | (simp [*]; done)), (by first | rfl | (simp; done) | (simp [*]; done)), (by first | rfl | (simp; done) | (simp [*]; done)), H', ⟨by have := HK1.out; have := HK2.out; omega⟩, ⟨by (with_reducible repeat (first | apply Kd.V_alloc | apply Kd.V_drewN | apply Kd.V_drew)); exact Kd.V_mono (Kd.V_far (p := ⟨gb472, 3, none⟩) (Kd.V_far (p := ⟨gb472, 2, none⟩) (Kd.V_far (p := ⟨gb472, 1, none⟩) (Kd.V_far (p := ⟨gb472, 0, none⟩) (Kd.V_mono HO_0.out (fun k_ hk => (⟨hk, hk.2⟩ : _ ∧ k_ ≠ gb472))) (fun _ hk => hk.2) (.int .i64 t464)) (fun _ hk => hk.2) (.int .i64 t465)) (fun _ hk => hk.2) (.int .i64 t466)) (fun _ hk => hk.2) (.int .i64 t467)) (fun _ hk => ⟨hk.1.1.1, hk.1.1.2⟩)⟩, ⟨by (with_reducible repeat (first | apply Kd.R_alloc | apply Kd.R_drewN | apply Kd.R_drew)); exact Kd.R_mono (Kd.R_far (p := ⟨gb472, 3, none⟩) (Kd.R_far (p := ⟨gb472, 2, none⟩) (Kd.R_far (p := ⟨gb472, 1, none⟩) (Kd.R_far (p := ⟨gb472, 0, none⟩) (Kd.R_mono HO_4.out (fun k_ hk => (⟨hk, hk.2⟩ : _ ∧ k_ ≠ gb472))) (fun _ hk => hk.2) (.int .i64 t464)) (fun _ hk => hk.2) (.int .i64 t465)) (fun _ hk => hk.2) (.int .i64 t466)) (fun _ hk => hk.2) (.int .i64 t467)) (fun _ hk => hk.1.1)⟩, ⟨by repeat (first | (with_reducible first | exact HB.out | apply below_alloc | apply pw_below_drewN | apply below_drew1 | refine below_set ?_ GE472.out) | exact HB.out)⟩⟩
      ·rw [if_neg c5] at H
       have c5b0 : decide (x19_2 < (x0_1.length : Int)) = false := decide_eq_false c5
       clear c5
       by_cases c25 : x6_2 = true
       ·subst c25
        have H1 : (lampblackref07_Reduce.l0 k2 x0_2 x4_2 x5_2) = some (r1, r2) := by rw [if_pos rfl] at H; exact H
        clear H
        have H := H1
        clear H1
        have H' := Aside0.mk H
        clear H
        go_wp2
        go_roundg k2
        case measure => have := HK1.out; have := HK2.out; omega
        case rel => exact ⟨(x0_2), (x4_2), (x5_2), (by first | rfl | (simp; done) | (simp [*]; done)), H', ⟨by have := HK1.out; have := HK2.out; omega⟩, ⟨by (with_reducible repeat (first | apply Kd.V_alloc | apply Kd.V_drewN | apply Kd.V_drew)); exact HO_0.out⟩, ⟨by (with_reducible repeat (first | apply Kd.R_alloc | apply Kd.R_drewN | apply Kd.R_drew)); exact HO_4.out⟩, ⟨by repeat (first | (with_reducible first | exact HB.out | apply below_alloc | apply pw_below_drewN | apply below_drew1) | exact HB.out)⟩⟩
       ·replace c25 := Bool.eq_false_iff.mpr c25
        subst c25
        have H1 : (some (([] : List (S62)), 4)) = some (r1, r2) := by rw [if_neg (show ¬ (false = true) by decide)] at H; exact H
        clear H
        have H := H1
        clear H1
        simp only [Option.some.injEq, Prod.mk.injEq] at H
        obtain ⟨rfl, rfl⟩ := H
        go_wp2
        go_ret2
        exact ⟨_, by first | rfl | (simp [errW_none, errW_some] <;> rfl) | (simp only [← hji2]; first | rfl | (simp [errW_none, errW_some] <;> rfl)) | (simp [*, errW_none, errW_some] <;> rfl), by first | exact Kd.R_nil _ _ _ _ _ | exact Kd.N_nil _ _ _ _ _ | exact Kd.V_nil _ _ _ _ _ | exact Kd.Q_nil _ _ _ _ _ | exact Kd.S_nil _ _ _ _ _, by repeat (first | (with_reducible first | exact HB.out | apply below_alloc | apply pw_below_drewN | apply below_drew1) | exact HB.out)⟩
end Go.Proofs.YtjloppfdagfpmaaDoor.X
end
section
namespace Go.Proofs.YtjloppfdagfpmaaDoor.X
open Go.RowKit YtjloppfdagfpmaaDoorW.PrintWords YtjloppfdagfpmaaDoorW.PrintLast YtjloppfdagfpmaaDoorW.PrintMore
attribute [local go_sem] max2_int min2_int max_two min_two max_three min_three max_four min_four
theorem eqA62 (d : Nat) (w : World) (x0 y0 : Int) (x1 y1 : Int) (x2 y2 : Int) (x3 y3 : Int) :
  (Op.equalIn (d + 2) 62 (.agg #[.int .i64 x0, .int .i64 x1, .int .i64 x2, .int .i64 x3]) (.agg #[.int .i64 y0, .int .i64 y1, .int .i64 y2, .int .i64 y3])).run Tryd.prog w = .ok (x0 == y0 && (x1 == y1 && (x2 == y2 && (x3 == y3)))) w := by
 refine eqA_of Tryd.underlying62 (by kernel_rfl) ?_
 refine eqf_cons (by rfl) (by go_simp; rfl) (by go_simp; rfl) (by go_simp) ?_
 refine eqf_cons (by rfl) (by go_simp; rfl) (by go_simp; rfl) (by go_simp) ?_
 refine eqf_cons (by rfl) (by go_simp; rfl) (by go_simp; rfl) (by go_simp) ?_
 exact eqf_last (by rfl) (by go_simp; rfl) (by go_simp; rfl) (by go_simp)
end Go.Proofs.YtjloppfdagfpmaaDoor.X
end
section
namespace Go.Proofs.YtjloppfdagfpmaaDoor.X
open Go.RowKit YtjloppfdagfpmaaDoorW.PrintWords YtjloppfdagfpmaaDoorW.PrintLast YtjloppfdagfpmaaDoorW.PrintMore
attribute [local go_sem] max2_int min2_int max_two min_two max_three min_three max_four min_four
attribute [local go_sem high] eqA62
/-! ### lampblackref07_Reduces: function 46 -/
mutual
def lampblackref07_Reduces.l0 : Nat → List Int → Int → List (S62) → Int → Int → Option (Bool)
 | 0, _, _, _, _, _ => none
 | k + 1, x0, x5, x15, x16, x17 => if x17 < x16 then (if 0 ≤ x17 then (if x17 < (x15.length : Int) then (if ((rd_T62 x15 x17).f1) < 0 then (lampblackref07_Reduces.j1 k x0 x5 x15 x16 x17 true ((rd_T62 x15 x17).f0) ((rd_T62 x15 x17).f1) ((rd_T62 x15 x17).f2) ((rd_T62 x15 x17).f3)) else (lampblackref07_Reduces.j1 k x0 x5 x15 x16 x17 (decide (((rd_T62 x15 x17).f1) ≥ (x0.length : Int))) ((rd_T62 x15 x17).f0) ((rd_T62 x15 x17).f1) ((rd_T62 x15 x17).f2) ((rd_T62 x15 x17).f3))) else (none)) else (none)) else (some (x5 == 0))
def lampblackref07_Reduces.j1 : Nat → List Int → Int → List (S62) → Int → Int → Bool → Int → Int → Int → Int → Option (Bool)
 | 0, _, _, _, _, _, _, _, _, _, _ => none
 | k + 1, x0, x5, x15, x16, x17, x30, x485000, x485001, x485002, x485003 => if x30 = true then (some false) else ((lampblackref07_reduced.f k x0 x5 x485001).bind fun bt485 => (if bt485.2.2.2.2.2 = true then (if (!(bt485.1 == x485000) || (!(bt485.2.1 == x485001) || (!(bt485.2.2.1 == x485002) || (!(bt485.2.2.2.1 == x485003))))) = true then (some false) else (if 0 ≤ x485001 then (lampblackref07_Reduces.l0 k bt485.2.2.2.2.1 (Go.bits .andNot .i64 x5 (shl .i64 1 x485001)) x15 x16 (wrap64 (x17 + 1))) else (none))) else (some false)))
end
def lampblackref07_Reduces.f (k : Nat) (l0 : List Int) (l1 : List (S62)) : Option (Bool) := lampblackref07_Reduces.l0 k l0 (wrap64 ((shl .i64 1 (l0.length : Int)) - 1)) l1 (l1.length : Int) 0
set_option maxHeartbeats 8000000 in
set_option maxRecDepth 100000 in
theorem lampblackref07_Reduces.calls (k : Nat) (P0_ : Nat → Prop) (A0 : Option Addr) (c0 : Nat) (l0 : List Int) (A1 : Option Addr) (c1 : Nat) (l1 : List (S62)) (r : Bool) (w : World) (hs0 : Kd.V (Kd.int .i64) 3 w w.heap.size (fun k_ => P0_ k_) (.slice A0 l0.length c0) l0) (hr1 : Kd.C k62 w A1 l1.length l1) (hc1 : l1.length ≤ c1) (h : lampblackref07_Reduces.f k l0 l1 = some r) :
  Calls Tryd.prog 46 #[.slice A0 l0.length c0, .slice A1 l1.length c1] w fun e w' => e = .returned (.bool r) ∧ Below w.heap.size w w' := by
 have hu62 := Tryd.underlying62
 have HO0 := Aside0.mk (show Kd.V (Kd.int .i64) 3 w w.heap.size (fun k_ => (P0_ k_ ∨ w.heap.size ≤ k_)) (.slice A0 l0.length c0) l0 from Kd.V_mono hs0 (fun k_ hk => .inl hk))
 have HR1 := Aside0.mk hr1
 have HC1 := Aside0.mk hc1
 clear hr1 hc1
 have HB := Aside0.mk (Below.refl w.heap.size w)
 have H : (lampblackref07_Reduces.l0 k l0 (wrap64 ((shl .i64 1 (l0.length : Int)) - 1)) l1 (l1.length : Int) 0) = some r := h
 clear h
 obtain ⟨ji3, hji3⟩ : ∃ j_ : Int, (shl .i64 1 (l0.length : Int)) = j_ := ⟨_, rfl⟩
 replace H : (lampblackref07_Reduces.l0 k l0 (wrap64 ((ji3) - 1)) l1 (l1.length : Int) 0) = some r := by first | (rw [hji3] at H; exact H) | (simp only [hji3] at H ⊢; exact H)
 have hji3_ : (IntKind.i64.wrap (1 * 2 ^ min (l0.length : Int).toNat 64)) = ji3 := hji3
 have hji3z : (l0.length : Int) ≤ 64 → (IntKind.i64.wrap (1 * 2 ^ (l0.length : Int).toNat)) = ji3 := shl_small hji3
 have hji3p : (IntKind.i64.wrap (1 * 2 ^ min l0.length 64)) = ji3 := hji3_
 have hji3q : (l0.length : Int) ≤ 64 → (IntKind.i64.wrap (1 * 2 ^ l0.length)) = ji3 := hji3z
 have hji3r : (IntKind.i64.wrap (2 ^ min l0.length 64)) = ji3 := by have h_ := hji3p; rw [Int.one_mul] at h_; exact h_
 have hji3s : (l0.length : Int) ≤ 64 → (IntKind.i64.wrap (2 ^ l0.length)) = ji3 := fun hle_ => by have h_ := hji3q hle_; rw [Int.one_mul] at h_; exact h_
 have hji3u : (IntKind.i64.wrap (2 ^ min (l0.length : Int).toNat 64)) = ji3 := by have h_ := hji3_; rw [Int.one_mul] at h_; exact h_
 have hji3v : (l0.length : Int) ≤ 64 → (IntKind.i64.wrap (2 ^ (l0.length : Int).toNat)) = ji3 := fun hle_ => by have h_ := hji3z hle_; rw [Int.one_mul] at h_; exact h_
 have hji3y : (wrap64 (1 * 2 ^ min (l0.length : Int).toNat 64)) = ji3 := (i64_w _).symm.trans hji3_
 have hji3x : (l0.length : Int) ≤ 64 → (wrap64 (1 * 2 ^ (l0.length : Int).toNat)) = ji3 := fun h_ => (i64_w _).symm.trans (hji3z h_)
 have H' := Aside0.mk H
 clear H
 go_enter Tryd.func46, Tryd.ntmps46
 go_wp2
 go_loopg [0, 5, 17] k (fun kq v0 v5 v17 w' => ∃ (x0_1 : List Int) (x5_1 : Int) (x17_1 : Int), v5 = .int .i64 x5_1 ∧ v17 = .int .i64 x17_1 ∧ Aside0 (lampblackref07_Reduces.l0 kq x0_1 x5_1 l1 (l1.length : Int) x17_1 = some r) ∧ Aside0 (kq ≤ k) ∧ Aside0 (Kd.V (Kd.int .i64) 3 w' w.heap.size (fun k_ => (P0_ k_ ∨ w.heap.size ≤ k_)) v0 x0_1) ∧ Aside0 (Below w.heap.size w w'))
 case atStart => exact ⟨(l0), (wrap64 ((ji3) - 1)), (0), (by first | rfl | (simp; done) | (simp only [← hji3] <;> (first | rfl | simp)) | (simp [*]; done)), (by first | rfl | (simp; done) | (simp [*]; done)), H', ⟨Nat.le_refl _⟩, ⟨by (with_reducible repeat (first | apply Kd.V_alloc | apply Kd.V_drewN | apply Kd.V_drew)); exact HO0.out⟩, ⟨by repeat (first | (with_reducible first | exact HB.out | apply below_alloc | apply pw_below_drewN | apply below_drew1) | exact HB.out)⟩⟩
 case round =>
  clear H'
  try clear c1
  try clear p2
  obtain ⟨x0_1, x5_1, x17_1, rfl, rfl, HA, HK1, HO_0, HB⟩ := hrel
  cases gk with
  | zero => exact absurd HA.out (by simp [lampblackref07_Reduces.l0])
  | succ k1 =>
   have H := HA.out
   clear HA
   simp only [lampblackref07_Reduces.l0] at H
   by_cases c4 : x17_1 < (l1.length : Int)
   ·rw [if_pos c4] at H
    have c4b0 : decide (x17_1 < (l1.length : Int)) = true := decide_eq_true c4
    clear c4
    by_cases c5 : 0 ≤ x17_1
    ·rw [if_pos c5] at H
     have c5b0 : decide (0 ≤ x17_1) = true := decide_eq_true c5
     clear c5
     by_cases c6 : x17_1 < (l1.length : Int)
     ·rw [if_pos c6] at H
      have c6b0 : decide (x17_1 < (l1.length : Int)) = true := decide_eq_true c6
      clear c6
      have HC7 := Aside0.mk H
      clear H
      have p483 : 0 ≤ (x17_1 : Int) := of_decide_eq_true (by first | (with_reducible assumption) | assumption)
      have q483 : x17_1 < (l1.length : Int) := of_decide_eq_true (by first | (with_reducible assumption) | assumption)
      obtain ⟨ad483, e483, hx483_0, hx483_1, hx483_2, hx483_3⟩ := at_T62 HR1.out x17_1 p483 q483
      cases e483
      replace hx483_0 := (HB.out.cell (World.block_lt_of_cell? w _ hx483_0)).trans hx483_0
      replace hx483_1 := (HB.out.cell (World.block_lt_of_cell? w _ hx483_1)).trans hx483_1
      replace hx483_2 := (HB.out.cell (World.block_lt_of_cell? w _ hx483_2)).trans hx483_2
      replace hx483_3 := (HB.out.cell (World.block_lt_of_cell? w _ hx483_3)).trans hx483_3
      replace p483 := eq_true p483
      replace q483 := eq_true q483
      go_upto_region 5 with (first | ((with_reducible refine gate_dst (N := 7) rfl ?_); (try (refine gate_guard (by rfl) ?_; dsimp only)); refine box_event ?hg (N := 7) ?hd (cs := #[.int .i64 0, .int .i64 0, .int .i64 0, .int .i64 0]) (t := 62) ?hr ?_; (case hd => rfl); (case hg => rfl); (case hr => first | (go_simp; done) | (go_simp; rfl)); intro gb484 hg w8 hbox hb; have n0_ := Aside0.mk (Kd.V_below (Kd.V_elderB (by (with_reducible repeat (first | apply Kd.V_alloc | apply Kd.V_drewN | apply Kd.V_drew)); exact HO_0.out) gb484 (Nat.le_of_eq hg.symm)) hb); have n1_ := Aside0.mk (below_step (Qaw) hb); have n2_ := Aside0.mk (hbox); have n3_ := Aside0.mk ((by rw [hg]; exact (below_size (Qaw)) : w.heap.size ≤ gb484)); have n4_ := Aside0.mk ((by rw [hg]; exact (below_size (Qaw)) : w.heap.size ≤ gb484)); clear HO_0; clear HB; have HO_0 := n0_; have HB := n1_; have BK484 := n2_; have GW484 := n3_; have GE484 := n4_; clear n0_ n1_ n2_ n3_ n4_; clear hb hbox hg; have hcz9_0 : w8.cell? ⟨gb484, 0, none⟩ = some (.int .i64 0) := (blk_cell BK484.out 0).trans rfl; have hcz9_1 : w8.cell? ⟨gb484, 1, none⟩ = some (.int .i64 0) := (blk_cell BK484.out 1).trans rfl; have hcz9_2 : w8.cell? ⟨gb484, 2, none⟩ = some (.int .i64 0) := (blk_cell BK484.out 2).trans rfl; have hcz9_3 : w8.cell? ⟨gb484, 3, none⟩ = some (.int .i64 0) := (blk_cell BK484.out 3).trans rfl; have hfz9_0 := blk_frozen BK484.out 0; have hfz9_1 := blk_frozen BK484.out 1; have hfz9_2 := blk_frozen BK484.out 2; have hfz9_3 := blk_frozen BK484.out 3))
      (try simp only [Act.put, List.setIfInBounds_toArray, List.set_cons_zero, List.set_cons_succ])
      go_cut [30] (fun v30 wc => ∃ (kq : Nat) (x30_6 : Bool), v30 = .bool x30_6 ∧ Aside0 (lampblackref07_Reduces.j1 kq x0_1 x5_1 l1 (l1.length : Int) x17_1 x30_6 ((rd_T62 l1 x17_1).f0) ((rd_T62 l1 x17_1).f1) ((rd_T62 l1 x17_1).f2) ((rd_T62 l1 x17_1).f3) = some r) ∧ Aside0 (kq ≤ k1) ∧ Aside0 (Kd.V (Kd.int .i64) 3 wc w.heap.size (fun k_ => (P0_ k_ ∨ w.heap.size ≤ k_) ∧ k_ ≠ gb484) u0 x0_1) ∧ Aside0 (wc.heap[gb484]? = some (.cells #[.int .i64 ((rd_T62 l1 x17_1).f0), .int .i64 ((rd_T62 l1 x17_1).f1), .int .i64 ((rd_T62 l1 x17_1).f2), .int .i64 ((rd_T62 l1 x17_1).f3)] 62 (0, 0))) ∧ Aside0 (Below w.heap.size w wc))
      case first =>
       have H := HC7.out
       clear HC7
       by_cases c10 : ((rd_T62 l1 x17_1).f1) < 0
       ·rw [if_pos c10] at H
        have c10b0 : decide (((rd_T62 l1 x17_1).f1) < 0) = true := decide_eq_true c10
        clear c10
        (first | rw [c10b0] | (simp only [i64_w, i32_w]; rw [c10b0]) | skip)
        have H' := Aside0.mk H
        clear H
        have hcz11_0 : w8.cell? ⟨gb484, 0, none⟩ = some (.int .i64 0) := (blk_cell BK484.out 0).trans rfl
        have hcz11_1 : w8.cell? ⟨gb484, 1, none⟩ = some (.int .i64 0) := (blk_cell BK484.out 1).trans rfl
        have hcz11_2 : w8.cell? ⟨gb484, 2, none⟩ = some (.int .i64 0) := (blk_cell BK484.out 2).trans rfl
        have hcz11_3 : w8.cell? ⟨gb484, 3, none⟩ = some (.int .i64 0) := (blk_cell BK484.out 3).trans rfl
        have hfz11_0 := blk_frozen BK484.out 0
        have hfz11_1 := blk_frozen BK484.out 1
        have hfz11_2 := blk_frozen BK484.out 2
        have hfz11_3 := blk_frozen BK484.out 3
        go_wp2
        go_meet
        case rel => exact ⟨_, (true), (by first | rfl | (simp; done) | (simp [*]; done)), H', ⟨by have := HK1.out; first | omega | exact Nat.le_refl _⟩, ⟨by (with_reducible repeat (first | apply Kd.V_alloc | apply Kd.V_drewN | apply Kd.V_drew)); exact Kd.V_mono (Kd.V_far (p := ⟨gb484, 3, none⟩) (Kd.V_far (p := ⟨gb484, 2, none⟩) (Kd.V_far (p := ⟨gb484, 1, none⟩) (Kd.V_far (p := ⟨gb484, 0, none⟩) (Kd.V_mono HO_0.out (fun k_ hk => (⟨hk, hk.2⟩ : _ ∧ k_ ≠ gb484))) (fun _ hk => hk.2) (.int .i64 ((rd_T62 l1 x17_1).f0))) (fun _ hk => hk.2) (.int .i64 ((rd_T62 l1 x17_1).f1))) (fun _ hk => hk.2) (.int .i64 ((rd_T62 l1 x17_1).f2))) (fun _ hk => hk.2) (.int .i64 ((rd_T62 l1 x17_1).f3))) (fun _ hk => ⟨hk.1.1, hk.1.2⟩)⟩, ⟨by (with_reducible repeat (first | refine blk_drewN ?_ _ | refine blk_drew ?_ | refine blk_alloc ?_ _)); refine blk_put (cs := #[.int .i64 ((rd_T62 l1 x17_1).f0), .int .i64 ((rd_T62 l1 x17_1).f1), .int .i64 ((rd_T62 l1 x17_1).f2), .int .i64 0]) ?_ 3 _ rfl; (with_reducible repeat (first | refine blk_drewN ?_ _ | refine blk_drew ?_ | refine blk_alloc ?_ _)); refine blk_put (cs := #[.int .i64 ((rd_T62 l1 x17_1).f0), .int .i64 ((rd_T62 l1 x17_1).f1), .int .i64 0, .int .i64 0]) ?_ 2 _ rfl; (with_reducible repeat (first | refine blk_drewN ?_ _ | refine blk_drew ?_ | refine blk_alloc ?_ _)); refine blk_put (cs := #[.int .i64 ((rd_T62 l1 x17_1).f0), .int .i64 0, .int .i64 0, .int .i64 0]) ?_ 1 _ rfl; (with_reducible repeat (first | refine blk_drewN ?_ _ | refine blk_drew ?_ | refine blk_alloc ?_ _)); refine blk_put (cs := #[.int .i64 0, .int .i64 0, .int .i64 0, .int .i64 0]) ?_ 0 _ rfl; (with_reducible repeat (first | refine blk_drewN ?_ _ | refine blk_drew ?_ | refine blk_alloc ?_ _)); exact BK484.out⟩, ⟨by repeat (first | (with_reducible first | exact HB.out | apply below_alloc | apply pw_below_drewN | apply below_drew1 | refine below_set ?_ GE484.out) | exact HB.out)⟩⟩
       ·rw [if_neg c10] at H
        have c10b0 : decide (((rd_T62 l1 x17_1).f1) < 0) = false := decide_eq_false c10
        clear c10
        (first | rw [c10b0] | (simp only [i64_w, i32_w]; rw [c10b0]) | skip)
        have H' := Aside0.mk H
        clear H
        have hcz12_0 : w8.cell? ⟨gb484, 0, none⟩ = some (.int .i64 0) := (blk_cell BK484.out 0).trans rfl
        have hcz12_1 : w8.cell? ⟨gb484, 1, none⟩ = some (.int .i64 0) := (blk_cell BK484.out 1).trans rfl
        have hcz12_2 : w8.cell? ⟨gb484, 2, none⟩ = some (.int .i64 0) := (blk_cell BK484.out 2).trans rfl
        have hcz12_3 : w8.cell? ⟨gb484, 3, none⟩ = some (.int .i64 0) := (blk_cell BK484.out 3).trans rfl
        have hfz12_0 := blk_frozen BK484.out 0
        have hfz12_1 := blk_frozen BK484.out 1
        have hfz12_2 := blk_frozen BK484.out 2
        have hfz12_3 := blk_frozen BK484.out 3
        obtain ⟨Ao13, co13, eo13⟩ := Kd.V_slice HO_0.out
        subst eo13
        go_wp2
        go_meet
        case rel => exact ⟨_, (decide (((rd_T62 l1 x17_1).f1) ≥ (x0_1.length : Int))), (by first | rfl | (simp; done) | (simp [*]; done)), H', ⟨by have := HK1.out; first | omega | exact Nat.le_refl _⟩, ⟨by (with_reducible repeat (first | apply Kd.V_alloc | apply Kd.V_drewN | apply Kd.V_drew)); exact Kd.V_mono (Kd.V_far (p := ⟨gb484, 3, none⟩) (Kd.V_far (p := ⟨gb484, 2, none⟩) (Kd.V_far (p := ⟨gb484, 1, none⟩) (Kd.V_far (p := ⟨gb484, 0, none⟩) (Kd.V_mono HO_0.out (fun k_ hk => (⟨hk, hk.2⟩ : _ ∧ k_ ≠ gb484))) (fun _ hk => hk.2) (.int .i64 ((rd_T62 l1 x17_1).f0))) (fun _ hk => hk.2) (.int .i64 ((rd_T62 l1 x17_1).f1))) (fun _ hk => hk.2) (.int .i64 ((rd_T62 l1 x17_1).f2))) (fun _ hk => hk.2) (.int .i64 ((rd_T62 l1 x17_1).f3))) (fun _ hk => ⟨hk.1.1, hk.1.2⟩)⟩, ⟨by (with_reducible repeat (first | refine blk_drewN ?_ _ | refine blk_drew ?_ | refine blk_alloc ?_ _)); refine blk_put (cs := #[.int .i64 ((rd_T62 l1 x17_1).f0), .int .i64 ((rd_T62 l1 x17_1).f1), .int .i64 ((rd_T62 l1 x17_1).f2), .int .i64 0]) ?_ 3 _ rfl; (with_reducible repeat (first | refine blk_drewN ?_ _ | refine blk_drew ?_ | refine blk_alloc ?_ _)); refine blk_put (cs := #[.int .i64 ((rd_T62 l1 x17_1).f0), .int .i64 ((rd_T62 l1 x17_1).f1), .int .i64 0, .int .i64 0]) ?_ 2 _ rfl; (with_reducible repeat (first | refine blk_drewN ?_ _ | refine blk_drew ?_ | refine blk_alloc ?_ _)); refine blk_put (cs := #[.int .i64 ((rd_T62 l1 x17_1).f0), .int .i64 0, .int .i64 0, .int .i64 0]) ?_ 1 _ rfl; (with_reducible repeat (first | refine blk_drewN ?_ _ | refine blk_drew ?_ | refine blk_alloc ?_ _)); refine blk_put (cs := #[.int .i64 0, .int .i64 0, .int .i64 0, .int .i64 0]) ?_ 0 _ rfl; (with_reducible repeat (first | refine blk_drewN ?_ _ | refine blk_drew ?_ | refine blk_alloc ?_ _)); exact BK484.out⟩, ⟨by repeat (first | (with_reducible first | exact HB.out | apply below_alloc | apply pw_below_drewN | apply below_drew1 | refine below_set ?_ GE484.out) | exact HB.out)⟩⟩
      case rest =>
       clear HC7
       try clear c1
       try clear p2
       try clear c4
       try clear c4b0
       try clear p4
       try clear q4
       try clear hx4
       try clear c5
       try clear c5b0
       try clear c6
       try clear c6b0
       try clear p6
       try clear c10
       try clear c10b0
       try clear hcz11_0
       try clear hcz11_1
       try clear hcz11_2
       try clear hcz11_3
       try clear hcz12_0
       try clear hcz12_1
       try clear hcz12_2
       try clear hcz12_3
       try clear hcz9_0
       try clear hcz9_1
       try clear hcz9_2
       try clear hcz9_3
       try clear hfz11_0
       try clear hfz11_1
       try clear hfz11_2
       try clear hfz11_3
       try clear hfz12_0
       try clear hfz12_1
       try clear hfz12_2
       try clear hfz12_3
       try clear hfz9_0
       try clear hfz9_1
       try clear hfz9_2
       try clear hfz9_3
       try clear hx483_0
       try clear hx483_1
       try clear hx483_2
       try clear hx483_3
       try clear p2
       try clear p483
       try clear q483
       obtain ⟨kq, x30_6, rfl, HA, HJ6, HO_0, BK484, HB⟩ := hcut
       cases kq with
       | zero => exact absurd HA.out (by simp [lampblackref07_Reduces.j1])
       | succ kj6 =>
        have H := HA.out
        clear HA
        simp only [lampblackref07_Reduces.j1] at H
        by_cases c14 : x30_6 = true
        ·subst c14
         have H1 : (some false) = some r := by rw [if_pos rfl] at H; exact H
         clear H
         have H := H1
         clear H1
         obtain rfl := Option.some.inj H
         go_wp2
         go_ret
         exact ⟨by first | rfl | (simp [errW_none, errW_some] <;> rfl) | (simp only [← hji3]; first | rfl | (simp [errW_none, errW_some] <;> rfl)) | (simp [*, errW_none, errW_some] <;> rfl), by repeat (first | (with_reducible first | exact HB.out | apply below_alloc | apply pw_below_drewN | apply below_drew1 | refine below_set ?_ GE484.out) | exact HB.out)⟩
        ·replace c14 := Bool.eq_false_iff.mpr c14
         subst c14
         have H1 : ((lampblackref07_reduced.f kj6 x0_1 x5_1 ((rd_T62 l1 x17_1).f1)).bind fun bt485 => (if bt485.2.2.2.2.2 = true then (if (!(bt485.1 == ((rd_T62 l1 x17_1).f0)) || (!(bt485.2.1 == ((rd_T62 l1 x17_1).f1)) || (!(bt485.2.2.1 == ((rd_T62 l1 x17_1).f2)) || (!(bt485.2.2.2.1 == ((rd_T62 l1 x17_1).f3)))))) = true then (some false) else (if 0 ≤ ((rd_T62 l1 x17_1).f1) then (lampblackref07_Reduces.l0 kj6 bt485.2.2.2.2.1 (Go.bits .andNot .i64 x5_1 (shl .i64 1 ((rd_T62 l1 x17_1).f1))) l1 (l1.length : Int) (wrap64 (x17_1 + 1))) else (none))) else (some false))) = some r := by rw [if_neg (show ¬ (false = true) by decide)] at H; exact H
         clear H
         have H := H1
         clear H1
         replace H := Option.bind_eq_some_iff.mp H
         obtain ⟨⟨t485, t486, t487, t488, t489, t492⟩, A150, H⟩ := H
         replace H : (if t492 = true then (if (!(t485 == ((rd_T62 l1 x17_1).f0)) || (!(t486 == ((rd_T62 l1 x17_1).f1)) || (!(t487 == ((rd_T62 l1 x17_1).f2)) || (!(t488 == ((rd_T62 l1 x17_1).f3)))))) = true then (some false) else (if 0 ≤ ((rd_T62 l1 x17_1).f1) then (lampblackref07_Reduces.l0 kj6 t489 (Go.bits .andNot .i64 x5_1 (shl .i64 1 ((rd_T62 l1 x17_1).f1))) l1 (l1.length : Int) (wrap64 (x17_1 + 1))) else (none))) else (some false)) = some r := H
         have A15 := Aside0.mk A150
         clear A150
         by_cases c16 : t492 = true
         ·subst c16
          have H1 : (if (!(t485 == ((rd_T62 l1 x17_1).f0)) || (!(t486 == ((rd_T62 l1 x17_1).f1)) || (!(t487 == ((rd_T62 l1 x17_1).f2)) || (!(t488 == ((rd_T62 l1 x17_1).f3)))))) = true then (some false) else (if 0 ≤ ((rd_T62 l1 x17_1).f1) then (lampblackref07_Reduces.l0 kj6 t489 (Go.bits .andNot .i64 x5_1 (shl .i64 1 ((rd_T62 l1 x17_1).f1))) l1 (l1.length : Int) (wrap64 (x17_1 + 1))) else (none))) = some r := by rw [if_pos rfl] at H; exact H
          clear H
          have H := H1
          clear H1
          by_cases c17 : (!(t485 == ((rd_T62 l1 x17_1).f0)) || (!(t486 == ((rd_T62 l1 x17_1).f1)) || (!(t487 == ((rd_T62 l1 x17_1).f2)) || (!(t488 == ((rd_T62 l1 x17_1).f3)))))) = true
          ·rw [if_pos c17] at H
           have c17b0 : (!(t485 == ((rd_T62 l1 x17_1).f0)) || (!(t486 == ((rd_T62 l1 x17_1).f1)) || (!(t487 == ((rd_T62 l1 x17_1).f2)) || (!(t488 == ((rd_T62 l1 x17_1).f3)))))) = true := c17
           clear c17
           obtain rfl := Option.some.inj H
           have hcz18_0 : wc.cell? ⟨gb484, 0, none⟩ = some (.int .i64 ((rd_T62 l1 x17_1).f0)) := (blk_cell BK484.out 0).trans rfl
           have hcz18_1 : wc.cell? ⟨gb484, 1, none⟩ = some (.int .i64 ((rd_T62 l1 x17_1).f1)) := (blk_cell BK484.out 1).trans rfl
           have hcz18_2 : wc.cell? ⟨gb484, 2, none⟩ = some (.int .i64 ((rd_T62 l1 x17_1).f2)) := (blk_cell BK484.out 2).trans rfl
           have hcz18_3 : wc.cell? ⟨gb484, 3, none⟩ = some (.int .i64 ((rd_T62 l1 x17_1).f3)) := (blk_cell BK484.out 3).trans rfl
           have hfz18_0 := blk_frozen BK484.out 0
           have hfz18_1 := blk_frozen BK484.out 1
           have hfz18_2 := blk_frozen BK484.out 2
           have hfz18_3 := blk_frozen BK484.out 3
           obtain ⟨Ao19, co19, eo19⟩ := Kd.V_slice HO_0.out
           subst eo19
           go_wp2_with (first | ((with_reducible refine gate_callee (f := 81) rfl ?_); refine goesL_ (some 36) rfl rfl Tryd.func81 (by kernel_rfl) rfl #[.slice Ao19 x0_1.length co19, .int .i64 x5_1, .int .i64 ((rd_T62 l1 x17_1).f1)] rfl (Qls) ?_; (with_reducible refine (lampblackref07_reduced.calls kj6 (fun k_ => ((P0_ k_ ∨ w.heap.size ≤ k_) ∧ k_ ≠ gb484)) _ _ x0_1 x5_1 ((rd_T62 l1 x17_1).f1) t485 t486 t487 t488 t489 true _ ?side1 A15.out).mono ?_); (case side1 => exact HO_0.out); rintro e w20 ⟨v490, rfl, ho0, hb⟩; refine ⟨_, rfl, ?_⟩; have n0_ := Aside0.mk (Kd.V_below (by (with_reducible repeat (first | apply Kd.V_alloc | apply Kd.V_drewN | apply Kd.V_drew)); exact HO_0.out) hb); have n1_ := Aside0.mk (Kd.V_lower (Kd.V_mono (ok' := fun k_ => (P0_ k_ ∨ w.heap.size ≤ k_) ∧ k_ ≠ gb484) ho0 (fun k_ hk_ => ⟨Or.elim hk_ (fun hs_ => hs_.1) (fun hn_ => (.inr (Nat.le_trans (below_size (by repeat (first | (with_reducible first | exact HB.out | apply below_alloc | apply pw_below_drewN | apply below_drew1 | refine below_set ?_ GE484.out) | exact HB.out))) hn_))), Or.elim hk_ (fun hs_ => hs_.2) (fun hn_ => (Kd.freshB (g := gb484) (o := .cells #[.int .i64 ((rd_T62 l1 x17_1).f0), .int .i64 ((rd_T62 l1 x17_1).f1), .int .i64 ((rd_T62 l1 x17_1).f2), .int .i64 ((rd_T62 l1 x17_1).f3)] 62 (0, 0)) (by (with_reducible repeat (first | refine blk_drewN ?_ _ | refine blk_drew ?_ | refine blk_alloc ?_ _)); exact BK484.out) k_ hn_))⟩)) (below_size (by repeat (first | (with_reducible first | exact HB.out | apply below_alloc | apply pw_below_drewN | apply below_drew1 | refine below_set ?_ GE484.out) | exact HB.out)))); have n2_ := Aside0.mk (blk_below (g := gb484) (o := .cells #[.int .i64 ((rd_T62 l1 x17_1).f0), .int .i64 ((rd_T62 l1 x17_1).f1), .int .i64 ((rd_T62 l1 x17_1).f2), .int .i64 ((rd_T62 l1 x17_1).f3)] 62 (0, 0)) (by (with_reducible repeat (first | refine blk_drewN ?_ _ | refine blk_drew ?_ | refine blk_alloc ?_ _)); exact BK484.out) hb); have n3_ := Aside0.mk (below_step (by repeat (first | (with_reducible first | exact HB.out | apply below_alloc | apply pw_below_drewN | apply below_drew1 | refine below_set ?_ GE484.out) | exact HB.out)) hb); clear HO_0; clear BK484; clear HB; have HO_0 := n0_; have HO491 := n1_; have BK484 := n2_; have HB := n3_; clear n0_ n1_ n2_ n3_; (try clear hb); (try clear hb2); (try clear hk); (try clear hi); (try clear ho0)) | ((with_reducible refine gate_dst (N := 8) rfl ?_); (try (refine gate_guard (by rfl) ?_; dsimp only)); refine box_event ?hg (N := 8) ?hd (cs := #[.int .i64 0, .int .i64 0, .int .i64 0, .int .i64 0]) (t := 62) ?hr ?_; (case hd => rfl); (case hg => rfl); (case hr => first | (go_simp; done) | (go_simp; rfl)); intro gb493 hg w21 hbox hb; have n0_ := Aside0.mk (Kd.V_below (Kd.V_elderB (by (with_reducible repeat (first | apply Kd.V_alloc | apply Kd.V_drewN | apply Kd.V_drew)); exact HO_0.out) gb493 (Nat.le_of_eq hg.symm)) hb); have n1_ := Aside0.mk (Kd.V_below (Kd.V_elderB (by (with_reducible repeat (first | apply Kd.V_alloc | apply Kd.V_drewN | apply Kd.V_drew)); exact HO491.out) gb493 (Nat.le_of_eq hg.symm)) hb); have n2_ := Aside0.mk (blk_below (g := gb484) (o := .cells #[.int .i64 ((rd_T62 l1 x17_1).f0), .int .i64 ((rd_T62 l1 x17_1).f1), .int .i64 ((rd_T62 l1 x17_1).f2), .int .i64 ((rd_T62 l1 x17_1).f3)] 62 (0, 0)) (by (with_reducible repeat (first | refine blk_drewN ?_ _ | refine blk_drew ?_ | refine blk_alloc ?_ _)); exact BK484.out) hb); have n3_ := Aside0.mk (below_step (by repeat (first | (with_reducible first | exact HB.out | apply below_alloc | apply pw_below_drewN | apply below_drew1 | refine below_set ?_ GE484.out) | exact HB.out)) hb); have n4_ := Aside0.mk (hbox); have n5_ := Aside0.mk ((by rw [hg]; exact (below_size (by repeat (first | (with_reducible first | exact HB.out | apply below_alloc | apply pw_below_drewN | apply below_drew1 | refine below_set ?_ GE484.out) | exact HB.out))) : w.heap.size ≤ gb493)); have n6_ := Aside0.mk ((by rw [hg]; exact (below_size (by repeat (first | (with_reducible first | exact HB.out | apply below_alloc | apply pw_below_drewN | apply below_drew1 | refine below_set ?_ GE484.out) | exact HB.out))) : w.heap.size ≤ gb493)); have n7_ := Aside0.mk ((by rw [hg]; exact Nat.ne_of_lt (blk_lt (g := gb484) (o := .cells #[.int .i64 ((rd_T62 l1 x17_1).f0), .int .i64 ((rd_T62 l1 x17_1).f1), .int .i64 ((rd_T62 l1 x17_1).f2), .int .i64 ((rd_T62 l1 x17_1).f3)] 62 (0, 0)) (by (with_reducible repeat (first | refine blk_drewN ?_ _ | refine blk_drew ?_ | refine blk_alloc ?_ _)); exact BK484.out)) : gb484 ≠ gb493)); have n8_ := Aside0.mk ((by rw [hg]; exact Nat.ne_of_gt (blk_lt (g := gb484) (o := .cells #[.int .i64 ((rd_T62 l1 x17_1).f0), .int .i64 ((rd_T62 l1 x17_1).f1), .int .i64 ((rd_T62 l1 x17_1).f2), .int .i64 ((rd_T62 l1 x17_1).f3)] 62 (0, 0)) (by (with_reducible repeat (first | refine blk_drewN ?_ _ | refine blk_drew ?_ | refine blk_alloc ?_ _)); exact BK484.out)) : gb493 ≠ gb484)); clear HO_0; clear HO491; clear BK484; clear HB; have HO_0 := n0_; have HO491 := n1_; have BK484 := n2_; have HB := n3_; have BK493 := n4_; have GW493 := n5_; have GE493 := n6_; have NB484_493 := n7_; have NB493_484 := n8_; clear n0_ n1_ n2_ n3_ n4_ n5_ n6_ n7_ n8_; clear hb hbox hg; have hnb22 := NB493_484.out; have hnc22 := NB484_493.out; have hcz23_0 : w21.cell? ⟨gb493, 0, none⟩ = some (.int .i64 0) := (blk_cell BK493.out 0).trans rfl; have hcz23_1 : w21.cell? ⟨gb493, 1, none⟩ = some (.int .i64 0) := (blk_cell BK493.out 1).trans rfl; have hcz23_2 : w21.cell? ⟨gb493, 2, none⟩ = some (.int .i64 0) := (blk_cell BK493.out 2).trans rfl; have hcz23_3 : w21.cell? ⟨gb493, 3, none⟩ = some (.int .i64 0) := (blk_cell BK493.out 3).trans rfl; have hfz23_0 := blk_frozen BK493.out 0; have hfz23_1 := blk_frozen BK493.out 1; have hfz23_2 := blk_frozen BK493.out 2; have hfz23_3 := blk_frozen BK493.out 3; have hcz24_0 : w21.cell? ⟨gb484, 0, none⟩ = some (.int .i64 ((rd_T62 l1 x17_1).f0)) := (blk_cell BK484.out 0).trans rfl; have hcz24_1 : w21.cell? ⟨gb484, 1, none⟩ = some (.int .i64 ((rd_T62 l1 x17_1).f1)) := (blk_cell BK484.out 1).trans rfl; have hcz24_2 : w21.cell? ⟨gb484, 2, none⟩ = some (.int .i64 ((rd_T62 l1 x17_1).f2)) := (blk_cell BK484.out 2).trans rfl; have hcz24_3 : w21.cell? ⟨gb484, 3, none⟩ = some (.int .i64 ((rd_T62 l1 x17_1).f3)) := (blk_cell BK484.out 3).trans rfl; have hfz24_0 := blk_frozen BK484.out 0; have hfz24_1 := blk_frozen BK484.out 1; have hfz24_2 := blk_frozen BK484.out 2; have hfz24_3 := blk_frozen BK484.out 3))
           go_ret
           exact ⟨by first | rfl | (simp [errW_none, errW_some] <;> rfl) | (simp only [← hji3]; first | rfl | (simp [errW_none, errW_some] <;> rfl)) | (simp [*, errW_none, errW_some] <;> rfl), by repeat (first | (with_reducible first | exact HB.out | apply below_alloc | apply pw_below_drewN | apply below_drew1 | refine below_set ?_ GE484.out | refine below_set ?_ GE493.out) | exact HB.out)⟩
          ·rw [if_neg c17] at H
           have c17b0 : (!(t485 == ((rd_T62 l1 x17_1).f0)) || (!(t486 == ((rd_T62 l1 x17_1).f1)) || (!(t487 == ((rd_T62 l1 x17_1).f2)) || (!(t488 == ((rd_T62 l1 x17_1).f3)))))) = false := by simpa using c17
           clear c17
           by_cases c25 : 0 ≤ ((rd_T62 l1 x17_1).f1)
           ·rw [if_pos c25] at H
            have c25b0 := eq_true c25
            have c25b1 : decide (0 ≤ ((rd_T62 l1 x17_1).f1)) = true := decide_eq_true c25
            clear c25
            obtain ⟨ji26, hji26⟩ : ∃ j_ : Int, (shl .i64 1 ((rd_T62 l1 x17_1).f1)) = j_ := ⟨_, rfl⟩
            replace H : (lampblackref07_Reduces.l0 kj6 t489 (Go.bits .andNot .i64 x5_1 (ji26)) l1 (l1.length : Int) (wrap64 (x17_1 + 1))) = some r := by first | (rw [hji26] at H; exact H) | (simp only [hji26] at H ⊢; exact H)
            (try rw [hji26] at A15)
            have hji26_ : (IntKind.i64.wrap (1 * 2 ^ min ((rd_T62 l1 x17_1).f1).toNat 64)) = ji26 := hji26
            have hji26z : ((rd_T62 l1 x17_1).f1) ≤ 64 → (IntKind.i64.wrap (1 * 2 ^ ((rd_T62 l1 x17_1).f1).toNat)) = ji26 := shl_small hji26
            have hji26u : (IntKind.i64.wrap (2 ^ min ((rd_T62 l1 x17_1).f1).toNat 64)) = ji26 := by have h_ := hji26_; rw [Int.one_mul] at h_; exact h_
            have hji26v : ((rd_T62 l1 x17_1).f1) ≤ 64 → (IntKind.i64.wrap (2 ^ ((rd_T62 l1 x17_1).f1).toNat)) = ji26 := fun hle_ => by have h_ := hji26z hle_; rw [Int.one_mul] at h_; exact h_
            have hji26y : (wrap64 (1 * 2 ^ min ((rd_T62 l1 x17_1).f1).toNat 64)) = ji26 := (i64_w _).symm.trans hji26_
            have hji26x : ((rd_T62 l1 x17_1).f1) ≤ 64 → (wrap64 (1 * 2 ^ ((rd_T62 l1 x17_1).f1).toNat)) = ji26 := fun h_ => (i64_w _).symm.trans (hji26z h_)
            have H' := Aside0.mk H
            clear H
            have hcz27_0 : wc.cell? ⟨gb484, 0, none⟩ = some (.int .i64 ((rd_T62 l1 x17_1).f0)) := (blk_cell BK484.out 0).trans rfl
            have hcz27_1 : wc.cell? ⟨gb484, 1, none⟩ = some (.int .i64 ((rd_T62 l1 x17_1).f1)) := (blk_cell BK484.out 1).trans rfl
            have hcz27_2 : wc.cell? ⟨gb484, 2, none⟩ = some (.int .i64 ((rd_T62 l1 x17_1).f2)) := (blk_cell BK484.out 2).trans rfl
            have hcz27_3 : wc.cell? ⟨gb484, 3, none⟩ = some (.int .i64 ((rd_T62 l1 x17_1).f3)) := (blk_cell BK484.out 3).trans rfl
            have hfz27_0 := blk_frozen BK484.out 0
            have hfz27_1 := blk_frozen BK484.out 1
            have hfz27_2 := blk_frozen BK484.out 2
            have hfz27_3 := blk_frozen BK484.out 3
            obtain ⟨Ao28, co28, eo28⟩ := Kd.V_slice HO_0.out
            subst eo28
            go_wp2_with (first | ((with_reducible refine gate_callee (f := 81) rfl ?_); refine goesL_ (some 36) rfl rfl Tryd.func81 (by kernel_rfl) rfl #[.slice Ao28 x0_1.length co28, .int .i64 x5_1, .int .i64 ((rd_T62 l1 x17_1).f1)] rfl (Qls) ?_; (with_reducible refine (lampblackref07_reduced.calls kj6 (fun k_ => ((P0_ k_ ∨ w.heap.size ≤ k_) ∧ k_ ≠ gb484)) _ _ x0_1 x5_1 ((rd_T62 l1 x17_1).f1) t485 t486 t487 t488 t489 true _ ?side1 A15.out).mono ?_); (case side1 => exact HO_0.out); rintro e w29 ⟨v490, rfl, ho0, hb⟩; refine ⟨_, rfl, ?_⟩; have n0_ := Aside0.mk (Kd.V_below (by (with_reducible repeat (first | apply Kd.V_alloc | apply Kd.V_drewN | apply Kd.V_drew)); exact HO_0.out) hb); have n1_ := Aside0.mk (Kd.V_lower (Kd.V_mono (ok' := fun k_ => (P0_ k_ ∨ w.heap.size ≤ k_) ∧ k_ ≠ gb484) ho0 (fun k_ hk_ => ⟨Or.elim hk_ (fun hs_ => hs_.1) (fun hn_ => (.inr (Nat.le_trans (below_size (by repeat (first | (with_reducible first | exact HB.out | apply below_alloc | apply pw_below_drewN | apply below_drew1 | refine below_set ?_ GE484.out) | exact HB.out))) hn_))), Or.elim hk_ (fun hs_ => hs_.2) (fun hn_ => (Kd.freshB (g := gb484) (o := .cells #[.int .i64 ((rd_T62 l1 x17_1).f0), .int .i64 ((rd_T62 l1 x17_1).f1), .int .i64 ((rd_T62 l1 x17_1).f2), .int .i64 ((rd_T62 l1 x17_1).f3)] 62 (0, 0)) (by (with_reducible repeat (first | refine blk_drewN ?_ _ | refine blk_drew ?_ | refine blk_alloc ?_ _)); exact BK484.out) k_ hn_))⟩)) (below_size (by repeat (first | (with_reducible first | exact HB.out | apply below_alloc | apply pw_below_drewN | apply below_drew1 | refine below_set ?_ GE484.out) | exact HB.out)))); have n2_ := Aside0.mk (blk_below (g := gb484) (o := .cells #[.int .i64 ((rd_T62 l1 x17_1).f0), .int .i64 ((rd_T62 l1 x17_1).f1), .int .i64 ((rd_T62 l1 x17_1).f2), .int .i64 ((rd_T62 l1 x17_1).f3)] 62 (0, 0)) (by (with_reducible repeat (first | refine blk_drewN ?_ _ | refine blk_drew ?_ | refine blk_alloc ?_ _)); exact BK484.out) hb); have n3_ := Aside0.mk (below_step (by repeat (first | (with_reducible first | exact HB.out | apply below_alloc | apply pw_below_drewN | apply below_drew1 | refine below_set ?_ GE484.out) | exact HB.out)) hb); clear HO_0; clear BK484; clear HB; have HO_0 := n0_; have HO491 := n1_; have BK484 := n2_; have HB := n3_; clear n0_ n1_ n2_ n3_; (try clear hb); (try clear hb2); (try clear hk); (try clear hi); (try clear ho0)) | ((with_reducible refine gate_dst (N := 8) rfl ?_); (try (refine gate_guard (by rfl) ?_; dsimp only)); refine box_event ?hg (N := 8) ?hd (cs := #[.int .i64 0, .int .i64 0, .int .i64 0, .int .i64 0]) (t := 62) ?hr ?_; (case hd => rfl); (case hg => rfl); (case hr => first | (go_simp; done) | (go_simp; rfl)); intro gb493 hg w30 hbox hb; have n0_ := Aside0.mk (Kd.V_below (Kd.V_elderB (by (with_reducible repeat (first | apply Kd.V_alloc | apply Kd.V_drewN | apply Kd.V_drew)); exact HO_0.out) gb493 (Nat.le_of_eq hg.symm)) hb); have n1_ := Aside0.mk (Kd.V_below (Kd.V_elderB (by (with_reducible repeat (first | apply Kd.V_alloc | apply Kd.V_drewN | apply Kd.V_drew)); exact HO491.out) gb493 (Nat.le_of_eq hg.symm)) hb); have n2_ := Aside0.mk (blk_below (g := gb484) (o := .cells #[.int .i64 ((rd_T62 l1 x17_1).f0), .int .i64 ((rd_T62 l1 x17_1).f1), .int .i64 ((rd_T62 l1 x17_1).f2), .int .i64 ((rd_T62 l1 x17_1).f3)] 62 (0, 0)) (by (with_reducible repeat (first | refine blk_drewN ?_ _ | refine blk_drew ?_ | refine blk_alloc ?_ _)); exact BK484.out) hb); have n3_ := Aside0.mk (below_step (by repeat (first | (with_reducible first | exact HB.out | apply below_alloc | apply pw_below_drewN | apply below_drew1 | refine below_set ?_ GE484.out) | exact HB.out)) hb); have n4_ := Aside0.mk (hbox); have n5_ := Aside0.mk ((by rw [hg]; exact (below_size (by repeat (first | (with_reducible first | exact HB.out | apply below_alloc | apply pw_below_drewN | apply below_drew1 | refine below_set ?_ GE484.out) | exact HB.out))) : w.heap.size ≤ gb493)); have n6_ := Aside0.mk ((by rw [hg]; exact (below_size (by repeat (first | (with_reducible first | exact HB.out | apply below_alloc | apply pw_below_drewN | apply below_drew1 | refine below_set ?_ GE484.out) | exact HB.out))) : w.heap.size ≤ gb493)); have n7_ := Aside0.mk ((by rw [hg]; exact Nat.ne_of_lt (blk_lt (g := gb484) (o := .cells #[.int .i64 ((rd_T62 l1 x17_1).f0), .int .i64 ((rd_T62 l1 x17_1).f1), .int .i64 ((rd_T62 l1 x17_1).f2), .int .i64 ((rd_T62 l1 x17_1).f3)] 62 (0, 0)) (by (with_reducible repeat (first | refine blk_drewN ?_ _ | refine blk_drew ?_ | refine blk_alloc ?_ _)); exact BK484.out)) : gb484 ≠ gb493)); have n8_ := Aside0.mk ((by rw [hg]; exact Nat.ne_of_gt (blk_lt (g := gb484) (o := .cells #[.int .i64 ((rd_T62 l1 x17_1).f0), .int .i64 ((rd_T62 l1 x17_1).f1), .int .i64 ((rd_T62 l1 x17_1).f2), .int .i64 ((rd_T62 l1 x17_1).f3)] 62 (0, 0)) (by (with_reducible repeat (first | refine blk_drewN ?_ _ | refine blk_drew ?_ | refine blk_alloc ?_ _)); exact BK484.out)) : gb493 ≠ gb484)); clear HO_0; clear HO491; clear BK484; clear HB; have HO_0 := n0_; have HO491 := n1_; have BK484 := n2_; have HB := n3_; have BK493 := n4_; have GW493 := n5_; have GE493 := n6_; have NB484_493 := n7_; have NB493_484 := n8_; clear n0_ n1_ n2_ n3_ n4_ n5_ n6_ n7_ n8_; clear hb hbox hg; have hnb31 := NB493_484.out; have hnc31 := NB484_493.out; have hcz32_0 : w30.cell? ⟨gb493, 0, none⟩ = some (.int .i64 0) := (blk_cell BK493.out 0).trans rfl; have hcz32_1 : w30.cell? ⟨gb493, 1, none⟩ = some (.int .i64 0) := (blk_cell BK493.out 1).trans rfl; have hcz32_2 : w30.cell? ⟨gb493, 2, none⟩ = some (.int .i64 0) := (blk_cell BK493.out 2).trans rfl; have hcz32_3 : w30.cell? ⟨gb493, 3, none⟩ = some (.int .i64 0) := (blk_cell BK493.out 3).trans rfl; have hfz32_0 := blk_frozen BK493.out 0; have hfz32_1 := blk_frozen BK493.out 1; have hfz32_2 := blk_frozen BK493.out 2; have hfz32_3 := blk_frozen BK493.out 3; have hcz33_0 : w30.cell? ⟨gb484, 0, none⟩ = some (.int .i64 ((rd_T62 l1 x17_1).f0)) := (blk_cell BK484.out 0).trans rfl; have hcz33_1 : w30.cell? ⟨gb484, 1, none⟩ = some (.int .i64 ((rd_T62 l1 x17_1).f1)) := (blk_cell BK484.out 1).trans rfl; have hcz33_2 : w30.cell? ⟨gb484, 2, none⟩ = some (.int .i64 ((rd_T62 l1 x17_1).f2)) := (blk_cell BK484.out 2).trans rfl; have hcz33_3 : w30.cell? ⟨gb484, 3, none⟩ = some (.int .i64 ((rd_T62 l1 x17_1).f3)) := (blk_cell BK484.out 3).trans rfl; have hfz33_0 := blk_frozen BK484.out 0; have hfz33_1 := blk_frozen BK484.out 1; have hfz33_2 := blk_frozen BK484.out 2; have hfz33_3 := blk_frozen BK484.out 3))
            go_roundg kj6
            case measure => have := HK1.out; have := HJ6.out; omega
            case rel => exact ⟨(t489), (Go.bits .andNot .i64 x5_1 (ji26)), (wrap64 (x17_1 + 1)), (by first | rfl | (simp; done) | (simp only [← hji26] <;> (first | rfl | simp)) | (simp [*]; done)), (by first | rfl | (simp; done) | (simp [*]; done)), H', ⟨by have := HK1.out; have := HJ6.out; omega⟩, ⟨by (with_reducible repeat (first | apply Kd.V_alloc | apply Kd.V_drewN | apply Kd.V_drew)); exact Kd.V_mono (Kd.V_far (p := ⟨gb493, 3, none⟩) (Kd.V_far (p := ⟨gb493, 2, none⟩) (Kd.V_far (p := ⟨gb493, 1, none⟩) (Kd.V_far (p := ⟨gb493, 0, none⟩) (Kd.V_mono HO491.out (fun k_ hk => (⟨hk, hk.2⟩ : _ ∧ k_ ≠ gb493))) (fun _ hk => hk.2) (.int .i64 t485)) (fun _ hk => hk.2) (.int .i64 t486)) (fun _ hk => hk.2) (.int .i64 t487)) (fun _ hk => hk.2) (.int .i64 t488)) (fun _ hk => hk.1.1.1)⟩, ⟨by repeat (first | (with_reducible first | exact HB.out | apply below_alloc | apply pw_below_drewN | apply below_drew1 | refine below_set ?_ GE484.out | refine below_set ?_ GE493.out) | exact HB.out)⟩⟩
           ·rw [if_neg c25] at H
            exact absurd H (by simp)
         ·replace c16 := Bool.eq_false_iff.mpr c16
          subst c16
          have H1 : (some false) = some r := by rw [if_neg (show ¬ (false = true) by decide)] at H; exact H
          clear H
          have H := H1
          clear H1
          obtain rfl := Option.some.inj H
          have hcz34_0 : wc.cell? ⟨gb484, 0, none⟩ = some (.int .i64 ((rd_T62 l1 x17_1).f0)) := (blk_cell BK484.out 0).trans rfl
          have hcz34_1 : wc.cell? ⟨gb484, 1, none⟩ = some (.int .i64 ((rd_T62 l1 x17_1).f1)) := (blk_cell BK484.out 1).trans rfl
          have hcz34_2 : wc.cell? ⟨gb484, 2, none⟩ = some (.int .i64 ((rd_T62 l1 x17_1).f2)) := (blk_cell BK484.out 2).trans rfl
          have hcz34_3 : wc.cell? ⟨gb484, 3, none⟩ = some (.int .i64 ((rd_T62 l1 x17_1).f3)) := (blk_cell BK484.out 3).trans rfl
          have hfz34_0 := blk_frozen BK484.out 0
          have hfz34_1 := blk_frozen BK484.out 1
          have hfz34_2 := blk_frozen BK484.out 2
          have hfz34_3 := blk_frozen BK484.out 3
          obtain ⟨Ao35, co35, eo35⟩ := Kd.V_slice HO_0.out
          subst eo35
          go_wp2_with (first | ((with_reducible refine gate_callee (f := 81) rfl ?_); refine goesL_ (some 36) rfl rfl Tryd.func81 (by kernel_rfl) rfl #[.slice Ao35 x0_1.length co35, .int .i64 x5_1, .int .i64 ((rd_T62 l1 x17_1).f1)] rfl (Qls) ?_; (with_reducible refine (lampblackref07_reduced.calls kj6 (fun k_ => ((P0_ k_ ∨ w.heap.size ≤ k_) ∧ k_ ≠ gb484)) _ _ x0_1 x5_1 ((rd_T62 l1 x17_1).f1) t485 t486 t487 t488 t489 false _ ?side1 A15.out).mono ?_); (case side1 => exact HO_0.out); rintro e w36 ⟨v490, rfl, ho0, hb⟩; refine ⟨_, rfl, ?_⟩; have n0_ := Aside0.mk (Kd.V_below (by (with_reducible repeat (first | apply Kd.V_alloc | apply Kd.V_drewN | apply Kd.V_drew)); exact HO_0.out) hb); have n1_ := Aside0.mk (Kd.V_lower (Kd.V_mono (ok' := fun k_ => (P0_ k_ ∨ w.heap.size ≤ k_) ∧ k_ ≠ gb484) ho0 (fun k_ hk_ => ⟨Or.elim hk_ (fun hs_ => hs_.1) (fun hn_ => (.inr (Nat.le_trans (below_size (by repeat (first | (with_reducible first | exact HB.out | apply below_alloc | apply pw_below_drewN | apply below_drew1 | refine below_set ?_ GE484.out) | exact HB.out))) hn_))), Or.elim hk_ (fun hs_ => hs_.2) (fun hn_ => (Kd.freshB (g := gb484) (o := .cells #[.int .i64 ((rd_T62 l1 x17_1).f0), .int .i64 ((rd_T62 l1 x17_1).f1), .int .i64 ((rd_T62 l1 x17_1).f2), .int .i64 ((rd_T62 l1 x17_1).f3)] 62 (0, 0)) (by (with_reducible repeat (first | refine blk_drewN ?_ _ | refine blk_drew ?_ | refine blk_alloc ?_ _)); exact BK484.out) k_ hn_))⟩)) (below_size (by repeat (first | (with_reducible first | exact HB.out | apply below_alloc | apply pw_below_drewN | apply below_drew1 | refine below_set ?_ GE484.out) | exact HB.out)))); have n2_ := Aside0.mk (blk_below (g := gb484) (o := .cells #[.int .i64 ((rd_T62 l1 x17_1).f0), .int .i64 ((rd_T62 l1 x17_1).f1), .int .i64 ((rd_T62 l1 x17_1).f2), .int .i64 ((rd_T62 l1 x17_1).f3)] 62 (0, 0)) (by (with_reducible repeat (first | refine blk_drewN ?_ _ | refine blk_drew ?_ | refine blk_alloc ?_ _)); exact BK484.out) hb); have n3_ := Aside0.mk (below_step (by repeat (first | (with_reducible first | exact HB.out | apply below_alloc | apply pw_below_drewN | apply below_drew1 | refine below_set ?_ GE484.out) | exact HB.out)) hb); clear HO_0; clear BK484; clear HB; have HO_0 := n0_; have HO491 := n1_; have BK484 := n2_; have HB := n3_; clear n0_ n1_ n2_ n3_; (try clear hb); (try clear hb2); (try clear hk); (try clear hi); (try clear ho0)) | ((with_reducible refine gate_dst (N := 8) rfl ?_); (try (refine gate_guard (by rfl) ?_; dsimp only)); refine box_event ?hg (N := 8) ?hd (cs := #[.int .i64 0, .int .i64 0, .int .i64 0, .int .i64 0]) (t := 62) ?hr ?_; (case hd => rfl); (case hg => rfl); (case hr => first | (go_simp; done) | (go_simp; rfl)); intro gb493 hg w37 hbox hb; have n0_ := Aside0.mk (Kd.V_below (Kd.V_elderB (by (with_reducible repeat (first | apply Kd.V_alloc | apply Kd.V_drewN | apply Kd.V_drew)); exact HO_0.out) gb493 (Nat.le_of_eq hg.symm)) hb); have n1_ := Aside0.mk (Kd.V_below (Kd.V_elderB (by (with_reducible repeat (first | apply Kd.V_alloc | apply Kd.V_drewN | apply Kd.V_drew)); exact HO491.out) gb493 (Nat.le_of_eq hg.symm)) hb); have n2_ := Aside0.mk (blk_below (g := gb484) (o := .cells #[.int .i64 ((rd_T62 l1 x17_1).f0), .int .i64 ((rd_T62 l1 x17_1).f1), .int .i64 ((rd_T62 l1 x17_1).f2), .int .i64 ((rd_T62 l1 x17_1).f3)] 62 (0, 0)) (by (with_reducible repeat (first | refine blk_drewN ?_ _ | refine blk_drew ?_ | refine blk_alloc ?_ _)); exact BK484.out) hb); have n3_ := Aside0.mk (below_step (by repeat (first | (with_reducible first | exact HB.out | apply below_alloc | apply pw_below_drewN | apply below_drew1 | refine below_set ?_ GE484.out) | exact HB.out)) hb); have n4_ := Aside0.mk (hbox); have n5_ := Aside0.mk ((by rw [hg]; exact (below_size (by repeat (first | (with_reducible first | exact HB.out | apply below_alloc | apply pw_below_drewN | apply below_drew1 | refine below_set ?_ GE484.out) | exact HB.out))) : w.heap.size ≤ gb493)); have n6_ := Aside0.mk ((by rw [hg]; exact (below_size (by repeat (first | (with_reducible first | exact HB.out | apply below_alloc | apply pw_below_drewN | apply below_drew1 | refine below_set ?_ GE484.out) | exact HB.out))) : w.heap.size ≤ gb493)); have n7_ := Aside0.mk ((by rw [hg]; exact Nat.ne_of_lt (blk_lt (g := gb484) (o := .cells #[.int .i64 ((rd_T62 l1 x17_1).f0), .int .i64 ((rd_T62 l1 x17_1).f1), .int .i64 ((rd_T62 l1 x17_1).f2), .int .i64 ((rd_T62 l1 x17_1).f3)] 62 (0, 0)) (by (with_reducible repeat (first | refine blk_drewN ?_ _ | refine blk_drew ?_ | refine blk_alloc ?_ _)); exact BK484.out)) : gb484 ≠ gb493)); have n8_ := Aside0.mk ((by rw [hg]; exact Nat.ne_of_gt (blk_lt (g := gb484) (o := .cells #[.int .i64 ((rd_T62 l1 x17_1).f0), .int .i64 ((rd_T62 l1 x17_1).f1), .int .i64 ((rd_T62 l1 x17_1).f2), .int .i64 ((rd_T62 l1 x17_1).f3)] 62 (0, 0)) (by (with_reducible repeat (first | refine blk_drewN ?_ _ | refine blk_drew ?_ | refine blk_alloc ?_ _)); exact BK484.out)) : gb493 ≠ gb484)); clear HO_0; clear HO491; clear BK484; clear HB; have HO_0 := n0_; have HO491 := n1_; have BK484 := n2_; have HB := n3_; have BK493 := n4_; have GW493 := n5_; have GE493 := n6_; have NB484_493 := n7_; have NB493_484 := n8_; clear n0_ n1_ n2_ n3_ n4_ n5_ n6_ n7_ n8_; clear hb hbox hg; have hnb38 := NB493_484.out; have hnc38 := NB484_493.out; have hcz39_0 : w37.cell? ⟨gb493, 0, none⟩ = some (.int .i64 0) := (blk_cell BK493.out 0).trans rfl; have hcz39_1 : w37.cell? ⟨gb493, 1, none⟩ = some (.int .i64 0) := (blk_cell BK493.out 1).trans rfl; have hcz39_2 : w37.cell? ⟨gb493, 2, none⟩ = some (.int .i64 0) := (blk_cell BK493.out 2).trans rfl; have hcz39_3 : w37.cell? ⟨gb493, 3, none⟩ = some (.int .i64 0) := (blk_cell BK493.out 3).trans rfl; have hfz39_0 := blk_frozen BK493.out 0; have hfz39_1 := blk_frozen BK493.out 1; have hfz39_2 := blk_frozen BK493.out 2; have hfz39_3 := blk_frozen BK493.out 3))
          go_ret
          exact ⟨by first | rfl | (simp [errW_none, errW_some] <;> rfl) | (simp only [← hji3]; first | rfl | (simp [errW_none, errW_some] <;> rfl)) | (simp [*, errW_none, errW_some] <;> rfl), by repeat (first | (with_reducible first | exact HB.out | apply below_alloc | apply pw_below_drewN | apply below_drew1 | refine below_set ?_ GE484.out | refine below_set ?_ GE493.out) | exact HB.out)⟩
     ·rw [if_neg c6] at H
      exact absurd H (by simp)
    ·rw [if_neg c5] at H
     exact absurd H (by simp)
   ·rw [if_neg c4] at H
    have c4b0 : decide (x17_1 < (l1.length : Int)) = false := decide_eq_false c4
    clear c4
    obtain rfl := Option.some.inj H
    go_wp2
    go_ret
    exact ⟨by first | rfl | (simp [errW_none, errW_some] <;> rfl) | (simp only [← hji3]; first | rfl | (simp [errW_none, errW_some] <;> rfl)) | (simp [*, errW_none, errW_some] <;> rfl), by repeat (first | (with_reducible first | exact HB.out | apply below_alloc | apply pw_below_drewN | apply below_drew1) | exact HB.out)⟩
end Go.Proofs.YtjloppfdagfpmaaDoor.X
end
section
namespace Go.Proofs.YtjloppfdagfpmaaDoor.X
open Go.RowKit YtjloppfdagfpmaaDoorW.PrintWords YtjloppfdagfpmaaDoorW.PrintLast YtjloppfdagfpmaaDoorW.PrintMore
attribute [local go_sem] max2_int min2_int max_two min_two max_three min_three max_four min_four
attribute [local go_sem high] eqA62
/-! ### lampblackref07_Step: function 44 -/
def lampblackref07_Step.l0 : Nat → List (S62) → List (S62) → Int → Int → Option (Bool)
 | 0, _, _, _, _ => none
 | k + 1, x0, x1, x12, x13 => if x13 < x12 then (if 0 ≤ x13 then (if x13 < (x0.length : Int) then (if x13 < (x1.length : Int) then (if (!(((rd_T62 x0 x13).f0) == ((rd_T62 x1 x13).f0)) || (!(((rd_T62 x0 x13).f1) == ((rd_T62 x1 x13).f1)) || (!(((rd_T62 x0 x13).f2) == ((rd_T62 x1 x13).f2)) || (!(((rd_T62 x0 x13).f3) == ((rd_T62 x1 x13).f3)))))) = true then (some false) else (lampblackref07_Step.l0 k x0 x1 x12 (wrap64 (x13 + 1)))) else (none)) else (none)) else (none)) else (some true)
def lampblackref07_Step.f (k : Nat) (l0 : List (S62)) (l1 : List (S62)) : Option (Bool) := if (l0.length : Int) = (l1.length : Int) then (lampblackref07_Step.l0 k l0 l1 (l0.length : Int) 0) else (some false)
set_option maxHeartbeats 8000000 in
set_option maxRecDepth 100000 in
theorem lampblackref07_Step.calls (k : Nat) (A0 : Option Addr) (c0 : Nat) (l0 : List (S62)) (A1 : Option Addr) (c1 : Nat) (l1 : List (S62)) (r : Bool) (w : World) (hr0 : Kd.C k62 w A0 l0.length l0) (hc0 : l0.length ≤ c0) (hr1 : Kd.C k62 w A1 l1.length l1) (hc1 : l1.length ≤ c1) (h : lampblackref07_Step.f k l0 l1 = some r) :
  Calls Tryd.prog 44 #[.slice A0 l0.length c0, .slice A1 l1.length c1] w fun e w' => e = .returned (.bool r) ∧ Drawn0 w w' := by
 have hu62 := Tryd.underlying62
 have HR0 := Aside0.mk hr0
 have HC0 := Aside0.mk hc0
 clear hr0 hc0
 have HR1 := Aside0.mk hr1
 have HC1 := Aside0.mk hc1
 clear hr1 hc1
 have H : (if (l0.length : Int) = (l1.length : Int) then (lampblackref07_Step.l0 k l0 l1 (l0.length : Int) 0) else (some false)) = some r := h
 clear h
 by_cases c3 : (l0.length : Int) = (l1.length : Int)
 ·rw [if_pos c3] at H
  have c3b0 : ((l0.length : Int) == (l1.length : Int)) = true := beq_iff_eq.mpr c3
  have c3b1 : ((l0.length : Int) != (l1.length : Int)) = false := bne_eq_false_iff_eq.mpr c3
  have c3b2 : (l0.length == l1.length) = true := by first | simpa using c3 | (simp at c3 ⊢; omega)
  clear c3
  have H' := Aside0.mk H
  clear H
  go_enter Tryd.func44, Tryd.ntmps44
  go_wp2
  repeat (go_quiet (fail); try go_wp2)
  go_loopg [13] k (fun kq v13 w' => ∃ (x13_1 : Int), v13 = .int .i64 x13_1 ∧ Aside0 (lampblackref07_Step.l0 kq l0 l1 (l0.length : Int) x13_1 = some r) ∧ Aside0 (kq ≤ k) ∧ Drawn0 w w')
  case atStart => exact ⟨(0), (by first | rfl | (simp; done) | (simp [*]; done)), H', ⟨Nat.le_refl _⟩, by repeat (first | exact Drawn0.refl _ | apply Drawn0.step)⟩
  case round =>
   clear H'
   try clear c1
   try clear p2
   try clear c3
   try clear c3b0
   try clear c3b1
   try clear c3b2
   obtain ⟨x13_1, rfl, HA, HK1, ⟨m1, rfl⟩⟩ := hrel
   cases gk with
   | zero => exact absurd HA.out (by simp [lampblackref07_Step.l0])
   | succ k1 =>
    have H := HA.out
    clear HA
    simp only [lampblackref07_Step.l0] at H
    by_cases c4 : x13_1 < (l0.length : Int)
    ·rw [if_pos c4] at H
     have c4b0 : decide (x13_1 < (l0.length : Int)) = true := decide_eq_true c4
     clear c4
     by_cases c5 : 0 ≤ x13_1
     ·rw [if_pos c5] at H
      have c5b0 : decide (0 ≤ x13_1) = true := decide_eq_true c5
      clear c5
      by_cases c6 : x13_1 < (l0.length : Int)
      ·rw [if_pos c6] at H
       have c6b0 : decide (x13_1 < (l0.length : Int)) = true := decide_eq_true c6
       clear c6
       by_cases c7 : x13_1 < (l1.length : Int)
       ·rw [if_pos c7] at H
        have c7b0 : decide (x13_1 < (l1.length : Int)) = true := decide_eq_true c7
        clear c7
        by_cases c8 : (!(((rd_T62 l0 x13_1).f0) == ((rd_T62 l1 x13_1).f0)) || (!(((rd_T62 l0 x13_1).f1) == ((rd_T62 l1 x13_1).f1)) || (!(((rd_T62 l0 x13_1).f2) == ((rd_T62 l1 x13_1).f2)) || (!(((rd_T62 l0 x13_1).f3) == ((rd_T62 l1 x13_1).f3)))))) = true
        ·rw [if_pos c8] at H
         have c8b0 : (!(((rd_T62 l0 x13_1).f0) == ((rd_T62 l1 x13_1).f0)) || (!(((rd_T62 l0 x13_1).f1) == ((rd_T62 l1 x13_1).f1)) || (!(((rd_T62 l0 x13_1).f2) == ((rd_T62 l1 x13_1).f2)) || (!(((rd_T62 l0 x13_1).f3) == ((rd_T62 l1 x13_1).f3)))))) = true := c8
         clear c8
         obtain rfl := Option.some.inj H
         have p476 : 0 ≤ (x13_1 : Int) := of_decide_eq_true (by first | (with_reducible assumption) | assumption)
         have q476 : x13_1 < (l0.length : Int) := of_decide_eq_true (by first | (with_reducible assumption) | assumption)
         obtain ⟨ad476, e476, hx476_0, hx476_1, hx476_2, hx476_3⟩ := at_T62 HR0.out x13_1 p476 q476
         cases e476
         replace p476 := eq_true p476
         replace q476 := eq_true q476
         have p477 : 0 ≤ (x13_1 : Int) := of_decide_eq_true (by first | (with_reducible assumption) | assumption)
         have q477 : x13_1 < (l1.length : Int) := of_decide_eq_true (by first | (with_reducible assumption) | assumption)
         obtain ⟨ad477, e477, hx477_0, hx477_1, hx477_2, hx477_3⟩ := at_T62 HR1.out x13_1 p477 q477
         cases e477
         replace p477 := eq_true p477
         replace q477 := eq_true q477
         go_wp2
         repeat (go_quiet (fail); try go_wp2)
         go_ret
         exact ⟨by first | rfl | (simp; done) | (simp [*]; done), by repeat (first | exact Drawn0.refl _ | apply Drawn0.step)⟩
        ·rw [if_neg c8] at H
         have c8b0 : (!(((rd_T62 l0 x13_1).f0) == ((rd_T62 l1 x13_1).f0)) || (!(((rd_T62 l0 x13_1).f1) == ((rd_T62 l1 x13_1).f1)) || (!(((rd_T62 l0 x13_1).f2) == ((rd_T62 l1 x13_1).f2)) || (!(((rd_T62 l0 x13_1).f3) == ((rd_T62 l1 x13_1).f3)))))) = false := by simpa using c8
         clear c8
         have H' := Aside0.mk H
         clear H
         have p476 : 0 ≤ (x13_1 : Int) := of_decide_eq_true (by first | (with_reducible assumption) | assumption)
         have q476 : x13_1 < (l0.length : Int) := of_decide_eq_true (by first | (with_reducible assumption) | assumption)
         obtain ⟨ad476, e476, hx476_0, hx476_1, hx476_2, hx476_3⟩ := at_T62 HR0.out x13_1 p476 q476
         cases e476
         replace p476 := eq_true p476
         replace q476 := eq_true q476
         have p477 : 0 ≤ (x13_1 : Int) := of_decide_eq_true (by first | (with_reducible assumption) | assumption)
         have q477 : x13_1 < (l1.length : Int) := of_decide_eq_true (by first | (with_reducible assumption) | assumption)
         obtain ⟨ad477, e477, hx477_0, hx477_1, hx477_2, hx477_3⟩ := at_T62 HR1.out x13_1 p477 q477
         cases e477
         replace p477 := eq_true p477
         replace q477 := eq_true q477
         go_wp2
         repeat (go_quiet (fail); try go_wp2)
         go_roundg k1
         case measure => have := HK1.out; omega
         case rel => exact ⟨(wrap64 (x13_1 + 1)), (by first | rfl | (simp; done) | (simp [*]; done)), H', ⟨by have := HK1.out; omega⟩, by repeat (first | exact Drawn0.refl _ | apply Drawn0.step)⟩
       ·rw [if_neg c7] at H
        exact absurd H (by simp)
      ·rw [if_neg c6] at H
       exact absurd H (by simp)
     ·rw [if_neg c5] at H
      exact absurd H (by simp)
    ·rw [if_neg c4] at H
     have c4b0 : decide (x13_1 < (l0.length : Int)) = false := decide_eq_false c4
     clear c4
     obtain rfl := Option.some.inj H
     go_wp2
     repeat (go_quiet (fail); try go_wp2)
     go_ret
     exact ⟨by first | rfl | (simp; done) | (simp [*]; done), by repeat (first | exact Drawn0.refl _ | apply Drawn0.step)⟩
 ·rw [if_neg c3] at H
  have c3b0 : ((l0.length : Int) == (l1.length : Int)) = false := beq_eq_false_iff_ne.mpr c3
  have c3b1 : ((l0.length : Int) != (l1.length : Int)) = true := bne_iff_ne.mpr c3
  have c3b2 : (l0.length == l1.length) = false := by first | simpa using c3 | (simp at c3 ⊢; omega)
  obtain rfl := Option.some.inj H
  go_enter Tryd.func44, Tryd.ntmps44
  go_wp2
  repeat (go_quiet (fail); try go_wp2)
  go_ret
  exact ⟨by first | rfl | (simp; done) | (simp [*]; done), by repeat (first | exact Drawn0.refl _ | apply Drawn0.step)⟩
end Go.Proofs.YtjloppfdagfpmaaDoor.X
end
section
namespace Go.Proofs.YtjloppfdagfpmaaDoor.X
open Go.RowKit YtjloppfdagfpmaaDoorW.PrintWords YtjloppfdagfpmaaDoorW.PrintLast YtjloppfdagfpmaaDoorW.PrintMore
attribute [local go_sem] max2_int min2_int max_two min_two max_three min_three max_four min_four
/-! ### lampblacklaw07_MinorReduces: function 8 -/
def lampblacklaw07_MinorReduces.f (k : Nat) (l0 : List Int) (l1 : List (S62)) : Option (Bool) := (lampblacklaw07_Few.f l0).bind fun t494 => ((minor_Reduce.f t494).bind fun bt497 => ((lampblacklaw07_Few.f l0).bind fun t501 => ((lampblacklaw07_steps.f k l1).bind fun t504 => ((minor_CheckReduce.f t501 t504).bind fun bt507 => ((lampblackref07_Valid.f k l0).bind fun t509 => (if t509 = true then ((lampblackref07_Reduce.f k l0).bind fun bt511 => ((lampblacklaw07_own.f k bt497.1).bind fun t515 => ((lampblackref07_Step.f k t515 bt511.1).bind fun t518 => (if t518 = true then (if bt497.2 = bt511.2 then ((lampblackref07_Reduces.f k l0 l1).bind fun t519 => (if (bt507.1 == t519) = true then (if bt507.2 = 0 then ((lampblacklaw07_awake.f k).bind fun t520 => (some t520)) else (some false)) else (some false))) else (some false)) else (some false))))) else (if (bt497.1.length : Int) = 0 then (if bt507.1 = true then (some false) else (if bt497.2 = 2 then (if bt507.2 = 2 then ((lampblacklaw07_awake.f k).bind fun t510 => (some t510)) else (some false)) else (some false))) else (some false))))))))
set_option maxHeartbeats 8000000 in
set_option maxRecDepth 100000 in
theorem lampblacklaw07_MinorReduces.calls (k : Nat) (A0 : Option Addr) (c0 : Nat) (l0 : List Int) (A1 : Option Addr) (c1 : Nat) (l1 : List (S62)) (r : Bool) (w : World) (hGL : GL w) (hr0 : Kd.C (Kd.int .i64) w A0 l0.length l0) (hc0 : l0.length ≤ c0) (hr1 : Kd.C k62 w A1 l1.length l1) (hc1 : l1.length ≤ c1) (h : lampblacklaw07_MinorReduces.f k l0 l1 = some r) :
  Calls Tryd.prog 8 #[.slice A0 l0.length c0, .slice A1 l1.length c1] w fun e w' => e = .returned (.bool r) ∧ Below w.heap.size w w' := by
 have HGL := Aside0.mk hGL
 clear hGL
 have HR0 := Aside0.mk hr0
 have HC0 := Aside0.mk hc0
 clear hr0 hc0
 have HR1 := Aside0.mk hr1
 have HC1 := Aside0.mk hc1
 clear hr1 hc1
 have HB := Aside0.mk (Below.refl w.heap.size w)
 have H : ((lampblacklaw07_Few.f l0).bind fun t494 => ((minor_Reduce.f t494).bind fun bt497 => ((lampblacklaw07_Few.f l0).bind fun t501 => ((lampblacklaw07_steps.f k l1).bind fun t504 => ((minor_CheckReduce.f t501 t504).bind fun bt507 => ((lampblackref07_Valid.f k l0).bind fun t509 => (if t509 = true then ((lampblackref07_Reduce.f k l0).bind fun bt511 => ((lampblacklaw07_own.f k bt497.1).bind fun t515 => ((lampblackref07_Step.f k t515 bt511.1).bind fun t518 => (if t518 = true then (if bt497.2 = bt511.2 then ((lampblackref07_Reduces.f k l0 l1).bind fun t519 => (if (bt507.1 == t519) = true then (if bt507.2 = 0 then ((lampblacklaw07_awake.f k).bind fun t520 => (some t520)) else (some false)) else (some false))) else (some false)) else (some false))))) else (if (bt497.1.length : Int) = 0 then (if bt507.1 = true then (some false) else (if bt497.2 = 2 then (if bt507.2 = 2 then ((lampblacklaw07_awake.f k).bind fun t510 => (some t510)) else (some false)) else (some false))) else (some false))))))))) = some r := h
 clear h
 replace H := Option.bind_eq_some_iff.mp H
 obtain ⟨t494, A30, H⟩ := H
 replace H : ((minor_Reduce.f t494).bind fun bt497 => ((lampblacklaw07_Few.f l0).bind fun t501 => ((lampblacklaw07_steps.f k l1).bind fun t504 => ((minor_CheckReduce.f t501 t504).bind fun bt507 => ((lampblackref07_Valid.f k l0).bind fun t509 => (if t509 = true then ((lampblackref07_Reduce.f k l0).bind fun bt511 => ((lampblacklaw07_own.f k bt497.1).bind fun t515 => ((lampblackref07_Step.f k t515 bt511.1).bind fun t518 => (if t518 = true then (if bt497.2 = bt511.2 then ((lampblackref07_Reduces.f k l0 l1).bind fun t519 => (if (bt507.1 == t519) = true then (if bt507.2 = 0 then ((lampblacklaw07_awake.f k).bind fun t520 => (some t520)) else (some false)) else (some false))) else (some false)) else (some false))))) else (if (bt497.1.length : Int) = 0 then (if bt507.1 = true then (some false) else (if bt497.2 = 2 then (if bt507.2 = 2 then ((lampblacklaw07_awake.f k).bind fun t510 => (some t510)) else (some false)) else (some false))) else (some false)))))))) = some r := H
 have A3 := Aside0.mk A30
 clear A30
 replace H := Option.bind_eq_some_iff.mp H
 obtain ⟨⟨t497, t498⟩, A40, H⟩ := H
 replace H : ((lampblacklaw07_Few.f l0).bind fun t501 => ((lampblacklaw07_steps.f k l1).bind fun t504 => ((minor_CheckReduce.f t501 t504).bind fun bt507 => ((lampblackref07_Valid.f k l0).bind fun t509 => (if t509 = true then ((lampblackref07_Reduce.f k l0).bind fun bt511 => ((lampblacklaw07_own.f k t497).bind fun t515 => ((lampblackref07_Step.f k t515 bt511.1).bind fun t518 => (if t518 = true then (if t498 = bt511.2 then ((lampblackref07_Reduces.f k l0 l1).bind fun t519 => (if (bt507.1 == t519) = true then (if bt507.2 = 0 then ((lampblacklaw07_awake.f k).bind fun t520 => (some t520)) else (some false)) else (some false))) else (some false)) else (some false))))) else (if (t497.length : Int) = 0 then (if bt507.1 = true then (some false) else (if t498 = 2 then (if bt507.2 = 2 then ((lampblacklaw07_awake.f k).bind fun t510 => (some t510)) else (some false)) else (some false))) else (some false))))))) = some r := H
 have A4 := Aside0.mk A40
 clear A40
 replace H := Option.bind_eq_some_iff.mp H
 obtain ⟨t501, A50, H⟩ := H
 replace H : ((lampblacklaw07_steps.f k l1).bind fun t504 => ((minor_CheckReduce.f t501 t504).bind fun bt507 => ((lampblackref07_Valid.f k l0).bind fun t509 => (if t509 = true then ((lampblackref07_Reduce.f k l0).bind fun bt511 => ((lampblacklaw07_own.f k t497).bind fun t515 => ((lampblackref07_Step.f k t515 bt511.1).bind fun t518 => (if t518 = true then (if t498 = bt511.2 then ((lampblackref07_Reduces.f k l0 l1).bind fun t519 => (if (bt507.1 == t519) = true then (if bt507.2 = 0 then ((lampblacklaw07_awake.f k).bind fun t520 => (some t520)) else (some false)) else (some false))) else (some false)) else (some false))))) else (if (t497.length : Int) = 0 then (if bt507.1 = true then (some false) else (if t498 = 2 then (if bt507.2 = 2 then ((lampblacklaw07_awake.f k).bind fun t510 => (some t510)) else (some false)) else (some false))) else (some false)))))) = some r := H
 have A5 := Aside0.mk A50
 clear A50
 replace H := Option.bind_eq_some_iff.mp H
 obtain ⟨t504, A60, H⟩ := H
 replace H : ((minor_CheckReduce.f t501 t504).bind fun bt507 => ((lampblackref07_Valid.f k l0).bind fun t509 => (if t509 = true then ((lampblackref07_Reduce.f k l0).bind fun bt511 => ((lampblacklaw07_own.f k t497).bind fun t515 => ((lampblackref07_Step.f k t515 bt511.1).bind fun t518 => (if t518 = true then (if t498 = bt511.2 then ((lampblackref07_Reduces.f k l0 l1).bind fun t519 => (if (bt507.1 == t519) = true then (if bt507.2 = 0 then ((lampblacklaw07_awake.f k).bind fun t520 => (some t520)) else (some false)) else (some false))) else (some false)) else (some false))))) else (if (t497.length : Int) = 0 then (if bt507.1 = true then (some false) else (if t498 = 2 then (if bt507.2 = 2 then ((lampblacklaw07_awake.f k).bind fun t510 => (some t510)) else (some false)) else (some false))) else (some false))))) = some r := H
 have A6 := Aside0.mk A60
 clear A60
 replace H := Option.bind_eq_some_iff.mp H
 obtain ⟨⟨t507, t508⟩, A70, H⟩ := H
 replace H : ((lampblackref07_Valid.f k l0).bind fun t509 => (if t509 = true then ((lampblackref07_Reduce.f k l0).bind fun bt511 => ((lampblacklaw07_own.f k t497).bind fun t515 => ((lampblackref07_Step.f k t515 bt511.1).bind fun t518 => (if t518 = true then (if t498 = bt511.2 then ((lampblackref07_Reduces.f k l0 l1).bind fun t519 => (if (t507 == t519) = true then (if t508 = 0 then ((lampblacklaw07_awake.f k).bind fun t520 => (some t520)) else (some false)) else (some false))) else (some false)) else (some false))))) else (if (t497.length : Int) = 0 then (if t507 = true then (some false) else (if t498 = 2 then (if t508 = 2 then ((lampblacklaw07_awake.f k).bind fun t510 => (some t510)) else (some false)) else (some false))) else (some false)))) = some r := H
 have A7 := Aside0.mk A70
 clear A70
 replace H := Option.bind_eq_some_iff.mp H
 obtain ⟨t509, A80, H⟩ := H
 replace H : (if t509 = true then ((lampblackref07_Reduce.f k l0).bind fun bt511 => ((lampblacklaw07_own.f k t497).bind fun t515 => ((lampblackref07_Step.f k t515 bt511.1).bind fun t518 => (if t518 = true then (if t498 = bt511.2 then ((lampblackref07_Reduces.f k l0 l1).bind fun t519 => (if (t507 == t519) = true then (if t508 = 0 then ((lampblacklaw07_awake.f k).bind fun t520 => (some t520)) else (some false)) else (some false))) else (some false)) else (some false))))) else (if (t497.length : Int) = 0 then (if t507 = true then (some false) else (if t498 = 2 then (if t508 = 2 then ((lampblacklaw07_awake.f k).bind fun t510 => (some t510)) else (some false)) else (some false))) else (some false))) = some r := H
 have A8 := Aside0.mk A80
 clear A80
 by_cases c9 : t509 = true
 ·subst c9
  have H1 : ((lampblackref07_Reduce.f k l0).bind fun bt511 => ((lampblacklaw07_own.f k t497).bind fun t515 => ((lampblackref07_Step.f k t515 bt511.1).bind fun t518 => (if t518 = true then (if t498 = bt511.2 then ((lampblackref07_Reduces.f k l0 l1).bind fun t519 => (if (t507 == t519) = true then (if t508 = 0 then ((lampblacklaw07_awake.f k).bind fun t520 => (some t520)) else (some false)) else (some false))) else (some false)) else (some false))))) = some r := by rw [if_pos rfl] at H; exact H
  clear H
  have H := H1
  clear H1
  replace H := Option.bind_eq_some_iff.mp H
  obtain ⟨⟨t511, t514⟩, A100, H⟩ := H
  replace H : ((lampblacklaw07_own.f k t497).bind fun t515 => ((lampblackref07_Step.f k t515 t511).bind fun t518 => (if t518 = true then (if t498 = t514 then ((lampblackref07_Reduces.f k l0 l1).bind fun t519 => (if (t507 == t519) = true then (if t508 = 0 then ((lampblacklaw07_awake.f k).bind fun t520 => (some t520)) else (some false)) else (some false))) else (some false)) else (some false)))) = some r := H
  have A10 := Aside0.mk A100
  clear A100
  replace H := Option.bind_eq_some_iff.mp H
  obtain ⟨t515, A110, H⟩ := H
  replace H : ((lampblackref07_Step.f k t515 t511).bind fun t518 => (if t518 = true then (if t498 = t514 then ((lampblackref07_Reduces.f k l0 l1).bind fun t519 => (if (t507 == t519) = true then (if t508 = 0 then ((lampblacklaw07_awake.f k).bind fun t520 => (some t520)) else (some false)) else (some false))) else (some false)) else (some false))) = some r := H
  have A11 := Aside0.mk A110
  clear A110
  replace H := Option.bind_eq_some_iff.mp H
  obtain ⟨t518, A120, H⟩ := H
  replace H : (if t518 = true then (if t498 = t514 then ((lampblackref07_Reduces.f k l0 l1).bind fun t519 => (if (t507 == t519) = true then (if t508 = 0 then ((lampblacklaw07_awake.f k).bind fun t520 => (some t520)) else (some false)) else (some false))) else (some false)) else (some false)) = some r := H
  have A12 := Aside0.mk A120
  clear A120
  by_cases c13 : t518 = true
  ·subst c13
   have H1 : (if t498 = t514 then ((lampblackref07_Reduces.f k l0 l1).bind fun t519 => (if (t507 == t519) = true then (if t508 = 0 then ((lampblacklaw07_awake.f k).bind fun t520 => (some t520)) else (some false)) else (some false))) else (some false)) = some r := by rw [if_pos rfl] at H; exact H
   clear H
   have H := H1
   clear H1
   by_cases c14 : t498 = t514
   ·rw [if_pos c14] at H
    have c14b0 : (t498 == t514) = true := beq_iff_eq.mpr c14
    have c14b1 : (t498 != t514) = false := bne_eq_false_iff_eq.mpr c14
    clear c14
    replace H := Option.bind_eq_some_iff.mp H
    obtain ⟨t519, A150, H⟩ := H
    replace H : (if (t507 == t519) = true then (if t508 = 0 then ((lampblacklaw07_awake.f k).bind fun t520 => (some t520)) else (some false)) else (some false)) = some r := H
    have A15 := Aside0.mk A150
    clear A150
    by_cases c16 : (t507 == t519) = true
    ·rw [if_pos c16] at H
     have c16b0 : (t507 == t519) = true := c16
     (try (have c16b1 : decide (t507 = t519) = true := by simpa using c16))
     (try (have c16b2 : (t507 == t519) = true := by simpa using c16))
     clear c16
     by_cases c17 : t508 = 0
     ·rw [if_pos c17] at H
      have c17b0 : (t508 == 0) = true := beq_iff_eq.mpr c17
      have c17b1 : (t508 != 0) = false := bne_eq_false_iff_eq.mpr c17
      clear c17
      replace H := Option.bind_eq_some_iff.mp H
      obtain ⟨t520, A180, H⟩ := H
      replace H : (some t520) = some r := H
      have A18 := Aside0.mk A180
      clear A180
      obtain rfl := Option.some.inj H
      go_enter Tryd.func8, Tryd.ntmps8
      go_wp2_with (first | ((with_reducible refine gate_callee (f := 22) rfl ?_); refine goesL_ (some 13) rfl rfl Tryd.func22 (by kernel_rfl) rfl #[.slice A0 l0.length c0] rfl (Qls) ?_; (with_reducible refine (lampblacklaw07_Few.calls _ _ l0 t494 _ ?side1 ?side2 A3.out).mono ?_); (case side1 => exact Qsc HR0.out); (case side2 => exact HC0.out); rintro e w19 ⟨v495, rfl, ho0, hb⟩; refine ⟨_, rfl, ?_⟩; have n0_ := Aside0.mk (Kd.R_lower ho0 (below_size (Qaw))); have n1_ := Aside0.mk (below_step (Qaw) hb); clear HB; have HO496 := n0_; have HB := n1_; clear n0_ n1_; (try clear hb); (try clear hb2); (try clear hk); (try clear hi); (try clear ho0); obtain ⟨Ao20, co20, eo20⟩ := Kd.R_slice HO496.out; subst eo20) | ((with_reducible refine gate_callee (f := 40) rfl ?_); refine goesL_ (some 14) rfl rfl Tryd.func40 (by kernel_rfl) rfl #[.slice Ao20 t494.length co20] rfl (Qls) ?_; (with_reducible refine (minor_Reduce.calls (hGL := (Qlg)) _ _ t494 t497 t498 _ ?side1 ?side2 A4.out).mono ?_); (case side1 => exact Qsc (Kd.R_reads' HO496.out).2.2); (case side2 => exact (Kd.R_reads' HO496.out).2.1); rintro e w21 ⟨v499, rfl, ho0, hb⟩; refine ⟨_, rfl, ?_⟩; have n0_ := Aside0.mk (Kd.R_below (Qro HO496.out) hb); have n1_ := Aside0.mk (Kd.R_lower ho0 (below_size (Qaw))); have n2_ := Aside0.mk (below_step (Qaw) hb); clear HO496; clear HB; have HO496 := n0_; have HO500 := n1_; have HB := n2_; clear n0_ n1_ n2_; (try clear hb); (try clear hb2); (try clear hk); (try clear hi); (try clear ho0)) | ((with_reducible refine gate_callee (f := 22) rfl ?_); refine goesL_ (some 19) rfl rfl Tryd.func22 (by kernel_rfl) rfl #[.slice A0 l0.length c0] rfl (Qls) ?_; (with_reducible refine (lampblacklaw07_Few.calls _ _ l0 t501 _ ?side1 ?side2 A5.out).mono ?_); (case side1 => exact Qsc (Kd.C_below HR0.out HB.out)); (case side2 => exact HC0.out); rintro e w22 ⟨v502, rfl, ho0, hb⟩; refine ⟨_, rfl, ?_⟩; have n0_ := Aside0.mk (Kd.R_elder' (Qro HO496.out) (Kd.R_base ho0) hb); have n1_ := Aside0.mk (Kd.R_below (Qro HO500.out) hb); have n2_ := Aside0.mk (Kd.R_lower (Kd.R_new' ho0 (Kd.R_lt (Qro HO496.out))) (below_size (Qaw))); have n3_ := Aside0.mk (below_step (Qaw) hb); clear HO496; clear HO500; clear HB; have HO496 := n0_; have HO500 := n1_; have HO503 := n2_; have HB := n3_; clear n0_ n1_ n2_ n3_; (try clear hb); (try clear hb2); (try clear hk); (try clear hi); (try clear ho0)) | ((with_reducible refine gate_callee (f := 42) rfl ?_); refine goesL_ (some 21) rfl rfl Tryd.func42 (by kernel_rfl) rfl #[.slice A1 l1.length c1] rfl (Qls) ?_; (with_reducible refine (lampblacklaw07_steps.calls k _ _ l1 t504 _ ?side1 ?side2 A6.out).mono ?_); (case side1 => exact Qsc (Kd.C_below HR1.out HB.out)); (case side2 => exact HC1.out); rintro e w23 ⟨v505, rfl, ho0, hb⟩; refine ⟨_, rfl, ?_⟩; have n0_ := Aside0.mk (Kd.R_below (Qro HO496.out) hb); have n1_ := Aside0.mk (Kd.R_elder' (Qro HO500.out) (Kd.R_base ho0) hb); have n2_ := Aside0.mk (Kd.R_below (Qro HO503.out) hb); have n3_ := Aside0.mk (Kd.R_lower (Kd.R_new' ho0 (Kd.R_lt (Qro HO500.out))) (below_size (Qaw))); have n4_ := Aside0.mk (below_step (Qaw) hb); clear HO496; clear HO500; clear HO503; clear HB; have HO496 := n0_; have HO500 := n1_; have HO503 := n2_; have HO506 := n3_; have HB := n4_; clear n0_ n1_ n2_ n3_ n4_; (try clear hb); (try clear hb2); (try clear hk); (try clear hi); (try clear ho0); obtain ⟨Ao24, co24, eo24⟩ := Kd.R_slice HO503.out; subst eo24; obtain ⟨Ao25, co25, eo25⟩ := Kd.R_slice HO506.out; subst eo25) | ((with_reducible refine gate_callee (f := 41) rfl ?_); refine goesL_ (some 22) rfl rfl Tryd.func41 (by kernel_rfl) rfl #[.slice Ao24 t501.length co24, .slice Ao25 t504.length co25] rfl (Qls) ?_; (with_reducible refine (minor_CheckReduce.calls (hGL := (Qlg)) _ _ t501 _ _ t504 t507 t508 _ ?side1 ?side2 ?side3 ?side4 A7.out).mono ?_); (case side1 => exact Qsc (Kd.R_reads' HO503.out).2.2); (case side2 => exact (Kd.R_reads' HO503.out).2.1); (case side3 => exact Qsc (Kd.R_reads' HO506.out).2.2); (case side4 => exact (Kd.R_reads' HO506.out).2.1); rintro e w26 ⟨rfl, hb⟩; refine ⟨_, rfl, ?_⟩; have n0_ := Aside0.mk (Kd.R_below (Qro HO496.out) hb); have n1_ := Aside0.mk (Kd.R_below (Qro HO500.out) hb); have n2_ := Aside0.mk (Kd.R_below (Qro HO503.out) hb); have n3_ := Aside0.mk (Kd.R_below (Qro HO506.out) hb); have n4_ := Aside0.mk (below_step (Qaw) hb); clear HO496; clear HO500; clear HO503; clear HO506; clear HB; have HO496 := n0_; have HO500 := n1_; have HO503 := n2_; have HO506 := n3_; have HB := n4_; clear n0_ n1_ n2_ n3_ n4_; (try clear hb); (try clear hb2); (try clear hk); (try clear hi)) | ((with_reducible refine gate_callee (f := 16) rfl ?_); refine goesL_ (some 26) rfl rfl Tryd.func16 (by kernel_rfl) rfl #[.slice A0 l0.length c0] rfl (Qls) ?_; (with_reducible refine (lampblackref07_Valid.calls k _ _ l0 true _ ?side1 ?side2 A8.out).mono ?_); (case side1 => exact Qsc (Kd.C_below HR0.out HB.out)); (case side2 => exact HC0.out); rintro e w' ⟨rfl, ⟨nd, rfl⟩⟩; refine ⟨_, rfl, ?_⟩) | ((with_reducible refine gate_callee (f := 43) rfl ?_); refine goesL_ (some 48) rfl rfl Tryd.func43 (by kernel_rfl) rfl #[.slice A0 l0.length c0] rfl (Qls) ?_; (with_reducible refine (lampblackref07_Reduce.calls k (fun k_ => k_ < w.heap.size) _ _ l0 t511 t514 _ ?side1 A10.out).mono ?_); (case side1 => exact Kd.V_mk HC0.out (Kd.F_below (Kd.C_F (Kd.heap_int .i64) HR0.out) (Qaw))); rintro e w27 ⟨v512, rfl, ho0, hb⟩; refine ⟨_, rfl, ?_⟩; have n0_ := Aside0.mk (Kd.R_below (Qro HO496.out) hb); have n1_ := Aside0.mk (Kd.R_below (Qro HO500.out) hb); have n2_ := Aside0.mk (Kd.R_below (Qro HO503.out) hb); have n3_ := Aside0.mk (Kd.R_below (Qro HO506.out) hb); have n4_ := Aside0.mk (Kd.R_lower (Kd.R_mono (ok' := fun k_ => True) ho0 (fun _ hk_ => trivial)) (below_size (Qaw))); have n5_ := Aside0.mk (below_step (Qaw) hb); clear HO496; clear HO500; clear HO503; clear HO506; clear HB; have HO496 := n0_; have HO500 := n1_; have HO503 := n2_; have HO506 := n3_; have HO513 := n4_; have HB := n5_; clear n0_ n1_ n2_ n3_ n4_ n5_; (try clear hb); (try clear hb2); (try clear hk); (try clear hi); (try clear ho0); obtain ⟨Ao28, co28, eo28⟩ := Kd.R_slice HO500.out; subst eo28) | ((with_reducible refine gate_callee (f := 45) rfl ?_); refine goesL_ (some 52) rfl rfl Tryd.func45 (by kernel_rfl) rfl #[.slice Ao28 t497.length co28] rfl (Qls) ?_; (with_reducible refine (lampblacklaw07_own.calls k _ _ t497 t515 _ ?side1 ?side2 A11.out).mono ?_); (case side1 => exact Qsc (Kd.R_reads' HO500.out).2.2); (case side2 => exact (Kd.R_reads' HO500.out).2.1); rintro e w29 ⟨v516, rfl, ho0, hb⟩; refine ⟨_, rfl, ?_⟩; have n0_ := Aside0.mk (Kd.R_below (Qro HO496.out) hb); have n1_ := Aside0.mk (Kd.R_below (Qro HO500.out) hb); have n2_ := Aside0.mk (Kd.R_below (Qro HO503.out) hb); have n3_ := Aside0.mk (Kd.R_below (Qro HO506.out) hb); have n4_ := Aside0.mk (Kd.R_elder' (Qro HO513.out) (Kd.R_base ho0) hb); have n5_ := Aside0.mk (Kd.R_lower (Kd.R_new' ho0 (Kd.R_lt (Qro HO513.out))) (below_size (Qaw))); have n6_ := Aside0.mk (below_step (Qaw) hb); clear HO496; clear HO500; clear HO503; clear HO506; clear HO513; clear HB; have HO496 := n0_; have HO500 := n1_; have HO503 := n2_; have HO506 := n3_; have HO513 := n4_; have HO517 := n5_; have HB := n6_; clear n0_ n1_ n2_ n3_ n4_ n5_ n6_; (try clear hb); (try clear hb2); (try clear hk); (try clear hi); (try clear ho0); obtain ⟨Ao30, co30, eo30⟩ := Kd.R_slice HO517.out; subst eo30; obtain ⟨Ao31, co31, eo31⟩ := Kd.R_slice HO513.out; subst eo31) | ((with_reducible refine gate_callee (f := 44) rfl ?_); refine goesL_ (some 54) rfl rfl Tryd.func44 (by kernel_rfl) rfl #[.slice Ao30 t515.length co30, .slice Ao31 t511.length co31] rfl (Qls) ?_; (with_reducible refine (lampblackref07_Step.calls k _ _ t515 _ _ t511 true _ ?side1 ?side2 ?side3 ?side4 A12.out).mono ?_); (case side1 => exact Qsc (Kd.R_reads' HO517.out).2.2); (case side2 => exact (Kd.R_reads' HO517.out).2.1); (case side3 => exact Qsc (Kd.R_reads' HO513.out).2.2); (case side4 => exact (Kd.R_reads' HO513.out).2.1); rintro e w' ⟨rfl, ⟨nd, rfl⟩⟩; refine ⟨_, rfl, ?_⟩) | (go_at_call 46; (with_reducible refine (lampblackref07_Reduces.calls k (fun k_ => k_ < w.heap.size) _ _ l0 _ _ l1 t519 _ ?side1 ?side2 ?side3 A15.out).mono ?_); (case side1 => exact Kd.V_mk HC0.out (Kd.F_below (Kd.C_F (Kd.heap_int .i64) HR0.out) (Qaw))); (case side2 => repeat (first | exact (Kd.C_below HR1.out (Qaw)) | (with_reducible refine Kd.C_alloc ?_ _) | (with_reducible refine Kd.C_drewN ?_ _) | (with_reducible refine Kd.C_drew ?_))); (case side3 => exact HC1.out); rintro e w32 ⟨rfl, hb⟩; have n0_ := Aside0.mk (Kd.R_below (Qro HO496.out) hb); have n1_ := Aside0.mk (Kd.R_below (Qro HO500.out) hb); have n2_ := Aside0.mk (Kd.R_below (Qro HO503.out) hb); have n3_ := Aside0.mk (Kd.R_below (Qro HO506.out) hb); have n4_ := Aside0.mk (Kd.R_below (Qro HO513.out) hb); have n5_ := Aside0.mk (Kd.R_below (Qro HO517.out) hb); have n6_ := Aside0.mk (below_step (Qaw) hb); clear HO496; clear HO500; clear HO503; clear HO506; clear HO513; clear HO517; clear HB; have HO496 := n0_; have HO500 := n1_; have HO503 := n2_; have HO506 := n3_; have HO513 := n4_; have HO517 := n5_; have HB := n6_; clear n0_ n1_ n2_ n3_ n4_ n5_ n6_; (try clear hb); (try clear hb2); (try clear hk); (try clear hi)) | (go_at_call 17; (with_reducible refine (lampblacklaw07_awake.calls (hGL := (Qlg)) k  t520 _ A18.out).mono ?_); rintro e w33 ⟨rfl, hb⟩; have n0_ := Aside0.mk (Kd.R_below (Qro HO496.out) hb); have n1_ := Aside0.mk (Kd.R_below (Qro HO500.out) hb); have n2_ := Aside0.mk (Kd.R_below (Qro HO503.out) hb); have n3_ := Aside0.mk (Kd.R_below (Qro HO506.out) hb); have n4_ := Aside0.mk (Kd.R_below (Qro HO513.out) hb); have n5_ := Aside0.mk (Kd.R_below (Qro HO517.out) hb); have n6_ := Aside0.mk (below_step (Qaw) hb); clear HO496; clear HO500; clear HO503; clear HO506; clear HO513; clear HO517; clear HB; have HO496 := n0_; have HO500 := n1_; have HO503 := n2_; have HO506 := n3_; have HO513 := n4_; have HO517 := n5_; have HB := n6_; clear n0_ n1_ n2_ n3_ n4_ n5_ n6_; (try clear hb); (try clear hb2); (try clear hk); (try clear hi)))
      go_ret
      exact ⟨by first | rfl | (simp [errW_none, errW_some] <;> rfl) | (simp [*, errW_none, errW_some] <;> rfl), by repeat (first | (with_reducible first | exact HB.out | apply below_alloc | apply pw_below_drewN | apply below_drew1) | exact HB.out)⟩
     ·rw [if_neg c17] at H
      have c17b0 : (t508 == 0) = false := beq_eq_false_iff_ne.mpr c17
      have c17b1 : (t508 != 0) = true := bne_iff_ne.mpr c17
      obtain rfl := Option.some.inj H
      go_enter Tryd.func8, Tryd.ntmps8
      go_wp2_with (first | ((with_reducible refine gate_callee (f := 22) rfl ?_); refine goesL_ (some 13) rfl rfl Tryd.func22 (by kernel_rfl) rfl #[.slice A0 l0.length c0] rfl (Qls) ?_; (with_reducible refine (lampblacklaw07_Few.calls _ _ l0 t494 _ ?side1 ?side2 A3.out).mono ?_); (case side1 => exact Qsc HR0.out); (case side2 => exact HC0.out); rintro e w34 ⟨v495, rfl, ho0, hb⟩; refine ⟨_, rfl, ?_⟩; have n0_ := Aside0.mk (Kd.R_lower ho0 (below_size (Qaw))); have n1_ := Aside0.mk (below_step (Qaw) hb); clear HB; have HO496 := n0_; have HB := n1_; clear n0_ n1_; (try clear hb); (try clear hb2); (try clear hk); (try clear hi); (try clear ho0); obtain ⟨Ao35, co35, eo35⟩ := Kd.R_slice HO496.out; subst eo35) | ((with_reducible refine gate_callee (f := 40) rfl ?_); refine goesL_ (some 14) rfl rfl Tryd.func40 (by kernel_rfl) rfl #[.slice Ao35 t494.length co35] rfl (Qls) ?_; (with_reducible refine (minor_Reduce.calls (hGL := (Qlg)) _ _ t494 t497 t498 _ ?side1 ?side2 A4.out).mono ?_); (case side1 => exact Qsc (Kd.R_reads' HO496.out).2.2); (case side2 => exact (Kd.R_reads' HO496.out).2.1); rintro e w36 ⟨v499, rfl, ho0, hb⟩; refine ⟨_, rfl, ?_⟩; have n0_ := Aside0.mk (Kd.R_below (Qro HO496.out) hb); have n1_ := Aside0.mk (Kd.R_lower ho0 (below_size (Qaw))); have n2_ := Aside0.mk (below_step (Qaw) hb); clear HO496; clear HB; have HO496 := n0_; have HO500 := n1_; have HB := n2_; clear n0_ n1_ n2_; (try clear hb); (try clear hb2); (try clear hk); (try clear hi); (try clear ho0)) | ((with_reducible refine gate_callee (f := 22) rfl ?_); refine goesL_ (some 19) rfl rfl Tryd.func22 (by kernel_rfl) rfl #[.slice A0 l0.length c0] rfl (Qls) ?_; (with_reducible refine (lampblacklaw07_Few.calls _ _ l0 t501 _ ?side1 ?side2 A5.out).mono ?_); (case side1 => exact Qsc (Kd.C_below HR0.out HB.out)); (case side2 => exact HC0.out); rintro e w37 ⟨v502, rfl, ho0, hb⟩; refine ⟨_, rfl, ?_⟩; have n0_ := Aside0.mk (Kd.R_elder' (Qro HO496.out) (Kd.R_base ho0) hb); have n1_ := Aside0.mk (Kd.R_below (Qro HO500.out) hb); have n2_ := Aside0.mk (Kd.R_lower (Kd.R_new' ho0 (Kd.R_lt (Qro HO496.out))) (below_size (Qaw))); have n3_ := Aside0.mk (below_step (Qaw) hb); clear HO496; clear HO500; clear HB; have HO496 := n0_; have HO500 := n1_; have HO503 := n2_; have HB := n3_; clear n0_ n1_ n2_ n3_; (try clear hb); (try clear hb2); (try clear hk); (try clear hi); (try clear ho0)) | ((with_reducible refine gate_callee (f := 42) rfl ?_); refine goesL_ (some 21) rfl rfl Tryd.func42 (by kernel_rfl) rfl #[.slice A1 l1.length c1] rfl (Qls) ?_; (with_reducible refine (lampblacklaw07_steps.calls k _ _ l1 t504 _ ?side1 ?side2 A6.out).mono ?_); (case side1 => exact Qsc (Kd.C_below HR1.out HB.out)); (case side2 => exact HC1.out); rintro e w38 ⟨v505, rfl, ho0, hb⟩; refine ⟨_, rfl, ?_⟩; have n0_ := Aside0.mk (Kd.R_below (Qro HO496.out) hb); have n1_ := Aside0.mk (Kd.R_elder' (Qro HO500.out) (Kd.R_base ho0) hb); have n2_ := Aside0.mk (Kd.R_below (Qro HO503.out) hb); have n3_ := Aside0.mk (Kd.R_lower (Kd.R_new' ho0 (Kd.R_lt (Qro HO500.out))) (below_size (Qaw))); have n4_ := Aside0.mk (below_step (Qaw) hb); clear HO496; clear HO500; clear HO503; clear HB; have HO496 := n0_; have HO500 := n1_; have HO503 := n2_; have HO506 := n3_; have HB := n4_; clear n0_ n1_ n2_ n3_ n4_; (try clear hb); (try clear hb2); (try clear hk); (try clear hi); (try clear ho0); obtain ⟨Ao39, co39, eo39⟩ := Kd.R_slice HO503.out; subst eo39; obtain ⟨Ao40, co40, eo40⟩ := Kd.R_slice HO506.out; subst eo40) | ((with_reducible refine gate_callee (f := 41) rfl ?_); refine goesL_ (some 22) rfl rfl Tryd.func41 (by kernel_rfl) rfl #[.slice Ao39 t501.length co39, .slice Ao40 t504.length co40] rfl (Qls) ?_; (with_reducible refine (minor_CheckReduce.calls (hGL := (Qlg)) _ _ t501 _ _ t504 t507 t508 _ ?side1 ?side2 ?side3 ?side4 A7.out).mono ?_); (case side1 => exact Qsc (Kd.R_reads' HO503.out).2.2); (case side2 => exact (Kd.R_reads' HO503.out).2.1); (case side3 => exact Qsc (Kd.R_reads' HO506.out).2.2); (case side4 => exact (Kd.R_reads' HO506.out).2.1); rintro e w41 ⟨rfl, hb⟩; refine ⟨_, rfl, ?_⟩; have n0_ := Aside0.mk (Kd.R_below (Qro HO496.out) hb); have n1_ := Aside0.mk (Kd.R_below (Qro HO500.out) hb); have n2_ := Aside0.mk (Kd.R_below (Qro HO503.out) hb); have n3_ := Aside0.mk (Kd.R_below (Qro HO506.out) hb); have n4_ := Aside0.mk (below_step (Qaw) hb); clear HO496; clear HO500; clear HO503; clear HO506; clear HB; have HO496 := n0_; have HO500 := n1_; have HO503 := n2_; have HO506 := n3_; have HB := n4_; clear n0_ n1_ n2_ n3_ n4_; (try clear hb); (try clear hb2); (try clear hk); (try clear hi)) | ((with_reducible refine gate_callee (f := 16) rfl ?_); refine goesL_ (some 26) rfl rfl Tryd.func16 (by kernel_rfl) rfl #[.slice A0 l0.length c0] rfl (Qls) ?_; (with_reducible refine (lampblackref07_Valid.calls k _ _ l0 true _ ?side1 ?side2 A8.out).mono ?_); (case side1 => exact Qsc (Kd.C_below HR0.out HB.out)); (case side2 => exact HC0.out); rintro e w' ⟨rfl, ⟨nd, rfl⟩⟩; refine ⟨_, rfl, ?_⟩) | ((with_reducible refine gate_callee (f := 43) rfl ?_); refine goesL_ (some 48) rfl rfl Tryd.func43 (by kernel_rfl) rfl #[.slice A0 l0.length c0] rfl (Qls) ?_; (with_reducible refine (lampblackref07_Reduce.calls k (fun k_ => k_ < w.heap.size) _ _ l0 t511 t514 _ ?side1 A10.out).mono ?_); (case side1 => exact Kd.V_mk HC0.out (Kd.F_below (Kd.C_F (Kd.heap_int .i64) HR0.out) (Qaw))); rintro e w42 ⟨v512, rfl, ho0, hb⟩; refine ⟨_, rfl, ?_⟩; have n0_ := Aside0.mk (Kd.R_below (Qro HO496.out) hb); have n1_ := Aside0.mk (Kd.R_below (Qro HO500.out) hb); have n2_ := Aside0.mk (Kd.R_below (Qro HO503.out) hb); have n3_ := Aside0.mk (Kd.R_below (Qro HO506.out) hb); have n4_ := Aside0.mk (Kd.R_lower (Kd.R_mono (ok' := fun k_ => True) ho0 (fun _ hk_ => trivial)) (below_size (Qaw))); have n5_ := Aside0.mk (below_step (Qaw) hb); clear HO496; clear HO500; clear HO503; clear HO506; clear HB; have HO496 := n0_; have HO500 := n1_; have HO503 := n2_; have HO506 := n3_; have HO513 := n4_; have HB := n5_; clear n0_ n1_ n2_ n3_ n4_ n5_; (try clear hb); (try clear hb2); (try clear hk); (try clear hi); (try clear ho0); obtain ⟨Ao43, co43, eo43⟩ := Kd.R_slice HO500.out; subst eo43) | ((with_reducible refine gate_callee (f := 45) rfl ?_); refine goesL_ (some 52) rfl rfl Tryd.func45 (by kernel_rfl) rfl #[.slice Ao43 t497.length co43] rfl (Qls) ?_; (with_reducible refine (lampblacklaw07_own.calls k _ _ t497 t515 _ ?side1 ?side2 A11.out).mono ?_); (case side1 => exact Qsc (Kd.R_reads' HO500.out).2.2); (case side2 => exact (Kd.R_reads' HO500.out).2.1); rintro e w44 ⟨v516, rfl, ho0, hb⟩; refine ⟨_, rfl, ?_⟩; have n0_ := Aside0.mk (Kd.R_below (Qro HO496.out) hb); have n1_ := Aside0.mk (Kd.R_below (Qro HO500.out) hb); have n2_ := Aside0.mk (Kd.R_below (Qro HO503.out) hb); have n3_ := Aside0.mk (Kd.R_below (Qro HO506.out) hb); have n4_ := Aside0.mk (Kd.R_elder' (Qro HO513.out) (Kd.R_base ho0) hb); have n5_ := Aside0.mk (Kd.R_lower (Kd.R_new' ho0 (Kd.R_lt (Qro HO513.out))) (below_size (Qaw))); have n6_ := Aside0.mk (below_step (Qaw) hb); clear HO496; clear HO500; clear HO503; clear HO506; clear HO513; clear HB; have HO496 := n0_; have HO500 := n1_; have HO503 := n2_; have HO506 := n3_; have HO513 := n4_; have HO517 := n5_; have HB := n6_; clear n0_ n1_ n2_ n3_ n4_ n5_ n6_; (try clear hb); (try clear hb2); (try clear hk); (try clear hi); (try clear ho0); obtain ⟨Ao45, co45, eo45⟩ := Kd.R_slice HO517.out; subst eo45; obtain ⟨Ao46, co46, eo46⟩ := Kd.R_slice HO513.out; subst eo46) | ((with_reducible refine gate_callee (f := 44) rfl ?_); refine goesL_ (some 54) rfl rfl Tryd.func44 (by kernel_rfl) rfl #[.slice Ao45 t515.length co45, .slice Ao46 t511.length co46] rfl (Qls) ?_; (with_reducible refine (lampblackref07_Step.calls k _ _ t515 _ _ t511 true _ ?side1 ?side2 ?side3 ?side4 A12.out).mono ?_); (case side1 => exact Qsc (Kd.R_reads' HO517.out).2.2); (case side2 => exact (Kd.R_reads' HO517.out).2.1); (case side3 => exact Qsc (Kd.R_reads' HO513.out).2.2); (case side4 => exact (Kd.R_reads' HO513.out).2.1); rintro e w' ⟨rfl, ⟨nd, rfl⟩⟩; refine ⟨_, rfl, ?_⟩) | (go_at_call 46; (with_reducible refine (lampblackref07_Reduces.calls k (fun k_ => k_ < w.heap.size) _ _ l0 _ _ l1 t519 _ ?side1 ?side2 ?side3 A15.out).mono ?_); (case side1 => exact Kd.V_mk HC0.out (Kd.F_below (Kd.C_F (Kd.heap_int .i64) HR0.out) (Qaw))); (case side2 => repeat (first | exact (Kd.C_below HR1.out (Qaw)) | (with_reducible refine Kd.C_alloc ?_ _) | (with_reducible refine Kd.C_drewN ?_ _) | (with_reducible refine Kd.C_drew ?_))); (case side3 => exact HC1.out); rintro e w47 ⟨rfl, hb⟩; have n0_ := Aside0.mk (Kd.R_below (Qro HO496.out) hb); have n1_ := Aside0.mk (Kd.R_below (Qro HO500.out) hb); have n2_ := Aside0.mk (Kd.R_below (Qro HO503.out) hb); have n3_ := Aside0.mk (Kd.R_below (Qro HO506.out) hb); have n4_ := Aside0.mk (Kd.R_below (Qro HO513.out) hb); have n5_ := Aside0.mk (Kd.R_below (Qro HO517.out) hb); have n6_ := Aside0.mk (below_step (Qaw) hb); clear HO496; clear HO500; clear HO503; clear HO506; clear HO513; clear HO517; clear HB; have HO496 := n0_; have HO500 := n1_; have HO503 := n2_; have HO506 := n3_; have HO513 := n4_; have HO517 := n5_; have HB := n6_; clear n0_ n1_ n2_ n3_ n4_ n5_ n6_; (try clear hb); (try clear hb2); (try clear hk); (try clear hi)))
      go_ret
      exact ⟨by first | rfl | (simp [errW_none, errW_some] <;> rfl) | (simp [*, errW_none, errW_some] <;> rfl), by repeat (first | (with_reducible first | exact HB.out | apply below_alloc | apply pw_below_drewN | apply below_drew1) | exact HB.out)⟩
    ·rw [if_neg c16] at H
     have c16b0 : (t507 == t519) = false := by simpa using c16
     (try (have c16b1 : decide (t507 = t519) = false := by simpa using c16))
     (try (have c16b2 : (t507 == t519) = false := by simpa using c16))
     (try (have c16b3 : ¬ (t507 = t519) := by simpa using c16))
     clear c16
     obtain rfl := Option.some.inj H
     go_enter Tryd.func8, Tryd.ntmps8
     go_wp2_with (first | ((with_reducible refine gate_callee (f := 22) rfl ?_); refine goesL_ (some 13) rfl rfl Tryd.func22 (by kernel_rfl) rfl #[.slice A0 l0.length c0] rfl (Qls) ?_; (with_reducible refine (lampblacklaw07_Few.calls _ _ l0 t494 _ ?side1 ?side2 A3.out).mono ?_); (case side1 => exact Qsc HR0.out); (case side2 => exact HC0.out); rintro e w48 ⟨v495, rfl, ho0, hb⟩; refine ⟨_, rfl, ?_⟩; have n0_ := Aside0.mk (Kd.R_lower ho0 (below_size (Qaw))); have n1_ := Aside0.mk (below_step (Qaw) hb); clear HB; have HO496 := n0_; have HB := n1_; clear n0_ n1_; (try clear hb); (try clear hb2); (try clear hk); (try clear hi); (try clear ho0); obtain ⟨Ao49, co49, eo49⟩ := Kd.R_slice HO496.out; subst eo49) | ((with_reducible refine gate_callee (f := 40) rfl ?_); refine goesL_ (some 14) rfl rfl Tryd.func40 (by kernel_rfl) rfl #[.slice Ao49 t494.length co49] rfl (Qls) ?_; (with_reducible refine (minor_Reduce.calls (hGL := (Qlg)) _ _ t494 t497 t498 _ ?side1 ?side2 A4.out).mono ?_); (case side1 => exact Qsc (Kd.R_reads' HO496.out).2.2); (case side2 => exact (Kd.R_reads' HO496.out).2.1); rintro e w50 ⟨v499, rfl, ho0, hb⟩; refine ⟨_, rfl, ?_⟩; have n0_ := Aside0.mk (Kd.R_below (Qro HO496.out) hb); have n1_ := Aside0.mk (Kd.R_lower ho0 (below_size (Qaw))); have n2_ := Aside0.mk (below_step (Qaw) hb); clear HO496; clear HB; have HO496 := n0_; have HO500 := n1_; have HB := n2_; clear n0_ n1_ n2_; (try clear hb); (try clear hb2); (try clear hk); (try clear hi); (try clear ho0)) | ((with_reducible refine gate_callee (f := 22) rfl ?_); refine goesL_ (some 19) rfl rfl Tryd.func22 (by kernel_rfl) rfl #[.slice A0 l0.length c0] rfl (Qls) ?_; (with_reducible refine (lampblacklaw07_Few.calls _ _ l0 t501 _ ?side1 ?side2 A5.out).mono ?_); (case side1 => exact Qsc (Kd.C_below HR0.out HB.out)); (case side2 => exact HC0.out); rintro e w51 ⟨v502, rfl, ho0, hb⟩; refine ⟨_, rfl, ?_⟩; have n0_ := Aside0.mk (Kd.R_elder' (Qro HO496.out) (Kd.R_base ho0) hb); have n1_ := Aside0.mk (Kd.R_below (Qro HO500.out) hb); have n2_ := Aside0.mk (Kd.R_lower (Kd.R_new' ho0 (Kd.R_lt (Qro HO496.out))) (below_size (Qaw))); have n3_ := Aside0.mk (below_step (Qaw) hb); clear HO496; clear HO500; clear HB; have HO496 := n0_; have HO500 := n1_; have HO503 := n2_; have HB := n3_; clear n0_ n1_ n2_ n3_; (try clear hb); (try clear hb2); (try clear hk); (try clear hi); (try clear ho0)) | ((with_reducible refine gate_callee (f := 42) rfl ?_); refine goesL_ (some 21) rfl rfl Tryd.func42 (by kernel_rfl) rfl #[.slice A1 l1.length c1] rfl (Qls) ?_; (with_reducible refine (lampblacklaw07_steps.calls k _ _ l1 t504 _ ?side1 ?side2 A6.out).mono ?_); (case side1 => exact Qsc (Kd.C_below HR1.out HB.out)); (case side2 => exact HC1.out); rintro e w52 ⟨v505, rfl, ho0, hb⟩; refine ⟨_, rfl, ?_⟩; have n0_ := Aside0.mk (Kd.R_below (Qro HO496.out) hb); have n1_ := Aside0.mk (Kd.R_elder' (Qro HO500.out) (Kd.R_base ho0) hb); have n2_ := Aside0.mk (Kd.R_below (Qro HO503.out) hb); have n3_ := Aside0.mk (Kd.R_lower (Kd.R_new' ho0 (Kd.R_lt (Qro HO500.out))) (below_size (Qaw))); have n4_ := Aside0.mk (below_step (Qaw) hb); clear HO496; clear HO500; clear HO503; clear HB; have HO496 := n0_; have HO500 := n1_; have HO503 := n2_; have HO506 := n3_; have HB := n4_; clear n0_ n1_ n2_ n3_ n4_; (try clear hb); (try clear hb2); (try clear hk); (try clear hi); (try clear ho0); obtain ⟨Ao53, co53, eo53⟩ := Kd.R_slice HO503.out; subst eo53; obtain ⟨Ao54, co54, eo54⟩ := Kd.R_slice HO506.out; subst eo54) | ((with_reducible refine gate_callee (f := 41) rfl ?_); refine goesL_ (some 22) rfl rfl Tryd.func41 (by kernel_rfl) rfl #[.slice Ao53 t501.length co53, .slice Ao54 t504.length co54] rfl (Qls) ?_; (with_reducible refine (minor_CheckReduce.calls (hGL := (Qlg)) _ _ t501 _ _ t504 t507 t508 _ ?side1 ?side2 ?side3 ?side4 A7.out).mono ?_); (case side1 => exact Qsc (Kd.R_reads' HO503.out).2.2); (case side2 => exact (Kd.R_reads' HO503.out).2.1); (case side3 => exact Qsc (Kd.R_reads' HO506.out).2.2); (case side4 => exact (Kd.R_reads' HO506.out).2.1); rintro e w55 ⟨rfl, hb⟩; refine ⟨_, rfl, ?_⟩; have n0_ := Aside0.mk (Kd.R_below (Qro HO496.out) hb); have n1_ := Aside0.mk (Kd.R_below (Qro HO500.out) hb); have n2_ := Aside0.mk (Kd.R_below (Qro HO503.out) hb); have n3_ := Aside0.mk (Kd.R_below (Qro HO506.out) hb); have n4_ := Aside0.mk (below_step (Qaw) hb); clear HO496; clear HO500; clear HO503; clear HO506; clear HB; have HO496 := n0_; have HO500 := n1_; have HO503 := n2_; have HO506 := n3_; have HB := n4_; clear n0_ n1_ n2_ n3_ n4_; (try clear hb); (try clear hb2); (try clear hk); (try clear hi)) | ((with_reducible refine gate_callee (f := 16) rfl ?_); refine goesL_ (some 26) rfl rfl Tryd.func16 (by kernel_rfl) rfl #[.slice A0 l0.length c0] rfl (Qls) ?_; (with_reducible refine (lampblackref07_Valid.calls k _ _ l0 true _ ?side1 ?side2 A8.out).mono ?_); (case side1 => exact Qsc (Kd.C_below HR0.out HB.out)); (case side2 => exact HC0.out); rintro e w' ⟨rfl, ⟨nd, rfl⟩⟩; refine ⟨_, rfl, ?_⟩) | ((with_reducible refine gate_callee (f := 43) rfl ?_); refine goesL_ (some 48) rfl rfl Tryd.func43 (by kernel_rfl) rfl #[.slice A0 l0.length c0] rfl (Qls) ?_; (with_reducible refine (lampblackref07_Reduce.calls k (fun k_ => k_ < w.heap.size) _ _ l0 t511 t514 _ ?side1 A10.out).mono ?_); (case side1 => exact Kd.V_mk HC0.out (Kd.F_below (Kd.C_F (Kd.heap_int .i64) HR0.out) (Qaw))); rintro e w56 ⟨v512, rfl, ho0, hb⟩; refine ⟨_, rfl, ?_⟩; have n0_ := Aside0.mk (Kd.R_below (Qro HO496.out) hb); have n1_ := Aside0.mk (Kd.R_below (Qro HO500.out) hb); have n2_ := Aside0.mk (Kd.R_below (Qro HO503.out) hb); have n3_ := Aside0.mk (Kd.R_below (Qro HO506.out) hb); have n4_ := Aside0.mk (Kd.R_lower (Kd.R_mono (ok' := fun k_ => True) ho0 (fun _ hk_ => trivial)) (below_size (Qaw))); have n5_ := Aside0.mk (below_step (Qaw) hb); clear HO496; clear HO500; clear HO503; clear HO506; clear HB; have HO496 := n0_; have HO500 := n1_; have HO503 := n2_; have HO506 := n3_; have HO513 := n4_; have HB := n5_; clear n0_ n1_ n2_ n3_ n4_ n5_; (try clear hb); (try clear hb2); (try clear hk); (try clear hi); (try clear ho0); obtain ⟨Ao57, co57, eo57⟩ := Kd.R_slice HO500.out; subst eo57) | ((with_reducible refine gate_callee (f := 45) rfl ?_); refine goesL_ (some 52) rfl rfl Tryd.func45 (by kernel_rfl) rfl #[.slice Ao57 t497.length co57] rfl (Qls) ?_; (with_reducible refine (lampblacklaw07_own.calls k _ _ t497 t515 _ ?side1 ?side2 A11.out).mono ?_); (case side1 => exact Qsc (Kd.R_reads' HO500.out).2.2); (case side2 => exact (Kd.R_reads' HO500.out).2.1); rintro e w58 ⟨v516, rfl, ho0, hb⟩; refine ⟨_, rfl, ?_⟩; have n0_ := Aside0.mk (Kd.R_below (Qro HO496.out) hb); have n1_ := Aside0.mk (Kd.R_below (Qro HO500.out) hb); have n2_ := Aside0.mk (Kd.R_below (Qro HO503.out) hb); have n3_ := Aside0.mk (Kd.R_below (Qro HO506.out) hb); have n4_ := Aside0.mk (Kd.R_elder' (Qro HO513.out) (Kd.R_base ho0) hb); have n5_ := Aside0.mk (Kd.R_lower (Kd.R_new' ho0 (Kd.R_lt (Qro HO513.out))) (below_size (Qaw))); have n6_ := Aside0.mk (below_step (Qaw) hb); clear HO496; clear HO500; clear HO503; clear HO506; clear HO513; clear HB; have HO496 := n0_; have HO500 := n1_; have HO503 := n2_; have HO506 := n3_; have HO513 := n4_; have HO517 := n5_; have HB := n6_; clear n0_ n1_ n2_ n3_ n4_ n5_ n6_; (try clear hb); (try clear hb2); (try clear hk); (try clear hi); (try clear ho0); obtain ⟨Ao59, co59, eo59⟩ := Kd.R_slice HO517.out; subst eo59; obtain ⟨Ao60, co60, eo60⟩ := Kd.R_slice HO513.out; subst eo60) | ((with_reducible refine gate_callee (f := 44) rfl ?_); refine goesL_ (some 54) rfl rfl Tryd.func44 (by kernel_rfl) rfl #[.slice Ao59 t515.length co59, .slice Ao60 t511.length co60] rfl (Qls) ?_; (with_reducible refine (lampblackref07_Step.calls k _ _ t515 _ _ t511 true _ ?side1 ?side2 ?side3 ?side4 A12.out).mono ?_); (case side1 => exact Qsc (Kd.R_reads' HO517.out).2.2); (case side2 => exact (Kd.R_reads' HO517.out).2.1); (case side3 => exact Qsc (Kd.R_reads' HO513.out).2.2); (case side4 => exact (Kd.R_reads' HO513.out).2.1); rintro e w' ⟨rfl, ⟨nd, rfl⟩⟩; refine ⟨_, rfl, ?_⟩) | (go_at_call 46; (with_reducible refine (lampblackref07_Reduces.calls k (fun k_ => k_ < w.heap.size) _ _ l0 _ _ l1 t519 _ ?side1 ?side2 ?side3 A15.out).mono ?_); (case side1 => exact Kd.V_mk HC0.out (Kd.F_below (Kd.C_F (Kd.heap_int .i64) HR0.out) (Qaw))); (case side2 => repeat (first | exact (Kd.C_below HR1.out (Qaw)) | (with_reducible refine Kd.C_alloc ?_ _) | (with_reducible refine Kd.C_drewN ?_ _) | (with_reducible refine Kd.C_drew ?_))); (case side3 => exact HC1.out); rintro e w61 ⟨rfl, hb⟩; have n0_ := Aside0.mk (Kd.R_below (Qro HO496.out) hb); have n1_ := Aside0.mk (Kd.R_below (Qro HO500.out) hb); have n2_ := Aside0.mk (Kd.R_below (Qro HO503.out) hb); have n3_ := Aside0.mk (Kd.R_below (Qro HO506.out) hb); have n4_ := Aside0.mk (Kd.R_below (Qro HO513.out) hb); have n5_ := Aside0.mk (Kd.R_below (Qro HO517.out) hb); have n6_ := Aside0.mk (below_step (Qaw) hb); clear HO496; clear HO500; clear HO503; clear HO506; clear HO513; clear HO517; clear HB; have HO496 := n0_; have HO500 := n1_; have HO503 := n2_; have HO506 := n3_; have HO513 := n4_; have HO517 := n5_; have HB := n6_; clear n0_ n1_ n2_ n3_ n4_ n5_ n6_; (try clear hb); (try clear hb2); (try clear hk); (try clear hi)))
     go_ret
     exact ⟨by first | rfl | (simp [errW_none, errW_some] <;> rfl) | (simp [*, errW_none, errW_some] <;> rfl), by repeat (first | (with_reducible first | exact HB.out | apply below_alloc | apply pw_below_drewN | apply below_drew1) | exact HB.out)⟩
   ·rw [if_neg c14] at H
    have c14b0 : (t498 == t514) = false := beq_eq_false_iff_ne.mpr c14
    have c14b1 : (t498 != t514) = true := bne_iff_ne.mpr c14
    obtain rfl := Option.some.inj H
    go_enter Tryd.func8, Tryd.ntmps8
    go_wp2_with (first | ((with_reducible refine gate_callee (f := 22) rfl ?_); refine goesL_ (some 13) rfl rfl Tryd.func22 (by kernel_rfl) rfl #[.slice A0 l0.length c0] rfl (Qls) ?_; (with_reducible refine (lampblacklaw07_Few.calls _ _ l0 t494 _ ?side1 ?side2 A3.out).mono ?_); (case side1 => exact Qsc HR0.out); (case side2 => exact HC0.out); rintro e w62 ⟨v495, rfl, ho0, hb⟩; refine ⟨_, rfl, ?_⟩; have n0_ := Aside0.mk (Kd.R_lower ho0 (below_size (Qaw))); have n1_ := Aside0.mk (below_step (Qaw) hb); clear HB; have HO496 := n0_; have HB := n1_; clear n0_ n1_; (try clear hb); (try clear hb2); (try clear hk); (try clear hi); (try clear ho0); obtain ⟨Ao63, co63, eo63⟩ := Kd.R_slice HO496.out; subst eo63) | ((with_reducible refine gate_callee (f := 40) rfl ?_); refine goesL_ (some 14) rfl rfl Tryd.func40 (by kernel_rfl) rfl #[.slice Ao63 t494.length co63] rfl (Qls) ?_; (with_reducible refine (minor_Reduce.calls (hGL := (Qlg)) _ _ t494 t497 t498 _ ?side1 ?side2 A4.out).mono ?_); (case side1 => exact Qsc (Kd.R_reads' HO496.out).2.2); (case side2 => exact (Kd.R_reads' HO496.out).2.1); rintro e w64 ⟨v499, rfl, ho0, hb⟩; refine ⟨_, rfl, ?_⟩; have n0_ := Aside0.mk (Kd.R_below (Qro HO496.out) hb); have n1_ := Aside0.mk (Kd.R_lower ho0 (below_size (Qaw))); have n2_ := Aside0.mk (below_step (Qaw) hb); clear HO496; clear HB; have HO496 := n0_; have HO500 := n1_; have HB := n2_; clear n0_ n1_ n2_; (try clear hb); (try clear hb2); (try clear hk); (try clear hi); (try clear ho0)) | ((with_reducible refine gate_callee (f := 22) rfl ?_); refine goesL_ (some 19) rfl rfl Tryd.func22 (by kernel_rfl) rfl #[.slice A0 l0.length c0] rfl (Qls) ?_; (with_reducible refine (lampblacklaw07_Few.calls _ _ l0 t501 _ ?side1 ?side2 A5.out).mono ?_); (case side1 => exact Qsc (Kd.C_below HR0.out HB.out)); (case side2 => exact HC0.out); rintro e w65 ⟨v502, rfl, ho0, hb⟩; refine ⟨_, rfl, ?_⟩; have n0_ := Aside0.mk (Kd.R_elder' (Qro HO496.out) (Kd.R_base ho0) hb); have n1_ := Aside0.mk (Kd.R_below (Qro HO500.out) hb); have n2_ := Aside0.mk (Kd.R_lower (Kd.R_new' ho0 (Kd.R_lt (Qro HO496.out))) (below_size (Qaw))); have n3_ := Aside0.mk (below_step (Qaw) hb); clear HO496; clear HO500; clear HB; have HO496 := n0_; have HO500 := n1_; have HO503 := n2_; have HB := n3_; clear n0_ n1_ n2_ n3_; (try clear hb); (try clear hb2); (try clear hk); (try clear hi); (try clear ho0)) | ((with_reducible refine gate_callee (f := 42) rfl ?_); refine goesL_ (some 21) rfl rfl Tryd.func42 (by kernel_rfl) rfl #[.slice A1 l1.length c1] rfl (Qls) ?_; (with_reducible refine (lampblacklaw07_steps.calls k _ _ l1 t504 _ ?side1 ?side2 A6.out).mono ?_); (case side1 => exact Qsc (Kd.C_below HR1.out HB.out)); (case side2 => exact HC1.out); rintro e w66 ⟨v505, rfl, ho0, hb⟩; refine ⟨_, rfl, ?_⟩; have n0_ := Aside0.mk (Kd.R_below (Qro HO496.out) hb); have n1_ := Aside0.mk (Kd.R_elder' (Qro HO500.out) (Kd.R_base ho0) hb); have n2_ := Aside0.mk (Kd.R_below (Qro HO503.out) hb); have n3_ := Aside0.mk (Kd.R_lower (Kd.R_new' ho0 (Kd.R_lt (Qro HO500.out))) (below_size (Qaw))); have n4_ := Aside0.mk (below_step (Qaw) hb); clear HO496; clear HO500; clear HO503; clear HB; have HO496 := n0_; have HO500 := n1_; have HO503 := n2_; have HO506 := n3_; have HB := n4_; clear n0_ n1_ n2_ n3_ n4_; (try clear hb); (try clear hb2); (try clear hk); (try clear hi); (try clear ho0); obtain ⟨Ao67, co67, eo67⟩ := Kd.R_slice HO503.out; subst eo67; obtain ⟨Ao68, co68, eo68⟩ := Kd.R_slice HO506.out; subst eo68) | ((with_reducible refine gate_callee (f := 41) rfl ?_); refine goesL_ (some 22) rfl rfl Tryd.func41 (by kernel_rfl) rfl #[.slice Ao67 t501.length co67, .slice Ao68 t504.length co68] rfl (Qls) ?_; (with_reducible refine (minor_CheckReduce.calls (hGL := (Qlg)) _ _ t501 _ _ t504 t507 t508 _ ?side1 ?side2 ?side3 ?side4 A7.out).mono ?_); (case side1 => exact Qsc (Kd.R_reads' HO503.out).2.2); (case side2 => exact (Kd.R_reads' HO503.out).2.1); (case side3 => exact Qsc (Kd.R_reads' HO506.out).2.2); (case side4 => exact (Kd.R_reads' HO506.out).2.1); rintro e w69 ⟨rfl, hb⟩; refine ⟨_, rfl, ?_⟩; have n0_ := Aside0.mk (Kd.R_below (Qro HO496.out) hb); have n1_ := Aside0.mk (Kd.R_below (Qro HO500.out) hb); have n2_ := Aside0.mk (Kd.R_below (Qro HO503.out) hb); have n3_ := Aside0.mk (Kd.R_below (Qro HO506.out) hb); have n4_ := Aside0.mk (below_step (Qaw) hb); clear HO496; clear HO500; clear HO503; clear HO506; clear HB; have HO496 := n0_; have HO500 := n1_; have HO503 := n2_; have HO506 := n3_; have HB := n4_; clear n0_ n1_ n2_ n3_ n4_; (try clear hb); (try clear hb2); (try clear hk); (try clear hi)) | ((with_reducible refine gate_callee (f := 16) rfl ?_); refine goesL_ (some 26) rfl rfl Tryd.func16 (by kernel_rfl) rfl #[.slice A0 l0.length c0] rfl (Qls) ?_; (with_reducible refine (lampblackref07_Valid.calls k _ _ l0 true _ ?side1 ?side2 A8.out).mono ?_); (case side1 => exact Qsc (Kd.C_below HR0.out HB.out)); (case side2 => exact HC0.out); rintro e w' ⟨rfl, ⟨nd, rfl⟩⟩; refine ⟨_, rfl, ?_⟩) | ((with_reducible refine gate_callee (f := 43) rfl ?_); refine goesL_ (some 48) rfl rfl Tryd.func43 (by kernel_rfl) rfl #[.slice A0 l0.length c0] rfl (Qls) ?_; (with_reducible refine (lampblackref07_Reduce.calls k (fun k_ => k_ < w.heap.size) _ _ l0 t511 t514 _ ?side1 A10.out).mono ?_); (case side1 => exact Kd.V_mk HC0.out (Kd.F_below (Kd.C_F (Kd.heap_int .i64) HR0.out) (Qaw))); rintro e w70 ⟨v512, rfl, ho0, hb⟩; refine ⟨_, rfl, ?_⟩; have n0_ := Aside0.mk (Kd.R_below (Qro HO496.out) hb); have n1_ := Aside0.mk (Kd.R_below (Qro HO500.out) hb); have n2_ := Aside0.mk (Kd.R_below (Qro HO503.out) hb); have n3_ := Aside0.mk (Kd.R_below (Qro HO506.out) hb); have n4_ := Aside0.mk (Kd.R_lower (Kd.R_mono (ok' := fun k_ => True) ho0 (fun _ hk_ => trivial)) (below_size (Qaw))); have n5_ := Aside0.mk (below_step (Qaw) hb); clear HO496; clear HO500; clear HO503; clear HO506; clear HB; have HO496 := n0_; have HO500 := n1_; have HO503 := n2_; have HO506 := n3_; have HO513 := n4_; have HB := n5_; clear n0_ n1_ n2_ n3_ n4_ n5_; (try clear hb); (try clear hb2); (try clear hk); (try clear hi); (try clear ho0); obtain ⟨Ao71, co71, eo71⟩ := Kd.R_slice HO500.out; subst eo71) | ((with_reducible refine gate_callee (f := 45) rfl ?_); refine goesL_ (some 52) rfl rfl Tryd.func45 (by kernel_rfl) rfl #[.slice Ao71 t497.length co71] rfl (Qls) ?_; (with_reducible refine (lampblacklaw07_own.calls k _ _ t497 t515 _ ?side1 ?side2 A11.out).mono ?_); (case side1 => exact Qsc (Kd.R_reads' HO500.out).2.2); (case side2 => exact (Kd.R_reads' HO500.out).2.1); rintro e w72 ⟨v516, rfl, ho0, hb⟩; refine ⟨_, rfl, ?_⟩; have n0_ := Aside0.mk (Kd.R_below (Qro HO496.out) hb); have n1_ := Aside0.mk (Kd.R_below (Qro HO500.out) hb); have n2_ := Aside0.mk (Kd.R_below (Qro HO503.out) hb); have n3_ := Aside0.mk (Kd.R_below (Qro HO506.out) hb); have n4_ := Aside0.mk (Kd.R_elder' (Qro HO513.out) (Kd.R_base ho0) hb); have n5_ := Aside0.mk (Kd.R_lower (Kd.R_new' ho0 (Kd.R_lt (Qro HO513.out))) (below_size (Qaw))); have n6_ := Aside0.mk (below_step (Qaw) hb); clear HO496; clear HO500; clear HO503; clear HO506; clear HO513; clear HB; have HO496 := n0_; have HO500 := n1_; have HO503 := n2_; have HO506 := n3_; have HO513 := n4_; have HO517 := n5_; have HB := n6_; clear n0_ n1_ n2_ n3_ n4_ n5_ n6_; (try clear hb); (try clear hb2); (try clear hk); (try clear hi); (try clear ho0); obtain ⟨Ao73, co73, eo73⟩ := Kd.R_slice HO517.out; subst eo73; obtain ⟨Ao74, co74, eo74⟩ := Kd.R_slice HO513.out; subst eo74) | ((with_reducible refine gate_callee (f := 44) rfl ?_); refine goesL_ (some 54) rfl rfl Tryd.func44 (by kernel_rfl) rfl #[.slice Ao73 t515.length co73, .slice Ao74 t511.length co74] rfl (Qls) ?_; (with_reducible refine (lampblackref07_Step.calls k _ _ t515 _ _ t511 true _ ?side1 ?side2 ?side3 ?side4 A12.out).mono ?_); (case side1 => exact Qsc (Kd.R_reads' HO517.out).2.2); (case side2 => exact (Kd.R_reads' HO517.out).2.1); (case side3 => exact Qsc (Kd.R_reads' HO513.out).2.2); (case side4 => exact (Kd.R_reads' HO513.out).2.1); rintro e w' ⟨rfl, ⟨nd, rfl⟩⟩; refine ⟨_, rfl, ?_⟩))
    go_ret
    exact ⟨by first | rfl | (simp [errW_none, errW_some] <;> rfl) | (simp [*, errW_none, errW_some] <;> rfl), by repeat (first | (with_reducible first | exact HB.out | apply below_alloc | apply pw_below_drewN | apply below_drew1) | exact HB.out)⟩
  ·replace c13 := Bool.eq_false_iff.mpr c13
   subst c13
   have H1 : (some false) = some r := by rw [if_neg (show ¬ (false = true) by decide)] at H; exact H
   clear H
   have H := H1
   clear H1
   obtain rfl := Option.some.inj H
   go_enter Tryd.func8, Tryd.ntmps8
   go_wp2_with (first | ((with_reducible refine gate_callee (f := 22) rfl ?_); refine goesL_ (some 13) rfl rfl Tryd.func22 (by kernel_rfl) rfl #[.slice A0 l0.length c0] rfl (Qls) ?_; (with_reducible refine (lampblacklaw07_Few.calls _ _ l0 t494 _ ?side1 ?side2 A3.out).mono ?_); (case side1 => exact Qsc HR0.out); (case side2 => exact HC0.out); rintro e w75 ⟨v495, rfl, ho0, hb⟩; refine ⟨_, rfl, ?_⟩; have n0_ := Aside0.mk (Kd.R_lower ho0 (below_size (Qaw))); have n1_ := Aside0.mk (below_step (Qaw) hb); clear HB; have HO496 := n0_; have HB := n1_; clear n0_ n1_; (try clear hb); (try clear hb2); (try clear hk); (try clear hi); (try clear ho0); obtain ⟨Ao76, co76, eo76⟩ := Kd.R_slice HO496.out; subst eo76) | ((with_reducible refine gate_callee (f := 40) rfl ?_); refine goesL_ (some 14) rfl rfl Tryd.func40 (by kernel_rfl) rfl #[.slice Ao76 t494.length co76] rfl (Qls) ?_; (with_reducible refine (minor_Reduce.calls (hGL := (Qlg)) _ _ t494 t497 t498 _ ?side1 ?side2 A4.out).mono ?_); (case side1 => exact Qsc (Kd.R_reads' HO496.out).2.2); (case side2 => exact (Kd.R_reads' HO496.out).2.1); rintro e w77 ⟨v499, rfl, ho0, hb⟩; refine ⟨_, rfl, ?_⟩; have n0_ := Aside0.mk (Kd.R_below (Qro HO496.out) hb); have n1_ := Aside0.mk (Kd.R_lower ho0 (below_size (Qaw))); have n2_ := Aside0.mk (below_step (Qaw) hb); clear HO496; clear HB; have HO496 := n0_; have HO500 := n1_; have HB := n2_; clear n0_ n1_ n2_; (try clear hb); (try clear hb2); (try clear hk); (try clear hi); (try clear ho0)) | ((with_reducible refine gate_callee (f := 22) rfl ?_); refine goesL_ (some 19) rfl rfl Tryd.func22 (by kernel_rfl) rfl #[.slice A0 l0.length c0] rfl (Qls) ?_; (with_reducible refine (lampblacklaw07_Few.calls _ _ l0 t501 _ ?side1 ?side2 A5.out).mono ?_); (case side1 => exact Qsc (Kd.C_below HR0.out HB.out)); (case side2 => exact HC0.out); rintro e w78 ⟨v502, rfl, ho0, hb⟩; refine ⟨_, rfl, ?_⟩; have n0_ := Aside0.mk (Kd.R_elder' (Qro HO496.out) (Kd.R_base ho0) hb); have n1_ := Aside0.mk (Kd.R_below (Qro HO500.out) hb); have n2_ := Aside0.mk (Kd.R_lower (Kd.R_new' ho0 (Kd.R_lt (Qro HO496.out))) (below_size (Qaw))); have n3_ := Aside0.mk (below_step (Qaw) hb); clear HO496; clear HO500; clear HB; have HO496 := n0_; have HO500 := n1_; have HO503 := n2_; have HB := n3_; clear n0_ n1_ n2_ n3_; (try clear hb); (try clear hb2); (try clear hk); (try clear hi); (try clear ho0)) | ((with_reducible refine gate_callee (f := 42) rfl ?_); refine goesL_ (some 21) rfl rfl Tryd.func42 (by kernel_rfl) rfl #[.slice A1 l1.length c1] rfl (Qls) ?_; (with_reducible refine (lampblacklaw07_steps.calls k _ _ l1 t504 _ ?side1 ?side2 A6.out).mono ?_); (case side1 => exact Qsc (Kd.C_below HR1.out HB.out)); (case side2 => exact HC1.out); rintro e w79 ⟨v505, rfl, ho0, hb⟩; refine ⟨_, rfl, ?_⟩; have n0_ := Aside0.mk (Kd.R_below (Qro HO496.out) hb); have n1_ := Aside0.mk (Kd.R_elder' (Qro HO500.out) (Kd.R_base ho0) hb); have n2_ := Aside0.mk (Kd.R_below (Qro HO503.out) hb); have n3_ := Aside0.mk (Kd.R_lower (Kd.R_new' ho0 (Kd.R_lt (Qro HO500.out))) (below_size (Qaw))); have n4_ := Aside0.mk (below_step (Qaw) hb); clear HO496; clear HO500; clear HO503; clear HB; have HO496 := n0_; have HO500 := n1_; have HO503 := n2_; have HO506 := n3_; have HB := n4_; clear n0_ n1_ n2_ n3_ n4_; (try clear hb); (try clear hb2); (try clear hk); (try clear hi); (try clear ho0); obtain ⟨Ao80, co80, eo80⟩ := Kd.R_slice HO503.out; subst eo80; obtain ⟨Ao81, co81, eo81⟩ := Kd.R_slice HO506.out; subst eo81) | ((with_reducible refine gate_callee (f := 41) rfl ?_); refine goesL_ (some 22) rfl rfl Tryd.func41 (by kernel_rfl) rfl #[.slice Ao80 t501.length co80, .slice Ao81 t504.length co81] rfl (Qls) ?_; (with_reducible refine (minor_CheckReduce.calls (hGL := (Qlg)) _ _ t501 _ _ t504 t507 t508 _ ?side1 ?side2 ?side3 ?side4 A7.out).mono ?_); (case side1 => exact Qsc (Kd.R_reads' HO503.out).2.2); (case side2 => exact (Kd.R_reads' HO503.out).2.1); (case side3 => exact Qsc (Kd.R_reads' HO506.out).2.2); (case side4 => exact (Kd.R_reads' HO506.out).2.1); rintro e w82 ⟨rfl, hb⟩; refine ⟨_, rfl, ?_⟩; have n0_ := Aside0.mk (Kd.R_below (Qro HO496.out) hb); have n1_ := Aside0.mk (Kd.R_below (Qro HO500.out) hb); have n2_ := Aside0.mk (Kd.R_below (Qro HO503.out) hb); have n3_ := Aside0.mk (Kd.R_below (Qro HO506.out) hb); have n4_ := Aside0.mk (below_step (Qaw) hb); clear HO496; clear HO500; clear HO503; clear HO506; clear HB; have HO496 := n0_; have HO500 := n1_; have HO503 := n2_; have HO506 := n3_; have HB := n4_; clear n0_ n1_ n2_ n3_ n4_; (try clear hb); (try clear hb2); (try clear hk); (try clear hi)) | ((with_reducible refine gate_callee (f := 16) rfl ?_); refine goesL_ (some 26) rfl rfl Tryd.func16 (by kernel_rfl) rfl #[.slice A0 l0.length c0] rfl (Qls) ?_; (with_reducible refine (lampblackref07_Valid.calls k _ _ l0 true _ ?side1 ?side2 A8.out).mono ?_); (case side1 => exact Qsc (Kd.C_below HR0.out HB.out)); (case side2 => exact HC0.out); rintro e w' ⟨rfl, ⟨nd, rfl⟩⟩; refine ⟨_, rfl, ?_⟩) | ((with_reducible refine gate_callee (f := 43) rfl ?_); refine goesL_ (some 48) rfl rfl Tryd.func43 (by kernel_rfl) rfl #[.slice A0 l0.length c0] rfl (Qls) ?_; (with_reducible refine (lampblackref07_Reduce.calls k (fun k_ => k_ < w.heap.size) _ _ l0 t511 t514 _ ?side1 A10.out).mono ?_); (case side1 => exact Kd.V_mk HC0.out (Kd.F_below (Kd.C_F (Kd.heap_int .i64) HR0.out) (Qaw))); rintro e w83 ⟨v512, rfl, ho0, hb⟩; refine ⟨_, rfl, ?_⟩; have n0_ := Aside0.mk (Kd.R_below (Qro HO496.out) hb); have n1_ := Aside0.mk (Kd.R_below (Qro HO500.out) hb); have n2_ := Aside0.mk (Kd.R_below (Qro HO503.out) hb); have n3_ := Aside0.mk (Kd.R_below (Qro HO506.out) hb); have n4_ := Aside0.mk (Kd.R_lower (Kd.R_mono (ok' := fun k_ => True) ho0 (fun _ hk_ => trivial)) (below_size (Qaw))); have n5_ := Aside0.mk (below_step (Qaw) hb); clear HO496; clear HO500; clear HO503; clear HO506; clear HB; have HO496 := n0_; have HO500 := n1_; have HO503 := n2_; have HO506 := n3_; have HO513 := n4_; have HB := n5_; clear n0_ n1_ n2_ n3_ n4_ n5_; (try clear hb); (try clear hb2); (try clear hk); (try clear hi); (try clear ho0); obtain ⟨Ao84, co84, eo84⟩ := Kd.R_slice HO500.out; subst eo84) | ((with_reducible refine gate_callee (f := 45) rfl ?_); refine goesL_ (some 52) rfl rfl Tryd.func45 (by kernel_rfl) rfl #[.slice Ao84 t497.length co84] rfl (Qls) ?_; (with_reducible refine (lampblacklaw07_own.calls k _ _ t497 t515 _ ?side1 ?side2 A11.out).mono ?_); (case side1 => exact Qsc (Kd.R_reads' HO500.out).2.2); (case side2 => exact (Kd.R_reads' HO500.out).2.1); rintro e w85 ⟨v516, rfl, ho0, hb⟩; refine ⟨_, rfl, ?_⟩; have n0_ := Aside0.mk (Kd.R_below (Qro HO496.out) hb); have n1_ := Aside0.mk (Kd.R_below (Qro HO500.out) hb); have n2_ := Aside0.mk (Kd.R_below (Qro HO503.out) hb); have n3_ := Aside0.mk (Kd.R_below (Qro HO506.out) hb); have n4_ := Aside0.mk (Kd.R_elder' (Qro HO513.out) (Kd.R_base ho0) hb); have n5_ := Aside0.mk (Kd.R_lower (Kd.R_new' ho0 (Kd.R_lt (Qro HO513.out))) (below_size (Qaw))); have n6_ := Aside0.mk (below_step (Qaw) hb); clear HO496; clear HO500; clear HO503; clear HO506; clear HO513; clear HB; have HO496 := n0_; have HO500 := n1_; have HO503 := n2_; have HO506 := n3_; have HO513 := n4_; have HO517 := n5_; have HB := n6_; clear n0_ n1_ n2_ n3_ n4_ n5_ n6_; (try clear hb); (try clear hb2); (try clear hk); (try clear hi); (try clear ho0); obtain ⟨Ao86, co86, eo86⟩ := Kd.R_slice HO517.out; subst eo86; obtain ⟨Ao87, co87, eo87⟩ := Kd.R_slice HO513.out; subst eo87) | ((with_reducible refine gate_callee (f := 44) rfl ?_); refine goesL_ (some 54) rfl rfl Tryd.func44 (by kernel_rfl) rfl #[.slice Ao86 t515.length co86, .slice Ao87 t511.length co87] rfl (Qls) ?_; (with_reducible refine (lampblackref07_Step.calls k _ _ t515 _ _ t511 false _ ?side1 ?side2 ?side3 ?side4 A12.out).mono ?_); (case side1 => exact Qsc (Kd.R_reads' HO517.out).2.2); (case side2 => exact (Kd.R_reads' HO517.out).2.1); (case side3 => exact Qsc (Kd.R_reads' HO513.out).2.2); (case side4 => exact (Kd.R_reads' HO513.out).2.1); rintro e w' ⟨rfl, ⟨nd, rfl⟩⟩; refine ⟨_, rfl, ?_⟩))
   go_ret
   exact ⟨by first | rfl | (simp [errW_none, errW_some] <;> rfl) | (simp [*, errW_none, errW_some] <;> rfl), by repeat (first | (with_reducible first | exact HB.out | apply below_alloc | apply pw_below_drewN | apply below_drew1) | exact HB.out)⟩
 ·replace c9 := Bool.eq_false_iff.mpr c9
  subst c9
  have H1 : (if (t497.length : Int) = 0 then (if t507 = true then (some false) else (if t498 = 2 then (if t508 = 2 then ((lampblacklaw07_awake.f k).bind fun t510 => (some t510)) else (some false)) else (some false))) else (some false)) = some r := by rw [if_neg (show ¬ (false = true) by decide)] at H; exact H
  clear H
  have H := H1
  clear H1
  by_cases c88 : (t497.length : Int) = 0
  ·rw [if_pos c88] at H
   have c88b0 : ((t497.length : Int) == 0) = true := beq_iff_eq.mpr c88
   have c88b1 : ((t497.length : Int) != 0) = false := bne_eq_false_iff_eq.mpr c88
   clear c88
   by_cases c89 : t507 = true
   ·subst c89
    have H1 : (some false) = some r := by rw [if_pos rfl] at H; exact H
    clear H
    have H := H1
    clear H1
    obtain rfl := Option.some.inj H
    go_enter Tryd.func8, Tryd.ntmps8
    go_wp2_with (first | ((with_reducible refine gate_callee (f := 22) rfl ?_); refine goesL_ (some 13) rfl rfl Tryd.func22 (by kernel_rfl) rfl #[.slice A0 l0.length c0] rfl (Qls) ?_; (with_reducible refine (lampblacklaw07_Few.calls _ _ l0 t494 _ ?side1 ?side2 A3.out).mono ?_); (case side1 => exact Qsc HR0.out); (case side2 => exact HC0.out); rintro e w90 ⟨v495, rfl, ho0, hb⟩; refine ⟨_, rfl, ?_⟩; have n0_ := Aside0.mk (Kd.R_lower ho0 (below_size (Qaw))); have n1_ := Aside0.mk (below_step (Qaw) hb); clear HB; have HO496 := n0_; have HB := n1_; clear n0_ n1_; (try clear hb); (try clear hb2); (try clear hk); (try clear hi); (try clear ho0); obtain ⟨Ao91, co91, eo91⟩ := Kd.R_slice HO496.out; subst eo91) | ((with_reducible refine gate_callee (f := 40) rfl ?_); refine goesL_ (some 14) rfl rfl Tryd.func40 (by kernel_rfl) rfl #[.slice Ao91 t494.length co91] rfl (Qls) ?_; (with_reducible refine (minor_Reduce.calls (hGL := (Qlg)) _ _ t494 t497 t498 _ ?side1 ?side2 A4.out).mono ?_); (case side1 => exact Qsc (Kd.R_reads' HO496.out).2.2); (case side2 => exact (Kd.R_reads' HO496.out).2.1); rintro e w92 ⟨v499, rfl, ho0, hb⟩; refine ⟨_, rfl, ?_⟩; have n0_ := Aside0.mk (Kd.R_below (Qro HO496.out) hb); have n1_ := Aside0.mk (Kd.R_lower ho0 (below_size (Qaw))); have n2_ := Aside0.mk (below_step (Qaw) hb); clear HO496; clear HB; have HO496 := n0_; have HO500 := n1_; have HB := n2_; clear n0_ n1_ n2_; (try clear hb); (try clear hb2); (try clear hk); (try clear hi); (try clear ho0)) | ((with_reducible refine gate_callee (f := 22) rfl ?_); refine goesL_ (some 19) rfl rfl Tryd.func22 (by kernel_rfl) rfl #[.slice A0 l0.length c0] rfl (Qls) ?_; (with_reducible refine (lampblacklaw07_Few.calls _ _ l0 t501 _ ?side1 ?side2 A5.out).mono ?_); (case side1 => exact Qsc (Kd.C_below HR0.out HB.out)); (case side2 => exact HC0.out); rintro e w93 ⟨v502, rfl, ho0, hb⟩; refine ⟨_, rfl, ?_⟩; have n0_ := Aside0.mk (Kd.R_elder' (Qro HO496.out) (Kd.R_base ho0) hb); have n1_ := Aside0.mk (Kd.R_below (Qro HO500.out) hb); have n2_ := Aside0.mk (Kd.R_lower (Kd.R_new' ho0 (Kd.R_lt (Qro HO496.out))) (below_size (Qaw))); have n3_ := Aside0.mk (below_step (Qaw) hb); clear HO496; clear HO500; clear HB; have HO496 := n0_; have HO500 := n1_; have HO503 := n2_; have HB := n3_; clear n0_ n1_ n2_ n3_; (try clear hb); (try clear hb2); (try clear hk); (try clear hi); (try clear ho0)) | ((with_reducible refine gate_callee (f := 42) rfl ?_); refine goesL_ (some 21) rfl rfl Tryd.func42 (by kernel_rfl) rfl #[.slice A1 l1.length c1] rfl (Qls) ?_; (with_reducible refine (lampblacklaw07_steps.calls k _ _ l1 t504 _ ?side1 ?side2 A6.out).mono ?_); (case side1 => exact Qsc (Kd.C_below HR1.out HB.out)); (case side2 => exact HC1.out); rintro e w94 ⟨v505, rfl, ho0, hb⟩; refine ⟨_, rfl, ?_⟩; have n0_ := Aside0.mk (Kd.R_below (Qro HO496.out) hb); have n1_ := Aside0.mk (Kd.R_elder' (Qro HO500.out) (Kd.R_base ho0) hb); have n2_ := Aside0.mk (Kd.R_below (Qro HO503.out) hb); have n3_ := Aside0.mk (Kd.R_lower (Kd.R_new' ho0 (Kd.R_lt (Qro HO500.out))) (below_size (Qaw))); have n4_ := Aside0.mk (below_step (Qaw) hb); clear HO496; clear HO500; clear HO503; clear HB; have HO496 := n0_; have HO500 := n1_; have HO503 := n2_; have HO506 := n3_; have HB := n4_; clear n0_ n1_ n2_ n3_ n4_; (try clear hb); (try clear hb2); (try clear hk); (try clear hi); (try clear ho0); obtain ⟨Ao95, co95, eo95⟩ := Kd.R_slice HO503.out; subst eo95; obtain ⟨Ao96, co96, eo96⟩ := Kd.R_slice HO506.out; subst eo96) | ((with_reducible refine gate_callee (f := 41) rfl ?_); refine goesL_ (some 22) rfl rfl Tryd.func41 (by kernel_rfl) rfl #[.slice Ao95 t501.length co95, .slice Ao96 t504.length co96] rfl (Qls) ?_; (with_reducible refine (minor_CheckReduce.calls (hGL := (Qlg)) _ _ t501 _ _ t504 true t508 _ ?side1 ?side2 ?side3 ?side4 A7.out).mono ?_); (case side1 => exact Qsc (Kd.R_reads' HO503.out).2.2); (case side2 => exact (Kd.R_reads' HO503.out).2.1); (case side3 => exact Qsc (Kd.R_reads' HO506.out).2.2); (case side4 => exact (Kd.R_reads' HO506.out).2.1); rintro e w97 ⟨rfl, hb⟩; refine ⟨_, rfl, ?_⟩; have n0_ := Aside0.mk (Kd.R_below (Qro HO496.out) hb); have n1_ := Aside0.mk (Kd.R_below (Qro HO500.out) hb); have n2_ := Aside0.mk (Kd.R_below (Qro HO503.out) hb); have n3_ := Aside0.mk (Kd.R_below (Qro HO506.out) hb); have n4_ := Aside0.mk (below_step (Qaw) hb); clear HO496; clear HO500; clear HO503; clear HO506; clear HB; have HO496 := n0_; have HO500 := n1_; have HO503 := n2_; have HO506 := n3_; have HB := n4_; clear n0_ n1_ n2_ n3_ n4_; (try clear hb); (try clear hb2); (try clear hk); (try clear hi)) | ((with_reducible refine gate_callee (f := 16) rfl ?_); refine goesL_ (some 26) rfl rfl Tryd.func16 (by kernel_rfl) rfl #[.slice A0 l0.length c0] rfl (Qls) ?_; (with_reducible refine (lampblackref07_Valid.calls k _ _ l0 false _ ?side1 ?side2 A8.out).mono ?_); (case side1 => exact Qsc (Kd.C_below HR0.out HB.out)); (case side2 => exact HC0.out); rintro e w' ⟨rfl, ⟨nd, rfl⟩⟩; refine ⟨_, rfl, ?_⟩; obtain ⟨Ao98, co98, eo98⟩ := Kd.R_slice HO500.out; subst eo98))
    go_ret
    exact ⟨by first | rfl | (simp [errW_none, errW_some] <;> rfl) | (simp [*, errW_none, errW_some] <;> rfl), by repeat (first | (with_reducible first | exact HB.out | apply below_alloc | apply pw_below_drewN | apply below_drew1) | exact HB.out)⟩
   ·replace c89 := Bool.eq_false_iff.mpr c89
    subst c89
    have H1 : (if t498 = 2 then (if t508 = 2 then ((lampblacklaw07_awake.f k).bind fun t510 => (some t510)) else (some false)) else (some false)) = some r := by rw [if_neg (show ¬ (false = true) by decide)] at H; exact H
    clear H
    have H := H1
    clear H1
    by_cases c99 : t498 = 2
    ·rw [if_pos c99] at H
     have c99b0 : (t498 == 2) = true := beq_iff_eq.mpr c99
     have c99b1 : (t498 != 2) = false := bne_eq_false_iff_eq.mpr c99
     clear c99
     by_cases c100 : t508 = 2
     ·rw [if_pos c100] at H
      have c100b0 : (t508 == 2) = true := beq_iff_eq.mpr c100
      have c100b1 : (t508 != 2) = false := bne_eq_false_iff_eq.mpr c100
      clear c100
      replace H := Option.bind_eq_some_iff.mp H
      obtain ⟨t510, A1010, H⟩ := H
      replace H : (some t510) = some r := H
      have A101 := Aside0.mk A1010
      clear A1010
      obtain rfl := Option.some.inj H
      go_enter Tryd.func8, Tryd.ntmps8
      go_wp2_with (first | ((with_reducible refine gate_callee (f := 22) rfl ?_); refine goesL_ (some 13) rfl rfl Tryd.func22 (by kernel_rfl) rfl #[.slice A0 l0.length c0] rfl (Qls) ?_; (with_reducible refine (lampblacklaw07_Few.calls _ _ l0 t494 _ ?side1 ?side2 A3.out).mono ?_); (case side1 => exact Qsc HR0.out); (case side2 => exact HC0.out); rintro e w102 ⟨v495, rfl, ho0, hb⟩; refine ⟨_, rfl, ?_⟩; have n0_ := Aside0.mk (Kd.R_lower ho0 (below_size (Qaw))); have n1_ := Aside0.mk (below_step (Qaw) hb); clear HB; have HO496 := n0_; have HB := n1_; clear n0_ n1_; (try clear hb); (try clear hb2); (try clear hk); (try clear hi); (try clear ho0); obtain ⟨Ao103, co103, eo103⟩ := Kd.R_slice HO496.out; subst eo103) | ((with_reducible refine gate_callee (f := 40) rfl ?_); refine goesL_ (some 14) rfl rfl Tryd.func40 (by kernel_rfl) rfl #[.slice Ao103 t494.length co103] rfl (Qls) ?_; (with_reducible refine (minor_Reduce.calls (hGL := (Qlg)) _ _ t494 t497 t498 _ ?side1 ?side2 A4.out).mono ?_); (case side1 => exact Qsc (Kd.R_reads' HO496.out).2.2); (case side2 => exact (Kd.R_reads' HO496.out).2.1); rintro e w104 ⟨v499, rfl, ho0, hb⟩; refine ⟨_, rfl, ?_⟩; have n0_ := Aside0.mk (Kd.R_below (Qro HO496.out) hb); have n1_ := Aside0.mk (Kd.R_lower ho0 (below_size (Qaw))); have n2_ := Aside0.mk (below_step (Qaw) hb); clear HO496; clear HB; have HO496 := n0_; have HO500 := n1_; have HB := n2_; clear n0_ n1_ n2_; (try clear hb); (try clear hb2); (try clear hk); (try clear hi); (try clear ho0)) | ((with_reducible refine gate_callee (f := 22) rfl ?_); refine goesL_ (some 19) rfl rfl Tryd.func22 (by kernel_rfl) rfl #[.slice A0 l0.length c0] rfl (Qls) ?_; (with_reducible refine (lampblacklaw07_Few.calls _ _ l0 t501 _ ?side1 ?side2 A5.out).mono ?_); (case side1 => exact Qsc (Kd.C_below HR0.out HB.out)); (case side2 => exact HC0.out); rintro e w105 ⟨v502, rfl, ho0, hb⟩; refine ⟨_, rfl, ?_⟩; have n0_ := Aside0.mk (Kd.R_elder' (Qro HO496.out) (Kd.R_base ho0) hb); have n1_ := Aside0.mk (Kd.R_below (Qro HO500.out) hb); have n2_ := Aside0.mk (Kd.R_lower (Kd.R_new' ho0 (Kd.R_lt (Qro HO496.out))) (below_size (Qaw))); have n3_ := Aside0.mk (below_step (Qaw) hb); clear HO496; clear HO500; clear HB; have HO496 := n0_; have HO500 := n1_; have HO503 := n2_; have HB := n3_; clear n0_ n1_ n2_ n3_; (try clear hb); (try clear hb2); (try clear hk); (try clear hi); (try clear ho0)) | ((with_reducible refine gate_callee (f := 42) rfl ?_); refine goesL_ (some 21) rfl rfl Tryd.func42 (by kernel_rfl) rfl #[.slice A1 l1.length c1] rfl (Qls) ?_; (with_reducible refine (lampblacklaw07_steps.calls k _ _ l1 t504 _ ?side1 ?side2 A6.out).mono ?_); (case side1 => exact Qsc (Kd.C_below HR1.out HB.out)); (case side2 => exact HC1.out); rintro e w106 ⟨v505, rfl, ho0, hb⟩; refine ⟨_, rfl, ?_⟩; have n0_ := Aside0.mk (Kd.R_below (Qro HO496.out) hb); have n1_ := Aside0.mk (Kd.R_elder' (Qro HO500.out) (Kd.R_base ho0) hb); have n2_ := Aside0.mk (Kd.R_below (Qro HO503.out) hb); have n3_ := Aside0.mk (Kd.R_lower (Kd.R_new' ho0 (Kd.R_lt (Qro HO500.out))) (below_size (Qaw))); have n4_ := Aside0.mk (below_step (Qaw) hb); clear HO496; clear HO500; clear HO503; clear HB; have HO496 := n0_; have HO500 := n1_; have HO503 := n2_; have HO506 := n3_; have HB := n4_; clear n0_ n1_ n2_ n3_ n4_; (try clear hb); (try clear hb2); (try clear hk); (try clear hi); (try clear ho0); obtain ⟨Ao107, co107, eo107⟩ := Kd.R_slice HO503.out; subst eo107; obtain ⟨Ao108, co108, eo108⟩ := Kd.R_slice HO506.out; subst eo108) | ((with_reducible refine gate_callee (f := 41) rfl ?_); refine goesL_ (some 22) rfl rfl Tryd.func41 (by kernel_rfl) rfl #[.slice Ao107 t501.length co107, .slice Ao108 t504.length co108] rfl (Qls) ?_; (with_reducible refine (minor_CheckReduce.calls (hGL := (Qlg)) _ _ t501 _ _ t504 false t508 _ ?side1 ?side2 ?side3 ?side4 A7.out).mono ?_); (case side1 => exact Qsc (Kd.R_reads' HO503.out).2.2); (case side2 => exact (Kd.R_reads' HO503.out).2.1); (case side3 => exact Qsc (Kd.R_reads' HO506.out).2.2); (case side4 => exact (Kd.R_reads' HO506.out).2.1); rintro e w109 ⟨rfl, hb⟩; refine ⟨_, rfl, ?_⟩; have n0_ := Aside0.mk (Kd.R_below (Qro HO496.out) hb); have n1_ := Aside0.mk (Kd.R_below (Qro HO500.out) hb); have n2_ := Aside0.mk (Kd.R_below (Qro HO503.out) hb); have n3_ := Aside0.mk (Kd.R_below (Qro HO506.out) hb); have n4_ := Aside0.mk (below_step (Qaw) hb); clear HO496; clear HO500; clear HO503; clear HO506; clear HB; have HO496 := n0_; have HO500 := n1_; have HO503 := n2_; have HO506 := n3_; have HB := n4_; clear n0_ n1_ n2_ n3_ n4_; (try clear hb); (try clear hb2); (try clear hk); (try clear hi)) | ((with_reducible refine gate_callee (f := 16) rfl ?_); refine goesL_ (some 26) rfl rfl Tryd.func16 (by kernel_rfl) rfl #[.slice A0 l0.length c0] rfl (Qls) ?_; (with_reducible refine (lampblackref07_Valid.calls k _ _ l0 false _ ?side1 ?side2 A8.out).mono ?_); (case side1 => exact Qsc (Kd.C_below HR0.out HB.out)); (case side2 => exact HC0.out); rintro e w' ⟨rfl, ⟨nd, rfl⟩⟩; refine ⟨_, rfl, ?_⟩; obtain ⟨Ao110, co110, eo110⟩ := Kd.R_slice HO500.out; subst eo110) | (go_at_call 17; (with_reducible refine (lampblacklaw07_awake.calls (hGL := (Qlg)) k  t510 _ A101.out).mono ?_); rintro e w111 ⟨rfl, hb⟩; have n0_ := Aside0.mk (Kd.R_below (Qro HO496.out) hb); have n1_ := Aside0.mk (Kd.R_below (Qro HO500.out) hb); have n2_ := Aside0.mk (Kd.R_below (Qro HO503.out) hb); have n3_ := Aside0.mk (Kd.R_below (Qro HO506.out) hb); have n4_ := Aside0.mk (below_step (Qaw) hb); clear HO496; clear HO500; clear HO503; clear HO506; clear HB; have HO496 := n0_; have HO500 := n1_; have HO503 := n2_; have HO506 := n3_; have HB := n4_; clear n0_ n1_ n2_ n3_ n4_; (try clear hb); (try clear hb2); (try clear hk); (try clear hi)))
      go_ret
      exact ⟨by first | rfl | (simp [errW_none, errW_some] <;> rfl) | (simp [*, errW_none, errW_some] <;> rfl), by repeat (first | (with_reducible first | exact HB.out | apply below_alloc | apply pw_below_drewN | apply below_drew1) | exact HB.out)⟩
     ·rw [if_neg c100] at H
      have c100b0 : (t508 == 2) = false := beq_eq_false_iff_ne.mpr c100
      have c100b1 : (t508 != 2) = true := bne_iff_ne.mpr c100
      obtain rfl := Option.some.inj H
      go_enter Tryd.func8, Tryd.ntmps8
      go_wp2_with (first | ((with_reducible refine gate_callee (f := 22) rfl ?_); refine goesL_ (some 13) rfl rfl Tryd.func22 (by kernel_rfl) rfl #[.slice A0 l0.length c0] rfl (Qls) ?_; (with_reducible refine (lampblacklaw07_Few.calls _ _ l0 t494 _ ?side1 ?side2 A3.out).mono ?_); (case side1 => exact Qsc HR0.out); (case side2 => exact HC0.out); rintro e w112 ⟨v495, rfl, ho0, hb⟩; refine ⟨_, rfl, ?_⟩; have n0_ := Aside0.mk (Kd.R_lower ho0 (below_size (Qaw))); have n1_ := Aside0.mk (below_step (Qaw) hb); clear HB; have HO496 := n0_; have HB := n1_; clear n0_ n1_; (try clear hb); (try clear hb2); (try clear hk); (try clear hi); (try clear ho0); obtain ⟨Ao113, co113, eo113⟩ := Kd.R_slice HO496.out; subst eo113) | ((with_reducible refine gate_callee (f := 40) rfl ?_); refine goesL_ (some 14) rfl rfl Tryd.func40 (by kernel_rfl) rfl #[.slice Ao113 t494.length co113] rfl (Qls) ?_; (with_reducible refine (minor_Reduce.calls (hGL := (Qlg)) _ _ t494 t497 t498 _ ?side1 ?side2 A4.out).mono ?_); (case side1 => exact Qsc (Kd.R_reads' HO496.out).2.2); (case side2 => exact (Kd.R_reads' HO496.out).2.1); rintro e w114 ⟨v499, rfl, ho0, hb⟩; refine ⟨_, rfl, ?_⟩; have n0_ := Aside0.mk (Kd.R_below (Qro HO496.out) hb); have n1_ := Aside0.mk (Kd.R_lower ho0 (below_size (Qaw))); have n2_ := Aside0.mk (below_step (Qaw) hb); clear HO496; clear HB; have HO496 := n0_; have HO500 := n1_; have HB := n2_; clear n0_ n1_ n2_; (try clear hb); (try clear hb2); (try clear hk); (try clear hi); (try clear ho0)) | ((with_reducible refine gate_callee (f := 22) rfl ?_); refine goesL_ (some 19) rfl rfl Tryd.func22 (by kernel_rfl) rfl #[.slice A0 l0.length c0] rfl (Qls) ?_; (with_reducible refine (lampblacklaw07_Few.calls _ _ l0 t501 _ ?side1 ?side2 A5.out).mono ?_); (case side1 => exact Qsc (Kd.C_below HR0.out HB.out)); (case side2 => exact HC0.out); rintro e w115 ⟨v502, rfl, ho0, hb⟩; refine ⟨_, rfl, ?_⟩; have n0_ := Aside0.mk (Kd.R_elder' (Qro HO496.out) (Kd.R_base ho0) hb); have n1_ := Aside0.mk (Kd.R_below (Qro HO500.out) hb); have n2_ := Aside0.mk (Kd.R_lower (Kd.R_new' ho0 (Kd.R_lt (Qro HO496.out))) (below_size (Qaw))); have n3_ := Aside0.mk (below_step (Qaw) hb); clear HO496; clear HO500; clear HB; have HO496 := n0_; have HO500 := n1_; have HO503 := n2_; have HB := n3_; clear n0_ n1_ n2_ n3_; (try clear hb); (try clear hb2); (try clear hk); (try clear hi); (try clear ho0)) | ((with_reducible refine gate_callee (f := 42) rfl ?_); refine goesL_ (some 21) rfl rfl Tryd.func42 (by kernel_rfl) rfl #[.slice A1 l1.length c1] rfl (Qls) ?_; (with_reducible refine (lampblacklaw07_steps.calls k _ _ l1 t504 _ ?side1 ?side2 A6.out).mono ?_); (case side1 => exact Qsc (Kd.C_below HR1.out HB.out)); (case side2 => exact HC1.out); rintro e w116 ⟨v505, rfl, ho0, hb⟩; refine ⟨_, rfl, ?_⟩; have n0_ := Aside0.mk (Kd.R_below (Qro HO496.out) hb); have n1_ := Aside0.mk (Kd.R_elder' (Qro HO500.out) (Kd.R_base ho0) hb); have n2_ := Aside0.mk (Kd.R_below (Qro HO503.out) hb); have n3_ := Aside0.mk (Kd.R_lower (Kd.R_new' ho0 (Kd.R_lt (Qro HO500.out))) (below_size (Qaw))); have n4_ := Aside0.mk (below_step (Qaw) hb); clear HO496; clear HO500; clear HO503; clear HB; have HO496 := n0_; have HO500 := n1_; have HO503 := n2_; have HO506 := n3_; have HB := n4_; clear n0_ n1_ n2_ n3_ n4_; (try clear hb); (try clear hb2); (try clear hk); (try clear hi); (try clear ho0); obtain ⟨Ao117, co117, eo117⟩ := Kd.R_slice HO503.out; subst eo117; obtain ⟨Ao118, co118, eo118⟩ := Kd.R_slice HO506.out; subst eo118) | ((with_reducible refine gate_callee (f := 41) rfl ?_); refine goesL_ (some 22) rfl rfl Tryd.func41 (by kernel_rfl) rfl #[.slice Ao117 t501.length co117, .slice Ao118 t504.length co118] rfl (Qls) ?_; (with_reducible refine (minor_CheckReduce.calls (hGL := (Qlg)) _ _ t501 _ _ t504 false t508 _ ?side1 ?side2 ?side3 ?side4 A7.out).mono ?_); (case side1 => exact Qsc (Kd.R_reads' HO503.out).2.2); (case side2 => exact (Kd.R_reads' HO503.out).2.1); (case side3 => exact Qsc (Kd.R_reads' HO506.out).2.2); (case side4 => exact (Kd.R_reads' HO506.out).2.1); rintro e w119 ⟨rfl, hb⟩; refine ⟨_, rfl, ?_⟩; have n0_ := Aside0.mk (Kd.R_below (Qro HO496.out) hb); have n1_ := Aside0.mk (Kd.R_below (Qro HO500.out) hb); have n2_ := Aside0.mk (Kd.R_below (Qro HO503.out) hb); have n3_ := Aside0.mk (Kd.R_below (Qro HO506.out) hb); have n4_ := Aside0.mk (below_step (Qaw) hb); clear HO496; clear HO500; clear HO503; clear HO506; clear HB; have HO496 := n0_; have HO500 := n1_; have HO503 := n2_; have HO506 := n3_; have HB := n4_; clear n0_ n1_ n2_ n3_ n4_; (try clear hb); (try clear hb2); (try clear hk); (try clear hi)) | ((with_reducible refine gate_callee (f := 16) rfl ?_); refine goesL_ (some 26) rfl rfl Tryd.func16 (by kernel_rfl) rfl #[.slice A0 l0.length c0] rfl (Qls) ?_; (with_reducible refine (lampblackref07_Valid.calls k _ _ l0 false _ ?side1 ?side2 A8.out).mono ?_); (case side1 => exact Qsc (Kd.C_below HR0.out HB.out)); (case side2 => exact HC0.out); rintro e w' ⟨rfl, ⟨nd, rfl⟩⟩; refine ⟨_, rfl, ?_⟩; obtain ⟨Ao120, co120, eo120⟩ := Kd.R_slice HO500.out; subst eo120))
      go_ret
      exact ⟨by first | rfl | (simp [errW_none, errW_some] <;> rfl) | (simp [*, errW_none, errW_some] <;> rfl), by repeat (first | (with_reducible first | exact HB.out | apply below_alloc | apply pw_below_drewN | apply below_drew1) | exact HB.out)⟩
    ·rw [if_neg c99] at H
     have c99b0 : (t498 == 2) = false := beq_eq_false_iff_ne.mpr c99
     have c99b1 : (t498 != 2) = true := bne_iff_ne.mpr c99
     obtain rfl := Option.some.inj H
     go_enter Tryd.func8, Tryd.ntmps8
     go_wp2_with (first | ((with_reducible refine gate_callee (f := 22) rfl ?_); refine goesL_ (some 13) rfl rfl Tryd.func22 (by kernel_rfl) rfl #[.slice A0 l0.length c0] rfl (Qls) ?_; (with_reducible refine (lampblacklaw07_Few.calls _ _ l0 t494 _ ?side1 ?side2 A3.out).mono ?_); (case side1 => exact Qsc HR0.out); (case side2 => exact HC0.out); rintro e w121 ⟨v495, rfl, ho0, hb⟩; refine ⟨_, rfl, ?_⟩; have n0_ := Aside0.mk (Kd.R_lower ho0 (below_size (Qaw))); have n1_ := Aside0.mk (below_step (Qaw) hb); clear HB; have HO496 := n0_; have HB := n1_; clear n0_ n1_; (try clear hb); (try clear hb2); (try clear hk); (try clear hi); (try clear ho0); obtain ⟨Ao122, co122, eo122⟩ := Kd.R_slice HO496.out; subst eo122) | ((with_reducible refine gate_callee (f := 40) rfl ?_); refine goesL_ (some 14) rfl rfl Tryd.func40 (by kernel_rfl) rfl #[.slice Ao122 t494.length co122] rfl (Qls) ?_; (with_reducible refine (minor_Reduce.calls (hGL := (Qlg)) _ _ t494 t497 t498 _ ?side1 ?side2 A4.out).mono ?_); (case side1 => exact Qsc (Kd.R_reads' HO496.out).2.2); (case side2 => exact (Kd.R_reads' HO496.out).2.1); rintro e w123 ⟨v499, rfl, ho0, hb⟩; refine ⟨_, rfl, ?_⟩; have n0_ := Aside0.mk (Kd.R_below (Qro HO496.out) hb); have n1_ := Aside0.mk (Kd.R_lower ho0 (below_size (Qaw))); have n2_ := Aside0.mk (below_step (Qaw) hb); clear HO496; clear HB; have HO496 := n0_; have HO500 := n1_; have HB := n2_; clear n0_ n1_ n2_; (try clear hb); (try clear hb2); (try clear hk); (try clear hi); (try clear ho0)) | ((with_reducible refine gate_callee (f := 22) rfl ?_); refine goesL_ (some 19) rfl rfl Tryd.func22 (by kernel_rfl) rfl #[.slice A0 l0.length c0] rfl (Qls) ?_; (with_reducible refine (lampblacklaw07_Few.calls _ _ l0 t501 _ ?side1 ?side2 A5.out).mono ?_); (case side1 => exact Qsc (Kd.C_below HR0.out HB.out)); (case side2 => exact HC0.out); rintro e w124 ⟨v502, rfl, ho0, hb⟩; refine ⟨_, rfl, ?_⟩; have n0_ := Aside0.mk (Kd.R_elder' (Qro HO496.out) (Kd.R_base ho0) hb); have n1_ := Aside0.mk (Kd.R_below (Qro HO500.out) hb); have n2_ := Aside0.mk (Kd.R_lower (Kd.R_new' ho0 (Kd.R_lt (Qro HO496.out))) (below_size (Qaw))); have n3_ := Aside0.mk (below_step (Qaw) hb); clear HO496; clear HO500; clear HB; have HO496 := n0_; have HO500 := n1_; have HO503 := n2_; have HB := n3_; clear n0_ n1_ n2_ n3_; (try clear hb); (try clear hb2); (try clear hk); (try clear hi); (try clear ho0)) | ((with_reducible refine gate_callee (f := 42) rfl ?_); refine goesL_ (some 21) rfl rfl Tryd.func42 (by kernel_rfl) rfl #[.slice A1 l1.length c1] rfl (Qls) ?_; (with_reducible refine (lampblacklaw07_steps.calls k _ _ l1 t504 _ ?side1 ?side2 A6.out).mono ?_); (case side1 => exact Qsc (Kd.C_below HR1.out HB.out)); (case side2 => exact HC1.out); rintro e w125 ⟨v505, rfl, ho0, hb⟩; refine ⟨_, rfl, ?_⟩; have n0_ := Aside0.mk (Kd.R_below (Qro HO496.out) hb); have n1_ := Aside0.mk (Kd.R_elder' (Qro HO500.out) (Kd.R_base ho0) hb); have n2_ := Aside0.mk (Kd.R_below (Qro HO503.out) hb); have n3_ := Aside0.mk (Kd.R_lower (Kd.R_new' ho0 (Kd.R_lt (Qro HO500.out))) (below_size (Qaw))); have n4_ := Aside0.mk (below_step (Qaw) hb); clear HO496; clear HO500; clear HO503; clear HB; have HO496 := n0_; have HO500 := n1_; have HO503 := n2_; have HO506 := n3_; have HB := n4_; clear n0_ n1_ n2_ n3_ n4_; (try clear hb); (try clear hb2); (try clear hk); (try clear hi); (try clear ho0); obtain ⟨Ao126, co126, eo126⟩ := Kd.R_slice HO503.out; subst eo126; obtain ⟨Ao127, co127, eo127⟩ := Kd.R_slice HO506.out; subst eo127) | ((with_reducible refine gate_callee (f := 41) rfl ?_); refine goesL_ (some 22) rfl rfl Tryd.func41 (by kernel_rfl) rfl #[.slice Ao126 t501.length co126, .slice Ao127 t504.length co127] rfl (Qls) ?_; (with_reducible refine (minor_CheckReduce.calls (hGL := (Qlg)) _ _ t501 _ _ t504 false t508 _ ?side1 ?side2 ?side3 ?side4 A7.out).mono ?_); (case side1 => exact Qsc (Kd.R_reads' HO503.out).2.2); (case side2 => exact (Kd.R_reads' HO503.out).2.1); (case side3 => exact Qsc (Kd.R_reads' HO506.out).2.2); (case side4 => exact (Kd.R_reads' HO506.out).2.1); rintro e w128 ⟨rfl, hb⟩; refine ⟨_, rfl, ?_⟩; have n0_ := Aside0.mk (Kd.R_below (Qro HO496.out) hb); have n1_ := Aside0.mk (Kd.R_below (Qro HO500.out) hb); have n2_ := Aside0.mk (Kd.R_below (Qro HO503.out) hb); have n3_ := Aside0.mk (Kd.R_below (Qro HO506.out) hb); have n4_ := Aside0.mk (below_step (Qaw) hb); clear HO496; clear HO500; clear HO503; clear HO506; clear HB; have HO496 := n0_; have HO500 := n1_; have HO503 := n2_; have HO506 := n3_; have HB := n4_; clear n0_ n1_ n2_ n3_ n4_; (try clear hb); (try clear hb2); (try clear hk); (try clear hi)) | ((with_reducible refine gate_callee (f := 16) rfl ?_); refine goesL_ (some 26) rfl rfl Tryd.func16 (by kernel_rfl) rfl #[.slice A0 l0.length c0] rfl (Qls) ?_; (with_reducible refine (lampblackref07_Valid.calls k _ _ l0 false _ ?side1 ?side2 A8.out).mono ?_); (case side1 => exact Qsc (Kd.C_below HR0.out HB.out)); (case side2 => exact HC0.out); rintro e w' ⟨rfl, ⟨nd, rfl⟩⟩; refine ⟨_, rfl, ?_⟩; obtain ⟨Ao129, co129, eo129⟩ := Kd.R_slice HO500.out; subst eo129))
     go_ret
     exact ⟨by first | rfl | (simp [errW_none, errW_some] <;> rfl) | (simp [*, errW_none, errW_some] <;> rfl), by repeat (first | (with_reducible first | exact HB.out | apply below_alloc | apply pw_below_drewN | apply below_drew1) | exact HB.out)⟩
  ·rw [if_neg c88] at H
   have c88b0 : ((t497.length : Int) == 0) = false := beq_eq_false_iff_ne.mpr c88
   have c88b1 : ((t497.length : Int) != 0) = true := bne_iff_ne.mpr c88
   have c88b2 : ¬ (t497 = []) := fun h_ => c88 (by rw [h_]; rfl)
   obtain rfl := Option.some.inj H
   go_enter Tryd.func8, Tryd.ntmps8
   go_wp2_with (first | ((with_reducible refine gate_callee (f := 22) rfl ?_); refine goesL_ (some 13) rfl rfl Tryd.func22 (by kernel_rfl) rfl #[.slice A0 l0.length c0] rfl (Qls) ?_; (with_reducible refine (lampblacklaw07_Few.calls _ _ l0 t494 _ ?side1 ?side2 A3.out).mono ?_); (case side1 => exact Qsc HR0.out); (case side2 => exact HC0.out); rintro e w130 ⟨v495, rfl, ho0, hb⟩; refine ⟨_, rfl, ?_⟩; have n0_ := Aside0.mk (Kd.R_lower ho0 (below_size (Qaw))); have n1_ := Aside0.mk (below_step (Qaw) hb); clear HB; have HO496 := n0_; have HB := n1_; clear n0_ n1_; (try clear hb); (try clear hb2); (try clear hk); (try clear hi); (try clear ho0); obtain ⟨Ao131, co131, eo131⟩ := Kd.R_slice HO496.out; subst eo131) | ((with_reducible refine gate_callee (f := 40) rfl ?_); refine goesL_ (some 14) rfl rfl Tryd.func40 (by kernel_rfl) rfl #[.slice Ao131 t494.length co131] rfl (Qls) ?_; (with_reducible refine (minor_Reduce.calls (hGL := (Qlg)) _ _ t494 t497 t498 _ ?side1 ?side2 A4.out).mono ?_); (case side1 => exact Qsc (Kd.R_reads' HO496.out).2.2); (case side2 => exact (Kd.R_reads' HO496.out).2.1); rintro e w132 ⟨v499, rfl, ho0, hb⟩; refine ⟨_, rfl, ?_⟩; have n0_ := Aside0.mk (Kd.R_below (Qro HO496.out) hb); have n1_ := Aside0.mk (Kd.R_lower ho0 (below_size (Qaw))); have n2_ := Aside0.mk (below_step (Qaw) hb); clear HO496; clear HB; have HO496 := n0_; have HO500 := n1_; have HB := n2_; clear n0_ n1_ n2_; (try clear hb); (try clear hb2); (try clear hk); (try clear hi); (try clear ho0)) | ((with_reducible refine gate_callee (f := 22) rfl ?_); refine goesL_ (some 19) rfl rfl Tryd.func22 (by kernel_rfl) rfl #[.slice A0 l0.length c0] rfl (Qls) ?_; (with_reducible refine (lampblacklaw07_Few.calls _ _ l0 t501 _ ?side1 ?side2 A5.out).mono ?_); (case side1 => exact Qsc (Kd.C_below HR0.out HB.out)); (case side2 => exact HC0.out); rintro e w133 ⟨v502, rfl, ho0, hb⟩; refine ⟨_, rfl, ?_⟩; have n0_ := Aside0.mk (Kd.R_elder' (Qro HO496.out) (Kd.R_base ho0) hb); have n1_ := Aside0.mk (Kd.R_below (Qro HO500.out) hb); have n2_ := Aside0.mk (Kd.R_lower (Kd.R_new' ho0 (Kd.R_lt (Qro HO496.out))) (below_size (Qaw))); have n3_ := Aside0.mk (below_step (Qaw) hb); clear HO496; clear HO500; clear HB; have HO496 := n0_; have HO500 := n1_; have HO503 := n2_; have HB := n3_; clear n0_ n1_ n2_ n3_; (try clear hb); (try clear hb2); (try clear hk); (try clear hi); (try clear ho0)) | ((with_reducible refine gate_callee (f := 42) rfl ?_); refine goesL_ (some 21) rfl rfl Tryd.func42 (by kernel_rfl) rfl #[.slice A1 l1.length c1] rfl (Qls) ?_; (with_reducible refine (lampblacklaw07_steps.calls k _ _ l1 t504 _ ?side1 ?side2 A6.out).mono ?_); (case side1 => exact Qsc (Kd.C_below HR1.out HB.out)); (case side2 => exact HC1.out); rintro e w134 ⟨v505, rfl, ho0, hb⟩; refine ⟨_, rfl, ?_⟩; have n0_ := Aside0.mk (Kd.R_below (Qro HO496.out) hb); have n1_ := Aside0.mk (Kd.R_elder' (Qro HO500.out) (Kd.R_base ho0) hb); have n2_ := Aside0.mk (Kd.R_below (Qro HO503.out) hb); have n3_ := Aside0.mk (Kd.R_lower (Kd.R_new' ho0 (Kd.R_lt (Qro HO500.out))) (below_size (Qaw))); have n4_ := Aside0.mk (below_step (Qaw) hb); clear HO496; clear HO500; clear HO503; clear HB; have HO496 := n0_; have HO500 := n1_; have HO503 := n2_; have HO506 := n3_; have HB := n4_; clear n0_ n1_ n2_ n3_ n4_; (try clear hb); (try clear hb2); (try clear hk); (try clear hi); (try clear ho0); obtain ⟨Ao135, co135, eo135⟩ := Kd.R_slice HO503.out; subst eo135; obtain ⟨Ao136, co136, eo136⟩ := Kd.R_slice HO506.out; subst eo136) | ((with_reducible refine gate_callee (f := 41) rfl ?_); refine goesL_ (some 22) rfl rfl Tryd.func41 (by kernel_rfl) rfl #[.slice Ao135 t501.length co135, .slice Ao136 t504.length co136] rfl (Qls) ?_; (with_reducible refine (minor_CheckReduce.calls (hGL := (Qlg)) _ _ t501 _ _ t504 t507 t508 _ ?side1 ?side2 ?side3 ?side4 A7.out).mono ?_); (case side1 => exact Qsc (Kd.R_reads' HO503.out).2.2); (case side2 => exact (Kd.R_reads' HO503.out).2.1); (case side3 => exact Qsc (Kd.R_reads' HO506.out).2.2); (case side4 => exact (Kd.R_reads' HO506.out).2.1); rintro e w137 ⟨rfl, hb⟩; refine ⟨_, rfl, ?_⟩; have n0_ := Aside0.mk (Kd.R_below (Qro HO496.out) hb); have n1_ := Aside0.mk (Kd.R_below (Qro HO500.out) hb); have n2_ := Aside0.mk (Kd.R_below (Qro HO503.out) hb); have n3_ := Aside0.mk (Kd.R_below (Qro HO506.out) hb); have n4_ := Aside0.mk (below_step (Qaw) hb); clear HO496; clear HO500; clear HO503; clear HO506; clear HB; have HO496 := n0_; have HO500 := n1_; have HO503 := n2_; have HO506 := n3_; have HB := n4_; clear n0_ n1_ n2_ n3_ n4_; (try clear hb); (try clear hb2); (try clear hk); (try clear hi)) | ((with_reducible refine gate_callee (f := 16) rfl ?_); refine goesL_ (some 26) rfl rfl Tryd.func16 (by kernel_rfl) rfl #[.slice A0 l0.length c0] rfl (Qls) ?_; (with_reducible refine (lampblackref07_Valid.calls k _ _ l0 false _ ?side1 ?side2 A8.out).mono ?_); (case side1 => exact Qsc (Kd.C_below HR0.out HB.out)); (case side2 => exact HC0.out); rintro e w' ⟨rfl, ⟨nd, rfl⟩⟩; refine ⟨_, rfl, ?_⟩; obtain ⟨Ao138, co138, eo138⟩ := Kd.R_slice HO500.out; subst eo138))
   go_ret
   exact ⟨by first | rfl | (simp [errW_none, errW_some] <;> rfl) | (simp [*, errW_none, errW_some] <;> rfl), by repeat (first | (with_reducible first | exact HB.out | apply below_alloc | apply pw_below_drewN | apply below_drew1) | exact HB.out)⟩
end Go.Proofs.YtjloppfdagfpmaaDoor.X
end
section
namespace Go.Proofs.YtjloppfdagfpmaaDoor.X
open Go.RowKit YtjloppfdagfpmaaDoorW.PrintWords YtjloppfdagfpmaaDoorW.PrintLast YtjloppfdagfpmaaDoorW.PrintMore
attribute [local go_sem] max2_int min2_int max_two min_two max_three min_three max_four min_four
/-! ### lampblackref07_K: function 33 -/
mutual
def lampblackref07_K.l0 : Nat → List Int → Int → Int → Option (List Int)
 | 0, _, _, _ => none
 | k + 1, x3, x8, x9 => if x9 < x8 then (lampblackref07_K.l1 k x3 x9 x8 x9 x9 0) else (some x3)
def lampblackref07_K.l1 : Nat → List Int → Int → Int → Int → Int → Int → Option (List Int)
 | 0, _, _, _, _, _, _ => none
 | k + 1, x3, x4, x8, x9, x12, x13 => if x13 < x12 then ((lampblackref07_join.f x3 x4 x13).bind fun t261 => (lampblackref07_K.l1 k t261 x4 x8 x9 x12 (wrap64 (x13 + 1)))) else (lampblackref07_K.l0 k x3 x8 (wrap64 (x9 + 1)))
end
end Go.Proofs.YtjloppfdagfpmaaDoor.X
end
section
/- MinorReduces, without Go and memory: Reduce returns the reductions of the first node that can be reduced each time, and CheckReduce accepts exactly reductions that leave nothing, or the documented error. -/
namespace Go.Proofs.YtjloppfdagfpmaaDoor.Pure
open Go.RowKit YtjloppfdagfpmaaDoorW.PrintWords YtjloppfdagfpmaaDoorW.PrintLast YtjloppfdagfpmaaDoorW.PrintMore YtjloppfdagfpmaaDoor.T YtjloppfdagfpmaaDoor.X
def c62 (s : S95) : S62 := ⟨s.f0, s.f1, s.f2, s.f3⟩
def c95 (s : S62) : S95 := ⟨s.f0, s.f1, s.f2, s.f3⟩
theorem rdT62 (l : List S62) (i : Nat) (hi : i < l.length) : rd_T62 l (i : Int) = l[i] := by
 unfold rd_T62; rw [Int.toNat_natCast, List.getD_eq_getElem?_getD, List.getElem?_eq_getElem hi]; rfl
theorem rdT95 (l : List S95) (i : Nat) (hi : i < l.length) : rd_T95 l (i : Int) = l[i] := by
 unfold rd_T95; rw [Int.toNat_natCast, List.getD_eq_getElem?_getD, List.getElem?_eq_getElem hi]; rfl
theorem wrapS (i : Nat) (h : i < 9223372036854775807) : wrap64 ((i : Int) + 1) = ((i + 1 : Nat) : Int) := by
 unfold wrap64; omega
theorem steps_l0 (l : List S62) (hl : l.length ≤ 9223372036854775807) : ∀ d i (acc : List S95), i + d = l.length → acc = (l.map c95).take (min i 12) → Ev (fun k => lampblacklaw07_steps.l0 k acc l (l.length : Int) (i : Int)) ((l.map c95).take 12) := by
 intro d
 induction d with
 | zero =>
  intro i acc hi ha
  refine Ev.step (f := fun _ => some acc) (fun k => by rw [lampblacklaw07_steps.l0, if_neg (by omega)]) (Ev.some ?_)
  rw [ha]
  by_cases h : i ≤ 12
  ·rw [Nat.min_eq_left h, List.take_of_length_le (by simp; omega), List.take_of_length_le (by simp; omega)]
  ·rw [Nat.min_eq_right (by omega)]
 | succ d ih =>
  intro i acc hi ha
  have hi' : i < l.length := by omega
  by_cases h : i < 12
  ·have hal : acc.length ≤ 12 := by rw [ha, List.length_take]; omega
   refine Ev.step (fun k => by rw [lampblacklaw07_steps.l0, if_pos (by omega), if_pos (by omega), if_pos (by omega), if_pos (by omega), if_pos (by omega), rdT62 l i hi', wrapS i (by omega)]) (ih (i + 1) _ (by omega) ?_)
   rw [ha, Nat.min_eq_left (by omega), Nat.min_eq_left (by omega), List.take_add_one, List.getElem?_map, List.getElem?_eq_getElem hi']
   rfl
  ·refine Ev.step (fun k => by rw [lampblacklaw07_steps.l0, if_pos (by omega), if_pos (by omega), if_pos (by omega), if_neg (by omega), wrapS i (by omega)]) (ih (i + 1) _ (by omega) ?_)
   rw [ha, Nat.min_eq_right (by omega), Nat.min_eq_right (by omega)]
theorem steps_ev (l : List S62) (hl : l.length ≤ 9223372036854775807) : Ev (fun k => lampblacklaw07_steps.f k l) ((l.map c95).take 12) := by
 unfold lampblacklaw07_steps.f
 exact steps_l0 l hl l.length 0 [] (by omega) (by simp)
theorem own_l0 (l : List S95) (hl : l.length ≤ 1000) : ∀ d i (acc : List S62), i + d = l.length → acc = (l.map c62).take i → Ev (fun k => lampblacklaw07_own.l0 k acc l (l.length : Int) (i : Int)) (l.map c62) := by
 intro d
 induction d with
 | zero =>
  intro i acc hi ha
  refine Ev.step (f := fun _ => some acc) (fun k => by rw [lampblacklaw07_own.l0, if_neg (by omega)]) (Ev.some ?_)
  rw [ha, List.take_of_length_le (by simp; omega)]
 | succ d ih =>
  intro i acc hi ha
  have hi' : i < l.length := by omega
  have hal : acc.length ≤ 1000 := by rw [ha, List.length_take]; omega
  refine Ev.step (fun k => by rw [lampblacklaw07_own.l0, if_pos (by omega), if_pos (by omega), if_pos (by omega), if_pos (by omega), rdT95 l i hi', wrapS i (by omega)]) (ih (i + 1) _ (by omega) ?_)
  rw [ha, List.take_add_one, List.getElem?_map, List.getElem?_eq_getElem hi']
  rfl
theorem own_ev (l : List S95) (hl : l.length ≤ 1000) : Ev (fun k => lampblacklaw07_own.f k l) (l.map c62) := by
 unfold lampblacklaw07_own.f
 exact own_l0 l hl l.length 0 [] (by omega) rfl
/-! The reference's step. -/
theorem els_succ (q i : Nat) : els q (i + 1) = els q i ++ (if q.testBit i then [i] else []) := by
 unfold els
 rw [List.range_succ, List.filter_append]
 cases h : q.testBit i <;> simp [h]
theorem els_top {q n : Nat} (h : q < 2 ^ n) (hn : n ≤ 9) : els q 9 = els q n := by
 have : ∀ d, els q (n + d) = els q n := by
  intro d
  induction d with
  | zero => rfl
  | succ d ih =>
   have hb : q.testBit (n + d) = false := Nat.testBit_lt_two_pow (Nat.lt_of_lt_of_le h (Nat.pow_le_pow_right (by omega) (by omega)))
   show els q (n + d + 1) = _
   rw [els_succ, hb, ih]
   simp
 have := this (9 - n)
 rwa [show n + (9 - n) = 9 by omega] at this
theorem els_pre (q : Nat) : ∀ n i, i ≤ n → (els q i).length ≤ (els q n).length := by
 intro n i h
 rw [els_length, els_length]
 induction n with
 | zero => rw [show i = 0 by omega]; exact Nat.le_refl _
 | succ n ih =>
  by_cases e : i = n + 1
  ·subst e; exact Nat.le_refl _
  ·have := ih (by omega)
   simp only [pc]
   omega
theorem reduced_l0 (J : List Nat) (n : Nat) (hn : n ≤ 9) (hJ : InN n J) (left v : Nat) (hl : left < 2 ^ n) (hv : v < n) (h2 : (nearL J left v).length ≤ 2) : ∀ d i, i + d = n →
  Ev (fun k => lampblackref07_reduced.l0 k (gi J) (left : Int) (v : Int) (n : Int) (i : Int) ((nearL J left v).length : Int) (v : Int) (sA (els (J.getD v 0 &&& left) i)) (sB (els (J.getD v 0 &&& left) i))) (((nearL J left v).length : Int), (v : Int), sA (nearL J left v), sB (nearL J left v), gi (nextJ J left v), true) := by
 have hq : J.getD v 0 &&& left < 2 ^ n := Nat.lt_of_le_of_lt Nat.and_le_right hl
 have h9 : 2 ^ n ≤ 2 ^ 9 := Nat.pow_le_pow_right (by omega) hn
 have hb : ∀ x, x < 2 ^ n → x < 2 ^ 62 := fun x hx => Nat.lt_of_lt_of_le hx (Nat.le_trans h9 (by omega))
 have hnl : nearL J left v = els (J.getD v 0 &&& left) n := by unfold nearL; exact els_top hq hn
 have hin : ∀ a ∈ nearL J left v, a < J.length := fun a ha => by
  rw [hJ.1]
  exact bit_lt hq (mem_els.1 ha).2
 intro d
 induction d with
 | zero =>
  intro i hi
  obtain rfl : i = n := by omega
  rw [← hnl]
  have hnc := next_case J left v hin h2
  refine Ev.step (fun k => by rw [lampblackref07_reduced.l0, if_neg (by omega)]) ?_
  simp only [Option.bind_some, List.nil_append, List.length_nil]
  refine Ev.if_pos (by rw [gi_length, hJ.1]; omega) ?_
  rcases hnc with ⟨h3, e⟩ | ⟨h3, a, b, ha, hb2, h5, h6, e⟩
  ·rw [e]
   exact Ev.if_neg h3 (Ev.some rfl)
  ·rw [e]
   refine Ev.if_pos h3 ?_
   rw [ha, hb2]
   rw [hJ.1] at h5 h6
   exact Ev.bind1 (refJoin_eq hn hJ h5 h6) (Ev.some rfl)
 | succ d ih =>
  intro i hi
  have hrow := hJ.2 v
  have next := ih (i + 1) (by omega)
  have hle := els_pre (J.getD v 0 &&& left) n (i + 1) (by omega)
  rw [← hnl] at hle
  rw [els_succ] at next hle
  have hand : Go.bits .and .i64 (rd (gi J) (v : Int)) (left : Int) = ((J.getD v 0 &&& left : Nat) : Int) := by rw [rd_gi, b_and _ _ (hb _ hrow) (hb _ hl)]
  by_cases hbit : (J.getD v 0 &&& left).testBit i = true
  ·rw [if_pos hbit] at next hle
   refine Ev.step (fun k => by rw [lampblackref07_reduced.l0, if_pos (by omega), if_pos (by omega), if_pos (by rw [gi_length, hJ.1]; omega), if_pos (by omega), hand, if_pos ((bit_one _ i (hb _ hq) (by omega)).2 hbit), wrap_succ i (by omega)]) ?_
   match hE : els (J.getD v 0 &&& left) i, hle, next with
   | [], _, next => exact Ev.if_pos (by simp [sA]) next
   | [a], _, next => exact Ev.if_neg (by simp [sA]) next
   | a :: b :: r, hle, _ => simp at hle; omega
  ·rw [if_neg hbit, List.append_nil] at next
   refine Ev.step (fun k => by rw [lampblackref07_reduced.l0, if_pos (by omega), if_pos (by omega), if_pos (by rw [gi_length, hJ.1]; omega), if_pos (by omega), hand, if_neg (fun h => hbit ((bit_one _ i (hb _ hq) (by omega)).1 h)), wrap_succ i (by omega)]) next
theorem reduced_yes (J : List Nat) (n : Nat) (hn : n ≤ 9) (hJ : InN n J) (left v : Nat) (hl : left < 2 ^ n) (hv : v < n) (hbv : left.testBit v = true) (h2 : (nearL J left v).length ≤ 2) :
  Ev (fun k => lampblackref07_reduced.f k (gi J) (left : Int) (v : Int)) (((nearL J left v).length : Int), (v : Int), sA (nearL J left v), sB (nearL J left v), gi (nextJ J left v), true) := by
 have hq : J.getD v 0 &&& left < 2 ^ n := Nat.lt_of_le_of_lt Nat.and_le_right hl
 have h9 : 2 ^ n ≤ 2 ^ 9 := Nat.pow_le_pow_right (by omega) hn
 have e9 : (2 : Nat) ^ 9 = 512 := rfl
 have hb : ∀ x, x < 2 ^ n → x < 2 ^ 62 := fun x hx => Nat.lt_of_lt_of_le hx (Nat.le_trans h9 (by omega))
 have := reduced_l0 J n hn hJ left v hl hv h2 n 0 (by omega)
 unfold lampblackref07_reduced.f
 refine Ev.if_pos (by omega) (Ev.if_pos (by rw [gi_length, hJ.1]; omega) ?_)
 rw [rd_gi, b_and _ _ (hb _ (hJ.2 v)) (hb _ hl)]
 refine Ev.bind (size_ev _ (by omega)) (Ev.if_neg (fun h => by have := (bit_zero left v (hb _ hl) (by omega)).1 h; rw [hbv] at this; cases this) ?_)
 have hlen : (nearL J left v).length = pc (J.getD v 0 &&& left) 9 := els_length _ _
 rw [← hlen, decide_eq_false (by omega : ¬ ((nearL J left v).length : Int) > 2)]
 refine Ev.step (fun k => by rw [lampblackref07_reduced.j0, if_neg (by simp), gi_length, hJ.1]) ?_
 exact this
theorem reduced_no (J : List Nat) (n : Nat) (hn : n ≤ 9) (hJ : InN n J) (left v : Nat) (hl : left < 2 ^ n) (hv : v < n) (h : left.testBit v = false ∨ ¬ (nearL J left v).length ≤ 2) :
  Ev (fun k => lampblackref07_reduced.f k (gi J) (left : Int) (v : Int)) ((0 : Int), (0 : Int), (0 : Int), (0 : Int), gi J, false) := by
 have hq : J.getD v 0 &&& left < 2 ^ n := Nat.lt_of_le_of_lt Nat.and_le_right hl
 have h9 : 2 ^ n ≤ 2 ^ 9 := Nat.pow_le_pow_right (by omega) hn
 have e9 : (2 : Nat) ^ 9 = 512 := rfl
 have hb : ∀ x, x < 2 ^ n → x < 2 ^ 62 := fun x hx => Nat.lt_of_lt_of_le hx (Nat.le_trans h9 (by omega))
 have stop : ∀ a b c d, Ev (fun k => lampblackref07_reduced.j0 k (gi J) (left : Int) (v : Int) true a b c d) ((0 : Int), (0 : Int), (0 : Int), (0 : Int), gi J, false) := fun a b c d => Ev.step (f := fun _ => some ((0 : Int), (0 : Int), (0 : Int), (0 : Int), gi J, false)) (fun k => by rw [lampblackref07_reduced.j0, if_pos rfl]) (Ev.some rfl)
 unfold lampblackref07_reduced.f
 refine Ev.if_pos (by omega) (Ev.if_pos (by rw [gi_length, hJ.1]; omega) ?_)
 rw [rd_gi, b_and _ _ (hb _ (hJ.2 v)) (hb _ hl)]
 refine Ev.bind (size_ev _ (by omega)) ?_
 cases hbv : left.testBit v
 ·exact Ev.if_pos ((bit_zero left v (hb _ hl) (by omega)).2 hbv) (stop _ _ _ _)
 ·refine Ev.if_neg (fun h => by have := (bit_zero left v (hb _ hl) (by omega)).1 h; rw [hbv] at this; cases this) ?_
  have hlen : (nearL J left v).length = pc (J.getD v 0 &&& left) 9 := els_length _ _
  have h3 : ¬ (nearL J left v).length ≤ 2 := h.resolve_left (by rw [hbv]; simp)
  rw [← hlen, decide_eq_true (by omega : ((nearL J left v).length : Int) > 2)]
  exact stop _ _ _ _
theorem next_in {n : Nat} {J : List Nat} (hJ : InN n J) {left v : Nat} (hl : left < 2 ^ n) (h2 : (nearL J left v).length ≤ 2) : InN n (nextJ J left v) := by
 have hin : ∀ a ∈ nearL J left v, a < J.length := fun a ha => by
  rw [hJ.1]
  exact bit_lt (Nat.lt_of_le_of_lt Nat.and_le_right hl) (mem_els.1 ha).2
 rcases next_case J left v hin h2 with ⟨_, e⟩ | ⟨_, a, b, _, _, h5, h6, e⟩
 ·rw [e]; exact hJ
 ·rw [e]
  rw [hJ.1] at h5 h6
  exact hJ.join h5 h6
def pB (J : List Nat) (left v : Nat) : Bool := left.testBit v && decide ((nearL J left v).length ≤ 2)
theorem pick_eq (J : List Nat) (left : Nat) : pick J left = (List.range 9).find? (pB J left) := by
 unfold pick els
 rw [List.find?_filter]
 congr 1
 funext a
 unfold pB
 cases left.testBit a <;> simp
theorem done_run (n : Nat) (hn : n ≤ 9) (out : List S62) (X : List S62 × Int) (J : List Nat) (hJ : InN n J) (left : Nat) (hl : left < 2 ^ n) (hX : Ev (fun k => lampblackref07_Reduce.l0 k (gi J) out (left : Int)) X) : ∀ d i, i + d = n → Ev (fun k => lampblackref07_Reduce.l1 k (gi J) out (left : Int) true (n : Int) (i : Int)) X := by
 intro d
 induction d with
 | zero =>
  intro i hi
  exact Ev.step (fun k => by rw [lampblackref07_Reduce.l1, if_neg (by omega), if_pos rfl]) hX
 | succ d ih =>
  intro i hi
  refine Ev.step (fun k => by rw [lampblackref07_Reduce.l1, if_pos (by omega), wrap_succ i (by omega)]) ?_
  by_cases h : left.testBit i = true ∧ (nearL J left i).length ≤ 2
  ·exact Ev.bind (reduced_yes J n hn hJ left i hl (by omega) h.1 h.2) (Ev.if_pos rfl (Ev.if_pos rfl (ih (i + 1) (by omega))))
  ·refine Ev.bind (reduced_no J n hn hJ left i hl (by omega) ?_) (Ev.if_neg (by simp) (ih (i + 1) (by omega)))
   cases hb : left.testBit i
   ·exact .inl rfl
   ·exact .inr fun h2 => h ⟨hb, h2⟩
theorem find_run (n : Nat) (hn : n ≤ 9) (out : List S62) (hol : out.length ≤ 1000) (X : List S62 × Int) (J : List Nat) (hJ : InN n J) (left : Nat) (hl : left < 2 ^ n)
  (hnone : (∀ v, v < n → pB J left v = false) → X = ([], 4))
  (hsome : ∀ v, v < n → pB J left v = true → (∀ u, u < v → pB J left u = false) → Ev (fun k => lampblackref07_Reduce.l0 k (gi (nextJ J left v)) (out ++ [c62 (stepS J left v)]) ((diff left (2 ^ v) : Nat) : Int)) X) :
  ∀ d i, i + d = n → (∀ v, v < i → pB J left v = false) → Ev (fun k => lampblackref07_Reduce.l1 k (gi J) out (left : Int) false (n : Int) (i : Int)) X := by
 have h9 : 2 ^ n ≤ 2 ^ 9 := Nat.pow_le_pow_right (by omega) hn
 have e9 : (2 : Nat) ^ 9 = 512 := rfl
 intro d
 induction d with
 | zero =>
  intro i hi hno
  rw [hnone (fun v hv => hno v (by omega))]
  exact Ev.step (f := fun _ => some (([] : List S62), (4 : Int))) (fun k => by rw [lampblackref07_Reduce.l1, if_neg (by omega), if_neg (by simp)]) (Ev.some rfl)
 | succ d ih =>
  intro i hi hno
  refine Ev.step (fun k => by rw [lampblackref07_Reduce.l1, if_pos (by omega), wrap_succ i (by omega)]) ?_
  cases hp : pB J left i
  ·refine Ev.bind (reduced_no J n hn hJ left i hl (by omega) ?_) (Ev.if_neg (by simp) (ih (i + 1) (by omega) fun v hv => ?_))
   ·unfold pB at hp
    rw [Bool.and_eq_false_iff] at hp
    exact hp.imp id fun h => of_decide_eq_false h
   ·by_cases e : v = i
    ·subst e; exact hp
    ·exact hno v (by omega)
  ·have hp2 := hp
   unfold pB at hp2
   rw [Bool.and_eq_true, decide_eq_true_eq] at hp2
   refine Ev.bind (reduced_yes J n hn hJ left i hl (by omega) hp2.1 hp2.2) (Ev.if_pos rfl (Ev.if_neg (by simp) (Ev.if_pos (by omega) (Ev.if_pos (by omega) ?_))))
   have hd : Go.bits .andNot .i64 (left : Int) (shl .i64 1 (i : Int)) = ((diff left (2 ^ i) : Nat) : Int) := by
    rw [s_one i (by omega), b_andNot _ _ (by omega) (Nat.pow_lt_pow_right (by omega) (by omega))]
   rw [hd]
   exact done_run n hn _ X _ (next_in hJ hl hp2.2) _ (Nat.lt_of_le_of_lt (diff_le _ _) hl) (hsome i (by omega) hp hno) d (i + 1) (by omega)
theorem ref_run (n : Nat) (hn : n ≤ 9) : ∀ (k0 : Nat) (J : List Nat) (left : Nat) (acc : List S95), InN n J → left < 2 ^ n → pc left 9 < k0 → acc.length + k0 ≤ 100 → Ev (fun k => lampblackref07_Reduce.l0 k (gi J) (acc.map c62) (left : Int)) ((redN k0 J left acc).1.map c62, (redN k0 J left acc).2)
 | 0, J, left, acc, _, _, hk, _ => by omega
 | k0 + 1, J, left, acc, hJ, hl, hk, ha => by
  by_cases h0 : left = 0
  ·subst h0
   refine Ev.step (f := fun _ => some (acc.map c62, (0 : Int))) (fun k => by rw [lampblackref07_Reduce.l0, if_pos (by omega)]) (Ev.some ?_)
   simp [redN]
  ·refine Ev.step (fun k => by rw [lampblackref07_Reduce.l0, if_neg (by omega), gi_length, hJ.1]) ?_
   have hp := pick_eq J left
   refine find_run n hn _ (by simp; omega) _ J hJ left hl (fun hno => ?_) (fun v hv hpv hno => ?_) n 0 (by omega) (fun v hv => by omega)
   ·have hpn : pick J left = none := by
     rw [hp, List.find?_eq_none]
     intro v hv
     by_cases h : v < n
     ·rw [hno v h]; simp
     ·unfold pB
      rw [Nat.testBit_lt_two_pow (Nat.lt_of_lt_of_le hl (Nat.pow_le_pow_right (by omega) (by omega)))]
      simp
    rw [redN, if_neg h0, hpn]
    rfl
   ·have hps : pick J left = some v := by
     rw [hp, List.find?_range_eq_some]
     exact ⟨hpv, List.mem_range.2 (by omega), fun j hj => by rw [hno j hj]; rfl⟩
    have hpv2 := hpv
    unfold pB at hpv2
    rw [Bool.and_eq_true, decide_eq_true_eq] at hpv2
    have hpc := diff_pc9 hpv2.1 (show v < 9 by omega)
    have := ref_run n hn k0 (nextJ J left v) (diff left (2 ^ v)) (acc ++ [stepS J left v]) (next_in hJ hl hpv2.2) (Nat.lt_of_le_of_lt (diff_le _ _) hl) (by omega) (by simp; omega)
    rw [redN, if_neg h0, hps]
    simpa using this
theorem redN_len : ∀ (k : Nat) (J : List Nat) (left : Nat) (acc : List S95), (redN k J left acc).1.length ≤ acc.length + k
 | 0, _, _, _ => by simp [redN]
 | k + 1, J, left, acc => by
  rw [redN]
  split
  ·simp
  ·split
   ·simp
   ·rename_i v _
    have := redN_len k (nextJ J left v) (diff left (2 ^ v)) (acc ++ [stepS J left v])
    simp at this
    omega
theorem ckR_len {n : Nat} (hn : n ≤ 9) : ∀ (l : List S95) (J : List Nat) (left : Nat), ckR n l J left = true → l.length ≤ pc left 9
 | [], _, _, _ => Nat.zero_le _
 | s :: r, J, left, h => by
  simp only [ckR, Bool.and_eq_true, decide_eq_true_eq] at h
  obtain ⟨⟨⟨⟨⟨h1, h2⟩, h3⟩, _⟩, _⟩, h6⟩ := h
  have := ckR_len hn r _ _ h6
  have hpc := diff_pc9 h3 (by omega)
  simp only [List.length_cons]
  omega
theorem reduces_l0 (n : Nat) (hn : n ≤ 9) (L : List S62) (hL : L.length ≤ 9223372036854775807) : ∀ d i (J : List Nat) (left : Nat), i + d = L.length → InN n J → left < 2 ^ n → Ev (fun k => lampblackref07_Reduces.l0 k (gi J) (left : Int) L (L.length : Int) (i : Int)) (ckR n ((L.drop i).map c95) J left) := by
 have h9 : 2 ^ n ≤ 2 ^ 9 := Nat.pow_le_pow_right (by omega) hn
 have e9 : (2 : Nat) ^ 9 = 512 := rfl
 intro d
 induction d with
 | zero =>
  intro i J left hi hJ hl
  rw [List.drop_eq_nil_of_le (by omega)]
  refine Ev.step (f := fun _ => some ((left : Int) == 0)) (fun k => by rw [lampblackref07_Reduces.l0, if_neg (by omega)]) (Ev.some ?_)
  show _ = decide (left = 0)
  by_cases h0 : left = 0
  ·rw [h0]; rfl
  ·rw [decide_eq_false h0, beq_eq_false_iff_ne]; omega
 | succ d ih =>
  intro i J left hi hJ hl
  have hi' : i < L.length := by omega
  rw [List.drop_eq_getElem_cons hi', List.map_cons]
  refine Ev.step (fun k => by rw [lampblackref07_Reduces.l0, if_pos (by omega), if_pos (by omega), if_pos (by omega), rdT62 L i hi', gi_length, hJ.1]) ?_
  generalize L[i] = s
  obtain ⟨x0, x1, x2, x3⟩ := s
  change Ev _ (decide (0 ≤ x1) && decide (x1 < (n : Int)) && left.testBit x1.toNat && decide ((nearL J left x1.toNat).length ≤ 2) && eqS (stepS J left x1.toNat) ⟨x0, x1, x2, x3⟩ && ckR n ((L.drop (i + 1)).map c95) (nextJ J left x1.toNat) (diff left (2 ^ x1.toNat)))
  have stop : Ev (fun k => lampblackref07_Reduces.j1 k (gi J) (left : Int) L (L.length : Int) (i : Int) true x0 x1 x2 x3) false := Ev.step (f := fun _ => some false) (fun k => by rw [lampblackref07_Reduces.j1, if_pos rfl]) (Ev.some rfl)
  by_cases h1 : x1 < 0
  ·have hz : decide (0 ≤ x1) = false := decide_eq_false (by omega)
   rw [hz]
   simp only [Bool.false_and]
   exact Ev.if_pos h1 stop
  ·refine Ev.if_neg h1 ?_
   have hz : (0 ≤ x1) = True := eq_true (by omega)
   by_cases h2 : x1 ≥ (n : Int)
   ·have hz2 : decide (x1 < (n : Int)) = false := decide_eq_false (by omega)
    dsimp only
    rw [decide_eq_true h2]
    simp only [hz, eq_false (by omega : ¬ x1 < (n : Int)), decide_true, decide_false, Bool.true_and, Bool.false_and]
    exact stop
   ·have hz2 : decide (x1 < (n : Int)) = true := decide_eq_true (by omega)
    dsimp only
    rw [decide_eq_false h2]
    simp only [hz, eq_true (by omega : x1 < (n : Int)), decide_true, Bool.true_and]
    obtain ⟨v, rfl⟩ := Int.eq_ofNat_of_zero_le (show 0 ≤ x1 by omega)
    simp only [Bool.true_and, Int.toNat_natCast]
    have hvn : v < n := by omega
    refine Ev.step (fun k => by rw [lampblackref07_Reduces.j1, if_neg (by simp)]) ?_
    by_cases hok : left.testBit v = true ∧ (nearL J left v).length ≤ 2
    ·rw [hok.1, decide_eq_true hok.2]
     simp only [Bool.true_and]
     refine Ev.bind (reduced_yes J n hn hJ left v hl hvn hok.1 hok.2) (Ev.if_pos rfl ?_)
     have hd : Go.bits .andNot .i64 (left : Int) (shl .i64 1 (v : Int)) = ((diff left (2 ^ v) : Nat) : Int) := by
      rw [s_one v (by omega), b_andNot _ _ (by omega) (Nat.pow_lt_pow_right (by omega) (by omega))]
     have next := ih (i + 1) (nextJ J left v) (diff left (2 ^ v)) (by omega) (next_in hJ hl hok.2) (Nat.lt_of_le_of_lt (diff_le _ _) hl)
     have hcmp : (!(((nearL J left v).length : Int) == x0) || (!((v : Int) == (v : Int)) || (!(sA (nearL J left v) == x2) || (!(sB (nearL J left v) == x3))))) = !eqS (stepS J left v) ⟨x0, (v : Int), x2, x3⟩ := by
      unfold eqS stepS
      simp [Bool.not_and]
     rw [hcmp]
     cases heq : eqS (stepS J left v) ⟨x0, (v : Int), x2, x3⟩
     ·simp only [Bool.false_and]
      exact Ev.if_pos rfl (Ev.some rfl)
     ·simp only [Bool.true_and]
      refine Ev.if_neg (by simp) (Ev.if_pos (by omega) ?_)
      rw [hd, wrapS i (by omega)]
      exact next
    ·have hz3 : (left.testBit v && decide ((nearL J left v).length ≤ 2)) = false := by
      rw [Bool.and_eq_false_iff]
      cases hb : left.testBit v
      ·exact .inl rfl
      ·exact .inr (decide_eq_false fun h => hok ⟨hb, h⟩)
     rw [hz3]
     simp only [Bool.false_and]
     refine Ev.bind (reduced_no J n hn hJ left v hl hvn ?_) (Ev.if_neg (by simp) (Ev.some rfl))
     cases hb : left.testBit v
     ·exact .inl rfl
     ·exact .inr fun h => hok ⟨hb, h⟩
theorem eq_l0 (l : List S62) (hl : l.length ≤ 1000) : ∀ d i, i + d = l.length → Ev (fun k => lampblackref07_Step.l0 k l l (l.length : Int) (i : Int)) true := by
 intro d
 induction d with
 | zero =>
  intro i hi
  exact Ev.step (f := fun _ => some true) (fun k => by rw [lampblackref07_Step.l0, if_neg (by omega)]) (Ev.some rfl)
 | succ d ih =>
  intro i hi
  refine Ev.step (fun k => by rw [lampblackref07_Step.l0, if_pos (by omega), if_pos (by omega), if_pos (by omega), if_pos (by omega), if_neg (by simp), wrapS i (by omega)]) (ih (i + 1) (by omega))
theorem eq_ev (l : List S62) (hl : l.length ≤ 1000) : Ev (fun k => lampblackref07_Step.f k l l) true := by
 unfold lampblackref07_Step.f
 exact Ev.if_pos rfl (eq_l0 l hl l.length 0 (by omega))
theorem Reduce_eq {G : List Nat} (hG : Gr 8 G) : minor_Reduce.f (gi G) = some (redN 10 G (2 ^ G.length - 1) []) := by
 have h1 := hG.most
 unfold minor_Reduce.f
 rw [gi_length, if_pos (by omega), (chk_iff 8 (by omega) _).2 ⟨G, rfl, hG⟩, gi_toNat]
 rfl
theorem Reduce_bad (g : List Int) (hl : g.length < 1000) (h : chk 8 g = false) : minor_Reduce.f g = some ([], 2) := by
 unfold minor_Reduce.f
 rw [if_pos hl, h]
 rfl
theorem reduces_law (g : List Int) (l : List S62) (hg : g.length < 2 ^ 44) (hl : l.length ≤ 9223372036854775807) : Ev (fun k => lampblacklaw07_MinorReduces.f k g l) true := by
 obtain ⟨h, e, e1, e2, e3⟩ := few_eq g hg
 have hv := valid_ev g (by omega)
 have hst := steps_ev l hl
 have hstl : ((l.map c95).take 12).length ≤ 12 := by rw [List.length_take]; omega
 unfold lampblacklaw07_MinorReduces.f
 refine Ev.bind1 e ?_
 by_cases hc : chk 8 g = true
 ·obtain ⟨G, rfl, hG⟩ := (chk_iff 8 (by omega) _).1 hc
  rw [e1 hc] at e ⊢
  rw [hc] at hv
  have hn := hG.most
  have h2n := Nat.two_pow_pos G.length
  have h9 : 2 ^ G.length ≤ 2 ^ 9 := Nat.pow_le_pow_right (by omega) (by omega)
  have e9 : (2 : Nat) ^ 9 = 512 := rfl
  have hck : minor_CheckReduce.f (gi G) ((l.map c95).take 12) = some (ckR G.length (l.map c95) G (2 ^ G.length - 1), 0) := by
   unfold minor_CheckReduce.f
   rw [gi_length, if_pos ⟨by omega, by omega⟩, (chk_iff 8 (by omega) _).2 ⟨G, rfl, hG⟩, gi_toNat]
   simp only [if_true]
   congr 2
   by_cases h12 : l.length ≤ 12
   ·rw [List.take_of_length_le (by simp; omega)]
   ·have hp := pc_le (2 ^ G.length - 1) 9
    have hf1 : ckR G.length ((l.map c95).take 12) G (2 ^ G.length - 1) = false := by
     cases hb : ckR G.length ((l.map c95).take 12) G (2 ^ G.length - 1)
     ·rfl
     ·have := ckR_len (by omega) _ _ _ hb
      rw [List.length_take, List.length_map] at this
      omega
    have hf2 : ckR G.length (l.map c95) G (2 ^ G.length - 1) = false := by
     cases hb : ckR G.length (l.map c95) G (2 ^ G.length - 1)
     ·rfl
     ·have := ckR_len (by omega) _ _ _ hb
      rw [List.length_map] at this
      omega
    rw [hf1, hf2]
  have hall : wrap64 ((shl .i64 1 ((gi G).length : Int)) - 1) = ((2 ^ G.length - 1 : Nat) : Int) := by
   rw [gi_length, s_one G.length (by omega), w64_small _ (by omega) (by omega)]
   omega
  have hpc : pc (2 ^ G.length - 1) 9 ≤ 9 := pc_le _ 9
  have hrr : Ev (fun k => lampblackref07_Reduce.f k (gi G)) ((redN 10 G (2 ^ G.length - 1) []).1.map c62, (redN 10 G (2 ^ G.length - 1) []).2) := by
   have := ref_run G.length (by omega) 10 G (2 ^ G.length - 1) [] (gr_in hG) (by omega) (by omega) (by simp)
   unfold lampblackref07_Reduce.f
   rw [hall]
   exact this
  have hrs : Ev (fun k => lampblackref07_Reduces.f k (gi G) l) (ckR G.length (l.map c95) G (2 ^ G.length - 1)) := by
   have := reduces_l0 G.length (by omega) l hl l.length 0 G (2 ^ G.length - 1) (by omega) (gr_in hG) (by omega)
   unfold lampblackref07_Reduces.f
   rw [hall]
   exact this
  have hrl := redN_len 10 G (2 ^ G.length - 1) []
  simp only [List.length_nil] at hrl
  refine Ev.bind1 (Reduce_eq hG) (Ev.bind1 e (Ev.bind hst (Ev.bind1 hck (Ev.bind hv (Ev.if_pos rfl (Ev.bind hrr (Ev.bind (own_ev _ (by omega)) (Ev.bind (eq_ev _ (by simp; omega)) (Ev.if_pos rfl (Ev.if_pos rfl (Ev.bind hrs ?_)))))))))))
  exact Ev.if_pos (by simp) (Ev.if_pos rfl (Ev.bind awake_ev (Ev.some rfl)))
 ·have hc' : chk 8 g = false := by simpa using hc
  rw [hc'] at hv
  have hck : minor_CheckReduce.f h ((l.map c95).take 12) = some (false, 2) := by
   unfold minor_CheckReduce.f
   rw [if_pos ⟨by omega, by omega⟩, e2 hc']
   rfl
  exact Ev.bind1 (Reduce_bad h (by omega) (e2 hc')) (Ev.bind1 e (Ev.bind hst (Ev.bind1 hck (Ev.bind hv (Ev.if_neg (by simp) (Ev.if_pos rfl (Ev.if_neg (by simp) (Ev.if_pos rfl (Ev.if_pos rfl (Ev.bind awake_ev (Ev.some rfl)))))))))))
theorem MinorReduces : ∀ (l0 : List Int) (z1 : List S62), l0.length ≤ maxLen → l0.length * 8 ≤ 140737488351232 → (∀ x ∈ l0, (Lit.int .i64 x).wf = true) → z1.length ≤ maxLen → ∃ k, lampblacklaw07_MinorReduces.f k l0 z1 = some true := by
 intro g l _ hg _ hl
 exact Ev.rounds (reduces_law g l (by omega) (by unfold maxLen at hl; omega))
end Go.Proofs.YtjloppfdagfpmaaDoor.Pure
end
section
/- An argument that is a slice of steps (four ints each), opened to its cells. -/
namespace Go.Proofs.YtjloppfdagfpmaaDoor.X
open Go.RowKit Go.ChangeShapes Go.WideShapes Go.Deep YtjloppfdagfpmaaDoorW.PrintWords
theorem list_of {α : Type} (d : α) (Q : Nat → α → Prop) : ∀ n : Nat, (∀ i, i < n → ∃ z, Q i z) → ∃ zs : List α, zs.length = n ∧ ∀ i, i < n → Q i (zs.getD i d)
 | 0, _ => ⟨[], rfl, fun i h => by omega⟩
 | n + 1, h => by
  obtain ⟨zs, h1, h2⟩ := list_of d Q n (fun i hi => h i (by omega))
  obtain ⟨z, hz⟩ := h n (by omega)
  refine ⟨zs ++ [z], by simp [h1], fun i hi => ?_⟩
  by_cases e : i = n
  ·subst e
   rw [List.getD_eq_getElem?_getD, List.getElem?_append_right (by omega), h1]
   simpa using hz
  ·have := h2 i (by omega)
   rw [List.getD_eq_getElem?_getD] at this ⊢
   rwa [List.getElem?_append_left (by omega)]
def IsRowS (w : World) (a : Option Addr) (len cap : Nat) (zs : List S62) : Prop :=
 (a = none ∧ len = 0 ∧ cap = 0 ∧ zs = []) ∨
 ∃ x, a = some x ∧ len ≤ cap ∧ cap ≤ maxLen ∧ zs.length = len ∧ ∀ i, i < len → w.cell? (x.add (i * 4)) = some (.int .i64 (zs.getD i z62).f0) ∧ w.cell? (x.add (i * 4 + 1)) = some (.int .i64 (zs.getD i z62).f1) ∧ w.cell? (x.add (i * 4 + 2)) = some (.int .i64 (zs.getD i z62).f2) ∧ w.cell? (x.add (i * 4 + 3)) = some (.int .i64 (zs.getD i z62).f3)
theorem rowS_C {w : World} {a : Option Addr} {len cap : Nat} {zs : List S62} (h : IsRowS w a len cap zs) : zs.length = len ∧ len ≤ cap ∧ len ≤ maxLen ∧ Kd.C k62 w a len zs := by
 rcases h with ⟨rfl, rfl, rfl, rfl⟩ | ⟨x, rfl, h1, h2, h3, h4⟩
 ·exact ⟨rfl, Nat.le_refl _, Nat.zero_le _, rfl, by omega, fun h0 => by omega⟩
 ·have hm : maxLen ≤ 9223372036854775807 := by decide
  refine ⟨h3, h1, by omega, h3, by omega, fun h0 => ⟨x, rfl, fun j p hj => ⟨[.int .i64 p.f0, .int .i64 p.f1, .int .i64 p.f2, .int .i64 p.f3], rfl, k62_mk w p, fun i u hu => ?_⟩⟩⟩
  obtain ⟨q1, q2⟩ := List.getElem?_eq_some_iff.1 hj
  obtain ⟨c0, c1, c2, c3⟩ := h4 j (by omega)
  rw [List.getD_eq_getElem?_getD, hj] at c0 c1 c2 c3
  show w.cell? (x.add (j * 4 + i)) = some u
  match i, hu with
  | 0, hu =>
   have hu' : Value.int .i64 p.f0 = u := by simpa using hu
   rw [← hu']; exact c0
  | 1, hu =>
   have hu' : Value.int .i64 p.f1 = u := by simpa using hu
   rw [← hu']; exact c1
  | 2, hu =>
   have hu' : Value.int .i64 p.f2 = u := by simpa using hu
   rw [← hu']; exact c2
  | 3, hu =>
   have hu' : Value.int .i64 p.f3 = u := by simpa using hu
   rw [← hu']; exact c3
section
variable {H : Type} {enc : TypeId × Value → H} {P : Program} {w : World} {base : Nat} {spare : Nat → Bool} {held : Bool}
theorem open_acts {t e : TypeId} {f0 f1 f2 f3 : Field} {fuel : Nat} {a : Option Addr} {len cap : Nat} {x : DataW H × List MemPlace} (ht : P.underlying t = some (.slice e)) (he : P.underlying e = some (.struct #[f0, f1, f2, f3]))
  (hone : oneCellFields P #[f0, f1, f2, f3] = true) (hC : P.cellsOf e = 4) (h0 : P.underlying f0.type = some (.int .i64)) (h1 : P.underlying f1.type = some (.int .i64)) (h2 : P.underlying f2.type = some (.int .i64)) (h3 : P.underlying f3.type = some (.int .i64)) (h : DataW.trod enc P w base spare held fuel t [.slice a len cap] = some x) : ∃ zs, IsRowS w a len cap zs := by
 rcases open_slice ht h with ⟨hn, _⟩ | ⟨ad, l, c, m, n, D, Pl, hcs, _, hl, hm, hmm, _, hi⟩
 ·simp only [List.cons.injEq, Value.slice.injEq, and_true] at hn
  obtain ⟨rfl, rfl, rfl⟩ := hn
  exact ⟨[], .inl ⟨rfl, rfl, rfl, rfl⟩⟩
 ·simp only [List.cons.injEq, Value.slice.injEq, and_true] at hcs
  obtain ⟨rfl, rfl, rfl⟩ := hcs
  have hlm : len ≤ m := by rw [hmm]; split <;> omega
  obtain ⟨zs, z1, z2⟩ := list_of z62 (fun i z => w.cell? (ad.add (i * 4)) = some (.int .i64 z.f0) ∧ w.cell? (ad.add (i * 4 + 1)) = some (.int .i64 z.f1) ∧ w.cell? (ad.add (i * 4 + 2)) = some (.int .i64 z.f2) ∧ w.cell? (ad.add (i * 4 + 3)) = some (.int .i64 z.f3)) len fun i hil => by
   obtain ⟨cs, hc, htr⟩ := hi i (by omega)
   rw [hC] at hc
   obtain ⟨_, hcl, hat⟩ := World.cells?_some hc
   obtain ⟨ys, n2, _, _, _, hyl, hf⟩ := DataW.trod_struct he htr
   obtain ⟨o0, k0⟩ := hone_of hone 0 f0 rfl
   obtain ⟨o1, k1⟩ := hone_of hone 1 f1 rfl
   obtain ⟨o2, k2⟩ := hone_of hone 2 f2 rfl
   obtain ⟨o3, k3⟩ := hone_of hone 3 f3 rfl
   match cs, hcl with
   | [c0, c1, c2, c3], _ =>
    have g0 := hf 0 f0 rfl
    have g1 := hf 1 f1 rfl
    have g2 := hf 2 f2 rfl
    have g3 := hf 3 f3 rfl
    rw [o0, k0] at g0
    rw [o1, k1] at g1
    rw [o2, k2] at g2
    rw [o3, k3] at g3
    have y0 : ys[0]? = some (ys[0]'(by rw [hyl]; show 0 < 4; omega)) := List.getElem?_eq_getElem _
    have y1 : ys[1]? = some (ys[1]'(by rw [hyl]; show 1 < 4; omega)) := List.getElem?_eq_getElem _
    have y2 : ys[2]? = some (ys[2]'(by rw [hyl]; show 2 < 4; omega)) := List.getElem?_eq_getElem _
    have y3 : ys[3]? = some (ys[3]'(by rw [hyl]; show 3 < 4; omega)) := List.getElem?_eq_getElem _
    obtain ⟨v0, hv0, _⟩ := DataW.trod_int h0 (g0.trans y0)
    obtain ⟨v1, hv1, _⟩ := DataW.trod_int h1 (g1.trans y1)
    obtain ⟨v2, hv2, _⟩ := DataW.trod_int h2 (g2.trans y2)
    obtain ⟨v3, hv3, _⟩ := DataW.trod_int h3 (g3.trans y3)
    have e0 : c0 = .int .i64 v0 := by simpa using hv0
    have e1 : c1 = .int .i64 v1 := by simpa using hv1
    have e2 : c2 = .int .i64 v2 := by simpa using hv2
    have e3 : c3 = .int .i64 v3 := by simpa using hv3
    refine ⟨⟨v0, v1, v2, v3⟩, ?_, ?_, ?_, ?_⟩
    ·exact (hat 0 (by omega)).trans (by simp [e0])
    ·rw [← Go.Deep.add_add]
     exact (hat 1 (by omega)).trans (by simp [e1])
    ·rw [← Go.Deep.add_add]
     exact (hat 2 (by omega)).trans (by simp [e2])
    ·rw [← Go.Deep.add_add]
     exact (hat 3 (by omega)).trans (by simp [e3])
  exact ⟨zs, .inr ⟨ad, rfl, hl, hm, z1, z2⟩⟩
end
end Go.Proofs.YtjloppfdagfpmaaDoor.X
end
