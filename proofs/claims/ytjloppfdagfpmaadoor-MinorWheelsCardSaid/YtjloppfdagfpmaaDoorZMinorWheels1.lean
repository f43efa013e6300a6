/- Part 1 of what MinorWheels rests on: contracts of the functions that it reaches, and what they compute, in plain words. -/
import Derived.Test.YtjloppfdagfpmaaDoorZMinorWheels0
set_option linter.unusedVariables false
set_option linter.unusedSimpArgs false
section
namespace Go.Proofs.YtjloppfdagfpmaaDoor.X
open Go.RowKit YtjloppfdagfpmaaDoorW.PrintWords YtjloppfdagfpmaaDoorW.PrintLast YtjloppfdagfpmaaDoorW.PrintMore
attribute [local go_sem] max2_int min2_int max_two min_two max_three min_three max_four min_four
/-! ### lampblacklaw07_Few: function 22 -/
def lampblacklaw07_Few.f (l0 : List Int) : Option (List Int) := if 0 ≤ (mn (l0.length : Int) 12) then (if (mn (l0.length : Int) 12) ≤ (l0.length : Int) then ((slices_Clone_Graph.f (l0.take ((mn (l0.length : Int) 12) : Int).toNat)).bind fun t161 => (some t161)) else (none)) else (none)
set_option maxHeartbeats 8000000 in
set_option maxRecDepth 100000 in
theorem lampblacklaw07_Few.calls (A0 : Option Addr) (c0 : Nat) (l0 : List Int) (r : List Int) (w : World) (hr0 : Kd.C (Kd.int .i64) w A0 l0.length l0) (hc0 : l0.length ≤ c0) (h : lampblacklaw07_Few.f l0 = some r) :
  Calls Tryd.prog 22 #[.slice A0 l0.length c0] w fun e w' => ∃ v0_ : Value, e = .returned (v0_) ∧ Kd.R (Kd.int .i64) 3 w' w.heap.size (fun _ => True) v0_ r ∧ Below w.heap.size w w' := by
 have HR0 := Aside0.mk hr0
 have HC0 := Aside0.mk hc0
 clear hr0 hc0
 have HB := Aside0.mk (Below.refl w.heap.size w)
 have H : (if 0 ≤ (mn (l0.length : Int) 12) then (if (mn (l0.length : Int) 12) ≤ (l0.length : Int) then ((slices_Clone_Graph.f (l0.take ((mn (l0.length : Int) 12) : Int).toNat)).bind fun t161 => (some t161)) else (none)) else (none)) = some r := h
 clear h
 obtain ⟨ji2, hji2⟩ : ∃ j_ : Int, (mn (l0.length : Int) 12) = j_ := ⟨_, rfl⟩
 replace H : (if 0 ≤ (ji2) then (if (ji2) ≤ (l0.length : Int) then ((slices_Clone_Graph.f (l0.take ((ji2) : Int).toNat)).bind fun t161 => (some t161)) else (none)) else (none)) = some r := by first | (rw [hji2] at H; exact H) | (simp only [hji2] at H ⊢; exact H)
 (try (have hji2h : ji2 ≤ 12 := by (rw [← hji2]; unfold mn; (repeat' split) <;> omega)))
 (try (have hji2g : ji2 ≤ 64 := by omega))
 (try (have hji2l : 0 ≤ ji2 := by (rw [← hji2]; unfold mn; (repeat' split) <;> omega)))
 (try (have hji2m : 0 ≤ ji2 := by omega))
 have hji2_ : (if 12 < (l0.length : Int) then 12 else (l0.length : Int)) = ji2 := hji2
 by_cases c3 : 0 ≤ (ji2)
 ·rw [if_pos c3] at H
  have c3b0 := eq_true c3
  have c3b1 : decide (0 ≤ (ji2)) = true := decide_eq_true c3
  clear c3
  by_cases c4 : (ji2) ≤ (l0.length : Int)
  ·rw [if_pos c4] at H
   have c4b0 := eq_true c4
   have c4b1 : decide ((ji2) ≤ (l0.length : Int)) = true := decide_eq_true c4
   clear c4
   replace H := Option.bind_eq_some_iff.mp H
   obtain ⟨t161, A50, H⟩ := H
   replace H : (some t161) = some r := H
   have A5 := Aside0.mk A50
   clear A50
   obtain rfl := Option.some.inj H
   obtain ⟨i06, hi06, _, hsz6, _⟩ := info_parts info3
   obtain ⟨hcut6, hA6, hC6⟩ := print_take_of (P := Tryd.prog) (Value.int .i64) 0 23 3 .i64 Tryd.underlying23 hi06 hsz6 A0 c0 l0 (ji2) (of_decide_eq_true (by first | (with_reducible assumption) | assumption)) (of_decide_eq_true (by first | (with_reducible assumption) | assumption)) HC0.out
   have HR160 := Aside0.mk (Kd.C_of_reads (h1 := fun _ => rfl) (hA6 _ (Kd.reads_of_C HR0.out)))
   have HC160 := Aside0.mk hC6
   clear hA6 hC6 hi06 hsz6
   go_enter Tryd.func22, Tryd.ntmps22
   go_wp2_with (first | ((with_reducible refine gate_callee (f := 65) rfl ?_); refine goesL_ (some 8) rfl rfl Tryd.func65 (by kernel_rfl) rfl #[.slice A0 (l0.take ((ji2) : Int).toNat).length c0] rfl (by (try simp only [List.map_toArray, List.map_cons, List.map_nil]); first | done | (rw [show (l0.take ((ji2) : Int).toNat).length = (ji2).toNat from (by rw [List.length_take]; have h_ : ((ji2) : Int) ≤ (l0.length : Int) := of_decide_eq_true (by first | (with_reducible assumption) | assumption); omega)] <;> rfl) | (simp only [hji2]; rfl) | rfl | (simp only [List.length_drop, List.length_take]; rfl)) ?_; (with_reducible refine (slices_Clone_Graph.calls _ _ (l0.take ((ji2) : Int).toNat) t161 _ ?side1 ?side2 A5.out).mono ?_); (case side1 => exact Qsc HR160.out); (case side2 => exact HC160.out); rintro e w7 ⟨v162, rfl, ho0, hb⟩; refine ⟨_, rfl, ?_⟩; have n0_ := Aside0.mk (Kd.R_lower ho0 (below_size (Qaw))); have n1_ := Aside0.mk (below_step (Qaw) hb); clear HB; have HO163 := n0_; have HB := n1_; clear n0_ n1_; (try clear hb); (try clear hb2); (try clear hk); (try clear hi); (try clear ho0)))
   go_ret
   exact ⟨_, by first | rfl | (simp [errW_none, errW_some] <;> rfl) | (simp only [← hji2]; first | rfl | (simp [errW_none, errW_some] <;> rfl)) | (simp [*, errW_none, errW_some] <;> rfl), by (with_reducible repeat (first | apply Kd.R_alloc | apply Kd.R_drewN | apply Kd.R_drew)); exact HO163.out, by repeat (first | (with_reducible first | exact HB.out | apply below_alloc | apply pw_below_drewN | apply below_drew1) | exact HB.out)⟩
  ·rw [if_neg c4] at H
   exact absurd H (by simp)
 ·rw [if_neg c3] at H
  exact absurd H (by simp)
end Go.Proofs.YtjloppfdagfpmaaDoor.X
end
section
namespace Go.Proofs.YtjloppfdagfpmaaDoor.X
open Go.RowKit YtjloppfdagfpmaaDoorW.PrintWords YtjloppfdagfpmaaDoorW.PrintLast YtjloppfdagfpmaaDoorW.PrintMore
attribute [local go_sem] max2_int min2_int max_two min_two max_three min_three max_four min_four
/-! ### lampblacklaw07_has: function 20 -/
def lampblacklaw07_has.f (l0 : List Int) (l1 : List Int) : Option (Bool × Bool) := (lampblacklaw07_Few.f l0).bind fun t164 => ((minor_Model.f t164 l1).bind fun bt167 => (if bt167.2 = 0 then (some ((bt167.2 == 0), true)) else (some ((bt167.2 == 0), (bt167.2 == 4)))))
set_option maxHeartbeats 8000000 in
set_option maxRecDepth 100000 in
theorem lampblacklaw07_has.calls (A0 : Option Addr) (c0 : Nat) (l0 : List Int) (A1 : Option Addr) (c1 : Nat) (l1 : List Int) (r1 : Bool) (r2 : Bool) (w : World) (hGL : GL w) (hr0 : Kd.C (Kd.int .i64) w A0 l0.length l0) (hc0 : l0.length ≤ c0) (hr1 : Kd.C (Kd.int .i64) w A1 l1.length l1) (hc1 : l1.length ≤ c1) (h : lampblacklaw07_has.f l0 l1 = some (r1, r2)) :
  Calls Tryd.prog 20 #[.slice A0 l0.length c0, .slice A1 l1.length c1] w fun e w' => e = .returned (.tuple #[.bool r1, .bool r2]) ∧ Below w.heap.size w w' := by
 have HGL := Aside0.mk hGL
 clear hGL
 have HR0 := Aside0.mk hr0
 have HC0 := Aside0.mk hc0
 clear hr0 hc0
 have HR1 := Aside0.mk hr1
 have HC1 := Aside0.mk hc1
 clear hr1 hc1
 have HB := Aside0.mk (Below.refl w.heap.size w)
 have H : ((lampblacklaw07_Few.f l0).bind fun t164 => ((minor_Model.f t164 l1).bind fun bt167 => (if bt167.2 = 0 then (some ((bt167.2 == 0), true)) else (some ((bt167.2 == 0), (bt167.2 == 4)))))) = some (r1, r2) := h
 clear h
 replace H := Option.bind_eq_some_iff.mp H
 obtain ⟨t164, A30, H⟩ := H
 replace H : ((minor_Model.f t164 l1).bind fun bt167 => (if bt167.2 = 0 then (some ((bt167.2 == 0), true)) else (some ((bt167.2 == 0), (bt167.2 == 4))))) = some (r1, r2) := H
 have A3 := Aside0.mk A30
 clear A30
 replace H := Option.bind_eq_some_iff.mp H
 obtain ⟨⟨t167, t168⟩, A40, H⟩ := H
 replace H : (if t168 = 0 then (some ((t168 == 0), true)) else (some ((t168 == 0), (t168 == 4)))) = some (r1, r2) := H
 have A4 := Aside0.mk A40
 clear A40
 by_cases c5 : t168 = 0
 ·rw [if_pos c5] at H
  have c5b0 : (t168 == 0) = true := beq_iff_eq.mpr c5
  have c5b1 : (t168 != 0) = false := bne_eq_false_iff_eq.mpr c5
  clear c5
  simp only [Option.some.injEq, Prod.mk.injEq] at H
  obtain ⟨rfl, rfl⟩ := H
  go_enter Tryd.func20, Tryd.ntmps20
  go_wp2_with (first | ((with_reducible refine gate_callee (f := 22) rfl ?_); refine goesL_ (some 10) rfl rfl Tryd.func22 (by kernel_rfl) rfl #[.slice A0 l0.length c0] rfl (Qls) ?_; (with_reducible refine (lampblacklaw07_Few.calls _ _ l0 t164 _ ?side1 ?side2 A3.out).mono ?_); (case side1 => exact Qsc HR0.out); (case side2 => exact HC0.out); rintro e w6 ⟨v165, rfl, ho0, hb⟩; refine ⟨_, rfl, ?_⟩; have n0_ := Aside0.mk (Kd.R_lower ho0 (below_size (Qaw))); have n1_ := Aside0.mk (below_step (Qaw) hb); clear HB; have HO166 := n0_; have HB := n1_; clear n0_ n1_; (try clear hb); (try clear hb2); (try clear hk); (try clear hi); (try clear ho0); obtain ⟨Ao7, co7, eo7⟩ := Kd.R_slice HO166.out; subst eo7) | ((with_reducible refine gate_callee (f := 21) rfl ?_); refine goesL_ (some 12) rfl rfl Tryd.func21 (by kernel_rfl) rfl #[.slice Ao7 t164.length co7, .slice A1 l1.length c1] rfl (Qls) ?_; (with_reducible refine (minor_Model.calls (hGL := (Qlg)) _ _ t164 _ _ l1 t167 t168 _ ?side1 ?side2 ?side3 ?side4 A4.out).mono ?_); (case side1 => exact Qsc (Kd.R_reads' HO166.out).2.2); (case side2 => exact (Kd.R_reads' HO166.out).2.1); (case side3 => exact Qsc (Kd.C_below HR1.out HB.out)); (case side4 => exact HC1.out); rintro e w8 ⟨v169, rfl, ho0, hb⟩; refine ⟨_, rfl, ?_⟩; have n0_ := Aside0.mk (Kd.R_elder' (Qro HO166.out) (Kd.R_base ho0) hb); have n1_ := Aside0.mk (Kd.R_lower (Kd.R_new' ho0 (Kd.R_lt (Qro HO166.out))) (below_size (Qaw))); have n2_ := Aside0.mk (below_step (Qaw) hb); clear HO166; clear HB; have HO166 := n0_; have HO170 := n1_; have HB := n2_; clear n0_ n1_ n2_; (try clear hb); (try clear hb2); (try clear hk); (try clear hi); (try clear ho0)))
  go_ret2
  exact ⟨by first | rfl | (simp [errW_none, errW_some] <;> rfl) | (simp [*, errW_none, errW_some] <;> rfl), by repeat (first | (with_reducible first | exact HB.out | apply below_alloc | apply pw_below_drewN | apply below_drew1) | exact HB.out)⟩
 ·rw [if_neg c5] at H
  have c5b0 : (t168 == 0) = false := beq_eq_false_iff_ne.mpr c5
  have c5b1 : (t168 != 0) = true := bne_iff_ne.mpr c5
  simp only [Option.some.injEq, Prod.mk.injEq] at H
  obtain ⟨rfl, rfl⟩ := H
  go_enter Tryd.func20, Tryd.ntmps20
  go_wp2_with (first | ((with_reducible refine gate_callee (f := 22) rfl ?_); refine goesL_ (some 10) rfl rfl Tryd.func22 (by kernel_rfl) rfl #[.slice A0 l0.length c0] rfl (Qls) ?_; (with_reducible refine (lampblacklaw07_Few.calls _ _ l0 t164 _ ?side1 ?side2 A3.out).mono ?_); (case side1 => exact Qsc HR0.out); (case side2 => exact HC0.out); rintro e w9 ⟨v165, rfl, ho0, hb⟩; refine ⟨_, rfl, ?_⟩; have n0_ := Aside0.mk (Kd.R_lower ho0 (below_size (Qaw))); have n1_ := Aside0.mk (below_step (Qaw) hb); clear HB; have HO166 := n0_; have HB := n1_; clear n0_ n1_; (try clear hb); (try clear hb2); (try clear hk); (try clear hi); (try clear ho0); obtain ⟨Ao10, co10, eo10⟩ := Kd.R_slice HO166.out; subst eo10) | ((with_reducible refine gate_callee (f := 21) rfl ?_); refine goesL_ (some 12) rfl rfl Tryd.func21 (by kernel_rfl) rfl #[.slice Ao10 t164.length co10, .slice A1 l1.length c1] rfl (Qls) ?_; (with_reducible refine (minor_Model.calls (hGL := (Qlg)) _ _ t164 _ _ l1 t167 t168 _ ?side1 ?side2 ?side3 ?side4 A4.out).mono ?_); (case side1 => exact Qsc (Kd.R_reads' HO166.out).2.2); (case side2 => exact (Kd.R_reads' HO166.out).2.1); (case side3 => exact Qsc (Kd.C_below HR1.out HB.out)); (case side4 => exact HC1.out); rintro e w11 ⟨v169, rfl, ho0, hb⟩; refine ⟨_, rfl, ?_⟩; have n0_ := Aside0.mk (Kd.R_elder' (Qro HO166.out) (Kd.R_base ho0) hb); have n1_ := Aside0.mk (Kd.R_lower (Kd.R_new' ho0 (Kd.R_lt (Qro HO166.out))) (below_size (Qaw))); have n2_ := Aside0.mk (below_step (Qaw) hb); clear HO166; clear HB; have HO166 := n0_; have HO170 := n1_; have HB := n2_; clear n0_ n1_ n2_; (try clear hb); (try clear hb2); (try clear hk); (try clear hi); (try clear ho0)))
  go_ret2
  exact ⟨by first | rfl | (simp [errW_none, errW_some] <;> rfl) | (simp [*, errW_none, errW_some] <;> rfl), by repeat (first | (with_reducible first | exact HB.out | apply below_alloc | apply pw_below_drewN | apply below_drew1) | exact HB.out)⟩
end Go.Proofs.YtjloppfdagfpmaaDoor.X
end
section
namespace Go.Proofs.YtjloppfdagfpmaaDoor.X
open Go.RowKit YtjloppfdagfpmaaDoorW.PrintWords YtjloppfdagfpmaaDoorW.PrintLast YtjloppfdagfpmaaDoorW.PrintMore
attribute [local go_sem] max2_int min2_int max_two min_two max_three min_three max_four min_four
/-! ### lampblackref01_Reached: function 52 -/
mutual
def lampblackref01_Reached.l0 : Nat → List Int → Int → Int → Int → Int → Option (Int)
 | 0, _, _, _, _, _ => none
 | k + 1, x0, x1, x7, x12, x13 => if x13 < x12 then (lampblackref01_Reached.l1 k x0 x1 x7 x12 x13 (x0.length : Int) 0) else (some x7)
def lampblackref01_Reached.l1 : Nat → List Int → Int → Int → Int → Int → Int → Int → Option (Int)
 | 0, _, _, _, _, _, _, _ => none
 | k + 1, x0, x1, x7, x12, x13, x16, x17 => if x17 < x16 then (if 0 ≤ x17 then (if (Go.bits .and .i64 (shr .i64 x7 x17) 1) = 1 then (if x17 < (x0.length : Int) then (lampblackref01_Reached.l1 k x0 x1 (Go.bits .or .i64 x7 (Go.bits .and .i64 (rd x0 x17) x1)) x12 x13 x16 (wrap64 (x17 + 1))) else (none)) else (lampblackref01_Reached.l1 k x0 x1 x7 x12 x13 x16 (wrap64 (x17 + 1)))) else (none)) else (lampblackref01_Reached.l0 k x0 x1 x7 x12 (wrap64 (x13 + 1)))
end
def lampblackref01_Reached.f (k : Nat) (l0 : List Int) (a1 : Int) (a2 : Int) : Option (Int) := if 0 ≤ a2 then (lampblackref01_Reached.l0 k l0 a1 (shl .i64 1 a2) (l0.length : Int) 0) else (none)
set_option maxHeartbeats 8000000 in
set_option maxRecDepth 100000 in
theorem lampblackref01_Reached.calls (k : Nat) (A0 : Option Addr) (c0 : Nat) (l0 : List Int) (a1 : Int) (a2 : Int) (r : Int) (w : World) (hr0 : Kd.C (Kd.int .i64) w A0 l0.length l0) (hc0 : l0.length ≤ c0) (h : lampblackref01_Reached.f k l0 a1 a2 = some r) :
  Calls Tryd.prog 52 #[.slice A0 l0.length c0, .int .i64 a1, .int .i64 a2] w fun e w' => e = .returned (.int .i64 r) ∧ Drawn0 w w' := by
 have HR0 := Aside0.mk hr0
 have HC0 := Aside0.mk hc0
 clear hr0 hc0
 have H : (if 0 ≤ a2 then (lampblackref01_Reached.l0 k l0 a1 (shl .i64 1 a2) (l0.length : Int) 0) else (none)) = some r := h
 clear h
 by_cases c4 : 0 ≤ a2
 ·rw [if_pos c4] at H
  have c4b0 := eq_true c4
  have c4b1 : decide (0 ≤ a2) = true := decide_eq_true c4
  clear c4
  obtain ⟨ji5, hji5⟩ : ∃ j_ : Int, (shl .i64 1 a2) = j_ := ⟨_, rfl⟩
  replace H : (lampblackref01_Reached.l0 k l0 a1 ji5 (l0.length : Int) 0) = some r := by first | (rw [hji5] at H; exact H) | (simp only [hji5] at H ⊢; exact H)
  have hji5_ : (IntKind.i64.wrap (1 * 2 ^ min a2.toNat 64)) = ji5 := hji5
  have hji5z : a2 ≤ 64 → (IntKind.i64.wrap (1 * 2 ^ a2.toNat)) = ji5 := shl_small hji5
  have hji5u : (IntKind.i64.wrap (2 ^ min a2.toNat 64)) = ji5 := by have h_ := hji5_; rw [Int.one_mul] at h_; exact h_
  have hji5v : a2 ≤ 64 → (IntKind.i64.wrap (2 ^ a2.toNat)) = ji5 := fun hle_ => by have h_ := hji5z hle_; rw [Int.one_mul] at h_; exact h_
  have hji5y : (wrap64 (1 * 2 ^ min a2.toNat 64)) = ji5 := (i64_w _).symm.trans hji5_
  have hji5x : a2 ≤ 64 → (wrap64 (1 * 2 ^ a2.toNat)) = ji5 := fun h_ => (i64_w _).symm.trans (hji5z h_)
  have H' := Aside0.mk H
  clear H
  go_enter Tryd.func52, Tryd.ntmps52
  go_wp2
  go_loopg [7, 13] k (fun kq v7 v13 w' => ∃ (x7_1 : Int) (x13_1 : Int), v7 = .int .i64 x7_1 ∧ v13 = .int .i64 x13_1 ∧ Aside0 (lampblackref01_Reached.l0 kq l0 a1 x7_1 (l0.length : Int) x13_1 = some r) ∧ Aside0 (kq ≤ k) ∧ Drawn0 w w')
  case atStart => exact ⟨(ji5), (0), (by first | rfl | (simp; done) | (simp only [← hji5] <;> (first | rfl | simp)) | (simp [*]; done)), (by first | rfl | (simp; done) | (simp [*]; done)), H', ⟨Nat.le_refl _⟩, by repeat (first | exact Drawn0.refl _ | apply Drawn0.step)⟩
  case round =>
   clear H'
   try clear p2
   try clear c4
   try clear c4b0
   try clear c4b1
   try clear c5
   obtain ⟨x7_1, x13_1, rfl, rfl, HA, HK1, ⟨m1, rfl⟩⟩ := hrel
   cases gk with
   | zero => exact absurd HA.out (by simp [lampblackref01_Reached.l0])
   | succ k1 =>
    have H := HA.out
    clear HA
    simp only [lampblackref01_Reached.l0] at H
    by_cases c6 : x13_1 < (l0.length : Int)
    ·rw [if_pos c6] at H
     have c6b0 : decide (x13_1 < (l0.length : Int)) = true := decide_eq_true c6
     clear c6
     have H' := Aside0.mk H
     clear H
     go_wp2
     go_loopg [7, 17] k1 (fun kq v7 v17 w' => ∃ (x7_2 : Int) (x17_2 : Int), v7 = .int .i64 x7_2 ∧ v17 = .int .i64 x17_2 ∧ Aside0 (lampblackref01_Reached.l1 kq l0 a1 x7_2 (l0.length : Int) x13_1 (l0.length : Int) x17_2 = some r) ∧ Aside0 (kq ≤ k1) ∧ Drawn0 w w')
     case atStart => exact ⟨(x7_1), (0), (by first | rfl | (simp; done) | (simp [*]; done)), (by first | rfl | (simp; done) | (simp [*]; done)), H', ⟨Nat.le_refl _⟩, by repeat (first | exact Drawn0.refl _ | apply Drawn0.step)⟩
     case round =>
      clear H'
      try clear p2
      try clear c4
      try clear c4b0
      try clear c4b1
      try clear c5
      try clear c6
      try clear c6b0
      try clear p6
      try clear p2
      obtain ⟨x7_2, x17_2, rfl, rfl, HA, HK2, ⟨m2, rfl⟩⟩ := hrel
      cases gk with
      | zero => exact absurd HA.out (by simp [lampblackref01_Reached.l1])
      | succ k2 =>
       have H := HA.out
       clear HA
       simp only [lampblackref01_Reached.l1] at H
       by_cases c7 : x17_2 < (l0.length : Int)
       ·rw [if_pos c7] at H
        have c7b0 : decide (x17_2 < (l0.length : Int)) = true := decide_eq_true c7
        clear c7
        by_cases c8 : 0 ≤ x17_2
        ·rw [if_pos c8] at H
         have c8b0 := eq_true c8
         have c8b1 : decide (0 ≤ x17_2) = true := decide_eq_true c8
         clear c8
         obtain ⟨ji9, hji9⟩ : ∃ j_ : Int, (shr .i64 x7_2 x17_2) = j_ := ⟨_, rfl⟩
         replace H : (if (Go.bits .and .i64 (ji9) 1) = 1 then (if x17_2 < (l0.length : Int) then (lampblackref01_Reached.l1 k2 l0 a1 (Go.bits .or .i64 x7_2 (Go.bits .and .i64 (rd l0 x17_2) a1)) (l0.length : Int) x13_1 (l0.length : Int) (wrap64 (x17_2 + 1))) else (none)) else (lampblackref01_Reached.l1 k2 l0 a1 x7_2 (l0.length : Int) x13_1 (l0.length : Int) (wrap64 (x17_2 + 1)))) = some r := by first | (rw [hji9] at H; exact H) | (simp only [hji9] at H ⊢; exact H)
         have hji9_ : (x7_2 / 2 ^ min x17_2.toNat 64) = ji9 := hji9
         have hji9z : x17_2 ≤ 64 → (x7_2 / 2 ^ x17_2.toNat) = ji9 := shr_small hji9
         by_cases c10 : (Go.bits .and .i64 (ji9) 1) = 1
         ·rw [if_pos c10] at H
          have c10b0 : ((Go.bits .and .i64 (ji9) 1) == 1) = true := beq_iff_eq.mpr c10
          have c10b1 : ((Go.bits .and .i64 (ji9) 1) != 1) = false := bne_eq_false_iff_eq.mpr c10
          clear c10
          by_cases c11 : x17_2 < (l0.length : Int)
          ·rw [if_pos c11] at H
           have c11b0 : decide (x17_2 < (l0.length : Int)) = true := decide_eq_true c11
           clear c11
           have H' := Aside0.mk H
           clear H
           have p143 : 0 ≤ (x17_2 : Int) := of_decide_eq_true (by first | (with_reducible assumption) | assumption)
           have q143 : x17_2 < (l0.length : Int) := of_decide_eq_true (by first | (with_reducible assumption) | assumption)
           obtain ⟨ad143, e143, hx143_0⟩ := Kd.at_int HR0.out x17_2 p143 q143
           cases e143
           replace p143 := eq_true p143
           replace q143 := eq_true q143
           go_wp2
           go_roundg k2
           case measure => have := HK1.out; have := HK2.out; omega
           case rel => exact ⟨(Go.bits .or .i64 x7_2 (Go.bits .and .i64 (rd l0 x17_2) a1)), (wrap64 (x17_2 + 1)), (by first | rfl | (simp; done) | (simp [*]; done)), (by first | rfl | (simp; done) | (simp [*]; done)), H', ⟨by have := HK1.out; have := HK2.out; omega⟩, by repeat (first | exact Drawn0.refl _ | apply Drawn0.step)⟩
          ·rw [if_neg c11] at H
           exact absurd H (by simp)
         ·rw [if_neg c10] at H
          have c10b0 : ((Go.bits .and .i64 (ji9) 1) == 1) = false := beq_eq_false_iff_ne.mpr c10
          have c10b1 : ((Go.bits .and .i64 (ji9) 1) != 1) = true := bne_iff_ne.mpr c10
          have H' := Aside0.mk H
          clear H
          go_wp2
          go_roundg k2
          case measure => have := HK1.out; have := HK2.out; omega
          case rel => exact ⟨(x7_2), (wrap64 (x17_2 + 1)), (by first | rfl | (simp; done) | (simp [*]; done)), (by first | rfl | (simp; done) | (simp [*]; done)), H', ⟨by have := HK1.out; have := HK2.out; omega⟩, by repeat (first | exact Drawn0.refl _ | apply Drawn0.step)⟩
        ·rw [if_neg c8] at H
         exact absurd H (by simp)
       ·rw [if_neg c7] at H
        have c7b0 : decide (x17_2 < (l0.length : Int)) = false := decide_eq_false c7
        clear c7
        have H' := Aside0.mk H
        clear H
        go_wp2
        go_roundg k2
        case measure => have := HK1.out; have := HK2.out; omega
        case rel => exact ⟨(x7_2), (wrap64 (x13_1 + 1)), (by first | rfl | (simp; done) | (simp [*]; done)), (by first | rfl | (simp; done) | (simp [*]; done)), H', ⟨by have := HK1.out; have := HK2.out; omega⟩, by repeat (first | exact Drawn0.refl _ | apply Drawn0.step)⟩
    ·rw [if_neg c6] at H
     have c6b0 : decide (x13_1 < (l0.length : Int)) = false := decide_eq_false c6
     clear c6
     obtain rfl := Option.some.inj H
     go_wp2
     go_ret
     exact ⟨by first | rfl | (simp; done) | (simp only [← hji5] <;> (first | rfl | simp)) | (simp [*]; done), by repeat (first | exact Drawn0.refl _ | apply Drawn0.step)⟩
 ·rw [if_neg c4] at H
  exact absurd H (by simp)
end Go.Proofs.YtjloppfdagfpmaaDoor.X
end
section
namespace Go.Proofs.YtjloppfdagfpmaaDoor.X
open Go.RowKit YtjloppfdagfpmaaDoorW.PrintWords YtjloppfdagfpmaaDoorW.PrintLast YtjloppfdagfpmaaDoorW.PrintMore
attribute [local go_sem] max2_int min2_int max_two min_two max_three min_three max_four min_four
/-! ### lampblackref02_Connected: function 18 -/
mutual
def lampblackref02_Connected.j0 : Nat → List Int → Int → Bool → Option (Bool)
 | 0, _, _, _ => none
 | k + 1, x0, x1, x14 => if x14 = true then (some false) else (lampblackref02_Connected.l0 k x0 x1 0)
def lampblackref02_Connected.l0 : Nat → List Int → Int → Int → Option (Bool)
 | 0, _, _, _ => none
 | k + 1, x0, x1, x5 => if 0 ≤ x5 then (if (Go.bits .and .i64 (shr .i64 x1 x5) 1) = 0 then (lampblackref02_Connected.l0 k x0 x1 (wrap64 (x5 + 1))) else ((lampblackref01_Reached.f k x0 x1 x5).bind fun t144 => (some (t144 == x1)))) else (none)
end
def lampblackref02_Connected.f (k : Nat) (l0 : List Int) (a1 : Int) : Option (Bool) := if a1 ≤ 0 then (lampblackref02_Connected.j0 k l0 a1 true) else (lampblackref02_Connected.j0 k l0 a1 (decide (a1 ≥ (shl .i64 1 (l0.length : Int)))))
set_option maxHeartbeats 8000000 in
set_option maxRecDepth 100000 in
theorem lampblackref02_Connected.calls (k : Nat) (A0 : Option Addr) (c0 : Nat) (l0 : List Int) (a1 : Int) (r : Bool) (w : World) (hr0 : Kd.C (Kd.int .i64) w A0 l0.length l0) (hc0 : l0.length ≤ c0) (h : lampblackref02_Connected.f k l0 a1 = some r) :
  Calls Tryd.prog 18 #[.slice A0 l0.length c0, .int .i64 a1] w fun e w' => e = .returned (.bool r) ∧ Drawn0 w w' := by
 have HR0 := Aside0.mk hr0
 have HC0 := Aside0.mk hc0
 clear hr0 hc0
 have H : (if a1 ≤ 0 then (lampblackref02_Connected.j0 k l0 a1 true) else (lampblackref02_Connected.j0 k l0 a1 (decide (a1 ≥ (shl .i64 1 (l0.length : Int)))))) = some r := h
 clear h
 have HC3 := Aside0.mk H
 clear H
 go_enter Tryd.func18, Tryd.ntmps18
 go_upto_region 1 with (fail)
 go_cut [14] (fun v14 wc => ∃ (kq : Nat) (x14_2 : Bool), v14 = .bool x14_2 ∧ Aside0 (lampblackref02_Connected.j0 kq l0 a1 x14_2 = some r) ∧ Aside0 (kq ≤ k) ∧ Drawn0 w wc)
 case first =>
  have H := HC3.out
  clear HC3
  by_cases c4 : a1 ≤ 0
  ·rw [if_pos c4] at H
   have c4b0 : decide (a1 ≤ 0) = true := decide_eq_true c4
   clear c4
   (first | rw [c4b0] | (simp only [i64_w, i32_w]; rw [c4b0]) | skip)
   have H' := Aside0.mk H
   clear H
   go_wp2
   go_meet
   case rel => exact ⟨_, (true), (by first | rfl | (simp; done) | (simp [*]; done)), H', ⟨by first | omega | exact Nat.le_refl _⟩, by repeat (first | exact Drawn0.refl _ | apply Drawn0.step)⟩
  ·rw [if_neg c4] at H
   have c4b0 : decide (a1 ≤ 0) = false := decide_eq_false c4
   clear c4
   (first | rw [c4b0] | (simp only [i64_w, i32_w]; rw [c4b0]) | skip)
   obtain ⟨ji5, hji5⟩ : ∃ j_ : Int, (shl .i64 1 (l0.length : Int)) = j_ := ⟨_, rfl⟩
   replace H : (lampblackref02_Connected.j0 k l0 a1 (decide (a1 ≥ (ji5)))) = some r := by first | (rw [hji5] at H; exact H) | (simp only [hji5] at H ⊢; exact H)
   have hji5_ : (IntKind.i64.wrap (1 * 2 ^ min (l0.length : Int).toNat 64)) = ji5 := hji5
   have hji5z : (l0.length : Int) ≤ 64 → (IntKind.i64.wrap (1 * 2 ^ (l0.length : Int).toNat)) = ji5 := shl_small hji5
   have hji5p : (IntKind.i64.wrap (1 * 2 ^ min l0.length 64)) = ji5 := hji5_
   have hji5q : (l0.length : Int) ≤ 64 → (IntKind.i64.wrap (1 * 2 ^ l0.length)) = ji5 := hji5z
   have hji5r : (IntKind.i64.wrap (2 ^ min l0.length 64)) = ji5 := by have h_ := hji5p; rw [Int.one_mul] at h_; exact h_
   have hji5s : (l0.length : Int) ≤ 64 → (IntKind.i64.wrap (2 ^ l0.length)) = ji5 := fun hle_ => by have h_ := hji5q hle_; rw [Int.one_mul] at h_; exact h_
   have hji5u : (IntKind.i64.wrap (2 ^ min (l0.length : Int).toNat 64)) = ji5 := by have h_ := hji5_; rw [Int.one_mul] at h_; exact h_
   have hji5v : (l0.length : Int) ≤ 64 → (IntKind.i64.wrap (2 ^ (l0.length : Int).toNat)) = ji5 := fun hle_ => by have h_ := hji5z hle_; rw [Int.one_mul] at h_; exact h_
   have hji5y : (wrap64 (1 * 2 ^ min (l0.length : Int).toNat 64)) = ji5 := (i64_w _).symm.trans hji5_
   have hji5x : (l0.length : Int) ≤ 64 → (wrap64 (1 * 2 ^ (l0.length : Int).toNat)) = ji5 := fun h_ => (i64_w _).symm.trans (hji5z h_)
   have H' := Aside0.mk H
   clear H
   go_wp2
   go_meet
   case rel => exact ⟨_, (decide (a1 ≥ (ji5))), (by first | rfl | (simp; done) | (simp only [← hji5] <;> (first | rfl | simp)) | (simp [*]; done)), H', ⟨by first | omega | exact Nat.le_refl _⟩, by repeat (first | exact Drawn0.refl _ | apply Drawn0.step)⟩
 case rest =>
  clear HC3
  try clear c1
  try clear p2
  try clear c4
  try clear c4b0
  obtain ⟨kq, x14_2, rfl, HA, HJ2, ⟨mc2, rfl⟩⟩ := hcut
  cases kq with
  | zero => exact absurd HA.out (by simp [lampblackref02_Connected.j0])
  | succ kj2 =>
   have H := HA.out
   clear HA
   simp only [lampblackref02_Connected.j0] at H
   by_cases c6 : x14_2 = true
   ·subst c6
    have H1 : (some false) = some r := by rw [if_pos rfl] at H; exact H
    clear H
    have H := H1
    clear H1
    obtain rfl := Option.some.inj H
    go_wp2
    go_ret
    exact ⟨by first | rfl | (simp; done) | (simp [*]; done), by repeat (first | exact Drawn0.refl _ | apply Drawn0.step)⟩
   ·replace c6 := Bool.eq_false_iff.mpr c6
    subst c6
    have H1 : (lampblackref02_Connected.l0 kj2 l0 a1 0) = some r := by rw [if_neg (show ¬ (false = true) by decide)] at H; exact H
    clear H
    have H := H1
    clear H1
    have H' := Aside0.mk H
    clear H
    go_wp2
    go_loopg [5] kj2 (fun kq v5 w' => ∃ (x5_2 : Int), v5 = .int .i64 x5_2 ∧ Aside0 (lampblackref02_Connected.l0 kq l0 a1 x5_2 = some r) ∧ Aside0 (kq ≤ kj2) ∧ Drawn0 w w')
    case atStart => exact ⟨(0), (by first | rfl | (simp; done) | (simp [*]; done)), H', ⟨Nat.le_refl _⟩, by repeat (first | exact Drawn0.refl _ | apply Drawn0.step)⟩
    case round =>
     clear H'
     try clear c1
     try clear c2
     try clear p2
     try clear c4
     try clear c4b0
     try clear c6
     try clear p6
     try clear p2
     obtain ⟨x5_2, rfl, HA, HK2, ⟨m2, rfl⟩⟩ := hrel
     cases gk with
     | zero => exact absurd HA.out (by simp [lampblackref02_Connected.l0])
     | succ k2 =>
      have H := HA.out
      clear HA
      simp only [lampblackref02_Connected.l0] at H
      by_cases c7 : 0 ≤ x5_2
      ·rw [if_pos c7] at H
       have c7b0 := eq_true c7
       have c7b1 : decide (0 ≤ x5_2) = true := decide_eq_true c7
       clear c7
       obtain ⟨ji8, hji8⟩ : ∃ j_ : Int, (shr .i64 a1 x5_2) = j_ := ⟨_, rfl⟩
       replace H : (if (Go.bits .and .i64 (ji8) 1) = 0 then (lampblackref02_Connected.l0 k2 l0 a1 (wrap64 (x5_2 + 1))) else ((lampblackref01_Reached.f k2 l0 a1 x5_2).bind fun t144 => (some (t144 == a1)))) = some r := by first | (rw [hji8] at H; exact H) | (simp only [hji8] at H ⊢; exact H)
       have hji8_ : (a1 / 2 ^ min x5_2.toNat 64) = ji8 := hji8
       have hji8z : x5_2 ≤ 64 → (a1 / 2 ^ x5_2.toNat) = ji8 := shr_small hji8
       by_cases c9 : (Go.bits .and .i64 (ji8) 1) = 0
       ·rw [if_pos c9] at H
        have c9b0 : ((Go.bits .and .i64 (ji8) 1) == 0) = true := beq_iff_eq.mpr c9
        have c9b1 : ((Go.bits .and .i64 (ji8) 1) != 0) = false := bne_eq_false_iff_eq.mpr c9
        clear c9
        have H' := Aside0.mk H
        clear H
        go_wp2
        go_roundg k2
        case measure => have := HJ2.out; have := HK2.out; omega
        case rel => exact ⟨(wrap64 (x5_2 + 1)), (by first | rfl | (simp; done) | (simp [*]; done)), H', ⟨by have := HJ2.out; have := HK2.out; omega⟩, by repeat (first | exact Drawn0.refl _ | apply Drawn0.step)⟩
       ·rw [if_neg c9] at H
        have c9b0 : ((Go.bits .and .i64 (ji8) 1) == 0) = false := beq_eq_false_iff_ne.mpr c9
        have c9b1 : ((Go.bits .and .i64 (ji8) 1) != 0) = true := bne_iff_ne.mpr c9
        replace H := Option.bind_eq_some_iff.mp H
        obtain ⟨t144, A100, H⟩ := H
        replace H : (some (t144 == a1)) = some r := H
        have A10 := Aside0.mk A100
        clear A100
        obtain rfl := Option.some.inj H
        go_wp2_with (first | ((with_reducible refine gate_callee (f := 52) rfl ?_); refine goesL_ (some 25) rfl rfl Tryd.func52 (by kernel_rfl) rfl #[.slice A0 l0.length c0, .int .i64 a1, .int .i64 x5_2] rfl (Qls) ?_; (with_reducible refine (lampblackref01_Reached.calls k2 _ _ l0 a1 x5_2 t144 _ ?side1 ?side2 A10.out).mono ?_); (case side1 => exact Qsc HR0.out); (case side2 => exact HC0.out); rintro e w' ⟨rfl, ⟨nd, rfl⟩⟩; refine ⟨_, rfl, ?_⟩))
        go_ret
        exact ⟨by first | rfl | (simp; done) | (simp only [← hji8] <;> (first | rfl | simp)) | (simp [*]; done), by repeat (first | exact Drawn0.refl _ | apply Drawn0.step)⟩
      ·rw [if_neg c7] at H
       exact absurd H (by simp)
end Go.Proofs.YtjloppfdagfpmaaDoor.X
end
section
namespace Go.Proofs.YtjloppfdagfpmaaDoor.X
open Go.RowKit YtjloppfdagfpmaaDoorW.PrintWords YtjloppfdagfpmaaDoorW.PrintLast YtjloppfdagfpmaaDoorW.PrintMore
attribute [local go_sem] max2_int min2_int max_two min_two max_three min_three max_four min_four
/-! ### lampblackref01_IsGraph: function 61 -/
mutual
def lampblackref01_IsGraph.l0 : Nat → List Int → Int → List Int → Int → Int → Option (Bool)
 | 0, _, _, _, _, _ => none
 | k + 1, x0, x1, x8, x9, x10 => if x10 < x9 then (if 0 ≤ x10 then (if x10 < (x8.length : Int) then (if (x0.length : Int) > x1 then (lampblackref01_IsGraph.j1 k x0 x1 x10 (rd x8 x10) x8 x9 x10 true) else (if (rd x8 x10) < 0 then (lampblackref01_IsGraph.j1 k x0 x1 x10 (rd x8 x10) x8 x9 x10 true) else (if (rd x8 x10) ≥ (shl .i64 1 (x0.length : Int)) then (lampblackref01_IsGraph.j1 k x0 x1 x10 (rd x8 x10) x8 x9 x10 true) else (lampblackref01_IsGraph.j1 k x0 x1 x10 (rd x8 x10) x8 x9 x10 ((Go.bits .and .i64 (shr .i64 (rd x8 x10) x10) 1) == 1))))) else (none)) else (none)) else (if (x0.length : Int) ≥ 1 then (some (decide ((x0.length : Int) ≤ x1))) else (some false))
def lampblackref01_IsGraph.j1 : Nat → List Int → Int → Int → Int → List Int → Int → Int → Bool → Option (Bool)
 | 0, _, _, _, _, _, _, _, _ => none
 | k + 1, x0, x1, x5, x6, x8, x9, x10, x36 => if x36 = true then (some false) else (lampblackref01_IsGraph.l1 k x0 x1 x5 x6 x8 x9 x10 (x0.length : Int) 0)
def lampblackref01_IsGraph.l1 : Nat → List Int → Int → Int → Int → List Int → Int → Int → Int → Int → Option (Bool)
 | 0, _, _, _, _, _, _, _, _, _ => none
 | k + 1, x0, x1, x5, x6, x8, x9, x10, x38, x39 => if x39 < x38 then (if 0 ≤ x39 then (if x39 < (x0.length : Int) then (if 0 ≤ x5 then (if (Go.bits .and .i64 (shr .i64 x6 x39) 1) = (Go.bits .and .i64 (shr .i64 (rd x0 x39) x5) 1) then (lampblackref01_IsGraph.l1 k x0 x1 x5 x6 x8 x9 x10 x38 (wrap64 (x39 + 1))) else (some false)) else (none)) else (none)) else (none)) else (lampblackref01_IsGraph.l0 k x0 x1 x8 x9 (wrap64 (x10 + 1)))
end
def lampblackref01_IsGraph.f (k : Nat) (l0 : List Int) (a1 : Int) : Option (Bool) := lampblackref01_IsGraph.l0 k l0 a1 l0 (l0.length : Int) 0
set_option maxHeartbeats 8000000 in
set_option maxRecDepth 100000 in
theorem lampblackref01_IsGraph.calls (k : Nat) (A0 : Option Addr) (c0 : Nat) (l0 : List Int) (a1 : Int) (r : Bool) (w : World) (hr0 : Kd.C (Kd.int .i64) w A0 l0.length l0) (hc0 : l0.length ≤ c0) (h : lampblackref01_IsGraph.f k l0 a1 = some r) :
  Calls Tryd.prog 61 #[.slice A0 l0.length c0, .int .i64 a1] w fun e w' => e = .returned (.bool r) ∧ Drawn0 w w' := by
 have HR0 := Aside0.mk hr0
 have HC0 := Aside0.mk hc0
 clear hr0 hc0
 have H : (lampblackref01_IsGraph.l0 k l0 a1 l0 (l0.length : Int) 0) = some r := h
 clear h
 have H' := Aside0.mk H
 clear H
 go_enter Tryd.func61, Tryd.ntmps61
 go_wp2
 repeat (go_quiet (fail); try go_wp2)
 go_loopg [10] k (fun kq v10 w' => ∃ (x10_1 : Int), v10 = .int .i64 x10_1 ∧ Aside0 (lampblackref01_IsGraph.l0 kq l0 a1 l0 (l0.length : Int) x10_1 = some r) ∧ Aside0 (kq ≤ k) ∧ Drawn0 w w')
 case atStart => exact ⟨(0), (by first | rfl | (simp; done) | (simp [*]; done)), H', ⟨Nat.le_refl _⟩, by repeat (first | exact Drawn0.refl _ | apply Drawn0.step)⟩
 case round =>
  clear H'
  try clear p2
  obtain ⟨x10_1, rfl, HA, HK1, ⟨m1, rfl⟩⟩ := hrel
  cases gk with
  | zero => exact absurd HA.out (by simp [lampblackref01_IsGraph.l0])
  | succ k1 =>
   have H := HA.out
   clear HA
   simp only [lampblackref01_IsGraph.l0] at H
   by_cases c3 : x10_1 < (l0.length : Int)
   ·rw [if_pos c3] at H
    have c3b0 : decide (x10_1 < (l0.length : Int)) = true := decide_eq_true c3
    clear c3
    by_cases c4 : 0 ≤ x10_1
    ·rw [if_pos c4] at H
     have c4b0 : decide (0 ≤ x10_1) = true := decide_eq_true c4
     clear c4
     by_cases c5 : x10_1 < (l0.length : Int)
     ·rw [if_pos c5] at H
      have c5b0 : decide (x10_1 < (l0.length : Int)) = true := decide_eq_true c5
      clear c5
      have HC6 := Aside0.mk H
      clear H
      have p101 : 0 ≤ (x10_1 : Int) := of_decide_eq_true (by first | (with_reducible assumption) | assumption)
      have q101 : x10_1 < (l0.length : Int) := of_decide_eq_true (by first | (with_reducible assumption) | assumption)
      obtain ⟨ad101, e101, hx101_0⟩ := Kd.at_int HR0.out x10_1 p101 q101
      cases e101
      replace p101 := eq_true p101
      replace q101 := eq_true q101
      go_upto_region 4 with (fail)
      repeat (go_quiet (fail); go_upto_region 4 with (fail))
      go_cut [36] (fun v36 wc => ∃ (kq : Nat) (x36_5 : Bool), v36 = .bool x36_5 ∧ Aside0 (lampblackref01_IsGraph.j1 kq l0 a1 x10_1 (rd l0 x10_1) l0 (l0.length : Int) x10_1 x36_5 = some r) ∧ Aside0 (kq ≤ k1) ∧ Drawn0 w wc)
      case first =>
       have H := HC6.out
       clear HC6
       by_cases c7 : (l0.length : Int) > a1
       ·rw [if_pos c7] at H
        have c7b0 : decide (a1 < (l0.length : Int)) = true := decide_eq_true c7
        clear c7
        (first | rw [c7b0] | (simp only [i64_w, i32_w]; rw [c7b0]) | skip)
        have H' := Aside0.mk H
        clear H
        go_wp2
        repeat (go_quiet (fail); try go_wp2)
        go_meet
        case rel => exact ⟨_, (true), (by first | rfl | (simp; done) | (simp [*]; done)), H', ⟨by have := HK1.out; first | omega | exact Nat.le_refl _⟩, by repeat (first | exact Drawn0.refl _ | apply Drawn0.step)⟩
       ·rw [if_neg c7] at H
        have c7b0 : decide (a1 < (l0.length : Int)) = false := decide_eq_false c7
        clear c7
        (first | rw [c7b0] | (simp only [i64_w, i32_w]; rw [c7b0]) | skip)
        by_cases c8 : (rd l0 x10_1) < 0
        ·rw [if_pos c8] at H
         have c8b0 : decide ((rd l0 x10_1) < 0) = true := decide_eq_true c8
         clear c8
         have H' := Aside0.mk H
         clear H
         go_wp2
         repeat (go_quiet (fail); try go_wp2)
         go_meet
         case rel => exact ⟨_, (true), (by first | rfl | (simp; done) | (simp [*]; done)), H', ⟨by have := HK1.out; first | omega | exact Nat.le_refl _⟩, by repeat (first | exact Drawn0.refl _ | apply Drawn0.step)⟩
        ·rw [if_neg c8] at H
         have c8b0 : decide ((rd l0 x10_1) < 0) = false := decide_eq_false c8
         clear c8
         obtain ⟨ji9, hji9⟩ : ∃ j_ : Int, (shl .i64 1 (l0.length : Int)) = j_ := ⟨_, rfl⟩
         replace H : (if (rd l0 x10_1) ≥ (ji9) then (lampblackref01_IsGraph.j1 k1 l0 a1 x10_1 (rd l0 x10_1) l0 (l0.length : Int) x10_1 true) else (lampblackref01_IsGraph.j1 k1 l0 a1 x10_1 (rd l0 x10_1) l0 (l0.length : Int) x10_1 ((Go.bits .and .i64 (shr .i64 (rd l0 x10_1) x10_1) 1) == 1))) = some r := by first | (rw [hji9] at H; exact H) | (simp only [hji9] at H ⊢; exact H)
         have hji9_ : (IntKind.i64.wrap (1 * 2 ^ min (l0.length : Int).toNat 64)) = ji9 := hji9
         have hji9z : (l0.length : Int) ≤ 64 → (IntKind.i64.wrap (1 * 2 ^ (l0.length : Int).toNat)) = ji9 := shl_small hji9
         have hji9p : (IntKind.i64.wrap (1 * 2 ^ min l0.length 64)) = ji9 := hji9_
         have hji9q : (l0.length : Int) ≤ 64 → (IntKind.i64.wrap (1 * 2 ^ l0.length)) = ji9 := hji9z
         have hji9r : (IntKind.i64.wrap (2 ^ min l0.length 64)) = ji9 := by have h_ := hji9p; rw [Int.one_mul] at h_; exact h_
         have hji9s : (l0.length : Int) ≤ 64 → (IntKind.i64.wrap (2 ^ l0.length)) = ji9 := fun hle_ => by have h_ := hji9q hle_; rw [Int.one_mul] at h_; exact h_
         have hji9u : (IntKind.i64.wrap (2 ^ min (l0.length : Int).toNat 64)) = ji9 := by have h_ := hji9_; rw [Int.one_mul] at h_; exact h_
         have hji9v : (l0.length : Int) ≤ 64 → (IntKind.i64.wrap (2 ^ (l0.length : Int).toNat)) = ji9 := fun hle_ => by have h_ := hji9z hle_; rw [Int.one_mul] at h_; exact h_
         have hji9y : (wrap64 (1 * 2 ^ min (l0.length : Int).toNat 64)) = ji9 := (i64_w _).symm.trans hji9_
         have hji9x : (l0.length : Int) ≤ 64 → (wrap64 (1 * 2 ^ (l0.length : Int).toNat)) = ji9 := fun h_ => (i64_w _).symm.trans (hji9z h_)
         by_cases c10 : (rd l0 x10_1) ≥ (ji9)
         ·rw [if_pos c10] at H
          have c10b0 : decide ((ji9) ≤ (rd l0 x10_1)) = true := decide_eq_true c10
          clear c10
          have H' := Aside0.mk H
          clear H
          go_wp2
          repeat (go_quiet (fail); try go_wp2)
          go_meet
          case rel => exact ⟨_, (true), (by first | rfl | (simp; done) | (simp [*]; done)), H', ⟨by have := HK1.out; first | omega | exact Nat.le_refl _⟩, by repeat (first | exact Drawn0.refl _ | apply Drawn0.step)⟩
         ·rw [if_neg c10] at H
          have c10b0 : decide ((ji9) ≤ (rd l0 x10_1)) = false := decide_eq_false c10
          clear c10
          have c11b0 := eq_true (of_decide_eq_true (by first | (with_reducible assumption) | assumption) : 0 ≤ x10_1)
          obtain ⟨ji12, hji12⟩ : ∃ j_ : Int, (shr .i64 (rd l0 x10_1) x10_1) = j_ := ⟨_, rfl⟩
          replace H : (lampblackref01_IsGraph.j1 k1 l0 a1 x10_1 (rd l0 x10_1) l0 (l0.length : Int) x10_1 ((Go.bits .and .i64 (ji12) 1) == 1)) = some r := by first | (rw [hji12] at H; exact H) | (simp only [hji12] at H ⊢; exact H)
          have hji12_ : ((rd l0 x10_1) / 2 ^ min x10_1.toNat 64) = ji12 := hji12
          have hji12z : x10_1 ≤ 64 → ((rd l0 x10_1) / 2 ^ x10_1.toNat) = ji12 := shr_small hji12
          have H' := Aside0.mk H
          clear H
          go_wp2
          repeat (go_quiet (fail); try go_wp2)
          go_meet
          case rel => exact ⟨_, (((Go.bits .and .i64 (ji12) 1) == 1)), (by first | rfl | (simp; done) | (simp only [← hji12] <;> (first | rfl | simp)) | (simp [*]; done)), H', ⟨by have := HK1.out; first | omega | exact Nat.le_refl _⟩, by repeat (first | exact Drawn0.refl _ | apply Drawn0.step)⟩
      case rest =>
       clear HC6
       try clear c1
       try clear p1
       try clear q1
       try clear hx1
       try clear p2
       try clear c3
       try clear c3b0
       try clear c4
       try clear c4b0
       try clear c5
       try clear c5b0
       try clear c6
       try clear p6
       try clear c7
       try clear c7b0
       try clear c8
       try clear c8b0
       try clear c10
       try clear c10b0
       try clear p10
       try clear q10
       try clear hx10
       try clear c11
       try clear c11b0
       try clear hx101_0
       try clear p101
       try clear p2
       try clear q101
       obtain ⟨kq, x36_5, rfl, HA, HJ5, ⟨mc5, rfl⟩⟩ := hcut
       cases kq with
       | zero => exact absurd HA.out (by simp [lampblackref01_IsGraph.j1])
       | succ kj5 =>
        have H := HA.out
        clear HA
        simp only [lampblackref01_IsGraph.j1] at H
        by_cases c13 : x36_5 = true
        ·subst c13
         have H1 : (some false) = some r := by rw [if_pos rfl] at H; exact H
         clear H
         have H := H1
         clear H1
         obtain rfl := Option.some.inj H
         go_wp2
         repeat (go_quiet (fail); try go_wp2)
         go_ret
         exact ⟨by first | rfl | (simp; done) | (simp [*]; done), by repeat (first | exact Drawn0.refl _ | apply Drawn0.step)⟩
        ·replace c13 := Bool.eq_false_iff.mpr c13
         subst c13
         have H1 : (lampblackref01_IsGraph.l1 kj5 l0 a1 x10_1 (rd l0 x10_1) l0 (l0.length : Int) x10_1 (l0.length : Int) 0) = some r := by rw [if_neg (show ¬ (false = true) by decide)] at H; exact H
         clear H
         have H := H1
         clear H1
         have H' := Aside0.mk H
         clear H
         go_wp2
         repeat (go_quiet (fail); try go_wp2)
         go_loopg [39] kj5 (fun kq v39 w' => ∃ (x39_3 : Int), v39 = .int .i64 x39_3 ∧ Aside0 (lampblackref01_IsGraph.l1 kq l0 a1 x10_1 (rd l0 x10_1) l0 (l0.length : Int) x10_1 (l0.length : Int) x39_3 = some r) ∧ Aside0 (kq ≤ kj5) ∧ Drawn0 w w')
         case atStart => exact ⟨(0), (by first | rfl | (simp; done) | (simp [*]; done)), H', ⟨Nat.le_refl _⟩, by repeat (first | exact Drawn0.refl _ | apply Drawn0.step)⟩
         case round =>
          clear H'
          try clear c1
          try clear p1
          try clear q1
          try clear hx1
          try clear p2
          try clear c3
          try clear c3b0
          try clear c4
          try clear c4b0
          try clear c5
          try clear c5b0
          try clear c6
          try clear p6
          try clear c7
          try clear c7b0
          try clear c8
          try clear c8b0
          try clear c10
          try clear c10b0
          try clear p10
          try clear q10
          try clear hx10
          try clear c11
          try clear c11b0
          try clear c13
          try clear hx101_0
          try clear p1
          try clear p10
          try clear p101
          try clear p2
          try clear p6
          try clear q1
          try clear q10
          try clear q101
          obtain ⟨x39_3, rfl, HA, HK3, ⟨m3, rfl⟩⟩ := hrel
          cases gk with
          | zero => exact absurd HA.out (by simp [lampblackref01_IsGraph.l1])
          | succ k3 =>
           have H := HA.out
           clear HA
           simp only [lampblackref01_IsGraph.l1] at H
           by_cases c14 : x39_3 < (l0.length : Int)
           ·rw [if_pos c14] at H
            have c14b0 : decide (x39_3 < (l0.length : Int)) = true := decide_eq_true c14
            clear c14
            by_cases c15 : 0 ≤ x39_3
            ·rw [if_pos c15] at H
             have c15b0 := eq_true c15
             have c15b1 : decide (0 ≤ x39_3) = true := decide_eq_true c15
             clear c15
             obtain ⟨ji16, hji16⟩ : ∃ j_ : Int, (shr .i64 (rd l0 x10_1) x39_3) = j_ := ⟨_, rfl⟩
             replace H : (if x39_3 < (l0.length : Int) then (if 0 ≤ x10_1 then (if (Go.bits .and .i64 (ji16) 1) = (Go.bits .and .i64 (shr .i64 (rd l0 x39_3) x10_1) 1) then (lampblackref01_IsGraph.l1 k3 l0 a1 x10_1 (rd l0 x10_1) l0 (l0.length : Int) x10_1 (l0.length : Int) (wrap64 (x39_3 + 1))) else (some false)) else (none)) else (none)) = some r := by first | (rw [hji16] at H; exact H) | (simp only [hji16] at H ⊢; exact H)
             have hji16_ : ((rd l0 x10_1) / 2 ^ min x39_3.toNat 64) = ji16 := hji16
             have hji16z : x39_3 ≤ 64 → ((rd l0 x10_1) / 2 ^ x39_3.toNat) = ji16 := shr_small hji16
             by_cases c17 : x39_3 < (l0.length : Int)
             ·rw [if_pos c17] at H
              have c17b0 : decide (x39_3 < (l0.length : Int)) = true := decide_eq_true c17
              clear c17
              by_cases c18 : 0 ≤ x10_1
              ·rw [if_pos c18] at H
               have c18b0 := eq_true c18
               have c18b1 : decide (0 ≤ x10_1) = true := decide_eq_true c18
               clear c18
               obtain ⟨ji19, hji19⟩ : ∃ j_ : Int, (shr .i64 (rd l0 x39_3) x10_1) = j_ := ⟨_, rfl⟩
               replace H : (if (Go.bits .and .i64 (ji16) 1) = (Go.bits .and .i64 (ji19) 1) then (lampblackref01_IsGraph.l1 k3 l0 a1 x10_1 (rd l0 x10_1) l0 (l0.length : Int) x10_1 (l0.length : Int) (wrap64 (x39_3 + 1))) else (some false)) = some r := by first | (rw [hji19] at H; exact H) | (simp only [hji19] at H ⊢; exact H)
               have hji19_ : ((rd l0 x39_3) / 2 ^ min x10_1.toNat 64) = ji19 := hji19
               have hji19z : x10_1 ≤ 64 → ((rd l0 x39_3) / 2 ^ x10_1.toNat) = ji19 := shr_small hji19
               by_cases c20 : (Go.bits .and .i64 (ji16) 1) = (Go.bits .and .i64 (ji19) 1)
               ·rw [if_pos c20] at H
                have c20b0 : ((Go.bits .and .i64 (ji16) 1) == (Go.bits .and .i64 (ji19) 1)) = true := beq_iff_eq.mpr c20
                have c20b1 : ((Go.bits .and .i64 (ji16) 1) != (Go.bits .and .i64 (ji19) 1)) = false := bne_eq_false_iff_eq.mpr c20
                clear c20
                have H' := Aside0.mk H
                clear H
                have p102 : 0 ≤ (x39_3 : Int) := of_decide_eq_true (by first | (with_reducible assumption) | assumption)
                have q102 : x39_3 < (l0.length : Int) := of_decide_eq_true (by first | (with_reducible assumption) | assumption)
                obtain ⟨ad102, e102, hx102_0⟩ := Kd.at_int HR0.out x39_3 p102 q102
                obtain rfl : ad101 = ad102 := (by injection e102)
                replace p102 := eq_true p102
                replace q102 := eq_true q102
                go_wp2
                repeat (go_quiet (fail); try go_wp2)
                go_roundg k3
                case measure => have := HK1.out; have := HJ5.out; have := HK3.out; omega
                case rel => exact ⟨(wrap64 (x39_3 + 1)), (by first | rfl | (simp; done) | (simp [*]; done)), H', ⟨by have := HK1.out; have := HJ5.out; have := HK3.out; omega⟩, by repeat (first | exact Drawn0.refl _ | apply Drawn0.step)⟩
               ·rw [if_neg c20] at H
                have c20b0 : ((Go.bits .and .i64 (ji16) 1) == (Go.bits .and .i64 (ji19) 1)) = false := beq_eq_false_iff_ne.mpr c20
                have c20b1 : ((Go.bits .and .i64 (ji16) 1) != (Go.bits .and .i64 (ji19) 1)) = true := bne_iff_ne.mpr c20
                obtain rfl := Option.some.inj H
                have p102 : 0 ≤ (x39_3 : Int) := of_decide_eq_true (by first | (with_reducible assumption) | assumption)
                have q102 : x39_3 < (l0.length : Int) := of_decide_eq_true (by first | (with_reducible assumption) | assumption)
                obtain ⟨ad102, e102, hx102_0⟩ := Kd.at_int HR0.out x39_3 p102 q102
                obtain rfl : ad101 = ad102 := (by injection e102)
                replace p102 := eq_true p102
                replace q102 := eq_true q102
                go_wp2
                repeat (go_quiet (fail); try go_wp2)
                go_ret
                exact ⟨by first | rfl | (simp; done) | (simp only [← hji16, ← hji19] <;> (first | rfl | simp)) | (simp [*]; done), by repeat (first | exact Drawn0.refl _ | apply Drawn0.step)⟩
              ·rw [if_neg c18] at H
               exact absurd H (by simp)
             ·rw [if_neg c17] at H
              exact absurd H (by simp)
            ·rw [if_neg c15] at H
             exact absurd H (by simp)
           ·rw [if_neg c14] at H
            have c14b0 : decide (x39_3 < (l0.length : Int)) = false := decide_eq_false c14
            clear c14
            have H' := Aside0.mk H
            clear H
            go_wp2
            repeat (go_quiet (fail); try go_wp2)
            go_roundg k3
            case measure => have := HK1.out; have := HJ5.out; have := HK3.out; omega
            case rel => exact ⟨(wrap64 (x10_1 + 1)), (by first | rfl | (simp; done) | (simp [*]; done)), H', ⟨by have := HK1.out; have := HJ5.out; have := HK3.out; omega⟩, by repeat (first | exact Drawn0.refl _ | apply Drawn0.step)⟩
     ·rw [if_neg c5] at H
      exact absurd H (by simp)
    ·rw [if_neg c4] at H
     exact absurd H (by simp)
   ·rw [if_neg c3] at H
    have c3b0 : decide (x10_1 < (l0.length : Int)) = false := decide_eq_false c3
    clear c3
    by_cases c21 : (l0.length : Int) ≥ 1
    ·rw [if_pos c21] at H
     have c21b0 : decide (1 ≤ (l0.length : Int)) = true := decide_eq_true c21
     have c21b1 : decide (1 ≤ l0.length) = true := decide_eq_true (by omega)
     clear c21
     obtain rfl := Option.some.inj H
     go_wp2
     repeat (go_quiet (fail); try go_wp2)
     go_ret
     exact ⟨by first | rfl | (simp; done) | (simp [*]; done), by repeat (first | exact Drawn0.refl _ | apply Drawn0.step)⟩
    ·rw [if_neg c21] at H
     have c21b0 : decide (1 ≤ (l0.length : Int)) = false := decide_eq_false c21
     have c21b1 : decide (1 ≤ l0.length) = false := decide_eq_false (by omega)
     clear c21
     obtain rfl := Option.some.inj H
     go_wp2
     repeat (go_quiet (fail); try go_wp2)
     go_ret
     exact ⟨by first | rfl | (simp; done) | (simp [*]; done), by repeat (first | exact Drawn0.refl _ | apply Drawn0.step)⟩
end Go.Proofs.YtjloppfdagfpmaaDoor.X
end
section
namespace Go.Proofs.YtjloppfdagfpmaaDoor.X
open Go.RowKit YtjloppfdagfpmaaDoorW.PrintWords YtjloppfdagfpmaaDoorW.PrintLast YtjloppfdagfpmaaDoorW.PrintMore
attribute [local go_sem] max2_int min2_int max_two min_two max_three min_three max_four min_four
/-! ### lampblackref07_Valid: function 16 -/
def lampblackref07_Valid.f (k : Nat) (l0 : List Int) : Option (Bool) := (lampblackref01_IsGraph.f k l0 8).bind fun t103 => (some t103)
set_option maxHeartbeats 8000000 in
set_option maxRecDepth 100000 in
theorem lampblackref07_Valid.calls (k : Nat) (A0 : Option Addr) (c0 : Nat) (l0 : List Int) (r : Bool) (w : World) (hr0 : Kd.C (Kd.int .i64) w A0 l0.length l0) (hc0 : l0.length ≤ c0) (h : lampblackref07_Valid.f k l0 = some r) :
  Calls Tryd.prog 16 #[.slice A0 l0.length c0] w fun e w' => e = .returned (.bool r) ∧ Drawn0 w w' := by
 have HR0 := Aside0.mk hr0
 have HC0 := Aside0.mk hc0
 clear hr0 hc0
 have H : ((lampblackref01_IsGraph.f k l0 8).bind fun t103 => (some t103)) = some r := h
 clear h
 replace H := Option.bind_eq_some_iff.mp H
 obtain ⟨t103, A20, H⟩ := H
 replace H : (some t103) = some r := H
 have A2 := Aside0.mk A20
 clear A20
 obtain rfl := Option.some.inj H
 go_enter Tryd.func16, Tryd.ntmps16
 go_wp2_with (first | ((with_reducible refine gate_callee (f := 61) rfl ?_); refine goesL_ (some 4) rfl rfl Tryd.func61 (by kernel_rfl) rfl #[.slice A0 l0.length c0, .int .i64 8] rfl (Qls) ?_; (with_reducible refine (lampblackref01_IsGraph.calls k _ _ l0 8 t103 _ ?side1 ?side2 A2.out).mono ?_); (case side1 => exact Qsc HR0.out); (case side2 => exact HC0.out); rintro e w' ⟨rfl, ⟨nd, rfl⟩⟩; refine ⟨_, rfl, ?_⟩))
 go_ret
 exact ⟨by first | rfl | (simp; done) | (simp [*]; done), by repeat (first | exact Drawn0.refl _ | apply Drawn0.step)⟩
end Go.Proofs.YtjloppfdagfpmaaDoor.X
end
section
namespace Go.Proofs.YtjloppfdagfpmaaDoor.X
open Go.RowKit YtjloppfdagfpmaaDoorW.PrintWords YtjloppfdagfpmaaDoorW.PrintLast YtjloppfdagfpmaaDoorW.PrintMore
attribute [local go_sem] max2_int min2_int max_two min_two max_three min_three max_four min_four
/-! ### minor_town_join: function 62 -/
def minor_town_join.f (l0 : List Int) (a1 : Int) (a2 : Int) : Option (List Int) := if 0 ≤ a1 then (if a1 < (l0.length : Int) then (if 0 ≤ a2 then ((some (l0.set (a1 : Int).toNat (Go.bits .or .i64 (rd l0 a1) (shl .i64 1 a2)) : List Int)).bind fun y146 => (if a2 < (l0.length : Int) then (some (y146.set (a2 : Int).toNat (Go.bits .or .i64 (rd y146 a2) (shl .i64 1 a1)))) else (none))) else (none)) else (none)) else (none)
def minor_town_join.T0 : Bool × List (List Nat × List Nat) := (true, [([], []), ([], []), ([0, 1], [0, 1]), ([2], [2]), ([], []), ([4], [4]), ([3, 5], [3, 5]), ([0, 1, 0, 1, 2, 3, 4, 5, 6], [0, 1]), ([7, 6, 0, 1, 2, 3, 4, 5, 6], [6, 7])])
def minor_town_join.B0 : List Nat := [0, 0, 3, 7, 0, 16, 63, 127, 255]
theorem minor_town_join.tab0 : rtab .any (opsOf Tryd.f62 0) = minor_town_join.T0 := by kernel_rfl
theorem minor_town_join.bits0 : waitsOk minor_town_join.T0.2 minor_town_join.B0 = true := by kernel_rfl
def minor_town_join.T1 : Bool × List (List Nat × List Nat) := (true, [([], []), ([], []), ([0, 1], [0, 1]), ([2], [2]), ([], []), ([4], [4]), ([3, 5], [3, 5]), ([0, 1, 0, 1, 2, 3, 4, 5, 6], [0, 1]), ([7, 6, 0, 1, 2, 3, 4, 5, 6], [6, 7])])
def minor_town_join.B1 : List Nat := [0, 0, 3, 7, 0, 16, 63, 127, 255]
theorem minor_town_join.tab1 : rtab .any (opsOf Tryd.f62 1) = minor_town_join.T1 := by kernel_rfl
theorem minor_town_join.bits1 : waitsOk minor_town_join.T1.2 minor_town_join.B1 = true := by kernel_rfl
set_option maxHeartbeats 8000000 in
set_option maxRecDepth 100000 in
theorem minor_town_join.calls (P0_ : Nat → Prop) (u9000_ : Value) (l0 : List Int) (a1 : Int) (a2 : Int) (r : List Int) (w0 w : World) (hB : Below w0.heap.size w0 w) (ho0 : Kd.R (Kd.int .i64) 3 w w0.heap.size P0_ u9000_ l0) (h : minor_town_join.f l0 a1 a2 = some r) :
  Calls Tryd.prog 62 #[u9000_, .int .i64 a1, .int .i64 a2] w fun e w' => e = .returned (.tuple #[]) ∧ Kd.R (Kd.int .i64) 3 w' w0.heap.size (fun k_ => (P0_ k_ ∨ w.heap.size ≤ k_)) u9000_ r ∧ Below w0.heap.size w0 w' ∧ Kept w w' (fun k_ => P0_ k_) := by
 have HO0 := Aside0.mk (show Kd.R (Kd.int .i64) 3 w w0.heap.size (fun k_ => (P0_ k_ ∨ w.heap.size ≤ k_)) u9000_ l0 from Kd.R_mono ho0 (fun k_ hk => (.inl hk)))
 have HK := Aside0.mk (Kept.refl w (fun k_ => P0_ k_))
 have HW0 := Aside0.mk hB.size
 have HB := Aside0.mk hB
 clear hB
 have H : (if 0 ≤ a1 then (if a1 < (l0.length : Int) then (if 0 ≤ a2 then ((some (l0.set (a1 : Int).toNat (Go.bits .or .i64 (rd l0 a1) (shl .i64 1 a2)) : List Int)).bind fun y146 => (if a2 < (l0.length : Int) then (some (y146.set (a2 : Int).toNat (Go.bits .or .i64 (rd y146 a2) (shl .i64 1 a1)))) else (none))) else (none)) else (none)) else (none)) = some r := h
 clear h
 by_cases c4 : 0 ≤ a1
 ·rw [if_pos c4] at H
  have c4b0 : decide (0 ≤ a1) = true := decide_eq_true c4
  clear c4
  by_cases c5 : a1 < (l0.length : Int)
  ·rw [if_pos c5] at H
   have c5b0 : decide (a1 < (l0.length : Int)) = true := decide_eq_true c5
   clear c5
   by_cases c6 : 0 ≤ a2
   ·rw [if_pos c6] at H
    have c6b0 := eq_true c6
    have c6b1 : decide (0 ≤ a2) = true := decide_eq_true c6
    clear c6
    obtain ⟨ji7, hji7⟩ : ∃ j_ : Int, (shl .i64 1 a2) = j_ := ⟨_, rfl⟩
    replace H : ((some (l0.set (a1 : Int).toNat (Go.bits .or .i64 (rd l0 a1) (ji7)) : List Int)).bind fun y146 => (if a2 < (l0.length : Int) then (some (y146.set (a2 : Int).toNat (Go.bits .or .i64 (rd y146 a2) (shl .i64 1 a1)))) else (none))) = some r := by first | (rw [hji7] at H; exact H) | (simp only [hji7] at H ⊢; exact H)
    have hji7_ : (IntKind.i64.wrap (1 * 2 ^ min a2.toNat 64)) = ji7 := hji7
    have hji7z : a2 ≤ 64 → (IntKind.i64.wrap (1 * 2 ^ a2.toNat)) = ji7 := shl_small hji7
    have hji7u : (IntKind.i64.wrap (2 ^ min a2.toNat 64)) = ji7 := by have h_ := hji7_; rw [Int.one_mul] at h_; exact h_
    have hji7v : a2 ≤ 64 → (IntKind.i64.wrap (2 ^ a2.toNat)) = ji7 := fun hle_ => by have h_ := hji7z hle_; rw [Int.one_mul] at h_; exact h_
    have hji7y : (wrap64 (1 * 2 ^ min a2.toNat 64)) = ji7 := (i64_w _).symm.trans hji7_
    have hji7x : a2 ≤ 64 → (wrap64 (1 * 2 ^ a2.toNat)) = ji7 := fun h_ => (i64_w _).symm.trans (hji7z h_)
    obtain ⟨y146, hy146⟩ : ∃ y_ : List Int, y_ = (l0.set (a1 : Int).toNat (Go.bits .or .i64 (rd l0 a1) (ji7))) := ⟨_, rfl⟩
    replace H : (if a2 < (l0.length : Int) then (some (y146.set (a2 : Int).toNat (Go.bits .or .i64 (rd y146 a2) (shl .i64 1 a1)))) else (none)) = some r := by first | (rw [hy146]; with_reducible exact H) | (have H2_ := (Option.bind_some _ _).symm.trans H; rw [hy146]; with_reducible exact H2_) | (have H2_ := (Option.bind_some _ _).symm.trans H; with_reducible exact H2_) | with_reducible exact H | (rw [hy146]; exact H) | exact H
    have Ny146 := Aside0.mk hy146
    clear hy146
    by_cases c9 : a2 < (l0.length : Int)
    ·rw [if_pos c9] at H
     have c9b0 : decide (a2 < (l0.length : Int)) = true := decide_eq_true c9
     clear c9
     have c10b0 := eq_true (of_decide_eq_true (by first | (with_reducible assumption) | assumption) : 0 ≤ a1)
     obtain ⟨ji11, hji11⟩ : ∃ j_ : Int, (shl .i64 1 a1) = j_ := ⟨_, rfl⟩
     replace H : (some (y146.set (a2 : Int).toNat (Go.bits .or .i64 (rd y146 a2) (ji11)))) = some r := by first | (rw [hji11] at H; exact H) | (simp only [hji11] at H ⊢; exact H)
     have hji11_ : (IntKind.i64.wrap (1 * 2 ^ min a1.toNat 64)) = ji11 := hji11
     have hji11z : a1 ≤ 64 → (IntKind.i64.wrap (1 * 2 ^ a1.toNat)) = ji11 := shl_small hji11
     have hji11u : (IntKind.i64.wrap (2 ^ min a1.toNat 64)) = ji11 := by have h_ := hji11_; rw [Int.one_mul] at h_; exact h_
     have hji11v : a1 ≤ 64 → (IntKind.i64.wrap (2 ^ a1.toNat)) = ji11 := fun hle_ => by have h_ := hji11z hle_; rw [Int.one_mul] at h_; exact h_
     have hji11y : (wrap64 (1 * 2 ^ min a1.toNat 64)) = ji11 := (i64_w _).symm.trans hji11_
     have hji11x : a1 ≤ 64 → (wrap64 (1 * 2 ^ a1.toNat)) = ji11 := fun h_ => (i64_w _).symm.trans (hji11z h_)
     obtain ⟨y148, hy148⟩ : ∃ y_ : List Int, y_ = (y146.set (a2 : Int).toNat (Go.bits .or .i64 (rd y146 a2) (ji11))) := ⟨_, rfl⟩
     replace H : (some y148) = some r := by first | (rw [hy148]; with_reducible exact H) | (have H2_ := (Option.bind_some _ _).symm.trans H; rw [hy148]; with_reducible exact H2_) | (have H2_ := (Option.bind_some _ _).symm.trans H; with_reducible exact H2_) | with_reducible exact H | (rw [hy148]; exact H) | exact H
     have Ny148 := Aside0.mk hy148
     clear hy148
     obtain rfl := Option.some.inj H
     go_enter Tryd.func62, Tryd.ntmps62
     try go_wp2
     have n0_ := Aside0.mk (Kd.R_drew HO0.out)
     have n1_ := Aside0.mk (Kept.drew HK.out)
     have n2_ := Aside0.mk (below_drew1 HB.out)
     clear HO0
     clear HK
     clear HB
     have HO0 := n0_
     have HK := n1_
     have HB := n2_
     clear n0_ n1_ n2_
     obtain ⟨Ao14, co14, eo14⟩ := Kd.R_slice HO0.out
     (first | subst eo14 | (injection eo14 with f1_ f2_ f3_; have f4_ := f1_.symm; have f5_ := f3_.symm; clear f1_ f2_ f3_; subst f4_; subst f5_))
     have p145 : 0 ≤ (a1 : Int) := of_decide_eq_true (by first | (with_reducible assumption) | assumption)
     have q145 : a1 < (l0.length : Int) := of_decide_eq_true (by first | (with_reducible assumption) | assumption)
     obtain ⟨ad145, e145, hx145_0⟩ := Kd.at_int (Kd.R_reads' HO0.out).2.2 a1 p145 q145
     cases e145
     replace p145 := eq_true p145
     replace q145 := eq_true q145
     have p8 : 0 ≤ (a1 : Int) := of_decide_eq_true (by first | (with_reducible assumption) | assumption)
     have q8 : (a1 : Int) < ((l0.length : Int) : Int) := of_decide_eq_true (by first | (with_reducible assumption) | assumption)
     obtain ⟨go8, co8, eo8, gb8, gl8, cl8, HG8⟩ := Kd.R_form HO0.out (by omega)
     (first | cases eo8 | (injection eo8 with ea_ en_ ec_; (first | subst ea_ | (injection ea_ with ea_; subst ea_)); subst ec_; clear en_))
     have GB8 := Aside0.mk gb8
     have GG8 := Aside0.mk HG8
     clear gb8 gl8 HG8
     have HMgo8 := Aside0.mk (show (P0_ go8 ∨ w.heap.size ≤ go8) from (HO0.out.1 _ rfl))
     (first | simp only [add_plain] at hx145_0 | skip)
     obtain ⟨hx8_0, hf8_0⟩ := Kd.R_celln 0 HO0.out (a1 : Int) p8 q8
     replace p8 := eq_true p8
     replace q8 := eq_true q8
     have HP15 := Kd.R_putn HO0.out (a1 : Int) (Go.bits .or .i64 (rd l0 a1) (ji7))
     rw [← Ny146.out] at HP15
     have HQ15 := Aside0.mk HP15
     clear HP15
     refine start_ (n := 9) (S := fun w' => w'.cell? ⟨go8, (a1).toNat, none⟩ = some (.int .i64 (rd l0 a1))) (ds := [8]) (Qbz 9 0) (by kernel_rfl) rfl rfl (hx145_0) (fun hHeld => ?_); refine with_tabW minor_town_join.tab0 minor_town_join.bits0 (fun HT_ HW_ => ?_)
     generalize w.drew = w13 at HO0 HK HB GG8 HQ15 hf8_0 hx145_0 hx8_0 hHeld ⊢
     refine pure_ (i := 0) (N := some 6) (v := ?_) (a' := ?_) (Qbz 9 1) rfl rfl (any_of HT_.out (by kernel_rfl)) (fun _ _ _ h => h) (Or.inl ⟨by rfl, ?_⟩) ?_ ?_
     rotate_left
     ·intro w'
      go_simp
      with_reducible rfl
     rotate_left
     ·simp only [Act.put, Qp1, Qp2, Qp3, i64_w, i32_w]
      rfl
     refine pure_ (i := 1) (N := some 7) (v := ?_) (a' := ?_) (Qbz 9 3) rfl rfl (any_of HT_.out (by kernel_rfl)) (fun _ _ _ h => h) (Or.inl ⟨by rfl, ?_⟩) ?_ ?_
     rotate_left
     ·intro w'
      go_simp
      with_reducible rfl
     rotate_left
     ·simp only [Act.put, Qp1, Qp2, Qp3, i64_w, i32_w]
      rfl
     refine pure_ (i := 2) (N := some 8) (v := ?_) (a' := ?_) (Qbz 9 7) rfl rfl (any_of HT_.out (by kernel_rfl)) (fun _ _ _ h => h) (Or.inl ⟨by rfl, ?_⟩) ?_ ?_
     rotate_left
     ·intro w'
      go_simp
      with_reducible rfl
     rotate_left
     ·simp only [Act.put, Qp1, Qp2, Qp3, i64_w, i32_w]
      rfl
     refine pure_ (i := 4) (N := some 10) (v := ?_) (a' := ?_) (Qbz 9 23) rfl rfl (any_of HT_.out (by kernel_rfl)) (fun _ _ _ h => h) (Or.inl ⟨by rfl, ?_⟩) ?_ ?_
     rotate_left
     ·intro w'
      go_simp
      with_reducible rfl
     rotate_left
     ·simp only [Act.put, Qp1, Qp2, Qp3, i64_w, i32_w]
      rfl
     refine pure_ (i := 5) (N := some 11) (v := ?_) (a' := ?_) (Qbz 9 55) rfl rfl (any_of HT_.out (by kernel_rfl)) (fun _ _ _ h => h) (Or.inl ⟨by rfl, ?_⟩) ?_ ?_
     rotate_left
     ·intro w'
      go_simp
      with_reducible rfl
     rotate_left
     ·simp only [Act.put, Qp1, Qp2, Qp3, i64_w, i32_w]
      rfl
     refine take_ (i := 3) (N := some 9) (v := ?_) (a' := ?_) (Qbz 9 63) rfl rfl (take_ofW HT_.out HW_.out (by kernel_rfl)) (fun _ _ _ h => h) (Or.inl ⟨by rfl, ?_⟩) hHeld ?_ ?_
     rotate_left
     ·intro w' s0
      go_simp
      with_reducible rfl
     rotate_left
     ·simp only [Act.put, Qp1, Qp2, Qp3, i64_w, i32_w]
      rfl
     refine pure_ (i := 6) (N := some 12) (v := ?_) (a' := ?_) (Qbz 9 127) rfl rfl (any_of HT_.out (by kernel_rfl)) (fun _ _ _ h => h) (Or.inl ⟨by rfl, ?_⟩) ?_ ?_
     rotate_left
     ·intro w'
      go_simp
      with_reducible rfl
     rotate_left
     ·simp only [Act.put, Qp1, Qp2, Qp3, i64_w, i32_w]
      rfl
     refine pure_ (i := 7) (N := some 13) (v := ?_) (a' := ?_) (Qbz 9 255) rfl rfl (any_of HT_.out (by kernel_rfl)) (fun _ _ _ h => h) (Or.inl ⟨by rfl, ?_⟩) ?_ ?_
     rotate_left
     ·intro w'
      go_simp
      with_reducible rfl
     rotate_left
     ·simp only [Act.put, Qp1, Qp2, Qp3, i64_w, i32_w]
      rfl
     refine last_ (i := 8) (N := none) (Qbz 9 511) rfl rfl (one_of HT_.out (by kernel_rfl)) (by decide) (fun K hK => ?_)
     refine skip_ (w1 := ?_) (by rfl) rfl ?_ ?_
     rotate_left
     ·go_simp
      rfl
     refine hK.out _ _ ?_
     clear hK K
     refine done_ (done_of HT_.out (by kernel_rfl)) ?_
     try go_wp2
     have n0_ : Aside0 (Kd.R (Kd.int .i64) 3 (w13.setCell ⟨go8, (a1 : Int).toNat, none⟩ (.int .i64 (Go.bits .or .i64 (rd l0 a1) (ji7)))) w0.heap.size (fun k_ => (P0_ k_ ∨ w.heap.size ≤ k_)) (.slice (some ⟨go8, 0, none⟩) l0.length co14) y146) := ⟨by (with_reducible repeat (first | apply Kd.R_alloc | apply Kd.R_drewN | apply Kd.R_drew)); exact HQ15.out⟩
     have n1_ : Aside0 (Kept w (w13.setCell ⟨go8, (a1 : Int).toNat, none⟩ (.int .i64 (Go.bits .or .i64 (rd l0 a1) (ji7)))) (fun k_ => P0_ k_)) := ⟨by repeat (first | (with_reducible first | exact HK.out | apply Kept.alloc | apply Kept.drewN | apply Kept.drew | refine Kept.setCell ?_ HMgo8.out _) | exact HK.out)⟩
     have n2_ : Aside0 (Below w0.heap.size w0 (w13.setCell ⟨go8, (a1 : Int).toNat, none⟩ (.int .i64 (Go.bits .or .i64 (rd l0 a1) (ji7))))) := ⟨by repeat (first | (with_reducible first | exact HB.out | apply below_alloc | apply pw_below_drewN | apply below_drew1 | refine below_set ?_ GB8.out) | exact HB.out)⟩
     (try clear HO0)
     (try clear HK)
     (try clear HB)
     generalize (w13.setCell ⟨go8, (a1 : Int).toNat, none⟩ (.int .i64 (Go.bits .or .i64 (rd l0 a1) (ji7)))) = w16 at n0_ n1_ n2_ ⊢
     have HO0 := n0_
     have HK := n1_
     have HB := n2_
     clear n0_ n1_ n2_
     have n0_ := Aside0.mk (Kd.R_drew HO0.out)
     have n1_ := Aside0.mk (Kept.drew HK.out)
     have n2_ := Aside0.mk (below_drew1 HB.out)
     clear HO0
     clear HK
     clear HB
     have HO0 := n0_
     have HK := n1_
     have HB := n2_
     clear n0_ n1_ n2_
     have p147 : 0 ≤ (a2 : Int) := of_decide_eq_true (by first | (with_reducible assumption) | assumption)
     have q147 : a2 < (y146.length : Int) := (by have h_ : (a2 : Int) < ((l0.length : Int) : Int) := of_decide_eq_true (by first | (with_reducible assumption) | assumption); first | (have e_ := (Kd.R_reads' HO0.out).1; omega) | simpa only [Ny146.out, List.length_set] using h_)
     have ql147 : ((a2 : Int) < ((l0.length : Int) : Int)) = True := eq_true (of_decide_eq_true (by first | (with_reducible assumption) | assumption))
     obtain ⟨ad147, e147, hx147_0⟩ := Kd.at_int (Kd.R_reads' HO0.out).2.2 a2 p147 q147
     obtain rfl : (⟨go8, 0, none⟩ : Addr) = ad147 := (by injection e147)
     (first | simp only [add_plain] at hx147_0 | simp only [add_at] at hx147_0 | simp only [Addr.add, Nat.zero_add] at hx147_0 | skip)
     replace p147 := eq_true p147
     replace q147 := eq_true q147
     have p12 : 0 ≤ (a2 : Int) := of_decide_eq_true (by first | (with_reducible assumption) | assumption)
     have q12 : (a2 : Int) < ((l0.length : Int) : Int) := of_decide_eq_true (by first | (with_reducible assumption) | assumption)
     obtain ⟨hx12_0, hf12_0⟩ := Kd.R_celln 0 HO0.out (a2 : Int) p12 q12
     replace p12 := eq_true p12
     replace q12 := eq_true q12
     have HP18 := Kd.R_putn HO0.out (a2 : Int) (Go.bits .or .i64 (rd y146 a2) (ji11))
     rw [← Ny148.out] at HP18
     have HQ18 := Aside0.mk HP18
     clear HP18
     refine start_ (n := 9) (S := fun w' => w'.cell? ⟨go8, (a2).toNat, none⟩ = some (.int .i64 (rd y146 a2))) (ds := [8]) (Qbz 9 0) (by kernel_rfl) rfl rfl (hx147_0) (fun hHeld => ?_); refine with_tabW minor_town_join.tab1 minor_town_join.bits1 (fun HT_ HW_ => ?_)
     generalize w16.drew = w17 at HO0 HK HB HQ15 HQ18 hf12_0 hx12_0 hx147_0 hHeld ⊢
     refine pure_ (i := 0) (N := some 14) (v := ?_) (a' := ?_) (Qbz 9 1) rfl rfl (any_of HT_.out (by kernel_rfl)) (fun _ _ _ h => h) (Or.inl ⟨by rfl, ?_⟩) ?_ ?_
     rotate_left
     ·intro w'
      go_simp
      with_reducible rfl
     rotate_left
     ·simp only [Act.put, Qp1, Qp2, Qp3, i64_w, i32_w]
      rfl
     refine pure_ (i := 1) (N := some 15) (v := ?_) (a' := ?_) (Qbz 9 3) rfl rfl (any_of HT_.out (by kernel_rfl)) (fun _ _ _ h => h) (Or.inl ⟨by rfl, ?_⟩) ?_ ?_
     rotate_left
     ·intro w'
      go_simp
      with_reducible rfl
     rotate_left
     ·simp only [Act.put, Qp1, Qp2, Qp3, i64_w, i32_w]
      rfl
     refine pure_ (i := 2) (N := some 16) (v := ?_) (a' := ?_) (Qbz 9 7) rfl rfl (any_of HT_.out (by kernel_rfl)) (fun _ _ _ h => h) (Or.inl ⟨by rfl, ?_⟩) ?_ ?_
     rotate_left
     ·intro w'
      go_simp
      with_reducible rfl
     rotate_left
     ·simp only [Act.put, Qp1, Qp2, Qp3, i64_w, i32_w]
      rfl
     refine pure_ (i := 4) (N := some 18) (v := ?_) (a' := ?_) (Qbz 9 23) rfl rfl (any_of HT_.out (by kernel_rfl)) (fun _ _ _ h => h) (Or.inl ⟨by rfl, ?_⟩) ?_ ?_
     rotate_left
     ·intro w'
      go_simp
      with_reducible rfl
     rotate_left
     ·simp only [Act.put, Qp1, Qp2, Qp3, i64_w, i32_w]
      rfl
     refine pure_ (i := 5) (N := some 19) (v := ?_) (a' := ?_) (Qbz 9 55) rfl rfl (any_of HT_.out (by kernel_rfl)) (fun _ _ _ h => h) (Or.inl ⟨by rfl, ?_⟩) ?_ ?_
     rotate_left
     ·intro w'
      go_simp
      with_reducible rfl
     rotate_left
     ·simp only [Act.put, Qp1, Qp2, Qp3, i64_w, i32_w]
      rfl
     refine take_ (i := 3) (N := some 17) (v := ?_) (a' := ?_) (Qbz 9 63) rfl rfl (take_ofW HT_.out HW_.out (by kernel_rfl)) (fun _ _ _ h => h) (Or.inl ⟨by rfl, ?_⟩) hHeld ?_ ?_
     rotate_left
     ·intro w' s0
      go_simp
      with_reducible rfl
     rotate_left
     ·simp only [Act.put, Qp1, Qp2, Qp3, i64_w, i32_w]
      rfl
     refine pure_ (i := 6) (N := some 20) (v := ?_) (a' := ?_) (Qbz 9 127) rfl rfl (any_of HT_.out (by kernel_rfl)) (fun _ _ _ h => h) (Or.inl ⟨by rfl, ?_⟩) ?_ ?_
     rotate_left
     ·intro w'
      go_simp
      with_reducible rfl
     rotate_left
     ·simp only [Act.put, Qp1, Qp2, Qp3, i64_w, i32_w]
      rfl
     refine pure_ (i := 7) (N := some 21) (v := ?_) (a' := ?_) (Qbz 9 255) rfl rfl (any_of HT_.out (by kernel_rfl)) (fun _ _ _ h => h) (Or.inl ⟨by rfl, ?_⟩) ?_ ?_
     rotate_left
     ·intro w'
      go_simp
      with_reducible rfl
     rotate_left
     ·simp only [Act.put, Qp1, Qp2, Qp3, i64_w, i32_w]
      rfl
     refine last_ (i := 8) (N := none) (Qbz 9 511) rfl rfl (one_of HT_.out (by kernel_rfl)) (by decide) (fun K hK => ?_)
     refine skip_ (w1 := ?_) (by rfl) rfl ?_ ?_
     rotate_left
     ·go_simp
      rfl
     refine hK.out _ _ ?_
     clear hK K
     refine done_ (done_of HT_.out (by kernel_rfl)) ?_
     try go_wp2
     first | go_end0 | ((try simp only [Exit.inBlock, Exit.then]); refine bodyPost_ret (results_none rfl _ _ _) rfl ?_)
     exact ⟨by first | rfl | (simp [errW_none, errW_some] <;> rfl) | (simp only [← hji7, ← hji11]; first | rfl | (simp [errW_none, errW_some] <;> rfl)) | (simp [*, errW_none, errW_some] <;> rfl), by (with_reducible repeat (first | apply Kd.R_alloc | apply Kd.R_drewN | apply Kd.R_drew)); exact HQ18.out, by repeat (first | (with_reducible first | exact HB.out | apply below_alloc | apply pw_below_drewN | apply below_drew1 | refine below_set ?_ GB8.out) | exact HB.out), by repeat (first | (with_reducible first | exact HK.out | apply Kept.alloc | apply Kept.drewN | apply Kept.drew | refine Kept.setCell ?_ HMgo8.out _) | exact HK.out)⟩
    ·rw [if_neg c9] at H
     exact absurd H (by simp)
   ·rw [if_neg c6] at H
    exact absurd H (by simp)
  ·rw [if_neg c5] at H
   exact absurd H (by simp)
 ·rw [if_neg c4] at H
  exact absurd H (by simp)
end Go.Proofs.YtjloppfdagfpmaaDoor.X
end
section
namespace Go.Proofs.YtjloppfdagfpmaaDoor.X
open Go.RowKit YtjloppfdagfpmaaDoorW.PrintWords YtjloppfdagfpmaaDoorW.PrintLast YtjloppfdagfpmaaDoorW.PrintMore
attribute [local go_sem] max2_int min2_int max_two min_two max_three min_three max_four min_four
/-! ### minor_W: function 19 -/
mutual
def minor_W.j0 : Nat → Int → Bool → Option (List Int × Int)
 | 0, _, _ => none
 | k + 1, x0, x11 => if x11 = true then (some (([] : List Int), 2)) else (if 0 ≤ (wrap64 (x0 + 1)) then (if (wrap64 (x0 + 1) : Int).toNat ≤ 35184372088832 then (minor_W.l0 k x0 (List.replicate (wrap64 (x0 + 1) : Int).toNat 0) x0 0) else (none)) else (none))
def minor_W.l0 : Nat → Int → List Int → Int → Int → Option (List Int × Int)
 | 0, _, _, _, _ => none
 | k + 1, x0, x4, x15, x16 => if x16 < x15 then (if x0 = 0 then (none) else ((minor_town_join.f x4 x16 (Int.tmod (wrap64 (x16 + 1)) x0)).bind fun t152 => ((minor_town_join.f t152 x16 x0).bind fun t153 => (minor_W.l0 k x0 t153 x15 (wrap64 (x16 + 1)))))) else (some (x4, 0))
end
def minor_W.f (k : Nat) (a0 : Int) : Option (List Int × Int) := if a0 < 3 then (minor_W.j0 k a0 true) else (minor_W.j0 k a0 (decide (a0 > 5)))
theorem minor_W.mono_l : ∀ k, (∀ y0 y1, LeO (minor_W.j0 k y0 y1) (minor_W.j0 (k + 1) y0 y1)) ∧ (∀ y0 y1 y2 y3, LeO (minor_W.l0 k y0 y1 y2 y3) (minor_W.l0 (k + 1) y0 y1 y2 y3))
 | 0 => ⟨fun _ _ r h => by simp [minor_W.j0] at h, fun _ _ _ _ r h => by simp [minor_W.l0] at h⟩
 | k + 1 => by
  obtain ⟨ih0, ih1⟩ := minor_W.mono_l k
  refine ⟨?_, ?_⟩
  ·intro y0 y1
   unfold minor_W.j0
   repeat' first
   | (with_reducible exact ih0 _ _)
   | (with_reducible exact ih1 _ _ _ _)
   | (with_reducible exact LeO.refl _)
   | (with_reducible exact LeO.none _)
   | (with_reducible refine LeO.ite ?_ ?_)
   | (with_reducible refine LeO.bind ?_ (fun _ => ?_))
   | exact ih0 _ _
   | exact ih1 _ _ _ _
   | exact LeO.none _
   | refine LeO.ite ?_ ?_
   | refine LeO.bind ?_ (fun _ => ?_)
  ·intro y0 y1 y2 y3
   unfold minor_W.l0
   repeat' first
   | (with_reducible exact ih0 _ _)
   | (with_reducible exact ih1 _ _ _ _)
   | (with_reducible exact LeO.refl _)
   | (with_reducible exact LeO.none _)
   | (with_reducible refine LeO.ite ?_ ?_)
   | (with_reducible refine LeO.bind ?_ (fun _ => ?_))
   | exact ih0 _ _
   | exact ih1 _ _ _ _
   | exact LeO.none _
   | refine LeO.ite ?_ ?_
   | refine LeO.bind ?_ (fun _ => ?_)
theorem minor_W.mono : ∀ a0 k, LeO (minor_W.f k a0) (minor_W.f (k + 1) a0) := by
 intro a0 k
 obtain ⟨ih0, ih1⟩ := minor_W.mono_l k
 unfold minor_W.f
 repeat' first
   | (with_reducible exact ih0 _ _)
   | (with_reducible exact ih1 _ _ _ _)
   | (with_reducible exact LeO.refl _)
   | (with_reducible exact LeO.none _)
   | (with_reducible refine LeO.ite ?_ ?_)
   | (with_reducible refine LeO.bind ?_ (fun _ => ?_))
   | exact ih0 _ _
   | exact ih1 _ _ _ _
   | exact LeO.none _
   | refine LeO.ite ?_ ?_
   | refine LeO.bind ?_ (fun _ => ?_)
set_option maxHeartbeats 8000000 in
set_option maxRecDepth 100000 in
theorem minor_W.calls (k : Nat) (a0 : Int) (r1 : List Int) (r2 : Int) (w : World) (h : minor_W.f k a0 = some (r1, r2)) :
  Calls Tryd.prog 19 #[.int .i64 a0] w fun e w' => ∃ v0_ : Value, e = .returned (.tuple #[v0_, .int .i64 r2]) ∧ Kd.R (Kd.int .i64) 3 w' w.heap.size (fun _ => True) v0_ r1 ∧ Below w.heap.size w w' := by
 have HB := Aside0.mk (Below.refl w.heap.size w)
 have H : (if a0 < 3 then (minor_W.j0 k a0 true) else (minor_W.j0 k a0 (decide (a0 > 5)))) = some (r1, r2) := h
 clear h
 have HC2 := Aside0.mk H
 clear H
 go_enter Tryd.func19, Tryd.ntmps19
 go_upto_region 1 with (fail)
 go_cut [11] (fun v11 wc => ∃ (kq : Nat) (x11_1 : Bool), v11 = .bool x11_1 ∧ Aside0 (minor_W.j0 kq a0 x11_1 = some (r1, r2)) ∧ Aside0 (kq ≤ k) ∧ Aside0 (Below w.heap.size w wc))
 case first =>
  have H := HC2.out
  clear HC2
  by_cases c3 : a0 < 3
  ·rw [if_pos c3] at H
   have c3b0 : decide (a0 < 3) = true := decide_eq_true c3
   clear c3
   (first | rw [c3b0] | (simp only [i64_w, i32_w]; rw [c3b0]) | skip)
   have H' := Aside0.mk H
   clear H
   go_wp2
   go_meet
   case rel => exact ⟨_, (true), (by first | rfl | (simp; done) | (simp [*]; done)), H', ⟨by first | omega | exact Nat.le_refl _⟩, ⟨by repeat (first | (with_reducible first | exact HB.out | apply below_alloc | apply pw_below_drewN | apply below_drew1) | exact HB.out)⟩⟩
  ·rw [if_neg c3] at H
   have c3b0 : decide (a0 < 3) = false := decide_eq_false c3
   clear c3
   (first | rw [c3b0] | (simp only [i64_w, i32_w]; rw [c3b0]) | skip)
   have H' := Aside0.mk H
   clear H
   go_wp2
   go_meet
   case rel => exact ⟨_, (decide (a0 > 5)), (by first | rfl | (simp; done) | (simp [*]; done)), H', ⟨by first | omega | exact Nat.le_refl _⟩, ⟨by repeat (first | (with_reducible first | exact HB.out | apply below_alloc | apply pw_below_drewN | apply below_drew1) | exact HB.out)⟩⟩
 case rest =>
  clear HC2
  try clear c1
  try clear p2
  try clear c3
  try clear c3b0
  obtain ⟨kq, x11_1, rfl, HA, HJ1, HB⟩ := hcut
  cases kq with
  | zero => exact absurd HA.out (by simp [minor_W.j0])
  | succ kj1 =>
   have H := HA.out
   clear HA
   simp only [minor_W.j0] at H
   by_cases c4 : x11_1 = true
   ·subst c4
    have H1 : (some (([] : List Int), 2)) = some (r1, r2) := by rw [if_pos rfl] at H; exact H
    clear H
    have H := H1
    clear H1
    simp only [Option.some.injEq, Prod.mk.injEq] at H
    obtain ⟨rfl, rfl⟩ := H
    go_wp2
    go_ret2
    exact ⟨_, by first | rfl | (simp [errW_none, errW_some] <;> rfl) | (simp [*, errW_none, errW_some] <;> rfl), by first | exact Kd.R_nil _ _ _ _ _ | exact Kd.N_nil _ _ _ _ _ | exact Kd.V_nil _ _ _ _ _ | exact Kd.Q_nil _ _ _ _ _ | exact Kd.S_nil _ _ _ _ _, by repeat (first | (with_reducible first | exact HB.out | apply below_alloc | apply pw_below_drewN | apply below_drew1) | exact HB.out)⟩
   ·replace c4 := Bool.eq_false_iff.mpr c4
    subst c4
    have H1 : (if 0 ≤ (wrap64 (a0 + 1)) then (if (wrap64 (a0 + 1) : Int).toNat ≤ 35184372088832 then (minor_W.l0 kj1 a0 (List.replicate (wrap64 (a0 + 1) : Int).toNat 0) a0 0) else (none)) else (none)) = some (r1, r2) := by rw [if_neg (show ¬ (false = true) by decide)] at H; exact H
    clear H
    have H := H1
    clear H1
    obtain ⟨ji5, hji5⟩ : ∃ j_ : Int, (wrap64 (a0 + 1)) = j_ := ⟨_, rfl⟩
    replace H : (if 0 ≤ (ji5) then (if (ji5 : Int).toNat ≤ 35184372088832 then (minor_W.l0 kj1 a0 (List.replicate (ji5 : Int).toNat 0) a0 0) else (none)) else (none)) = some (r1, r2) := by first | (rw [hji5] at H; exact H) | (simp only [hji5] at H ⊢; exact H)
    have hji5w : (IntKind.i64.wrap (a0 + 1)) = ji5 := (i64_w _).trans hji5
    by_cases c6 : 0 ≤ (ji5)
    ·rw [if_pos c6] at H
     have c6b0 := eq_true c6
     have c6b1 : decide (0 ≤ (ji5)) = true := decide_eq_true c6
     clear c6
     by_cases c7 : (ji5 : Int).toNat ≤ 35184372088832
     ·rw [if_pos c7] at H
      have c7b0 := eq_true c7
      have c7b1 : decide ((ji5 : Int).toNat ≤ 35184372088832) = true := decide_eq_true c7
      clear c7
      obtain ⟨y149, hy149⟩ : ∃ y_ : List Int, y_ = (List.replicate (ji5 : Int).toNat 0) := ⟨_, rfl⟩
      replace H : (minor_W.l0 kj1 a0 y149 a0 0) = some (r1, r2) := by first | (rw [hy149]; with_reducible exact H) | (have H2_ := (Option.bind_some _ _).symm.trans H; rw [hy149]; with_reducible exact H2_) | (have H2_ := (Option.bind_some _ _).symm.trans H; with_reducible exact H2_) | with_reducible exact H | (rw [hy149]; exact H) | exact H
      have Ny149 := Aside0.mk hy149
      clear hy149
      have H' := Aside0.mk H
      clear H
      go_wp2_with (first | ((with_reducible refine gate_dst (N := 14) rfl ?_); refine Kd.R_make (Kd.int .i64) _ 3 rfl (N := 14) rfl 79 _ _ rfl ji5 rfl rfl Tryd.underlying79 (.int .i64 0) 8 info3 rfl (by decide) (by omega) 0 (ok := fun _ => True) (okp := fun _ => True) rfl (fun _ hk => hk) trivial (of_decide_eq_true (by first | (with_reducible assumption) | assumption)) (Nat.le_trans (Nat.mul_le_mul_right _ (of_decide_eq_true (by first | (with_reducible assumption) | assumption) : ji5.toNat ≤ 35184372088832)) (by omega)) (Below.refl _ _) (Nat.le_refl _) ?_; intro v150 w8 ho9 hb hg_ hnew_; clear hg_ hnew_; (first | rw [← Ny149.out] at ho9 | (simp only [Int.reduceToNat] at ho9; rw [← Ny149.out] at ho9)); have n0_ := Aside0.mk (Kd.R_lower ho9 (below_size (Qaw))); have n1_ := Aside0.mk (below_step (Qaw) hb); clear HB; have HO151 := n0_; have HB := n1_; clear n0_ n1_; clear hb ho9))
      go_loopg [16] kj1 (fun kq v16 w' => ∃ (x4_2 : List Int) (x16_2 : Int), v16 = .int .i64 x16_2 ∧ Aside0 (minor_W.l0 kq a0 x4_2 a0 x16_2 = some (r1, r2)) ∧ Aside0 (kq ≤ kj1) ∧ Aside0 (Kd.R (Kd.int .i64) 3 w' w.heap.size (fun _ => True) v150 x4_2) ∧ Aside0 (Below w.heap.size w w'))
      case atStart => exact ⟨(y149), (0), (by first | rfl | (simp; done) | (simp [*]; done)), H', ⟨Nat.le_refl _⟩, ⟨by (with_reducible repeat (first | apply Kd.R_alloc | apply Kd.R_drewN | apply Kd.R_drew)); exact HO151.out⟩, ⟨by repeat (first | (with_reducible first | exact HB.out | apply below_alloc | apply pw_below_drewN | apply below_drew1) | exact HB.out)⟩⟩
      case round =>
       clear H'
       try clear c1
       try clear p2
       try clear c3
       try clear c3b0
       try clear c4
       try clear c6
       try clear c6b0
       try clear c6b1
       try clear p6
       try clear c7
       try clear c7b0
       try clear c7b1
       try clear p2
       obtain ⟨x4_2, x16_2, rfl, HA, HK2, HO_4, HB⟩ := hrel
       cases gk with
       | zero => exact absurd HA.out (by simp [minor_W.l0])
       | succ k2 =>
        have H := HA.out
        clear HA
        simp only [minor_W.l0] at H
        by_cases c10 : x16_2 < a0
        ·rw [if_pos c10] at H
         have c10b0 : decide (x16_2 < a0) = true := decide_eq_true c10
         clear c10
         by_cases c11 : a0 = 0
         ·rw [if_pos c11] at H
          exact absurd H (by simp)
         ·rw [if_neg c11] at H
          have c11b0 : (a0 == 0) = false := beq_eq_false_iff_ne.mpr c11
          have c11b1 : (a0 != 0) = true := bne_iff_ne.mpr c11
          replace H := Option.bind_eq_some_iff.mp H
          obtain ⟨t152, A120, H⟩ := H
          replace H : ((minor_town_join.f t152 x16_2 a0).bind fun t153 => (minor_W.l0 k2 a0 t153 a0 (wrap64 (x16_2 + 1)))) = some (r1, r2) := H
          have A12 := Aside0.mk A120
          clear A120
          replace H := Option.bind_eq_some_iff.mp H
          obtain ⟨t153, A130, H⟩ := H
          replace H : (minor_W.l0 k2 a0 t153 a0 (wrap64 (x16_2 + 1))) = some (r1, r2) := H
          have A13 := Aside0.mk A130
          clear A130
          have H' := Aside0.mk H
          clear H
          obtain ⟨Ao14, co14, eo14⟩ := Kd.R_slice HO_4.out
          subst eo14
          go_wp2_with (first | ((with_reducible refine gate_callee (f := 62) rfl ?_); refine goesL_ (some 25) rfl rfl Tryd.func62 (by kernel_rfl) rfl #[.slice Ao14 x4_2.length co14, .int .i64 x16_2, .int .i64 (Int.tmod (wrap64 (x16_2 + 1)) a0)] rfl (Qls) ?_; (with_reducible refine (minor_town_join.calls (fun k_ => some k_ = (.slice Ao14 x4_2.length co14 : Value).ownBlock) (.slice Ao14 x4_2.length co14) x4_2 x16_2 (Int.tmod (wrap64 (x16_2 + 1)) a0) t152 w _ ?side1 ?side2 A12.out).mono ?_); (case side1 => repeat (first | (with_reducible first | exact HB.out | apply below_alloc | apply pw_below_drewN | apply below_drew1) | exact HB.out)); (case side2 => exact Kd.R_tight rfl HO_4.out); rintro e w15 ⟨rfl, hy0, hb, hkp⟩; refine ⟨_, rfl, ?_⟩; have n0_ := Aside0.mk (Kd.R_reok rfl hy0 (fun k_ e_ => HO_4.out.1 k_ e_)); have n1_ := Aside0.mk (hb); clear HO_4; clear HB; have HO_4 := n0_; have HB := n1_; clear n0_ n1_; (try clear hb); (try clear hkp); (try clear hy0)) | ((with_reducible refine gate_callee (f := 62) rfl ?_); refine goesL_ (some 29) rfl rfl Tryd.func62 (by kernel_rfl) rfl #[.slice Ao14 x4_2.length co14, .int .i64 x16_2, .int .i64 a0] rfl (Qls) ?_; (with_reducible refine (minor_town_join.calls (fun k_ => some k_ = (.slice Ao14 x4_2.length co14 : Value).ownBlock) (.slice Ao14 x4_2.length co14) t152 x16_2 a0 t153 w _ ?side1 ?side2 A13.out).mono ?_); (case side1 => repeat (first | (with_reducible first | exact HB.out | apply below_alloc | apply pw_below_drewN | apply below_drew1) | exact HB.out)); (case side2 => exact Kd.R_tight rfl HO_4.out); rintro e w16 ⟨rfl, hy0, hb, hkp⟩; refine ⟨_, rfl, ?_⟩; have n0_ := Aside0.mk (Kd.R_reok rfl hy0 (fun k_ e_ => HO_4.out.1 k_ e_)); have n1_ := Aside0.mk (hb); clear HO_4; clear HB; have HO_4 := n0_; have HB := n1_; clear n0_ n1_; (try clear hb); (try clear hkp); (try clear hy0)))
          go_roundg k2
          case measure => have := HJ1.out; have := HK2.out; omega
          case rel => exact ⟨(t153), (wrap64 (x16_2 + 1)), (by first | rfl | (simp; done) | (simp [*]; done)), H', ⟨by have := HJ1.out; have := HK2.out; omega⟩, ⟨by (with_reducible repeat (first | apply Kd.R_alloc | apply Kd.R_drewN | apply Kd.R_drew)); exact HO_4.out⟩, ⟨by repeat (first | (with_reducible first | exact HB.out | apply below_alloc | apply pw_below_drewN | apply below_drew1) | exact HB.out)⟩⟩
        ·rw [if_neg c10] at H
         have c10b0 : decide (x16_2 < a0) = false := decide_eq_false c10
         clear c10
         simp only [Option.some.injEq, Prod.mk.injEq] at H
         obtain ⟨rfl, rfl⟩ := H
         go_wp2
         go_ret2
         exact ⟨_, by first | rfl | (simp [errW_none, errW_some] <;> rfl) | (simp only [← hji5]; first | rfl | (simp [errW_none, errW_some] <;> rfl)) | (simp [*, errW_none, errW_some] <;> rfl), by (with_reducible repeat (first | apply Kd.R_alloc | apply Kd.R_drewN | apply Kd.R_drew)); exact HO_4.out, by repeat (first | (with_reducible first | exact HB.out | apply below_alloc | apply pw_below_drewN | apply below_drew1) | exact HB.out)⟩
     ·rw [if_neg c7] at H
      exact absurd H (by simp)
    ·rw [if_neg c6] at H
     exact absurd H (by simp)
end Go.Proofs.YtjloppfdagfpmaaDoor.X
end
section
namespace Go.Proofs.YtjloppfdagfpmaaDoor.X
open Go.RowKit YtjloppfdagfpmaaDoorW.PrintWords YtjloppfdagfpmaaDoorW.PrintLast YtjloppfdagfpmaaDoorW.PrintMore
attribute [local go_sem] max2_int min2_int max_two min_two max_three min_three max_four min_four
/-! ### lampblacklaw07_MinorWheels: function 3 -/
mutual
def lampblacklaw07_MinorWheels.j0 : Nat → List Int → Bool → Option (Bool)
 | 0, _, _ => none
 | k + 1, x0, x17 => if x17 = true then ((lampblacklaw07_awake.f k).bind fun t172 => (some t172)) else (lampblacklaw07_MinorWheels.l0 k x0 (x0.length : Int) 0)
def lampblacklaw07_MinorWheels.l0 : Nat → List Int → Int → Int → Option (Bool)
 | 0, _, _, _ => none
 | k + 1, x0, x20, x21 => if x21 < x20 then (lampblacklaw07_MinorWheels.l1 k x0 x21 x20 x21 (x0.length : Int) 0) else ((lampblackref02_Connected.f k x0 (wrap64 ((shl .i64 1 (x0.length : Int)) - 1))).bind fun t175 => (if t175 = true then ((minor_W.f k 3).bind fun bt176 => ((lampblacklaw07_has.f x0 bt176.1).bind fun bt180 => (if bt176.2 = 0 then (if bt180.1 = true then (if bt180.2 = true then ((lampblacklaw07_awake.f k).bind fun t182 => (some t182)) else (some false)) else (some false)) else (some false)))) else ((lampblacklaw07_awake.f k).bind fun t183 => (some t183))))
def lampblacklaw07_MinorWheels.l1 : Nat → List Int → Int → Int → Int → Int → Int → Option (Bool)
 | 0, _, _, _, _, _, _ => none
 | k + 1, x0, x3, x20, x21, x25, x26 => if x26 < x25 then (if 0 ≤ x3 then (if 0 ≤ x26 then ((lampblackref02_Connected.f k x0 (Go.bits .andNot .i64 (Go.bits .andNot .i64 (wrap64 ((shl .i64 1 (x0.length : Int)) - 1)) (shl .i64 1 x3)) (shl .i64 1 x26))).bind fun t173 => (if t173 = true then (lampblacklaw07_MinorWheels.l1 k x0 x3 x20 x21 x25 (wrap64 (x26 + 1))) else ((lampblacklaw07_awake.f k).bind fun t174 => (some t174)))) else (none)) else (none)) else (lampblacklaw07_MinorWheels.l0 k x0 x20 (wrap64 (x21 + 1)))
end
def lampblacklaw07_MinorWheels.f (k : Nat) (l0 : List Int) : Option (Bool) := (lampblackref07_Valid.f k l0).bind fun t171 => (if t171 = true then (lampblacklaw07_MinorWheels.j0 k l0 (decide ((l0.length : Int) < 4))) else (lampblacklaw07_MinorWheels.j0 k l0 true))
set_option maxHeartbeats 8000000 in
set_option maxRecDepth 100000 in
theorem lampblacklaw07_MinorWheels.calls (k : Nat) (A0 : Option Addr) (c0 : Nat) (l0 : List Int) (r : Bool) (w : World) (hGL : GL w) (hr0 : Kd.C (Kd.int .i64) w A0 l0.length l0) (hc0 : l0.length ≤ c0) (h : lampblacklaw07_MinorWheels.f k l0 = some r) :
  Calls Tryd.prog 3 #[.slice A0 l0.length c0] w fun e w' => e = .returned (.bool r) ∧ Below w.heap.size w w' := by
 have HGL := Aside0.mk hGL
 clear hGL
 have HR0 := Aside0.mk hr0
 have HC0 := Aside0.mk hc0
 clear hr0 hc0
 have HB := Aside0.mk (Below.refl w.heap.size w)
 have H : ((lampblackref07_Valid.f k l0).bind fun t171 => (if t171 = true then (lampblacklaw07_MinorWheels.j0 k l0 (decide ((l0.length : Int) < 4))) else (lampblacklaw07_MinorWheels.j0 k l0 true))) = some r := h
 clear h
 have HC2 := Aside0.mk H
 clear H
 go_enter Tryd.func3, Tryd.ntmps3
 go_upto_region 1 with (fail)
 repeat (go_quiet (fail); go_upto_region 1 with (fail))
 go_cut [17] (fun v17 wc => ∃ (kq : Nat) (x17_1 : Bool), v17 = .bool x17_1 ∧ Aside0 (lampblacklaw07_MinorWheels.j0 kq l0 x17_1 = some r) ∧ Aside0 (kq ≤ k) ∧ Aside0 (Below w.heap.size w wc))
 case first =>
  have H := HC2.out
  clear HC2
  replace H := Option.bind_eq_some_iff.mp H
  obtain ⟨t171, A30, H⟩ := H
  replace H : (if t171 = true then (lampblacklaw07_MinorWheels.j0 k l0 (decide ((l0.length : Int) < 4))) else (lampblacklaw07_MinorWheels.j0 k l0 true)) = some r := H
  have A3 := Aside0.mk A30
  clear A30
  by_cases c4 : t171 = true
  ·subst c4
   have H1 : (lampblacklaw07_MinorWheels.j0 k l0 (decide ((l0.length : Int) < 4))) = some r := by rw [if_pos rfl] at H; exact H
   clear H
   have H := H1
   clear H1
   have H' := Aside0.mk H
   clear H
   go_wp2_with (first | (go_at_call 16; (with_reducible refine (lampblackref07_Valid.calls k _ _ l0 true _ ?side1 ?side2 A3.out).mono ?_); (case side1 => exact Qsc (Kd.C_below HR0.out HB.out)); (case side2 => exact HC0.out); rintro e w' ⟨rfl, ⟨nd, rfl⟩⟩; (try first | exact ⟨rfl, _, World.drewN_drewN _ _ _⟩ | exact ⟨rfl, _, Eq.trans (World.drewN_drewN _ _ _) (congrArg (World.drewN _) (Nat.add_assoc _ _ _))⟩)))
   repeat (go_quiet (first | (go_at_call 16; (with_reducible refine (lampblackref07_Valid.calls k _ _ l0 true _ ?side1 ?side2 A3.out).mono ?_); (case side1 => exact Qsc (Kd.C_below HR0.out HB.out)); (case side2 => exact HC0.out); rintro e w' ⟨rfl, ⟨nd, rfl⟩⟩; (try first | exact ⟨rfl, _, World.drewN_drewN _ _ _⟩ | exact ⟨rfl, _, Eq.trans (World.drewN_drewN _ _ _) (congrArg (World.drewN _) (Nat.add_assoc _ _ _))⟩))); try go_wp2_with (first | (go_at_call 16; (with_reducible refine (lampblackref07_Valid.calls k _ _ l0 true _ ?side1 ?side2 A3.out).mono ?_); (case side1 => exact Qsc (Kd.C_below HR0.out HB.out)); (case side2 => exact HC0.out); rintro e w' ⟨rfl, ⟨nd, rfl⟩⟩; (try first | exact ⟨rfl, _, World.drewN_drewN _ _ _⟩ | exact ⟨rfl, _, Eq.trans (World.drewN_drewN _ _ _) (congrArg (World.drewN _) (Nat.add_assoc _ _ _))⟩))))
   go_meet
   case rel => exact ⟨_, (decide ((l0.length : Int) < 4)), (by first | rfl | (simp; done) | (simp [*]; done)), H', ⟨by first | omega | exact Nat.le_refl _⟩, ⟨by repeat (first | (with_reducible first | exact HB.out | apply below_alloc | apply pw_below_drewN | apply below_drew1) | exact HB.out)⟩⟩
  ·replace c4 := Bool.eq_false_iff.mpr c4
   subst c4
   have H1 : (lampblacklaw07_MinorWheels.j0 k l0 true) = some r := by rw [if_neg (show ¬ (false = true) by decide)] at H; exact H
   clear H
   have H := H1
   clear H1
   have H' := Aside0.mk H
   clear H
   go_wp2_with (first | (go_at_call 16; (with_reducible refine (lampblackref07_Valid.calls k _ _ l0 false _ ?side1 ?side2 A3.out).mono ?_); (case side1 => exact Qsc (Kd.C_below HR0.out HB.out)); (case side2 => exact HC0.out); rintro e w' ⟨rfl, ⟨nd, rfl⟩⟩; (try first | exact ⟨rfl, _, World.drewN_drewN _ _ _⟩ | exact ⟨rfl, _, Eq.trans (World.drewN_drewN _ _ _) (congrArg (World.drewN _) (Nat.add_assoc _ _ _))⟩)))
   repeat (go_quiet (first | (go_at_call 16; (with_reducible refine (lampblackref07_Valid.calls k _ _ l0 false _ ?side1 ?side2 A3.out).mono ?_); (case side1 => exact Qsc (Kd.C_below HR0.out HB.out)); (case side2 => exact HC0.out); rintro e w' ⟨rfl, ⟨nd, rfl⟩⟩; (try first | exact ⟨rfl, _, World.drewN_drewN _ _ _⟩ | exact ⟨rfl, _, Eq.trans (World.drewN_drewN _ _ _) (congrArg (World.drewN _) (Nat.add_assoc _ _ _))⟩))); try go_wp2_with (first | (go_at_call 16; (with_reducible refine (lampblackref07_Valid.calls k _ _ l0 false _ ?side1 ?side2 A3.out).mono ?_); (case side1 => exact Qsc (Kd.C_below HR0.out HB.out)); (case side2 => exact HC0.out); rintro e w' ⟨rfl, ⟨nd, rfl⟩⟩; (try first | exact ⟨rfl, _, World.drewN_drewN _ _ _⟩ | exact ⟨rfl, _, Eq.trans (World.drewN_drewN _ _ _) (congrArg (World.drewN _) (Nat.add_assoc _ _ _))⟩))))
   go_meet
   case rel => exact ⟨_, (true), (by first | rfl | (simp; done) | (simp [*]; done)), H', ⟨by first | omega | exact Nat.le_refl _⟩, ⟨by repeat (first | (with_reducible first | exact HB.out | apply below_alloc | apply pw_below_drewN | apply below_drew1) | exact HB.out)⟩⟩
 case rest =>
  clear HC2
  try clear p2
  try clear c3
  try clear c4
  obtain ⟨kq, x17_1, rfl, HA, HJ1, HB⟩ := hcut
  cases kq with
  | zero => exact absurd HA.out (by simp [lampblacklaw07_MinorWheels.j0])
  | succ kj1 =>
   have H := HA.out
   clear HA
   simp only [lampblacklaw07_MinorWheels.j0] at H
   by_cases c5 : x17_1 = true
   ·subst c5
    have H1 : ((lampblacklaw07_awake.f kj1).bind fun t172 => (some t172)) = some r := by rw [if_pos rfl] at H; exact H
    clear H
    have H := H1
    clear H1
    replace H := Option.bind_eq_some_iff.mp H
    obtain ⟨t172, A60, H⟩ := H
    replace H : (some t172) = some r := H
    have A6 := Aside0.mk A60
    clear A60
    obtain rfl := Option.some.inj H
    go_wp2_with (first | (go_at_call 17; (with_reducible refine (lampblacklaw07_awake.calls (hGL := (Qlg)) kj1  t172 _ A6.out).mono ?_); rintro e w7 ⟨rfl, hb⟩; have n0_ := Aside0.mk (below_step (Qaw) hb); clear HB; have HB := n0_; clear n0_; (try clear hb); (try clear hb2); (try clear hk); (try clear hi)))
    repeat (go_quiet (first | (go_at_call 17; (with_reducible refine (lampblacklaw07_awake.calls (hGL := (Qlg)) kj1  t172 _ A6.out).mono ?_); rintro e w7 ⟨rfl, hb⟩; have n0_ := Aside0.mk (below_step (Qaw) hb); clear HB; have HB := n0_; clear n0_; (try clear hb); (try clear hb2); (try clear hk); (try clear hi))); try go_wp2_with (first | (go_at_call 17; (with_reducible refine (lampblacklaw07_awake.calls (hGL := (Qlg)) kj1  t172 _ A6.out).mono ?_); rintro e w7 ⟨rfl, hb⟩; have n0_ := Aside0.mk (below_step (Qaw) hb); clear HB; have HB := n0_; clear n0_; (try clear hb); (try clear hb2); (try clear hk); (try clear hi))))
    go_ret
    exact ⟨by first | rfl | (simp [errW_none, errW_some] <;> rfl) | (simp [*, errW_none, errW_some] <;> rfl), by repeat (first | (with_reducible first | exact HB.out | apply below_alloc | apply pw_below_drewN | apply below_drew1) | exact HB.out)⟩
   ·replace c5 := Bool.eq_false_iff.mpr c5
    subst c5
    have H1 : (lampblacklaw07_MinorWheels.l0 kj1 l0 (l0.length : Int) 0) = some r := by rw [if_neg (show ¬ (false = true) by decide)] at H; exact H
    clear H
    have H := H1
    clear H1
    have H' := Aside0.mk H
    clear H
    go_wp2
    repeat (go_quiet (fail); try go_wp2)
    go_loopg [21] kj1 (fun kq v21 w' => ∃ (x21_2 : Int), v21 = .int .i64 x21_2 ∧ Aside0 (lampblacklaw07_MinorWheels.l0 kq l0 (l0.length : Int) x21_2 = some r) ∧ Aside0 (kq ≤ kj1) ∧ Aside0 (Below w.heap.size w w'))
    case atStart => exact ⟨(0), (by first | rfl | (simp; done) | (simp [*]; done)), H', ⟨Nat.le_refl _⟩, ⟨by repeat (first | (with_reducible first | exact HB.out | apply below_alloc | apply pw_below_drewN | apply below_drew1) | exact HB.out)⟩⟩
    case round =>
     clear H'
     try clear p2
     try clear c3
     try clear c4
     try clear c5
     try clear p2
     obtain ⟨x21_2, rfl, HA, HK2, HB⟩ := hrel
     cases gk with
     | zero => exact absurd HA.out (by simp [lampblacklaw07_MinorWheels.l0])
     | succ k2 =>
      have H := HA.out
      clear HA
      simp only [lampblacklaw07_MinorWheels.l0] at H
      by_cases c8 : x21_2 < (l0.length : Int)
      ·rw [if_pos c8] at H
       have c8b0 : decide (x21_2 < (l0.length : Int)) = true := decide_eq_true c8
       clear c8
       have H' := Aside0.mk H
       clear H
       go_wp2
       repeat (go_quiet (fail); try go_wp2)
       go_loopg [26] k2 (fun kq v26 w' => ∃ (x26_3 : Int), v26 = .int .i64 x26_3 ∧ Aside0 (lampblacklaw07_MinorWheels.l1 kq l0 x21_2 (l0.length : Int) x21_2 (l0.length : Int) x26_3 = some r) ∧ Aside0 (kq ≤ k2) ∧ Aside0 (Below w.heap.size w w'))
       case atStart => exact ⟨(0), (by first | rfl | (simp; done) | (simp [*]; done)), H', ⟨Nat.le_refl _⟩, ⟨by repeat (first | (with_reducible first | exact HB.out | apply below_alloc | apply pw_below_drewN | apply below_drew1) | exact HB.out)⟩⟩
       case round =>
        clear H'
        try clear p2
        try clear c3
        try clear c4
        try clear c5
        try clear c8
        try clear c8b0
        try clear p2
        obtain ⟨x26_3, rfl, HA, HK3, HB⟩ := hrel
        cases gk with
        | zero => exact absurd HA.out (by simp [lampblacklaw07_MinorWheels.l1])
        | succ k3 =>
         have H := HA.out
         clear HA
         simp only [lampblacklaw07_MinorWheels.l1] at H
         by_cases c9 : x26_3 < (l0.length : Int)
         ·rw [if_pos c9] at H
          have c9b0 : decide (x26_3 < (l0.length : Int)) = true := decide_eq_true c9
          clear c9
          obtain ⟨ji10, hji10⟩ : ∃ j_ : Int, (shl .i64 1 (l0.length : Int)) = j_ := ⟨_, rfl⟩
          replace H : (if 0 ≤ x21_2 then (if 0 ≤ x26_3 then ((lampblackref02_Connected.f k3 l0 (Go.bits .andNot .i64 (Go.bits .andNot .i64 (wrap64 ((ji10) - 1)) (shl .i64 1 x21_2)) (shl .i64 1 x26_3))).bind fun t173 => (if t173 = true then (lampblacklaw07_MinorWheels.l1 k3 l0 x21_2 (l0.length : Int) x21_2 (l0.length : Int) (wrap64 (x26_3 + 1))) else ((lampblacklaw07_awake.f k3).bind fun t174 => (some t174)))) else (none)) else (none)) = some r := by first | (rw [hji10] at H; exact H) | (simp only [hji10] at H ⊢; exact H)
          have hji10_ : (IntKind.i64.wrap (1 * 2 ^ min (l0.length : Int).toNat 64)) = ji10 := hji10
          have hji10z : (l0.length : Int) ≤ 64 → (IntKind.i64.wrap (1 * 2 ^ (l0.length : Int).toNat)) = ji10 := shl_small hji10
          have hji10p : (IntKind.i64.wrap (1 * 2 ^ min l0.length 64)) = ji10 := hji10_
          have hji10q : (l0.length : Int) ≤ 64 → (IntKind.i64.wrap (1 * 2 ^ l0.length)) = ji10 := hji10z
          have hji10r : (IntKind.i64.wrap (2 ^ min l0.length 64)) = ji10 := by have h_ := hji10p; rw [Int.one_mul] at h_; exact h_
          have hji10s : (l0.length : Int) ≤ 64 → (IntKind.i64.wrap (2 ^ l0.length)) = ji10 := fun hle_ => by have h_ := hji10q hle_; rw [Int.one_mul] at h_; exact h_
          have hji10u : (IntKind.i64.wrap (2 ^ min (l0.length : Int).toNat 64)) = ji10 := by have h_ := hji10_; rw [Int.one_mul] at h_; exact h_
          have hji10v : (l0.length : Int) ≤ 64 → (IntKind.i64.wrap (2 ^ (l0.length : Int).toNat)) = ji10 := fun hle_ => by have h_ := hji10z hle_; rw [Int.one_mul] at h_; exact h_
          have hji10y : (wrap64 (1 * 2 ^ min (l0.length : Int).toNat 64)) = ji10 := (i64_w _).symm.trans hji10_
          have hji10x : (l0.length : Int) ≤ 64 → (wrap64 (1 * 2 ^ (l0.length : Int).toNat)) = ji10 := fun h_ => (i64_w _).symm.trans (hji10z h_)
          by_cases c11 : 0 ≤ x21_2
          ·rw [if_pos c11] at H
           have c11b0 := eq_true c11
           have c11b1 : decide (0 ≤ x21_2) = true := decide_eq_true c11
           clear c11
           obtain ⟨ji12, hji12⟩ : ∃ j_ : Int, (shl .i64 1 x21_2) = j_ := ⟨_, rfl⟩
           replace H : (if 0 ≤ x26_3 then ((lampblackref02_Connected.f k3 l0 (Go.bits .andNot .i64 (Go.bits .andNot .i64 (wrap64 ((ji10) - 1)) (ji12)) (shl .i64 1 x26_3))).bind fun t173 => (if t173 = true then (lampblacklaw07_MinorWheels.l1 k3 l0 x21_2 (l0.length : Int) x21_2 (l0.length : Int) (wrap64 (x26_3 + 1))) else ((lampblacklaw07_awake.f k3).bind fun t174 => (some t174)))) else (none)) = some r := by first | (rw [hji12] at H; exact H) | (simp only [hji12] at H ⊢; exact H)
           have hji12_ : (IntKind.i64.wrap (1 * 2 ^ min x21_2.toNat 64)) = ji12 := hji12
           have hji12z : x21_2 ≤ 64 → (IntKind.i64.wrap (1 * 2 ^ x21_2.toNat)) = ji12 := shl_small hji12
           have hji12u : (IntKind.i64.wrap (2 ^ min x21_2.toNat 64)) = ji12 := by have h_ := hji12_; rw [Int.one_mul] at h_; exact h_
           have hji12v : x21_2 ≤ 64 → (IntKind.i64.wrap (2 ^ x21_2.toNat)) = ji12 := fun hle_ => by have h_ := hji12z hle_; rw [Int.one_mul] at h_; exact h_
           have hji12y : (wrap64 (1 * 2 ^ min x21_2.toNat 64)) = ji12 := (i64_w _).symm.trans hji12_
           have hji12x : x21_2 ≤ 64 → (wrap64 (1 * 2 ^ x21_2.toNat)) = ji12 := fun h_ => (i64_w _).symm.trans (hji12z h_)
           by_cases c13 : 0 ≤ x26_3
           ·rw [if_pos c13] at H
            have c13b0 := eq_true c13
            have c13b1 : decide (0 ≤ x26_3) = true := decide_eq_true c13
            clear c13
            obtain ⟨ji14, hji14⟩ : ∃ j_ : Int, (shl .i64 1 x26_3) = j_ := ⟨_, rfl⟩
            replace H : ((lampblackref02_Connected.f k3 l0 (Go.bits .andNot .i64 (Go.bits .andNot .i64 (wrap64 ((ji10) - 1)) (ji12)) (ji14))).bind fun t173 => (if t173 = true then (lampblacklaw07_MinorWheels.l1 k3 l0 x21_2 (l0.length : Int) x21_2 (l0.length : Int) (wrap64 (x26_3 + 1))) else ((lampblacklaw07_awake.f k3).bind fun t174 => (some t174)))) = some r := by first | (rw [hji14] at H; exact H) | (simp only [hji14] at H ⊢; exact H)
            have hji14_ : (IntKind.i64.wrap (1 * 2 ^ min x26_3.toNat 64)) = ji14 := hji14
            have hji14z : x26_3 ≤ 64 → (IntKind.i64.wrap (1 * 2 ^ x26_3.toNat)) = ji14 := shl_small hji14
            have hji14u : (IntKind.i64.wrap (2 ^ min x26_3.toNat 64)) = ji14 := by have h_ := hji14_; rw [Int.one_mul] at h_; exact h_
            have hji14v : x26_3 ≤ 64 → (IntKind.i64.wrap (2 ^ x26_3.toNat)) = ji14 := fun hle_ => by have h_ := hji14z hle_; rw [Int.one_mul] at h_; exact h_
            have hji14y : (wrap64 (1 * 2 ^ min x26_3.toNat 64)) = ji14 := (i64_w _).symm.trans hji14_
            have hji14x : x26_3 ≤ 64 → (wrap64 (1 * 2 ^ x26_3.toNat)) = ji14 := fun h_ => (i64_w _).symm.trans (hji14z h_)
            replace H := Option.bind_eq_some_iff.mp H
            obtain ⟨t173, A150, H⟩ := H
            replace H : (if t173 = true then (lampblacklaw07_MinorWheels.l1 k3 l0 x21_2 (l0.length : Int) x21_2 (l0.length : Int) (wrap64 (x26_3 + 1))) else ((lampblacklaw07_awake.f k3).bind fun t174 => (some t174))) = some r := H
            have A15 := Aside0.mk A150
            clear A150
            by_cases c16 : t173 = true
            ·subst c16
             have H1 : (lampblacklaw07_MinorWheels.l1 k3 l0 x21_2 (l0.length : Int) x21_2 (l0.length : Int) (wrap64 (x26_3 + 1))) = some r := by rw [if_pos rfl] at H; exact H
             clear H
             have H := H1
             clear H1
             have H' := Aside0.mk H
             clear H
             go_wp2_with (first | (go_at_call 18; (with_reducible refine (lampblackref02_Connected.calls k3 _ _ l0 (Go.bits .andNot .i64 (Go.bits .andNot .i64 (wrap64 ((ji10) - 1)) (ji12)) (ji14)) true _ ?side1 ?side2 A15.out).mono ?_); (case side1 => exact Qsc (Kd.C_below HR0.out HB.out)); (case side2 => exact HC0.out); rintro e w' ⟨rfl, ⟨nd, rfl⟩⟩; (try first | exact ⟨rfl, _, World.drewN_drewN _ _ _⟩ | exact ⟨rfl, _, Eq.trans (World.drewN_drewN _ _ _) (congrArg (World.drewN _) (Nat.add_assoc _ _ _))⟩)))
             repeat (go_quiet (first | (go_at_call 18; (with_reducible refine (lampblackref02_Connected.calls k3 _ _ l0 (Go.bits .andNot .i64 (Go.bits .andNot .i64 (wrap64 ((ji10) - 1)) (ji12)) (ji14)) true _ ?side1 ?side2 A15.out).mono ?_); (case side1 => exact Qsc (Kd.C_below HR0.out HB.out)); (case side2 => exact HC0.out); rintro e w' ⟨rfl, ⟨nd, rfl⟩⟩; (try first | exact ⟨rfl, _, World.drewN_drewN _ _ _⟩ | exact ⟨rfl, _, Eq.trans (World.drewN_drewN _ _ _) (congrArg (World.drewN _) (Nat.add_assoc _ _ _))⟩))); try go_wp2_with (first | (go_at_call 18; (with_reducible refine (lampblackref02_Connected.calls k3 _ _ l0 (Go.bits .andNot .i64 (Go.bits .andNot .i64 (wrap64 ((ji10) - 1)) (ji12)) (ji14)) true _ ?side1 ?side2 A15.out).mono ?_); (case side1 => exact Qsc (Kd.C_below HR0.out HB.out)); (case side2 => exact HC0.out); rintro e w' ⟨rfl, ⟨nd, rfl⟩⟩; (try first | exact ⟨rfl, _, World.drewN_drewN _ _ _⟩ | exact ⟨rfl, _, Eq.trans (World.drewN_drewN _ _ _) (congrArg (World.drewN _) (Nat.add_assoc _ _ _))⟩))))
             go_roundg k3
             case measure => have := HJ1.out; have := HK2.out; have := HK3.out; omega
             case rel => exact ⟨(wrap64 (x26_3 + 1)), (by first | rfl | (simp; done) | (simp [*]; done)), H', ⟨by have := HJ1.out; have := HK2.out; have := HK3.out; omega⟩, ⟨by repeat (first | (with_reducible first | exact HB.out | apply below_alloc | apply pw_below_drewN | apply below_drew1) | exact HB.out)⟩⟩
            ·replace c16 := Bool.eq_false_iff.mpr c16
             subst c16
             have H1 : ((lampblacklaw07_awake.f k3).bind fun t174 => (some t174)) = some r := by rw [if_neg (show ¬ (false = true) by decide)] at H; exact H
             clear H
             have H := H1
             clear H1
             replace H := Option.bind_eq_some_iff.mp H
             obtain ⟨t174, A170, H⟩ := H
             replace H : (some t174) = some r := H
             have A17 := Aside0.mk A170
             clear A170
             obtain rfl := Option.some.inj H
             go_wp2_with (first | (go_at_call 18; (with_reducible refine (lampblackref02_Connected.calls k3 _ _ l0 (Go.bits .andNot .i64 (Go.bits .andNot .i64 (wrap64 ((ji10) - 1)) (ji12)) (ji14)) false _ ?side1 ?side2 A15.out).mono ?_); (case side1 => exact Qsc (Kd.C_below HR0.out HB.out)); (case side2 => exact HC0.out); rintro e w' ⟨rfl, ⟨nd, rfl⟩⟩; (try first | exact ⟨rfl, _, World.drewN_drewN _ _ _⟩ | exact ⟨rfl, _, Eq.trans (World.drewN_drewN _ _ _) (congrArg (World.drewN _) (Nat.add_assoc _ _ _))⟩)) | (go_at_call 17; (with_reducible refine (lampblacklaw07_awake.calls (hGL := (Qlg)) k3  t174 _ A17.out).mono ?_); rintro e w18 ⟨rfl, hb⟩; have n0_ := Aside0.mk (below_step (Qaw) hb); clear HB; have HB := n0_; clear n0_; (try clear hb); (try clear hb2); (try clear hk); (try clear hi)))
             repeat (go_quiet (first | (go_at_call 18; (with_reducible refine (lampblackref02_Connected.calls k3 _ _ l0 (Go.bits .andNot .i64 (Go.bits .andNot .i64 (wrap64 ((ji10) - 1)) (ji12)) (ji14)) false _ ?side1 ?side2 A15.out).mono ?_); (case side1 => exact Qsc (Kd.C_below HR0.out HB.out)); (case side2 => exact HC0.out); rintro e w' ⟨rfl, ⟨nd, rfl⟩⟩; (try first | exact ⟨rfl, _, World.drewN_drewN _ _ _⟩ | exact ⟨rfl, _, Eq.trans (World.drewN_drewN _ _ _) (congrArg (World.drewN _) (Nat.add_assoc _ _ _))⟩)) | (go_at_call 17; (with_reducible refine (lampblacklaw07_awake.calls (hGL := (Qlg)) k3  t174 _ A17.out).mono ?_); rintro e w18 ⟨rfl, hb⟩; have n0_ := Aside0.mk (below_step (Qaw) hb); clear HB; have HB := n0_; clear n0_; (try clear hb); (try clear hb2); (try clear hk); (try clear hi))); try go_wp2_with (first | (go_at_call 18; (with_reducible refine (lampblackref02_Connected.calls k3 _ _ l0 (Go.bits .andNot .i64 (Go.bits .andNot .i64 (wrap64 ((ji10) - 1)) (ji12)) (ji14)) false _ ?side1 ?side2 A15.out).mono ?_); (case side1 => exact Qsc (Kd.C_below HR0.out HB.out)); (case side2 => exact HC0.out); rintro e w' ⟨rfl, ⟨nd, rfl⟩⟩; (try first | exact ⟨rfl, _, World.drewN_drewN _ _ _⟩ | exact ⟨rfl, _, Eq.trans (World.drewN_drewN _ _ _) (congrArg (World.drewN _) (Nat.add_assoc _ _ _))⟩)) | (go_at_call 17; (with_reducible refine (lampblacklaw07_awake.calls (hGL := (Qlg)) k3  t174 _ A17.out).mono ?_); rintro e w18 ⟨rfl, hb⟩; have n0_ := Aside0.mk (below_step (Qaw) hb); clear HB; have HB := n0_; clear n0_; (try clear hb); (try clear hb2); (try clear hk); (try clear hi))))
             go_ret
             exact ⟨by first | rfl | (simp [errW_none, errW_some] <;> rfl) | (simp only [← hji10, ← hji12, ← hji14]; first | rfl | (simp [errW_none, errW_some] <;> rfl)) | (simp [*, errW_none, errW_some] <;> rfl), by repeat (first | (with_reducible first | exact HB.out | apply below_alloc | apply pw_below_drewN | apply below_drew1) | exact HB.out)⟩
           ·rw [if_neg c13] at H
            exact absurd H (by simp)
          ·rw [if_neg c11] at H
           exact absurd H (by simp)
         ·rw [if_neg c9] at H
          have c9b0 : decide (x26_3 < (l0.length : Int)) = false := decide_eq_false c9
          clear c9
          have H' := Aside0.mk H
          clear H
          go_wp2
          repeat (go_quiet (fail); try go_wp2)
          go_roundg k3
          case measure => have := HJ1.out; have := HK2.out; have := HK3.out; omega
          case rel => exact ⟨(wrap64 (x21_2 + 1)), (by first | rfl | (simp; done) | (simp [*]; done)), H', ⟨by have := HJ1.out; have := HK2.out; have := HK3.out; omega⟩, ⟨by repeat (first | (with_reducible first | exact HB.out | apply below_alloc | apply pw_below_drewN | apply below_drew1) | exact HB.out)⟩⟩
      ·rw [if_neg c8] at H
       have c8b0 : decide (x21_2 < (l0.length : Int)) = false := decide_eq_false c8
       clear c8
       obtain ⟨ji19, hji19⟩ : ∃ j_ : Int, (shl .i64 1 (l0.length : Int)) = j_ := ⟨_, rfl⟩
       replace H : ((lampblackref02_Connected.f k2 l0 (wrap64 ((ji19) - 1))).bind fun t175 => (if t175 = true then ((minor_W.f k2 3).bind fun bt176 => ((lampblacklaw07_has.f l0 bt176.1).bind fun bt180 => (if bt176.2 = 0 then (if bt180.1 = true then (if bt180.2 = true then ((lampblacklaw07_awake.f k2).bind fun t182 => (some t182)) else (some false)) else (some false)) else (some false)))) else ((lampblacklaw07_awake.f k2).bind fun t183 => (some t183)))) = some r := by first | (rw [hji19] at H; exact H) | (simp only [hji19] at H ⊢; exact H)
       have hji19_ : (IntKind.i64.wrap (1 * 2 ^ min (l0.length : Int).toNat 64)) = ji19 := hji19
       have hji19z : (l0.length : Int) ≤ 64 → (IntKind.i64.wrap (1 * 2 ^ (l0.length : Int).toNat)) = ji19 := shl_small hji19
       have hji19p : (IntKind.i64.wrap (1 * 2 ^ min l0.length 64)) = ji19 := hji19_
       have hji19q : (l0.length : Int) ≤ 64 → (IntKind.i64.wrap (1 * 2 ^ l0.length)) = ji19 := hji19z
       have hji19r : (IntKind.i64.wrap (2 ^ min l0.length 64)) = ji19 := by have h_ := hji19p; rw [Int.one_mul] at h_; exact h_
       have hji19s : (l0.length : Int) ≤ 64 → (IntKind.i64.wrap (2 ^ l0.length)) = ji19 := fun hle_ => by have h_ := hji19q hle_; rw [Int.one_mul] at h_; exact h_
       have hji19u : (IntKind.i64.wrap (2 ^ min (l0.length : Int).toNat 64)) = ji19 := by have h_ := hji19_; rw [Int.one_mul] at h_; exact h_
       have hji19v : (l0.length : Int) ≤ 64 → (IntKind.i64.wrap (2 ^ (l0.length : Int).toNat)) = ji19 := fun hle_ => by have h_ := hji19z hle_; rw [Int.one_mul] at h_; exact h_
       have hji19y : (wrap64 (1 * 2 ^ min (l0.length : Int).toNat 64)) = ji19 := (i64_w _).symm.trans hji19_
       have hji19x : (l0.length : Int) ≤ 64 → (wrap64 (1 * 2 ^ (l0.length : Int).toNat)) = ji19 := fun h_ => (i64_w _).symm.trans (hji19z h_)
       replace H := Option.bind_eq_some_iff.mp H
       obtain ⟨t175, A200, H⟩ := H
       replace H : (if t175 = true then ((minor_W.f k2 3).bind fun bt176 => ((lampblacklaw07_has.f l0 bt176.1).bind fun bt180 => (if bt176.2 = 0 then (if bt180.1 = true then (if bt180.2 = true then ((lampblacklaw07_awake.f k2).bind fun t182 => (some t182)) else (some false)) else (some false)) else (some false)))) else ((lampblacklaw07_awake.f k2).bind fun t183 => (some t183))) = some r := H
       have A20 := Aside0.mk A200
       clear A200
       by_cases c21 : t175 = true
       ·subst c21
        have H1 : ((minor_W.f k2 3).bind fun bt176 => ((lampblacklaw07_has.f l0 bt176.1).bind fun bt180 => (if bt176.2 = 0 then (if bt180.1 = true then (if bt180.2 = true then ((lampblacklaw07_awake.f k2).bind fun t182 => (some t182)) else (some false)) else (some false)) else (some false)))) = some r := by rw [if_pos rfl] at H; exact H
        clear H
        have H := H1
        clear H1
        replace H := Option.bind_eq_some_iff.mp H
        obtain ⟨⟨t176, t177⟩, A220, H⟩ := H
        replace H : ((lampblacklaw07_has.f l0 t176).bind fun bt180 => (if t177 = 0 then (if bt180.1 = true then (if bt180.2 = true then ((lampblacklaw07_awake.f k2).bind fun t182 => (some t182)) else (some false)) else (some false)) else (some false))) = some r := H
        have A22 := Aside0.mk A220
        clear A220
        replace H := Option.bind_eq_some_iff.mp H
        obtain ⟨⟨t180, t181⟩, A230, H⟩ := H
        replace H : (if t177 = 0 then (if t180 = true then (if t181 = true then ((lampblacklaw07_awake.f k2).bind fun t182 => (some t182)) else (some false)) else (some false)) else (some false)) = some r := H
        have A23 := Aside0.mk A230
        clear A230
        by_cases c24 : t177 = 0
        ·rw [if_pos c24] at H
         have c24b0 : (t177 == 0) = true := beq_iff_eq.mpr c24
         have c24b1 : (t177 != 0) = false := bne_eq_false_iff_eq.mpr c24
         clear c24
         by_cases c25 : t180 = true
         ·subst c25
          have H1 : (if t181 = true then ((lampblacklaw07_awake.f k2).bind fun t182 => (some t182)) else (some false)) = some r := by rw [if_pos rfl] at H; exact H
          clear H
          have H := H1
          clear H1
          by_cases c26 : t181 = true
          ·subst c26
           have H1 : ((lampblacklaw07_awake.f k2).bind fun t182 => (some t182)) = some r := by rw [if_pos rfl] at H; exact H
           clear H
           have H := H1
           clear H1
           replace H := Option.bind_eq_some_iff.mp H
           obtain ⟨t182, A270, H⟩ := H
           replace H : (some t182) = some r := H
           have A27 := Aside0.mk A270
           clear A270
           obtain rfl := Option.some.inj H
           go_wp2_with (first | (go_at_call 18; (with_reducible refine (lampblackref02_Connected.calls k2 _ _ l0 (wrap64 ((ji19) - 1)) true _ ?side1 ?side2 A20.out).mono ?_); (case side1 => exact Qsc (Kd.C_below HR0.out HB.out)); (case side2 => exact HC0.out); rintro e w' ⟨rfl, ⟨nd, rfl⟩⟩; (try first | exact ⟨rfl, _, World.drewN_drewN _ _ _⟩ | exact ⟨rfl, _, Eq.trans (World.drewN_drewN _ _ _) (congrArg (World.drewN _) (Nat.add_assoc _ _ _))⟩)) | (go_at_call 19; (with_reducible refine (minor_W.calls k2 3 t176 t177 _ A22.out).mono ?_); rintro e w28 ⟨v178, rfl, ho0, hb⟩; have n0_ := Aside0.mk (Kd.R_lower ho0 (below_size (Qaw))); have n1_ := Aside0.mk (below_step (Qaw) hb); clear HB; have HO179 := n0_; have HB := n1_; clear n0_ n1_; (try clear hb); (try clear hb2); (try clear hk); (try clear hi); (try clear ho0); obtain ⟨Ao29, co29, eo29⟩ := Kd.R_slice HO179.out; subst eo29) | (go_at_call 20; (with_reducible refine (lampblacklaw07_has.calls (hGL := (Qlg)) _ _ l0 _ _ t176 true true _ ?side1 ?side2 ?side3 ?side4 A23.out).mono ?_); (case side1 => exact Qsc (Kd.C_below HR0.out HB.out)); (case side2 => exact HC0.out); (case side3 => exact Qsc (Kd.R_reads' HO179.out).2.2); (case side4 => exact (Kd.R_reads' HO179.out).2.1); rintro e w30 ⟨rfl, hb⟩; have n0_ := Aside0.mk (Kd.R_below (Qro HO179.out) hb); have n1_ := Aside0.mk (below_step (Qaw) hb); clear HO179; clear HB; have HO179 := n0_; have HB := n1_; clear n0_ n1_; (try clear hb); (try clear hb2); (try clear hk); (try clear hi)) | (go_at_call 17; (with_reducible refine (lampblacklaw07_awake.calls (hGL := (Qlg)) k2  t182 _ A27.out).mono ?_); rintro e w31 ⟨rfl, hb⟩; have n0_ := Aside0.mk (Kd.R_below (Qro HO179.out) hb); have n1_ := Aside0.mk (below_step (Qaw) hb); clear HO179; clear HB; have HO179 := n0_; have HB := n1_; clear n0_ n1_; (try clear hb); (try clear hb2); (try clear hk); (try clear hi)))
           repeat (go_quiet (first | (go_at_call 18; (with_reducible refine (lampblackref02_Connected.calls k2 _ _ l0 (wrap64 ((ji19) - 1)) true _ ?side1 ?side2 A20.out).mono ?_); (case side1 => exact Qsc (Kd.C_below HR0.out HB.out)); (case side2 => exact HC0.out); rintro e w' ⟨rfl, ⟨nd, rfl⟩⟩; (try first | exact ⟨rfl, _, World.drewN_drewN _ _ _⟩ | exact ⟨rfl, _, Eq.trans (World.drewN_drewN _ _ _) (congrArg (World.drewN _) (Nat.add_assoc _ _ _))⟩)) | (go_at_call 19; (with_reducible refine (minor_W.calls k2 3 t176 t177 _ A22.out).mono ?_); rintro e w28 ⟨v178, rfl, ho0, hb⟩; have n0_ := Aside0.mk (Kd.R_lower ho0 (below_size (Qaw))); have n1_ := Aside0.mk (below_step (Qaw) hb); clear HB; have HO179 := n0_; have HB := n1_; clear n0_ n1_; (try clear hb); (try clear hb2); (try clear hk); (try clear hi); (try clear ho0); obtain ⟨Ao29, co29, eo29⟩ := Kd.R_slice HO179.out; subst eo29) | (go_at_call 20; (with_reducible refine (lampblacklaw07_has.calls (hGL := (Qlg)) _ _ l0 _ _ t176 true true _ ?side1 ?side2 ?side3 ?side4 A23.out).mono ?_); (case side1 => exact Qsc (Kd.C_below HR0.out HB.out)); (case side2 => exact HC0.out); (case side3 => exact Qsc (Kd.R_reads' HO179.out).2.2); (case side4 => exact (Kd.R_reads' HO179.out).2.1); rintro e w30 ⟨rfl, hb⟩; have n0_ := Aside0.mk (Kd.R_below (Qro HO179.out) hb); have n1_ := Aside0.mk (below_step (Qaw) hb); clear HO179; clear HB; have HO179 := n0_; have HB := n1_; clear n0_ n1_; (try clear hb); (try clear hb2); (try clear hk); (try clear hi)) | (go_at_call 17; (with_reducible refine (lampblacklaw07_awake.calls (hGL := (Qlg)) k2  t182 _ A27.out).mono ?_); rintro e w31 ⟨rfl, hb⟩; have n0_ := Aside0.mk (Kd.R_below (Qro HO179.out) hb); have n1_ := Aside0.mk (below_step (Qaw) hb); clear HO179; clear HB; have HO179 := n0_; have HB := n1_; clear n0_ n1_; (try clear hb); (try clear hb2); (try clear hk); (try clear hi))); try go_wp2_with (first | (go_at_call 18; (with_reducible refine (lampblackref02_Connected.calls k2 _ _ l0 (wrap64 ((ji19) - 1)) true _ ?side1 ?side2 A20.out).mono ?_); (case side1 => exact Qsc (Kd.C_below HR0.out HB.out)); (case side2 => exact HC0.out); rintro e w' ⟨rfl, ⟨nd, rfl⟩⟩; (try first | exact ⟨rfl, _, World.drewN_drewN _ _ _⟩ | exact ⟨rfl, _, Eq.trans (World.drewN_drewN _ _ _) (congrArg (World.drewN _) (Nat.add_assoc _ _ _))⟩)) | (go_at_call 19; (with_reducible refine (minor_W.calls k2 3 t176 t177 _ A22.out).mono ?_); rintro e w28 ⟨v178, rfl, ho0, hb⟩; have n0_ := Aside0.mk (Kd.R_lower ho0 (below_size (Qaw))); have n1_ := Aside0.mk (below_step (Qaw) hb); clear HB; have HO179 := n0_; have HB := n1_; clear n0_ n1_; (try clear hb); (try clear hb2); (try clear hk); (try clear hi); (try clear ho0); obtain ⟨Ao29, co29, eo29⟩ := Kd.R_slice HO179.out; subst eo29) | (go_at_call 20; (with_reducible refine (lampblacklaw07_has.calls (hGL := (Qlg)) _ _ l0 _ _ t176 true true _ ?side1 ?side2 ?side3 ?side4 A23.out).mono ?_); (case side1 => exact Qsc (Kd.C_below HR0.out HB.out)); (case side2 => exact HC0.out); (case side3 => exact Qsc (Kd.R_reads' HO179.out).2.2); (case side4 => exact (Kd.R_reads' HO179.out).2.1); rintro e w30 ⟨rfl, hb⟩; have n0_ := Aside0.mk (Kd.R_below (Qro HO179.out) hb); have n1_ := Aside0.mk (below_step (Qaw) hb); clear HO179; clear HB; have HO179 := n0_; have HB := n1_; clear n0_ n1_; (try clear hb); (try clear hb2); (try clear hk); (try clear hi)) | (go_at_call 17; (with_reducible refine (lampblacklaw07_awake.calls (hGL := (Qlg)) k2  t182 _ A27.out).mono ?_); rintro e w31 ⟨rfl, hb⟩; have n0_ := Aside0.mk (Kd.R_below (Qro HO179.out) hb); have n1_ := Aside0.mk (below_step (Qaw) hb); clear HO179; clear HB; have HO179 := n0_; have HB := n1_; clear n0_ n1_; (try clear hb); (try clear hb2); (try clear hk); (try clear hi))))
           go_ret
           exact ⟨by first | rfl | (simp [errW_none, errW_some] <;> rfl) | (simp only [← hji19]; first | rfl | (simp [errW_none, errW_some] <;> rfl)) | (simp [*, errW_none, errW_some] <;> rfl), by repeat (first | (with_reducible first | exact HB.out | apply below_alloc | apply pw_below_drewN | apply below_drew1) | exact HB.out)⟩
          ·replace c26 := Bool.eq_false_iff.mpr c26
           subst c26
           have H1 : (some false) = some r := by rw [if_neg (show ¬ (false = true) by decide)] at H; exact H
           clear H
           have H := H1
           clear H1
           obtain rfl := Option.some.inj H
           go_wp2_with (first | (go_at_call 18; (with_reducible refine (lampblackref02_Connected.calls k2 _ _ l0 (wrap64 ((ji19) - 1)) true _ ?side1 ?side2 A20.out).mono ?_); (case side1 => exact Qsc (Kd.C_below HR0.out HB.out)); (case side2 => exact HC0.out); rintro e w' ⟨rfl, ⟨nd, rfl⟩⟩; (try first | exact ⟨rfl, _, World.drewN_drewN _ _ _⟩ | exact ⟨rfl, _, Eq.trans (World.drewN_drewN _ _ _) (congrArg (World.drewN _) (Nat.add_assoc _ _ _))⟩)) | (go_at_call 19; (with_reducible refine (minor_W.calls k2 3 t176 t177 _ A22.out).mono ?_); rintro e w32 ⟨v178, rfl, ho0, hb⟩; have n0_ := Aside0.mk (Kd.R_lower ho0 (below_size (Qaw))); have n1_ := Aside0.mk (below_step (Qaw) hb); clear HB; have HO179 := n0_; have HB := n1_; clear n0_ n1_; (try clear hb); (try clear hb2); (try clear hk); (try clear hi); (try clear ho0); obtain ⟨Ao33, co33, eo33⟩ := Kd.R_slice HO179.out; subst eo33) | (go_at_call 20; (with_reducible refine (lampblacklaw07_has.calls (hGL := (Qlg)) _ _ l0 _ _ t176 true false _ ?side1 ?side2 ?side3 ?side4 A23.out).mono ?_); (case side1 => exact Qsc (Kd.C_below HR0.out HB.out)); (case side2 => exact HC0.out); (case side3 => exact Qsc (Kd.R_reads' HO179.out).2.2); (case side4 => exact (Kd.R_reads' HO179.out).2.1); rintro e w34 ⟨rfl, hb⟩; have n0_ := Aside0.mk (Kd.R_below (Qro HO179.out) hb); have n1_ := Aside0.mk (below_step (Qaw) hb); clear HO179; clear HB; have HO179 := n0_; have HB := n1_; clear n0_ n1_; (try clear hb); (try clear hb2); (try clear hk); (try clear hi)))
           repeat (go_quiet (first | (go_at_call 18; (with_reducible refine (lampblackref02_Connected.calls k2 _ _ l0 (wrap64 ((ji19) - 1)) true _ ?side1 ?side2 A20.out).mono ?_); (case side1 => exact Qsc (Kd.C_below HR0.out HB.out)); (case side2 => exact HC0.out); rintro e w' ⟨rfl, ⟨nd, rfl⟩⟩; (try first | exact ⟨rfl, _, World.drewN_drewN _ _ _⟩ | exact ⟨rfl, _, Eq.trans (World.drewN_drewN _ _ _) (congrArg (World.drewN _) (Nat.add_assoc _ _ _))⟩)) | (go_at_call 19; (with_reducible refine (minor_W.calls k2 3 t176 t177 _ A22.out).mono ?_); rintro e w32 ⟨v178, rfl, ho0, hb⟩; have n0_ := Aside0.mk (Kd.R_lower ho0 (below_size (Qaw))); have n1_ := Aside0.mk (below_step (Qaw) hb); clear HB; have HO179 := n0_; have HB := n1_; clear n0_ n1_; (try clear hb); (try clear hb2); (try clear hk); (try clear hi); (try clear ho0); obtain ⟨Ao33, co33, eo33⟩ := Kd.R_slice HO179.out; subst eo33) | (go_at_call 20; (with_reducible refine (lampblacklaw07_has.calls (hGL := (Qlg)) _ _ l0 _ _ t176 true false _ ?side1 ?side2 ?side3 ?side4 A23.out).mono ?_); (case side1 => exact Qsc (Kd.C_below HR0.out HB.out)); (case side2 => exact HC0.out); (case side3 => exact Qsc (Kd.R_reads' HO179.out).2.2); (case side4 => exact (Kd.R_reads' HO179.out).2.1); rintro e w34 ⟨rfl, hb⟩; have n0_ := Aside0.mk (Kd.R_below (Qro HO179.out) hb); have n1_ := Aside0.mk (below_step (Qaw) hb); clear HO179; clear HB; have HO179 := n0_; have HB := n1_; clear n0_ n1_; (try clear hb); (try clear hb2); (try clear hk); (try clear hi))); try go_wp2_with (first | (go_at_call 18; (with_reducible refine (lampblackref02_Connected.calls k2 _ _ l0 (wrap64 ((ji19) - 1)) true _ ?side1 ?side2 A20.out).mono ?_); (case side1 => exact Qsc (Kd.C_below HR0.out HB.out)); (case side2 => exact HC0.out); rintro e w' ⟨rfl, ⟨nd, rfl⟩⟩; (try first | exact ⟨rfl, _, World.drewN_drewN _ _ _⟩ | exact ⟨rfl, _, Eq.trans (World.drewN_drewN _ _ _) (congrArg (World.drewN _) (Nat.add_assoc _ _ _))⟩)) | (go_at_call 19; (with_reducible refine (minor_W.calls k2 3 t176 t177 _ A22.out).mono ?_); rintro e w32 ⟨v178, rfl, ho0, hb⟩; have n0_ := Aside0.mk (Kd.R_lower ho0 (below_size (Qaw))); have n1_ := Aside0.mk (below_step (Qaw) hb); clear HB; have HO179 := n0_; have HB := n1_; clear n0_ n1_; (try clear hb); (try clear hb2); (try clear hk); (try clear hi); (try clear ho0); obtain ⟨Ao33, co33, eo33⟩ := Kd.R_slice HO179.out; subst eo33) | (go_at_call 20; (with_reducible refine (lampblacklaw07_has.calls (hGL := (Qlg)) _ _ l0 _ _ t176 true false _ ?side1 ?side2 ?side3 ?side4 A23.out).mono ?_); (case side1 => exact Qsc (Kd.C_below HR0.out HB.out)); (case side2 => exact HC0.out); (case side3 => exact Qsc (Kd.R_reads' HO179.out).2.2); (case side4 => exact (Kd.R_reads' HO179.out).2.1); rintro e w34 ⟨rfl, hb⟩; have n0_ := Aside0.mk (Kd.R_below (Qro HO179.out) hb); have n1_ := Aside0.mk (below_step (Qaw) hb); clear HO179; clear HB; have HO179 := n0_; have HB := n1_; clear n0_ n1_; (try clear hb); (try clear hb2); (try clear hk); (try clear hi))))
           go_ret
           exact ⟨by first | rfl | (simp [errW_none, errW_some] <;> rfl) | (simp only [← hji19]; first | rfl | (simp [errW_none, errW_some] <;> rfl)) | (simp [*, errW_none, errW_some] <;> rfl), by repeat (first | (with_reducible first | exact HB.out | apply below_alloc | apply pw_below_drewN | apply below_drew1) | exact HB.out)⟩
         ·replace c25 := Bool.eq_false_iff.mpr c25
          subst c25
          have H1 : (some false) = some r := by rw [if_neg (show ¬ (false = true) by decide)] at H; exact H
          clear H
          have H := H1
          clear H1
          obtain rfl := Option.some.inj H
          go_wp2_with (first | (go_at_call 18; (with_reducible refine (lampblackref02_Connected.calls k2 _ _ l0 (wrap64 ((ji19) - 1)) true _ ?side1 ?side2 A20.out).mono ?_); (case side1 => exact Qsc (Kd.C_below HR0.out HB.out)); (case side2 => exact HC0.out); rintro e w' ⟨rfl, ⟨nd, rfl⟩⟩; (try first | exact ⟨rfl, _, World.drewN_drewN _ _ _⟩ | exact ⟨rfl, _, Eq.trans (World.drewN_drewN _ _ _) (congrArg (World.drewN _) (Nat.add_assoc _ _ _))⟩)) | (go_at_call 19; (with_reducible refine (minor_W.calls k2 3 t176 t177 _ A22.out).mono ?_); rintro e w35 ⟨v178, rfl, ho0, hb⟩; have n0_ := Aside0.mk (Kd.R_lower ho0 (below_size (Qaw))); have n1_ := Aside0.mk (below_step (Qaw) hb); clear HB; have HO179 := n0_; have HB := n1_; clear n0_ n1_; (try clear hb); (try clear hb2); (try clear hk); (try clear hi); (try clear ho0); obtain ⟨Ao36, co36, eo36⟩ := Kd.R_slice HO179.out; subst eo36) | (go_at_call 20; (with_reducible refine (lampblacklaw07_has.calls (hGL := (Qlg)) _ _ l0 _ _ t176 false t181 _ ?side1 ?side2 ?side3 ?side4 A23.out).mono ?_); (case side1 => exact Qsc (Kd.C_below HR0.out HB.out)); (case side2 => exact HC0.out); (case side3 => exact Qsc (Kd.R_reads' HO179.out).2.2); (case side4 => exact (Kd.R_reads' HO179.out).2.1); rintro e w37 ⟨rfl, hb⟩; have n0_ := Aside0.mk (Kd.R_below (Qro HO179.out) hb); have n1_ := Aside0.mk (below_step (Qaw) hb); clear HO179; clear HB; have HO179 := n0_; have HB := n1_; clear n0_ n1_; (try clear hb); (try clear hb2); (try clear hk); (try clear hi)))
          repeat (go_quiet (first | (go_at_call 18; (with_reducible refine (lampblackref02_Connected.calls k2 _ _ l0 (wrap64 ((ji19) - 1)) true _ ?side1 ?side2 A20.out).mono ?_); (case side1 => exact Qsc (Kd.C_below HR0.out HB.out)); (case side2 => exact HC0.out); rintro e w' ⟨rfl, ⟨nd, rfl⟩⟩; (try first | exact ⟨rfl, _, World.drewN_drewN _ _ _⟩ | exact ⟨rfl, _, Eq.trans (World.drewN_drewN _ _ _) (congrArg (World.drewN _) (Nat.add_assoc _ _ _))⟩)) | (go_at_call 19; (with_reducible refine (minor_W.calls k2 3 t176 t177 _ A22.out).mono ?_); rintro e w35 ⟨v178, rfl, ho0, hb⟩; have n0_ := Aside0.mk (Kd.R_lower ho0 (below_size (Qaw))); have n1_ := Aside0.mk (below_step (Qaw) hb); clear HB; have HO179 := n0_; have HB := n1_; clear n0_ n1_; (try clear hb); (try clear hb2); (try clear hk); (try clear hi); (try clear ho0); obtain ⟨Ao36, co36, eo36⟩ := Kd.R_slice HO179.out; subst eo36) | (go_at_call 20; (with_reducible refine (lampblacklaw07_has.calls (hGL := (Qlg)) _ _ l0 _ _ t176 false t181 _ ?side1 ?side2 ?side3 ?side4 A23.out).mono ?_); (case side1 => exact Qsc (Kd.C_below HR0.out HB.out)); (case side2 => exact HC0.out); (case side3 => exact Qsc (Kd.R_reads' HO179.out).2.2); (case side4 => exact (Kd.R_reads' HO179.out).2.1); rintro e w37 ⟨rfl, hb⟩; have n0_ := Aside0.mk (Kd.R_below (Qro HO179.out) hb); have n1_ := Aside0.mk (below_step (Qaw) hb); clear HO179; clear HB; have HO179 := n0_; have HB := n1_; clear n0_ n1_; (try clear hb); (try clear hb2); (try clear hk); (try clear hi))); try go_wp2_with (first | (go_at_call 18; (with_reducible refine (lampblackref02_Connected.calls k2 _ _ l0 (wrap64 ((ji19) - 1)) true _ ?side1 ?side2 A20.out).mono ?_); (case side1 => exact Qsc (Kd.C_below HR0.out HB.out)); (case side2 => exact HC0.out); rintro e w' ⟨rfl, ⟨nd, rfl⟩⟩; (try first | exact ⟨rfl, _, World.drewN_drewN _ _ _⟩ | exact ⟨rfl, _, Eq.trans (World.drewN_drewN _ _ _) (congrArg (World.drewN _) (Nat.add_assoc _ _ _))⟩)) | (go_at_call 19; (with_reducible refine (minor_W.calls k2 3 t176 t177 _ A22.out).mono ?_); rintro e w35 ⟨v178, rfl, ho0, hb⟩; have n0_ := Aside0.mk (Kd.R_lower ho0 (below_size (Qaw))); have n1_ := Aside0.mk (below_step (Qaw) hb); clear HB; have HO179 := n0_; have HB := n1_; clear n0_ n1_; (try clear hb); (try clear hb2); (try clear hk); (try clear hi); (try clear ho0); obtain ⟨Ao36, co36, eo36⟩ := Kd.R_slice HO179.out; subst eo36) | (go_at_call 20; (with_reducible refine (lampblacklaw07_has.calls (hGL := (Qlg)) _ _ l0 _ _ t176 false t181 _ ?side1 ?side2 ?side3 ?side4 A23.out).mono ?_); (case side1 => exact Qsc (Kd.C_below HR0.out HB.out)); (case side2 => exact HC0.out); (case side3 => exact Qsc (Kd.R_reads' HO179.out).2.2); (case side4 => exact (Kd.R_reads' HO179.out).2.1); rintro e w37 ⟨rfl, hb⟩; have n0_ := Aside0.mk (Kd.R_below (Qro HO179.out) hb); have n1_ := Aside0.mk (below_step (Qaw) hb); clear HO179; clear HB; have HO179 := n0_; have HB := n1_; clear n0_ n1_; (try clear hb); (try clear hb2); (try clear hk); (try clear hi))))
          go_ret
          exact ⟨by first | rfl | (simp [errW_none, errW_some] <;> rfl) | (simp only [← hji19]; first | rfl | (simp [errW_none, errW_some] <;> rfl)) | (simp [*, errW_none, errW_some] <;> rfl), by repeat (first | (with_reducible first | exact HB.out | apply below_alloc | apply pw_below_drewN | apply below_drew1) | exact HB.out)⟩
        ·rw [if_neg c24] at H
         have c24b0 : (t177 == 0) = false := beq_eq_false_iff_ne.mpr c24
         have c24b1 : (t177 != 0) = true := bne_iff_ne.mpr c24
         obtain rfl := Option.some.inj H
         go_wp2_with (first | (go_at_call 18; (with_reducible refine (lampblackref02_Connected.calls k2 _ _ l0 (wrap64 ((ji19) - 1)) true _ ?side1 ?side2 A20.out).mono ?_); (case side1 => exact Qsc (Kd.C_below HR0.out HB.out)); (case side2 => exact HC0.out); rintro e w' ⟨rfl, ⟨nd, rfl⟩⟩; (try first | exact ⟨rfl, _, World.drewN_drewN _ _ _⟩ | exact ⟨rfl, _, Eq.trans (World.drewN_drewN _ _ _) (congrArg (World.drewN _) (Nat.add_assoc _ _ _))⟩)) | (go_at_call 19; (with_reducible refine (minor_W.calls k2 3 t176 t177 _ A22.out).mono ?_); rintro e w38 ⟨v178, rfl, ho0, hb⟩; have n0_ := Aside0.mk (Kd.R_lower ho0 (below_size (Qaw))); have n1_ := Aside0.mk (below_step (Qaw) hb); clear HB; have HO179 := n0_; have HB := n1_; clear n0_ n1_; (try clear hb); (try clear hb2); (try clear hk); (try clear hi); (try clear ho0); obtain ⟨Ao39, co39, eo39⟩ := Kd.R_slice HO179.out; subst eo39) | (go_at_call 20; (with_reducible refine (lampblacklaw07_has.calls (hGL := (Qlg)) _ _ l0 _ _ t176 t180 t181 _ ?side1 ?side2 ?side3 ?side4 A23.out).mono ?_); (case side1 => exact Qsc (Kd.C_below HR0.out HB.out)); (case side2 => exact HC0.out); (case side3 => exact Qsc (Kd.R_reads' HO179.out).2.2); (case side4 => exact (Kd.R_reads' HO179.out).2.1); rintro e w40 ⟨rfl, hb⟩; have n0_ := Aside0.mk (Kd.R_below (Qro HO179.out) hb); have n1_ := Aside0.mk (below_step (Qaw) hb); clear HO179; clear HB; have HO179 := n0_; have HB := n1_; clear n0_ n1_; (try clear hb); (try clear hb2); (try clear hk); (try clear hi)))
         repeat (go_quiet (first | (go_at_call 18; (with_reducible refine (lampblackref02_Connected.calls k2 _ _ l0 (wrap64 ((ji19) - 1)) true _ ?side1 ?side2 A20.out).mono ?_); (case side1 => exact Qsc (Kd.C_below HR0.out HB.out)); (case side2 => exact HC0.out); rintro e w' ⟨rfl, ⟨nd, rfl⟩⟩; (try first | exact ⟨rfl, _, World.drewN_drewN _ _ _⟩ | exact ⟨rfl, _, Eq.trans (World.drewN_drewN _ _ _) (congrArg (World.drewN _) (Nat.add_assoc _ _ _))⟩)) | (go_at_call 19; (with_reducible refine (minor_W.calls k2 3 t176 t177 _ A22.out).mono ?_); rintro e w38 ⟨v178, rfl, ho0, hb⟩; have n0_ := Aside0.mk (Kd.R_lower ho0 (below_size (Qaw))); have n1_ := Aside0.mk (below_step (Qaw) hb); clear HB; have HO179 := n0_; have HB := n1_; clear n0_ n1_; (try clear hb); (try clear hb2); (try clear hk); (try clear hi); (try clear ho0); obtain ⟨Ao39, co39, eo39⟩ := Kd.R_slice HO179.out; subst eo39) | (go_at_call 20; (with_reducible refine (lampblacklaw07_has.calls (hGL := (Qlg)) _ _ l0 _ _ t176 t180 t181 _ ?side1 ?side2 ?side3 ?side4 A23.out).mono ?_); (case side1 => exact Qsc (Kd.C_below HR0.out HB.out)); (case side2 => exact HC0.out); (case side3 => exact Qsc (Kd.R_reads' HO179.out).2.2); (case side4 => exact (Kd.R_reads' HO179.out).2.1); rintro e w40 ⟨rfl, hb⟩; have n0_ := Aside0.mk (Kd.R_below (Qro HO179.out) hb); have n1_ := Aside0.mk (below_step (Qaw) hb); clear HO179; clear HB; have HO179 := n0_; have HB := n1_; clear n0_ n1_; (try clear hb); (try clear hb2); (try clear hk); (try clear hi))); try go_wp2_with (first | (go_at_call 18; (with_reducible refine (lampblackref02_Connected.calls k2 _ _ l0 (wrap64 ((ji19) - 1)) true _ ?side1 ?side2 A20.out).mono ?_); (case side1 => exact Qsc (Kd.C_below HR0.out HB.out)); (case side2 => exact HC0.out); rintro e w' ⟨rfl, ⟨nd, rfl⟩⟩; (try first | exact ⟨rfl, _, World.drewN_drewN _ _ _⟩ | exact ⟨rfl, _, Eq.trans (World.drewN_drewN _ _ _) (congrArg (World.drewN _) (Nat.add_assoc _ _ _))⟩)) | (go_at_call 19; (with_reducible refine (minor_W.calls k2 3 t176 t177 _ A22.out).mono ?_); rintro e w38 ⟨v178, rfl, ho0, hb⟩; have n0_ := Aside0.mk (Kd.R_lower ho0 (below_size (Qaw))); have n1_ := Aside0.mk (below_step (Qaw) hb); clear HB; have HO179 := n0_; have HB := n1_; clear n0_ n1_; (try clear hb); (try clear hb2); (try clear hk); (try clear hi); (try clear ho0); obtain ⟨Ao39, co39, eo39⟩ := Kd.R_slice HO179.out; subst eo39) | (go_at_call 20; (with_reducible refine (lampblacklaw07_has.calls (hGL := (Qlg)) _ _ l0 _ _ t176 t180 t181 _ ?side1 ?side2 ?side3 ?side4 A23.out).mono ?_); (case side1 => exact Qsc (Kd.C_below HR0.out HB.out)); (case side2 => exact HC0.out); (case side3 => exact Qsc (Kd.R_reads' HO179.out).2.2); (case side4 => exact (Kd.R_reads' HO179.out).2.1); rintro e w40 ⟨rfl, hb⟩; have n0_ := Aside0.mk (Kd.R_below (Qro HO179.out) hb); have n1_ := Aside0.mk (below_step (Qaw) hb); clear HO179; clear HB; have HO179 := n0_; have HB := n1_; clear n0_ n1_; (try clear hb); (try clear hb2); (try clear hk); (try clear hi))))
         go_ret
         exact ⟨by first | rfl | (simp [errW_none, errW_some] <;> rfl) | (simp only [← hji19]; first | rfl | (simp [errW_none, errW_some] <;> rfl)) | (simp [*, errW_none, errW_some] <;> rfl), by repeat (first | (with_reducible first | exact HB.out | apply below_alloc | apply pw_below_drewN | apply below_drew1) | exact HB.out)⟩
       ·replace c21 := Bool.eq_false_iff.mpr c21
        subst c21
        have H1 : ((lampblacklaw07_awake.f k2).bind fun t183 => (some t183)) = some r := by rw [if_neg (show ¬ (false = true) by decide)] at H; exact H
        clear H
        have H := H1
        clear H1
        replace H := Option.bind_eq_some_iff.mp H
        obtain ⟨t183, A410, H⟩ := H
        replace H : (some t183) = some r := H
        have A41 := Aside0.mk A410
        clear A410
        obtain rfl := Option.some.inj H
        go_wp2_with (first | (go_at_call 18; (with_reducible refine (lampblackref02_Connected.calls k2 _ _ l0 (wrap64 ((ji19) - 1)) false _ ?side1 ?side2 A20.out).mono ?_); (case side1 => exact Qsc (Kd.C_below HR0.out HB.out)); (case side2 => exact HC0.out); rintro e w' ⟨rfl, ⟨nd, rfl⟩⟩; (try first | exact ⟨rfl, _, World.drewN_drewN _ _ _⟩ | exact ⟨rfl, _, Eq.trans (World.drewN_drewN _ _ _) (congrArg (World.drewN _) (Nat.add_assoc _ _ _))⟩)) | (go_at_call 17; (with_reducible refine (lampblacklaw07_awake.calls (hGL := (Qlg)) k2  t183 _ A41.out).mono ?_); rintro e w42 ⟨rfl, hb⟩; have n0_ := Aside0.mk (below_step (Qaw) hb); clear HB; have HB := n0_; clear n0_; (try clear hb); (try clear hb2); (try clear hk); (try clear hi)))
        repeat (go_quiet (first | (go_at_call 18; (with_reducible refine (lampblackref02_Connected.calls k2 _ _ l0 (wrap64 ((ji19) - 1)) false _ ?side1 ?side2 A20.out).mono ?_); (case side1 => exact Qsc (Kd.C_below HR0.out HB.out)); (case side2 => exact HC0.out); rintro e w' ⟨rfl, ⟨nd, rfl⟩⟩; (try first | exact ⟨rfl, _, World.drewN_drewN _ _ _⟩ | exact ⟨rfl, _, Eq.trans (World.drewN_drewN _ _ _) (congrArg (World.drewN _) (Nat.add_assoc _ _ _))⟩)) | (go_at_call 17; (with_reducible refine (lampblacklaw07_awake.calls (hGL := (Qlg)) k2  t183 _ A41.out).mono ?_); rintro e w42 ⟨rfl, hb⟩; have n0_ := Aside0.mk (below_step (Qaw) hb); clear HB; have HB := n0_; clear n0_; (try clear hb); (try clear hb2); (try clear hk); (try clear hi))); try go_wp2_with (first | (go_at_call 18; (with_reducible refine (lampblackref02_Connected.calls k2 _ _ l0 (wrap64 ((ji19) - 1)) false _ ?side1 ?side2 A20.out).mono ?_); (case side1 => exact Qsc (Kd.C_below HR0.out HB.out)); (case side2 => exact HC0.out); rintro e w' ⟨rfl, ⟨nd, rfl⟩⟩; (try first | exact ⟨rfl, _, World.drewN_drewN _ _ _⟩ | exact ⟨rfl, _, Eq.trans (World.drewN_drewN _ _ _) (congrArg (World.drewN _) (Nat.add_assoc _ _ _))⟩)) | (go_at_call 17; (with_reducible refine (lampblacklaw07_awake.calls (hGL := (Qlg)) k2  t183 _ A41.out).mono ?_); rintro e w42 ⟨rfl, hb⟩; have n0_ := Aside0.mk (below_step (Qaw) hb); clear HB; have HB := n0_; clear n0_; (try clear hb); (try clear hb2); (try clear hk); (try clear hi))))
        go_ret
        exact ⟨by first | rfl | (simp [errW_none, errW_some] <;> rfl) | (simp only [← hji19]; first | rfl | (simp [errW_none, errW_some] <;> rfl)) | (simp [*, errW_none, errW_some] <;> rfl), by repeat (first | (with_reducible first | exact HB.out | apply below_alloc | apply pw_below_drewN | apply below_drew1) | exact HB.out)⟩
end Go.Proofs.YtjloppfdagfpmaaDoor.X
end
section
/- The references' own words: IsGraph, Reached. -/
namespace Go.Proofs.YtjloppfdagfpmaaDoor.X
open Go.RowKit YtjloppfdagfpmaaDoorW.PrintWords YtjloppfdagfpmaaDoorW.PrintLast YtjloppfdagfpmaaDoorW.PrintMore YtjloppfdagfpmaaDoor.T
theorem isGraph_l1 (m : Nat) (g : List Int) (hn : g.length ≤ 13) (i : Nat) (hi : i < g.length) (r : Bool)
  (hrest : Ev (fun k => lampblackref01_IsGraph.l0 k g (m : Int) g (g.length : Int) ((i + 1 : Nat) : Int)) r) :
  ∀ d j, j + d = g.length → Ev (fun k => lampblackref01_IsGraph.l1 k g (m : Int) (i : Int) (rd g (i : Int)) g (g.length : Int) (i : Int) (g.length : Int) (j : Int))
   (allFrom (fun j => decide (ibit (rd g (i : Int)) j = ibit (rd g (j : Int)) i)) g.length d j && r) := by
 intro d
 induction d with
 | zero =>
  intro j hj
  refine Ev.step (fun k => ?_) hrest
  rw [lampblackref01_IsGraph.l1, if_neg (by omega), wrap_succ i (by omega)]
 | succ d ih =>
  intro j hj
  simp only [allFrom]
  by_cases hb : ibit (rd g (i : Int)) j = ibit (rd g (j : Int)) i
  ·refine Ev.step (f := fun k => lampblackref01_IsGraph.l1 k g (m : Int) (i : Int) (rd g (i : Int)) g (g.length : Int) (i : Int) (g.length : Int) ((j + 1 : Nat) : Int)) (fun k => ?_) ?_
   ·rw [lampblackref01_IsGraph.l1, if_pos (by omega), if_pos (by omega), if_pos (by omega), if_pos (by omega), wrap_succ j (by omega)]
    exact if_pos hb
   ·have := ih (j + 1) (by omega)
    simpa [hb] using this
  ·refine Ev.step (f := fun _ => some false) (fun k => ?_) (Ev.some (by simp [hb]))
   rw [lampblackref01_IsGraph.l1, if_pos (by omega), if_pos (by omega), if_pos (by omega), if_pos (by omega)]
   exact if_neg hb
theorem isGraph_l0 (m : Nat) (hm : m ≤ 13) (g : List Int) (h1 : 1 ≤ g.length) (hn : g.length ≤ m) :
  ∀ d i, i + d = g.length → Ev (fun k => lampblackref01_IsGraph.l0 k g (m : Int) g (g.length : Int) (i : Int)) (allFrom (rowOk g) g.length d i) := by
 intro d
 induction d with
 | zero =>
  intro i hi
  refine Ev.step (f := fun _ => some true) (fun k => ?_) (Ev.some (by simp [allFrom]))
  rw [lampblackref01_IsGraph.l0, if_neg (by omega), if_pos (by omega), decide_eq_true (by omega)]
 | succ d ih =>
  intro i hi
  have stop : ∀ k, lampblackref01_IsGraph.j1 (k + 1) g (m : Int) (i : Int) (rd g (i : Int)) g (g.length : Int) (i : Int) true = some false := fun k => by
   rw [lampblackref01_IsGraph.j1, if_pos rfl]
  simp only [allFrom, rowOk]
  by_cases h1' : rd g (i : Int) < 0
  ·refine Ev.step (fun k => ?_) (f := fun k => lampblackref01_IsGraph.j1 k g (m : Int) (i : Int) (rd g (i : Int)) g (g.length : Int) (i : Int) true) ?_
   ·rw [lampblackref01_IsGraph.l0, if_pos (by omega), if_pos (by omega), if_pos (by omega), if_neg (by omega), if_pos h1']
   ·exact Ev.step stop (Ev.some (by simp [h1']))
  ·by_cases h2 : rd g (i : Int) ≥ shl .i64 1 (g.length : Int)
   ·refine Ev.step (fun k => ?_) (f := fun k => lampblackref01_IsGraph.j1 k g (m : Int) (i : Int) (rd g (i : Int)) g (g.length : Int) (i : Int) true) ?_
    ·rw [lampblackref01_IsGraph.l0, if_pos (by omega), if_pos (by omega), if_pos (by omega), if_neg (by omega), if_neg h1', if_pos h2]
    ·exact Ev.step stop (Ev.some (by simp [h2]))
   ·refine Ev.step (fun k => ?_) (f := fun k => lampblackref01_IsGraph.j1 k g (m : Int) (i : Int) (rd g (i : Int)) g (g.length : Int) (i : Int) (ibit (rd g (i : Int)) i == 1)) ?_
    ·rw [lampblackref01_IsGraph.l0, if_pos (by omega), if_pos (by omega), if_pos (by omega), if_neg (by omega), if_neg h1', if_neg h2]
     rfl
    ·by_cases h3 : (ibit (rd g (i : Int)) i == 1) = true
     ·simp only [h3]
      exact Ev.step stop (Ev.some (by simp))
     ·refine Ev.step (fun k => by rw [lampblackref01_IsGraph.j1, if_neg h3]) ?_
      have := isGraph_l1 m g (by omega) i (by omega) _ (ih (i + 1) (by omega)) g.length 0 (by omega)
      have h3' : (ibit (rd g (i : Int)) i == 1) = false := by simpa using h3
      simp only [h1', h2, h3', decide_false, Bool.not_false, Bool.true_and]
      exact this
theorem isGraph_ev (m : Nat) (hm : m ≤ 13) (g : List Int) (hg : g.length < 2 ^ 60) : Ev (fun k => lampblackref01_IsGraph.f k g (m : Int)) (chk m g) := by
 unfold lampblackref01_IsGraph.f
 by_cases h1 : 1 ≤ g.length
 ·by_cases h2 : g.length ≤ m
  ·have := isGraph_l0 m hm g h1 h2 g.length 0 (by omega)
   simpa [chk, h1, h2] using this
  ·refine Ev.step (f := fun k => lampblackref01_IsGraph.j1 k g (m : Int) 0 (rd g 0) g (g.length : Int) 0 true) (fun k => ?_) (Ev.step (f := fun _ => some false) (fun k => ?_) (Ev.some (by simp [chk, h2])))
   ·rw [lampblackref01_IsGraph.l0, if_pos (by omega), if_pos (by omega), if_pos (by omega), if_pos (by omega)]
   ·rw [lampblackref01_IsGraph.j1, if_pos rfl]
 ·refine Ev.step (f := fun _ => some false) (fun k => ?_) (Ev.some (by simp [chk, h1]))
  rw [lampblackref01_IsGraph.l0, if_neg (by omega), if_neg (by omega)]
theorem reached_l1 (m : Nat) (G : List Nat) (hG : Gr m G) (hm : m ≤ 13) (w : Nat) (hw : w < 2 ^ G.length) (c : Nat) (x0 : Nat) (Q : Int → Prop)
  (cont : ∀ x' : Nat, x' < 2 ^ G.length → (∀ j, bset x0 j → bset x' j) → (∀ s, (∀ j, bset x0 j → Con (Adj G) (bset w) s j) → ∀ j, bset x' j → Con (Adj G) (bset w) s j) → (∀ i j, bset x0 i → Adj G i j → bset w j → bset x' j) →
   ∃ r, Ev (fun k => lampblackref01_Reached.l0 k (gi G) (w : Int) (x' : Int) (G.length : Int) ((c + 1 : Nat) : Int)) r ∧ Q r) (hc : c < 2 ^ 50) :
  ∀ d i (x : Nat), i + d = G.length → x < 2 ^ G.length → (∀ j, bset x0 j → bset x j) → (∀ s, (∀ j, bset x0 j → Con (Adj G) (bset w) s j) → ∀ j, bset x j → Con (Adj G) (bset w) s j) →
   (∀ i' j, i' < i → bset x0 i' → Adj G i' j → bset w j → bset x j) →
   ∃ r, Ev (fun k => lampblackref01_Reached.l1 k (gi G) (w : Int) (x : Int) (G.length : Int) (c : Int) (G.length : Int) (i : Int)) r ∧ Q r := by
 have p62 : ∀ y : Nat, y < 2 ^ G.length → y < 2 ^ 62 := fun y hy => Nat.lt_trans hy (Nat.pow_lt_pow_right (by omega) (by have := hG.most; omega))
 have hmost := hG.most
 intro d
 induction d with
 | zero =>
  intro i x hi hx h1 h2 h3
  obtain ⟨r, e1, e2⟩ := cont x hx h1 h2 (fun i' j hi' ha hj => h3 i' j (by have := hG.adj_lt' ha; omega) hi' ha hj)
  refine ⟨r, Ev.step (fun k => ?_) e1, e2⟩
  rw [lampblackref01_Reached.l1, if_neg (by omega), wrap_succ c (by omega)]
 | succ d ih =>
  intro i x hi hx h1 h2 h3
  by_cases hb : x.testBit i = true
  ·have hrow := hG.row i
   have hA : G.getD i 0 &&& w < 2 ^ G.length := Nat.lt_of_le_of_lt Nat.and_le_left hrow
   obtain ⟨r, e1, e2⟩ := ih (i + 1) (x ||| (G.getD i 0 &&& w)) (by omega) (or_lt hx hA) (fun j hj => (or_bset _ _ _).2 (.inl (h1 j hj)))
    (fun s hs j hj => by
     rcases (or_bset _ _ _).1 hj with h | h
     ·exact h2 s hs j h
     ·obtain ⟨ha, hb'⟩ := (and_bset _ _ _).1 h
      exact .step (h2 s hs i hb) ha hb')
    (fun i' j hi' hx0 ha hj => by
     by_cases e : i' = i
     ·subst e; exact (or_bset _ _ _).2 (.inr ((and_bset _ _ _).2 ⟨ha, hj⟩))
     ·exact (or_bset _ _ _).2 (.inl (h3 i' j (by omega) hx0 ha hj)))
   refine ⟨r, Ev.step (fun k => ?_) e1, e2⟩
   rw [lampblackref01_Reached.l1, if_pos (by omega), if_pos (by omega), if_pos ((bit_one x i (p62 x hx) (by omega)).2 hb), if_pos (by rw [gi_length]; omega), rd_gi,
    b_and _ _ (p62 _ hrow) (p62 _ hw), b_or _ _ (p62 _ hx) (p62 _ hA), wrap_succ i (by omega)]
  ·obtain ⟨r, e1, e2⟩ := ih (i + 1) x (by omega) hx h1 h2
    (fun i' j hi' hx0 ha hj => by
     by_cases e : i' = i
     ·subst e; exact (hb (h1 _ hx0)).elim
     ·exact h3 i' j (by omega) hx0 ha hj)
   refine ⟨r, Ev.step (fun k => ?_) e1, e2⟩
   rw [lampblackref01_Reached.l1, if_pos (by omega), if_pos (by omega), if_neg (fun h => hb ((bit_one x i (p62 x hx) (by omega)).1 h)), wrap_succ i (by omega)]
theorem reached_l0 (m : Nat) (G : List Nat) (hG : Gr m G) (hm : m ≤ 13) (w v : Nat) (hw : w < 2 ^ G.length) (hv : v < G.length) :
  ∀ d c (x : Nat), c + d = G.length → x < 2 ^ G.length → bset x v → (∀ j, bset x j → Con (Adj G) (bset w) (bset (2 ^ v)) j) →
   ((∀ i j, bset x i → Adj G i j → bset w j → bset x j) ∨ c + 1 ≤ pc x G.length) →
   ∃ r, Ev (fun k => lampblackref01_Reached.l0 k (gi G) (w : Int) (x : Int) (G.length : Int) (c : Int)) r ∧ r = ((conset G (2 ^ v) w : Nat) : Int) := by
 have hp : 2 ^ v < 2 ^ G.length := Nat.pow_lt_pow_right (by omega) hv
 have hmost := hG.most
 intro d
 induction d with
 | zero =>
  intro c x hc hx hv' h1 h2
  refine ⟨(x : Int), Ev.step (f := fun _ => some (x : Int)) (fun k => ?_) (Ev.some rfl), ?_⟩
  ·rw [lampblackref01_Reached.l0, if_neg (by omega)]
  ·have hcl : ∀ i j, bset x i → Adj G i j → bset w j → bset x j := by
    rcases h2 with h | h
    ·exact h
    ·have := pc_le x G.length; omega
   congr 1
   exact conset_eq hG hp hx (fun j hj => by rw [(two_pow_bit v j).1 hj]; exact hv') h1 hcl
 | succ d ih =>
  intro c x hc hx hv' h1 h2
  obtain ⟨r, e1, e2⟩ := reached_l1 m G hG hm w hw c x (fun r => r = ((conset G (2 ^ v) w : Nat) : Int))
   (fun x' hx' g1 g2 g3 => by
    refine ih (c + 1) x' (by omega) hx' (g1 v hv') (g2 _ h1) ?_
    by_cases hcl : ∀ i j, bset x i → Adj G i j → bset w j → bset x j
    ·-- closed: nothing came
     refine .inl fun i j hi ha hj => ?_
     have key : ∀ u, Con (Adj G) (bset w) (bset x) u → bset x u := fun u hu => by
      induction hu with
      | base h => exact h
      | step _ a b ih => exact hcl _ _ ih a b
     have this : ∀ j, bset x' j → bset x j := fun j hj => key j (g2 (bset x) (fun j hj => .base hj) j hj)
     exact g1 _ (hcl i j (this i hi) ha hj)
    ·right
     have hcount : c + 1 ≤ pc x G.length := h2.resolve_left hcl
     have : ∃ i j, bset x i ∧ Adj G i j ∧ bset w j ∧ ¬ bset x j := Classical.byContradiction fun hno => hcl fun i j a b c => Classical.byContradiction fun h => hno ⟨i, j, a, b, c, h⟩
     obtain ⟨i, j, a, b, c', h⟩ := this
     have hj : x.testBit j = false := by unfold bset at h; simpa using h
     have := pc_lt (x := x) (y := x') j G.length (fun q _ hq => g1 q hq) (hG.adj_lt b) hj (g3 i j a b c')
     omega) (by omega) G.length 0 x (by omega) hx (fun _ h => h) (fun s hs j hj => hs j hj) (fun i' j hi' => by omega)
  refine ⟨r, Ev.step (fun k => ?_) e1, e2⟩
  rw [lampblackref01_Reached.l0, if_pos (by omega), gi_length]
  rfl
theorem reached_ev (m : Nat) (G : List Nat) (hG : Gr m G) (hm : m ≤ 13) (w v : Nat) (hw : w < 2 ^ G.length) (hv : v < G.length) :
  Ev (fun k => lampblackref01_Reached.f k (gi G) (w : Int) (v : Int)) ((conset G (2 ^ v) w : Nat) : Int) := by
 have hp : 2 ^ v < 2 ^ G.length := Nat.pow_lt_pow_right (by omega) hv
 have hmost := hG.most
 have h1 : 1 ≤ pc (2 ^ v) G.length := by
  have := pc_lt (x := 0) (y := 2 ^ v) v G.length (fun j _ h => by simp at h) hv (by simp) ((two_pow_bit v v).2 rfl)
  omega
 obtain ⟨r, e1, e2⟩ := reached_l0 m G hG hm w v hw hv G.length 0 (2 ^ v) (by omega) hp ((two_pow_bit v v).2 rfl) (fun j hj => .base hj) (.inr h1)
 subst e2
 unfold lampblackref01_Reached.f
 refine Ev.if_pos (by omega) ?_
 rw [s_one v (by omega), gi_length]
 exact e1
end Go.Proofs.YtjloppfdagfpmaaDoor.X
end
section
namespace Go.Proofs.YtjloppfdagfpmaaDoor.X
open Go.RowKit YtjloppfdagfpmaaDoorW.PrintWords YtjloppfdagfpmaaDoorW.PrintLast YtjloppfdagfpmaaDoorW.PrintMore
attribute [local go_sem] max2_int min2_int max_two min_two max_three min_three max_four min_four
/-! ### lampblackref02_Around: function 95 -/
def lampblackref02_Around.l0 : Nat → List Int → Int → Int → Int → Int → Option (Int)
 | 0, _, _, _, _, _ => none
 | k + 1, x0, x1, x5, x8, x9 => if x9 < x8 then (if 0 ≤ x9 then (if (Go.bits .and .i64 (shr .i64 x1 x9) 1) = 1 then (if x9 < (x0.length : Int) then (lampblackref02_Around.l0 k x0 x1 (Go.bits .or .i64 x5 (rd x0 x9)) x8 (wrap64 (x9 + 1))) else (none)) else (lampblackref02_Around.l0 k x0 x1 x5 x8 (wrap64 (x9 + 1)))) else (none)) else (some x5)
end Go.Proofs.YtjloppfdagfpmaaDoor.X
end
section
namespace Go.Proofs.YtjloppfdagfpmaaDoor.X
open Go.RowKit YtjloppfdagfpmaaDoorW.PrintWords YtjloppfdagfpmaaDoorW.PrintLast YtjloppfdagfpmaaDoorW.PrintMore
attribute [local go_sem] max2_int min2_int max_two min_two max_three min_three max_four min_four
/-! ### lampblackref02_Size: function 39 -/
def lampblackref02_Size.l0 : Nat → Int → Int → Option (Int)
 | 0, _, _ => none
 | k + 1, x0, x3 => if x0 > 0 then (lampblackref02_Size.l0 k (Go.bits .and .i64 x0 (wrap64 (x0 - 1))) (wrap64 (x3 + 1))) else (some x3)
end Go.Proofs.YtjloppfdagfpmaaDoor.X
end
section
namespace Go.Proofs.YtjloppfdagfpmaaDoor.X
open Go.RowKit YtjloppfdagfpmaaDoorW.PrintWords YtjloppfdagfpmaaDoorW.PrintLast YtjloppfdagfpmaaDoorW.PrintMore
attribute [local go_sem] max2_int min2_int max_two min_two max_three min_three max_four min_four
/-! ### api_Graph_int_30: function 30 -/
def api_Graph_int_30.l0 : Nat → List Int → List Int → Int → Int → Option (Bool)
 | 0, _, _, _, _ => none
 | k + 1, x0, x1, x12, x13 => if x13 < x12 then (if 0 ≤ x13 then (if x13 < (x0.length : Int) then (if x13 < (x1.length : Int) then (if (rd x0 x13) = (rd x1 x13) then (api_Graph_int_30.l0 k x0 x1 x12 (wrap64 (x13 + 1))) else (some false)) else (none)) else (none)) else (none)) else (some true)
end Go.Proofs.YtjloppfdagfpmaaDoor.X
end
section
/- (minor) What the laws share: connected sets, valid graphs, patterns, beginnings, equal slices, an edge is a minor of itself. -/
namespace Go.Proofs.YtjloppfdagfpmaaDoor.X
open Go.RowKit YtjloppfdagfpmaaDoorW.PrintWords YtjloppfdagfpmaaDoorW.PrintLast YtjloppfdagfpmaaDoorW.PrintMore YtjloppfdagfpmaaDoor.T
theorem mn_nat (a b : Nat) : mn (a : Int) (b : Int) = ((min a b : Nat) : Int) := by unfold mn; split <;> omega
def low (a : Nat) : Nat := (els a 9).headD 0
theorem low_bits : ∀ x : Fin 512, 0 < x.val → x.val.testBit (low x.val) = true ∧ ∀ i : Fin 9, i.val < low x.val → x.val.testBit i.val = false := by decide +kernel
noncomputable def conn (G : List Nat) (a : Int) : Bool := decide (0 < a) && decide (a < ((2 ^ G.length : Nat) : Int)) && decide (conset G (2 ^ low a.toNat) a.toNat = a.toNat)
theorem low_lt {G : List Nat} {a : Nat} (h0 : 0 < a) (h : a < 2 ^ G.length) (hn : G.length ≤ 9) : low a < G.length := bit_lt h (low_bits ⟨a, small G hn h⟩ h0).1
theorem refConn_l0 (G : List Nat) (hG : Gr 9 G) (a : Nat) (h0 : 0 < a) (ha : a < 2 ^ G.length) : ∀ d i, i + d = low a → Ev (fun k => lampblackref02_Connected.l0 k (gi G) (a : Int) (i : Int)) (decide (conset G (2 ^ low a) a = a)) := by
 have hn := hG.most
 have hl := low_lt (G := G) h0 ha hn
 have hb := low_bits ⟨a, small G hn ha⟩ h0
 have hbig := big (small G hn ha)
 intro d
 induction d with
 | zero =>
  intro i hi
  obtain rfl : i = low a := by omega
  refine Ev.step (fun k => by rw [lampblackref02_Connected.l0, if_pos (by omega), if_neg (fun h => by have := (bit_zero a _ hbig (by omega)).1 h; rw [hb.1] at this; cases this)]) ?_
  refine Ev.bind (reached_ev 9 G hG (by omega) a (low a) ha hl) (Ev.some ?_)
  by_cases e : conset G (2 ^ low a) a = a
  ·rw [e]; simp
  ·rw [decide_eq_false e, beq_eq_false_iff_ne]; omega
 | succ d ih =>
  intro i hi
  refine Ev.step (fun k => ?_) (ih (i + 1) (by omega))
  rw [lampblackref02_Connected.l0, if_pos (by omega), if_pos ((bit_zero a i hbig (by omega)).2 (hb.2 ⟨i, by omega⟩ (by simp only []; omega))), wrap_succ i (by omega)]
theorem refConn (G : List Nat) (hG : Gr 9 G) (a : Int) : Ev (fun k => lampblackref02_Connected.f k (gi G) a) (conn G a) := by
 have hn := hG.most
 have h9 : 2 ^ G.length ≤ 2 ^ 9 := Nat.pow_le_pow_right (by omega) hn
 have stop : ∀ k, lampblackref02_Connected.j0 (k + 1) (gi G) a true = some false := fun k => by rw [lampblackref02_Connected.j0, if_pos rfl]
 unfold lampblackref02_Connected.f
 by_cases h0 : a ≤ 0
 ·refine Ev.if_pos h0 (Ev.step stop (Ev.some ?_))
  unfold conn
  rw [decide_eq_false (by omega)]; rfl
 ·refine Ev.if_neg h0 ?_
  rw [gi_length, s_one _ (by omega)]
  by_cases h1 : a ≥ ((2 ^ G.length : Nat) : Int)
  ·rw [decide_eq_true h1]
   refine Ev.step stop (Ev.some ?_)
   unfold conn
   rw [decide_eq_false (show ¬ a < ((2 ^ G.length : Nat) : Int) by omega)]; simp
  ·rw [decide_eq_false h1]
   refine Ev.step (fun k => by rw [lampblackref02_Connected.j0, if_neg (by simp)]) ?_
   obtain ⟨b, rfl⟩ := Int.eq_ofNat_of_zero_le (show 0 ≤ a by omega)
   have := refConn_l0 G hG b (by omega) (by omega) (low b) 0 (by omega)
   unfold conn
   rw [decide_eq_true (show (0 : Int) < (b : Int) by omega), decide_eq_true (show (b : Int) < ((2 ^ G.length : Nat) : Int) by omega), Int.toNat_natCast]
   exact this
theorem valid_ev (g : List Int) (hg : g.length < 2 ^ 60) : Ev (fun k => lampblackref07_Valid.f k g) (chk 8 g) := by
 unfold lampblackref07_Valid.f
 exact Ev.bind (isGraph_ev 8 (by omega) g hg) (Ev.some rfl)
theorem few_eq (g : List Int) (hg : g.length < 2 ^ 44) : ∃ h, lampblacklaw07_Few.f g = some h ∧ (chk 8 g = true → h = g) ∧ (chk 8 g = false → chk 8 h = false) ∧ h.length ≤ 12 := by
 have hm : mn (g.length : Int) 12 = ((min g.length 12 : Nat) : Int) := mn_nat g.length 12
 refine ⟨g.take (min g.length 12), ?_, ?_, ?_, ?_⟩
 ·unfold lampblacklaw07_Few.f slices_Clone_Graph.f
  simp only [hm, Int.toNat_natCast]
  rw [if_pos (by omega), if_pos (by omega)]
  simp only [Option.bind_some, List.length_nil, List.nil_append]
  rw [if_pos (by rw [List.length_take]; omega)]
  rfl
 ·intro h
  simp only [chk, Bool.and_eq_true, decide_eq_true_eq] at h
  exact List.take_of_length_le (by omega)
 ·intro h
  by_cases hl : g.length ≤ 12
  ·rw [List.take_of_length_le (by omega)]; exact h
  ·unfold chk
   have : ¬ (List.take (min g.length 12) g).length ≤ 8 := by rw [List.length_take]; omega
   rw [decide_eq_false this, Bool.and_false, Bool.false_and]
 ·rw [List.length_take]; omega
theorem low_lowb : ∀ x : Fin 512, 0 < x.val → low x.val = lowb x.val := by decide +kernel
theorem conn_conB {G : List Nat} (hG : Gr 9 G) (a : Nat) (h : a < 2 ^ G.length) : conn G (a : Int) = conB G a := by
 unfold conn conB
 rw [decide_eq_true (show (a : Int) < ((2 ^ G.length : Nat) : Int) by omega), Int.toNat_natCast, Bool.and_true]
 by_cases h0 : a = 0
 ·subst h0; rfl
 ·rw [decide_eq_true (show (0 : Int) < (a : Int) by omega), decide_eq_true h0, Bool.true_and, Bool.true_and, low_lowb ⟨a, small G hG.most h⟩ (by simp; omega)]
  have hl := lowb_bit hG (by omega) h h0
  have hp : 2 ^ lowb a < 2 ^ G.length := Nat.pow_lt_pow_right (by omega) hl.2
  rw [conset_eq hG hp (clo_lt hG 9 _ hp) (clo_sub G a 9 _) (clo_in hG a 9 _) (fun i j hi hA hj => clo_closed hG 9 _ hp (by have := hG.most; omega) i j hi hA hj)]
theorem awake_ev : Ev (fun k => lampblacklaw07_awake.f k) true := Ev.of (lampblacklaw07_awake.mono) (k := 40) (by decide +kernel)
end Go.Proofs.YtjloppfdagfpmaaDoor.X
end
section
/- Minors of a graph with a node less, or with two neighbours made one; of complete patterns with a node less. -/
namespace Go.Proofs.YtjloppfdagfpmaaDoor.T
open Go.RowKit YtjloppfdagfpmaaDoorW.PrintWords YtjloppfdagfpmaaDoorW.PrintLast YtjloppfdagfpmaaDoorW.PrintMore
theorem mnr_pe {V : Nat → Prop} {adj : Nat → Nat → Prop} {k : Nat} {pe pe' : Nat → Nat → Prop} (hp : ∀ i j, i < k → j < k → pe' i j → pe i j) (h : Mnr V adj k pe) : Mnr V adj k pe' := by
 obtain ⟨M, h1, h2, h3⟩ := h
 exact ⟨M, h1, h2, fun i j hi hj hij => h3 i j hi hj (hp i j hi hj hij)⟩
theorem wheel_k4 {m : Nat} {G : List Nat} (hG : Gr m G) (hm : m ≤ 9) (h4 : 4 ≤ G.length) (hc : ∀ a b, a < G.length → b < G.length → Conn (Adj G) (fun x => x < G.length ∧ x ≠ a ∧ x ≠ b)) : Mnr (fun x => x < G.length) (Adj G) 4 (fun i j => i ≠ j) := by
 have hr : (fun x => x ∈ List.range G.length) = fun x => x < G.length := funext fun x => propext List.mem_range
 rw [← hr]
 refine deg3_k4 _ _ _ rfl (List.ne_nil_of_mem (List.mem_range.2 (show 0 < G.length by omega))) (fun x y h => hG.adj_symm h) (fun x h => hG.adj_irr h) (fun x y h => List.mem_range.2 (hG.adj_lt' h)) fun v hv hm2 => ?_
 have hvn := List.mem_range.1 hv
 obtain ⟨l, hl, hml⟩ := hm2
 have hab : ∃ a b, a < G.length ∧ b < G.length ∧ a ≠ v ∧ b ≠ v ∧ ∀ u, Adj G v u → u = a ∨ u = b := by
  obtain ⟨d, hd, hdv⟩ : ∃ d, d < G.length ∧ d ≠ v := by
   by_cases e : v = 0
   ·exact ⟨1, by omega, by omega⟩
   ·exact ⟨0, by omega, fun h => e h.symm⟩
  have pick : ∀ x, ∃ y, y < G.length ∧ y ≠ v ∧ (Adj G v x → y = x) := fun x => by
   by_cases e : Adj G v x
   ·exact ⟨x, hG.adj_lt e, fun e' => hG.adj_irr (e' ▸ e), fun _ => rfl⟩
   ·exact ⟨d, hd, hdv, fun h => (e h).elim⟩
  match l, hl, hml with
  | [], _, hml => exact ⟨d, d, hd, hd, hdv, hdv, fun u hu => by have := hml u hu; simp at this⟩
  | [x], _, hml =>
   obtain ⟨y, h1, h2, h3⟩ := pick x
   refine ⟨y, y, h1, h1, h2, h2, fun u hu => ?_⟩
   have := hml u hu
   simp at this
   subst this
   exact .inl (h3 hu).symm
  | [x, z], _, hml =>
   obtain ⟨y, h1, h2, h3⟩ := pick x
   obtain ⟨y', h1', h2', h3'⟩ := pick z
   refine ⟨y, y', h1, h1', h2, h2', fun u hu => ?_⟩
   have := hml u hu
   simp at this
   rcases this with rfl | rfl
   ·exact .inl (h3 hu).symm
   ·exact .inr (h3' hu).symm
  | _ :: _ :: _ :: _, hl, _ => simp at hl
 obtain ⟨a, b, ha, hb, hav, hbv, hN⟩ := hab
 obtain ⟨u, hu, _⟩ : ∃ u, (u < G.length ∧ u ≠ v ∧ u ≠ a ∧ u ≠ b) ∧ True := by
  have : ¬ AtMost 3 (fun x => x < G.length) := by
   rintro ⟨l, hl, hml⟩
   have := nodup_le (l := List.range G.length) (m := l) List.nodup_range fun x hx => hml x (List.mem_range.1 hx)
   simp at this
   omega
  obtain ⟨u, h1, h2⟩ := not_atMost this [v, a, b] (by simp)
  simp at h2
  exact ⟨u, ⟨h1, h2.1, h2.2.1, h2.2.2⟩, trivial⟩
 have := (hc a b ha hb).2 v u ⟨hvn, fun e => hav e.symm, fun e => hbv e.symm⟩ ⟨hu.1, hu.2.2.1, hu.2.2.2⟩
 have key : ∀ y, Con (Adj G) (fun x => x < G.length ∧ x ≠ a ∧ x ≠ b) (fun x => x = v) y → y = v := by
  intro y hy
  induction hy with
  | base h => exact h
  | @step p q hp hadj hq ihp =>
   subst ihp
   rcases hN q hadj with e | e
   ·exact (hq.2.1 e).elim
   ·exact (hq.2.2 e).elim
 exact hu.2.1 (key u this)
end Go.Proofs.YtjloppfdagfpmaaDoor.T
end
section
namespace Go.Proofs.YtjloppfdagfpmaaDoor.X
open Go.RowKit YtjloppfdagfpmaaDoorW.PrintWords YtjloppfdagfpmaaDoorW.PrintLast YtjloppfdagfpmaaDoorW.PrintMore
attribute [local go_sem] max2_int min2_int max_two min_two max_three min_three max_four min_four
/-! ### lampblackref07_join: function 75 -/
def lampblackref07_join.f (l0 : List Int) (a1 : Int) (a2 : Int) : Option (List Int) := if 0 ≤ a1 then (if a1 < (l0.length : Int) then (if 0 ≤ a2 then ((some (l0.set (a1 : Int).toNat (Go.bits .or .i64 (rd l0 a1) (shl .i64 1 a2)) : List Int)).bind fun y238 => (if a2 < (l0.length : Int) then (some (y238.set (a2 : Int).toNat (Go.bits .or .i64 (rd y238 a2) (shl .i64 1 a1)))) else (none))) else (none)) else (none)) else (none)
def lampblackref07_join.T0 : Bool × List (List Nat × List Nat) := (true, [([], []), ([], []), ([0, 1], [0, 1]), ([2], [2]), ([], []), ([4], [4]), ([3, 5], [3, 5]), ([0, 1, 0, 1, 2, 3, 4, 5, 6], [0, 1]), ([7, 6, 0, 1, 2, 3, 4, 5, 6], [6, 7])])
def lampblackref07_join.B0 : List Nat := [0, 0, 3, 7, 0, 16, 63, 127, 255]
theorem lampblackref07_join.tab0 : rtab .any (opsOf Tryd.f75 0) = lampblackref07_join.T0 := by kernel_rfl
theorem lampblackref07_join.bits0 : waitsOk lampblackref07_join.T0.2 lampblackref07_join.B0 = true := by kernel_rfl
def lampblackref07_join.T1 : Bool × List (List Nat × List Nat) := (true, [([], []), ([], []), ([0, 1], [0, 1]), ([2], [2]), ([], []), ([4], [4]), ([3, 5], [3, 5]), ([0, 1, 0, 1, 2, 3, 4, 5, 6], [0, 1]), ([7, 6, 0, 1, 2, 3, 4, 5, 6], [6, 7])])
def lampblackref07_join.B1 : List Nat := [0, 0, 3, 7, 0, 16, 63, 127, 255]
theorem lampblackref07_join.tab1 : rtab .any (opsOf Tryd.f75 1) = lampblackref07_join.T1 := by kernel_rfl
theorem lampblackref07_join.bits1 : waitsOk lampblackref07_join.T1.2 lampblackref07_join.B1 = true := by kernel_rfl
end Go.Proofs.YtjloppfdagfpmaaDoor.X
end
section
namespace Go.Proofs.YtjloppfdagfpmaaDoor.X
open Go.RowKit YtjloppfdagfpmaaDoorW.PrintWords YtjloppfdagfpmaaDoorW.PrintLast YtjloppfdagfpmaaDoorW.PrintMore
attribute [local go_sem] max2_int min2_int max_two min_two max_three min_three max_four min_four
/-! ### lampblackref07_K: function 33 -/
mutual
def lampblackref07_K.l0 : Nat → List Int → Int → Int → Option (List Int)
 | 0, _, _, _ => none
 | k + 1, x3, x8, x9 => if x9 < x8 then (lampblackref07_K.l1 k x3 x9 x8 x9 x9 0) else (some x3)
def lampblackref07_K.l1 : Nat → List Int → Int → Int → Int → Int → Int → Option (List Int)
 | 0, _, _, _, _, _, _ => none
 | k + 1, x3, x4, x8, x9, x12, x13 => if x13 < x12 then ((lampblackref07_join.f x3 x4 x13).bind fun t249 => (lampblackref07_K.l1 k t249 x4 x8 x9 x12 (wrap64 (x13 + 1)))) else (lampblackref07_K.l0 k x3 x8 (wrap64 (x9 + 1)))
end
end Go.Proofs.YtjloppfdagfpmaaDoor.X
end
section
/- (minor) Model and has in plain words; complete graphs as patterns. -/
namespace Go.Proofs.YtjloppfdagfpmaaDoor.X
open Go.RowKit YtjloppfdagfpmaaDoorW.PrintWords YtjloppfdagfpmaaDoorW.PrintLast YtjloppfdagfpmaaDoorW.PrintMore YtjloppfdagfpmaaDoor.T
theorem gi_inj {A B : List Nat} (h : gi A = gi B) : A = B := by rw [← gi_toNat A, h, gi_toNat]
theorem gr_of_chk {m : Nat} (hm : m ≤ 13) {G : List Nat} (h : chk m (gi G) = true) : Gr m G := by
 obtain ⟨G', e, hG⟩ := (chk_iff m (by omega) _).1 h
 rw [gi_inj e]; exact hG
theorem Model_eq {G P : List Nat} (hG : Gr 8 G) (hP : Gr 6 P) : minor_Model.f (gi G) (gi P) = some ((findN G P).elim ([], 4) fun M => (gi M, 0)) := by
 have h1 := hG.most
 have h2 := hP.most
 unfold minor_Model.f
 rw [if_pos ⟨by rw [gi_length]; omega, by rw [gi_length]; omega⟩, (chk_iff 8 (by omega) _).2 ⟨G, rfl, hG⟩, (chk_iff 6 (by omega) _).2 ⟨P, rfl, hP⟩, gi_toNat, gi_toNat]
 rfl
def IsMnr (G P : List Nat) : Prop := Mnr (fun x => x < G.length) (Adj G) P.length (Adj P)
theorem find_mnr {m m' : Nat} {G P : List Nat} (hG : Gr m G) (hm : m ≤ 9) (hP : Gr m' P) (hm' : m' ≤ 9) : (findN G P).isSome = true ↔ IsMnr G P := by
 unfold IsMnr
 rw [← mod_iff hG hm hP hm']
 have hn := Nat.le_trans hG.most hm
 cases h : findN G P with
 | none => exact ⟨fun h => (by cases h), fun ⟨M, hM⟩ => (find_none hn hP.pos h M hM).elim⟩
 | some R => exact ⟨fun _ => ⟨R, (find_some hn hP.pos h).1⟩, fun _ => rfl⟩
theorem few_ok {G : List Nat} (hG : Gr 8 G) : lampblacklaw07_Few.f (gi G) = some (gi G) := by
 obtain ⟨h, e, e1, _, _⟩ := few_eq (gi G) (by rw [gi_length]; have := hG.most; omega)
 rw [e1 ((chk_iff 8 (by omega) _).2 ⟨G, rfl, hG⟩)] at e
 exact e
theorem has_eq {G P : List Nat} (hG : Gr 8 G) (hP : Gr 6 P) : ∃ b, lampblacklaw07_has.f (gi G) (gi P) = some (b, true) ∧ (b = true ↔ IsMnr G P) := by
 have hf := find_mnr hG (by omega) hP (by omega)
 unfold lampblacklaw07_has.f
 rw [few_ok hG]
 simp only [Option.bind_some]
 rw [Model_eq hG hP]
 cases h : findN G P with
 | none =>
  refine ⟨false, rfl, ?_⟩
  rw [← hf, h]
  simp
 | some R =>
  refine ⟨true, rfl, ?_⟩
  rw [← hf, h]
  simp
def kN (n : Nat) : List Nat := (List.range n).map fun i => diff (2 ^ n - 1) (2 ^ i)
theorem kN_length (n : Nat) : (kN n).length = n := by unfold kN; simp
theorem kN_chk : ∀ i : Fin 6, chk 6 (gi (kN (i.val + 1))) = true := by decide +kernel
theorem kN_gr {n : Nat} (h1 : 1 ≤ n) (h6 : n ≤ 6) : Gr 6 (kN n) := by
 have := kN_chk ⟨n - 1, by omega⟩
 rw [show (n - 1 + 1) = n by omega] at this
 exact gr_of_chk (by omega) this
theorem kN_adj {n i j : Nat} (hi : i < n) (hj : j < n) : Adj (kN n) i j ↔ i ≠ j := by
 show ((kN n).getD i 0).testBit j = true ↔ _
 unfold kN
 rw [List.getD_eq_getElem?_getD, List.getElem?_map, List.getElem?_range hi, Option.map_some, Option.getD_some, diff_testBit, Bool.and_eq_true]
 constructor
 ·rintro ⟨_, h⟩ rfl
  simp at h
 ·intro h
  refine ⟨(all_bit n j).2 hj, ?_⟩
  have : ¬ bset (2 ^ i) j := fun h2 => h ((two_pow_bit i j).1 h2).symm
  simpa [bset] using this
theorem mnr_k {G : List Nat} {n : Nat} : IsMnr G (kN n) ↔ Mnr (fun x => x < G.length) (Adj G) n (fun i j => i ≠ j) := by
 unfold IsMnr
 rw [kN_length]
 exact ⟨mnr_pe fun i j hi hj h => (kN_adj hi hj).2 h, mnr_pe fun i j hi hj h => (kN_adj hi hj).1 h⟩
end Go.Proofs.YtjloppfdagfpmaaDoor.X
end
section
/- MinorWheels, without Go and memory: in a connected graph of at least four nodes without cut node, or pair that parts it, W(3) is a minor. -/
namespace Go.Proofs.YtjloppfdagfpmaaDoor.Pure
open Go.RowKit YtjloppfdagfpmaaDoorW.PrintWords YtjloppfdagfpmaaDoorW.PrintLast YtjloppfdagfpmaaDoorW.PrintMore YtjloppfdagfpmaaDoor.T YtjloppfdagfpmaaDoor.X
def bar (n a b : Nat) : Nat := diff (diff (2 ^ n - 1) (2 ^ a)) (2 ^ b)
theorem bar_bit (n a b x : Nat) : bset (bar n a b) x ↔ x < n ∧ x ≠ a ∧ x ≠ b := by
 unfold bar
 rw [diff_bset, diff_bset, two_pow_bit, two_pow_bit]
 have : bset (2 ^ n - 1) x ↔ x < n := all_bit n x
 rw [this, and_assoc]
theorem bar_lt (n a b : Nat) : bar n a b < 2 ^ n := lt_of_bits fun j hj => ((bar_bit n a b j).1 hj).1
theorem bar_eq {n a b : Nat} (hn : n ≤ 9) (ha : a < n) (hb : b < n) : Go.bits .andNot .i64 (Go.bits .andNot .i64 (wrap64 ((shl .i64 1 (n : Int)) - 1)) (shl .i64 1 (a : Int))) (shl .i64 1 (b : Int)) = ((bar n a b : Nat) : Int) := by
 have h9 : 2 ^ n ≤ 2 ^ 9 := Nat.pow_le_pow_right (by omega) hn
 have h0 := Nat.two_pow_pos n
 have hp : ∀ v, v < n → 2 ^ v < 2 ^ 62 := fun v hv => Nat.pow_lt_pow_right (by omega) (by omega)
 have hd := diff_le (2 ^ n - 1) (2 ^ a)
 rw [s_one n (by omega), s_one a (by omega), s_one b (by omega), w64_small _ (by omega) (by omega), show (((2 ^ n : Nat) : Int) - 1) = ((2 ^ n - 1 : Nat) : Int) by omega, b_andNot _ _ (by omega) (hp a ha), b_andNot _ _ (by omega) (hp b hb)]
 rfl
theorem all_eq2 {n : Nat} (hn : n ≤ 9) : wrap64 ((shl .i64 1 (n : Int)) - 1) = ((2 ^ n - 1 : Nat) : Int) := by
 have h9 : 2 ^ n ≤ 2 ^ 9 := Nat.pow_le_pow_right (by omega) hn
 have h0 := Nat.two_pow_pos n
 rw [s_one n (by omega), w64_small _ (by omega) (by omega)]
 omega
theorem w3_ev : Ev (fun k => minor_W.f k 3) (gi (kN 4), 0) := Ev.of (minor_W.mono _) (k := 40) (by decide +kernel)
theorem wheels_l0 (G : List Nat) (hG : Gr 8 G) (h4 : 4 ≤ G.length) : ∀ d i, i + d = G.length → (∀ a b, a < i → b < G.length → conB G (bar G.length a b) = true) → Ev (fun k => lampblacklaw07_MinorWheels.l0 k (gi G) (G.length : Int) (i : Int)) true := by
 have hn := hG.most
 have hG9 := gr_mono hG (show 8 ≤ 9 by omega)
 intro d
 induction d with
 | zero =>
  intro i hi hC
  obtain rfl : i = G.length := by omega
  refine Ev.step (fun k => by rw [lampblacklaw07_MinorWheels.l0, if_neg (by omega), gi_length, all_eq2 (by omega)]) ?_
  refine Ev.bind (refConn G hG9 _) ?_
  cases hcn : conn G ((2 ^ G.length - 1 : Nat) : Int)
  ·exact Ev.if_neg (by simp) (Ev.bind awake_ev (Ev.some rfl))
  ·refine Ev.if_pos rfl (Ev.bind w3_ev ?_)
   obtain ⟨b, hb, hm⟩ := has_eq hG (kN_gr (show 1 ≤ 4 by omega) (by omega))
   have hk : b = true := by
    refine hm.2 (mnr_k.2 (wheel_k4 hG (by omega) h4 fun a b ha hb => ?_))
    have := (conB_iff hG9 (by omega) (bar_lt G.length a b)).1 (hC a b ha hb)
    have e : bset (bar G.length a b) = fun x => x < G.length ∧ x ≠ a ∧ x ≠ b := funext fun x => propext (bar_bit _ _ _ x)
    rw [← e]; exact this
   subst hk
   exact Ev.bind1 hb (Ev.if_pos rfl (Ev.if_pos rfl (Ev.if_pos rfl (Ev.bind awake_ev (Ev.some rfl)))))
 | succ d ih =>
  intro i hi hC
  refine Ev.step (fun k => by rw [lampblacklaw07_MinorWheels.l0, if_pos (by omega), gi_length]) ?_
  have l1 : ∀ e j, j + e = G.length → (∀ b, b < j → conB G (bar G.length i b) = true) → Ev (fun k => lampblacklaw07_MinorWheels.l1 k (gi G) (i : Int) (G.length : Int) (i : Int) (G.length : Int) (j : Int)) true := by
   intro e
   induction e with
   | zero =>
    intro j hj hD
    obtain rfl : j = G.length := by omega
    refine Ev.step (fun k => by rw [lampblacklaw07_MinorWheels.l1, if_neg (by omega), wrap_succ i (by omega)]) (ih (i + 1) (by omega) fun a b ha hb => ?_)
    by_cases h : a = i
    ·subst h; exact hD b hb
    ·exact hC a b (by omega) hb
   | succ e ihe =>
    intro j hj hD
    refine Ev.step (fun k => by rw [lampblacklaw07_MinorWheels.l1, if_pos (by omega), if_pos (by omega), if_pos (by omega), gi_length, bar_eq (by omega) (by omega) (by omega), wrap_succ j (by omega)]) ?_
    refine Ev.bind (refConn G hG9 _) ?_
    rw [conn_conB hG9 _ (bar_lt _ _ _)]
    cases hcb : conB G (bar G.length i j)
    ·exact Ev.if_neg (by simp) (Ev.bind awake_ev (Ev.some rfl))
    ·refine Ev.if_pos rfl (ihe (j + 1) (by omega) fun b hb => ?_)
     by_cases h : b = j
     ·subst h; exact hcb
     ·exact hD b (by omega)
  exact l1 G.length 0 (by omega) (fun b hb => by omega)
theorem wheels_ev (g : List Int) (hg : g.length < 2 ^ 44) : Ev (fun k => lampblacklaw07_MinorWheels.f k g) true := by
 have hv := valid_ev g (by omega)
 have stop : Ev (fun k => lampblacklaw07_MinorWheels.j0 k g true) true := Ev.step (fun k => by rw [lampblacklaw07_MinorWheels.j0, if_pos rfl]) (Ev.bind awake_ev (Ev.some rfl))
 unfold lampblacklaw07_MinorWheels.f
 refine Ev.bind hv ?_
 by_cases hc : chk 8 g = true
 ·obtain ⟨G, rfl, hG⟩ := (chk_iff 8 (by omega) _).1 hc
  rw [hc]
  refine Ev.if_pos rfl ?_
  by_cases h4 : G.length < 4
  ·rw [decide_eq_true (by rw [gi_length]; omega : ((gi G).length : Int) < 4)]
   exact stop
  ·rw [decide_eq_false (by rw [gi_length]; omega : ¬ ((gi G).length : Int) < 4)]
   refine Ev.step (fun k => by rw [lampblacklaw07_MinorWheels.j0, if_neg (by simp), gi_length]) ?_
   exact wheels_l0 G hG (by omega) G.length 0 (by omega) (fun a b ha => by omega)
 ·rw [show chk 8 g = false by simpa using hc]
  exact Ev.if_neg (by simp) stop
theorem MinorWheels : ∀ (l0 : List Int), l0.length ≤ maxLen → l0.length * 8 ≤ 140737488351232 → (∀ x ∈ l0, (Lit.int .i64 x).wf = true) → ∃ k, lampblacklaw07_MinorWheels.f k l0 = some true := by
 intro g _ hg _
 exact Ev.rounds (wheels_ev g (by omega))
end Go.Proofs.YtjloppfdagfpmaaDoor.Pure
end
