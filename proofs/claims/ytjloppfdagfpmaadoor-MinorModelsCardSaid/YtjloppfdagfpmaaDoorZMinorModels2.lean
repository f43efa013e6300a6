/- Part 2 of what MinorModels rests on: contracts of the functions that it reaches, and what they compute, in plain words. -/
import Derived.Test.YtjloppfdagfpmaaDoorZMinorModels0
import Derived.Test.YtjloppfdagfpmaaDoorZMinorModels1
import Derived.WalkSpells
set_option linter.unusedVariables false
set_option linter.unusedSimpArgs false
section
namespace Go.Proofs.YtjloppfdagfpmaaDoor.X
open Go.RowKit YtjloppfdagfpmaaDoorW.PrintWords YtjloppfdagfpmaaDoorW.PrintLast YtjloppfdagfpmaaDoorW.PrintMore
attribute [local go_sem] max2_int min2_int max_two min_two max_three min_three max_four min_four
/-! ### lampblacklaw07_MinorModels: function 4 -/
def lampblacklaw07_MinorModels.j0 : Nat → List Int → List Int → List Int → List Int → Int → Bool → Int → Bool → Option (Bool)
 | 0, _, _, _, _, _, _, _, _ => none
 | k + 1, x0, x1, x2, x7, x8, x9, x10, x38 => if x38 = true then (if (x7.length : Int) = 0 then (if x9 = true then (some false) else (if x8 = 2 then (if x10 = 2 then ((lampblacklaw07_awake.f k).bind fun t228 => (some t228)) else (some false)) else (some false))) else (some false)) else ((lampblackref07_Model.f x0 x1).bind fun bt229 => ((slices_Equal_int_int.f k x7 bt229.1).bind fun t233 => (if t233 = true then (if x8 = bt229.2 then ((lampblackref07_IsModel.f k x0 x1 x2).bind fun t234 => (if (x9 == t234) = true then (if x10 = 0 then ((lampblacklaw07_awake.f k).bind fun t235 => (some t235)) else (some false)) else (some false))) else (some false)) else (some false))))
def lampblacklaw07_MinorModels.f (k : Nat) (l0 : List Int) (l1 : List Int) (l2 : List Int) : Option (Bool) := (lampblacklaw07_Few.f l0).bind fun t205 => ((lampblacklaw07_Few.f l1).bind fun t208 => ((minor_Model.f t205 t208).bind fun bt211 => ((lampblacklaw07_Few.f l0).bind fun t215 => ((lampblacklaw07_Few.f l1).bind fun t218 => ((lampblacklaw07_list.f l2).bind fun t221 => ((minor_Check.f t215 t218 t221).bind fun bt224 => ((lampblackref07_Valid.f k l0).bind fun t226 => (if t226 = true then ((lampblackref07_Pattern.f k l1).bind fun t227 => (lampblacklaw07_MinorModels.j0 k l0 l1 l2 bt211.1 bt211.2 bt224.1 bt224.2 (!t227))) else (lampblacklaw07_MinorModels.j0 k l0 l1 l2 bt211.1 bt211.2 bt224.1 bt224.2 true)))))))))
set_option maxHeartbeats 8000000 in
set_option maxRecDepth 100000 in
theorem lampblacklaw07_MinorModels.calls (k : Nat) (A0 : Option Addr) (c0 : Nat) (l0 : List Int) (A1 : Option Addr) (c1 : Nat) (l1 : List Int) (A2 : Option Addr) (c2 : Nat) (l2 : List Int) (r : Bool) (w : World) (hGL : GL w) (hr0 : Kd.C (Kd.int .i64) w A0 l0.length l0) (hc0 : l0.length ≤ c0) (hr1 : Kd.C (Kd.int .i64) w A1 l1.length l1) (hc1 : l1.length ≤ c1) (hr2 : Kd.C (Kd.int .i64) w A2 l2.length l2) (hc2 : l2.length ≤ c2) (h : lampblacklaw07_MinorModels.f k l0 l1 l2 = some r) :
  Calls Tryd.prog 4 #[.slice A0 l0.length c0, .slice A1 l1.length c1, .slice A2 l2.length c2] w fun e w' => e = .returned (.bool r) ∧ Below w.heap.size w w' := by
 have HGL := Aside0.mk hGL
 clear hGL
 have HR0 := Aside0.mk hr0
 have HC0 := Aside0.mk hc0
 clear hr0 hc0
 have HR1 := Aside0.mk hr1
 have HC1 := Aside0.mk hc1
 clear hr1 hc1
 have HR2 := Aside0.mk hr2
 have HC2 := Aside0.mk hc2
 clear hr2 hc2
 have HB := Aside0.mk (Below.refl w.heap.size w)
 have H : ((lampblacklaw07_Few.f l0).bind fun t205 => ((lampblacklaw07_Few.f l1).bind fun t208 => ((minor_Model.f t205 t208).bind fun bt211 => ((lampblacklaw07_Few.f l0).bind fun t215 => ((lampblacklaw07_Few.f l1).bind fun t218 => ((lampblacklaw07_list.f l2).bind fun t221 => ((minor_Check.f t215 t218 t221).bind fun bt224 => ((lampblackref07_Valid.f k l0).bind fun t226 => (if t226 = true then ((lampblackref07_Pattern.f k l1).bind fun t227 => (lampblacklaw07_MinorModels.j0 k l0 l1 l2 bt211.1 bt211.2 bt224.1 bt224.2 (!t227))) else (lampblacklaw07_MinorModels.j0 k l0 l1 l2 bt211.1 bt211.2 bt224.1 bt224.2 true)))))))))) = some r := h
 clear h
 replace H := Option.bind_eq_some_iff.mp H
 obtain ⟨t205, A40, H⟩ := H
 replace H : ((lampblacklaw07_Few.f l1).bind fun t208 => ((minor_Model.f t205 t208).bind fun bt211 => ((lampblacklaw07_Few.f l0).bind fun t215 => ((lampblacklaw07_Few.f l1).bind fun t218 => ((lampblacklaw07_list.f l2).bind fun t221 => ((minor_Check.f t215 t218 t221).bind fun bt224 => ((lampblackref07_Valid.f k l0).bind fun t226 => (if t226 = true then ((lampblackref07_Pattern.f k l1).bind fun t227 => (lampblacklaw07_MinorModels.j0 k l0 l1 l2 bt211.1 bt211.2 bt224.1 bt224.2 (!t227))) else (lampblacklaw07_MinorModels.j0 k l0 l1 l2 bt211.1 bt211.2 bt224.1 bt224.2 true))))))))) = some r := H
 have A4 := Aside0.mk A40
 clear A40
 replace H := Option.bind_eq_some_iff.mp H
 obtain ⟨t208, A50, H⟩ := H
 replace H : ((minor_Model.f t205 t208).bind fun bt211 => ((lampblacklaw07_Few.f l0).bind fun t215 => ((lampblacklaw07_Few.f l1).bind fun t218 => ((lampblacklaw07_list.f l2).bind fun t221 => ((minor_Check.f t215 t218 t221).bind fun bt224 => ((lampblackref07_Valid.f k l0).bind fun t226 => (if t226 = true then ((lampblackref07_Pattern.f k l1).bind fun t227 => (lampblacklaw07_MinorModels.j0 k l0 l1 l2 bt211.1 bt211.2 bt224.1 bt224.2 (!t227))) else (lampblacklaw07_MinorModels.j0 k l0 l1 l2 bt211.1 bt211.2 bt224.1 bt224.2 true)))))))) = some r := H
 have A5 := Aside0.mk A50
 clear A50
 replace H := Option.bind_eq_some_iff.mp H
 obtain ⟨⟨t211, t212⟩, A60, H⟩ := H
 replace H : ((lampblacklaw07_Few.f l0).bind fun t215 => ((lampblacklaw07_Few.f l1).bind fun t218 => ((lampblacklaw07_list.f l2).bind fun t221 => ((minor_Check.f t215 t218 t221).bind fun bt224 => ((lampblackref07_Valid.f k l0).bind fun t226 => (if t226 = true then ((lampblackref07_Pattern.f k l1).bind fun t227 => (lampblacklaw07_MinorModels.j0 k l0 l1 l2 t211 t212 bt224.1 bt224.2 (!t227))) else (lampblacklaw07_MinorModels.j0 k l0 l1 l2 t211 t212 bt224.1 bt224.2 true))))))) = some r := H
 have A6 := Aside0.mk A60
 clear A60
 replace H := Option.bind_eq_some_iff.mp H
 obtain ⟨t215, A70, H⟩ := H
 replace H : ((lampblacklaw07_Few.f l1).bind fun t218 => ((lampblacklaw07_list.f l2).bind fun t221 => ((minor_Check.f t215 t218 t221).bind fun bt224 => ((lampblackref07_Valid.f k l0).bind fun t226 => (if t226 = true then ((lampblackref07_Pattern.f k l1).bind fun t227 => (lampblacklaw07_MinorModels.j0 k l0 l1 l2 t211 t212 bt224.1 bt224.2 (!t227))) else (lampblacklaw07_MinorModels.j0 k l0 l1 l2 t211 t212 bt224.1 bt224.2 true)))))) = some r := H
 have A7 := Aside0.mk A70
 clear A70
 replace H := Option.bind_eq_some_iff.mp H
 obtain ⟨t218, A80, H⟩ := H
 replace H : ((lampblacklaw07_list.f l2).bind fun t221 => ((minor_Check.f t215 t218 t221).bind fun bt224 => ((lampblackref07_Valid.f k l0).bind fun t226 => (if t226 = true then ((lampblackref07_Pattern.f k l1).bind fun t227 => (lampblacklaw07_MinorModels.j0 k l0 l1 l2 t211 t212 bt224.1 bt224.2 (!t227))) else (lampblacklaw07_MinorModels.j0 k l0 l1 l2 t211 t212 bt224.1 bt224.2 true))))) = some r := H
 have A8 := Aside0.mk A80
 clear A80
 replace H := Option.bind_eq_some_iff.mp H
 obtain ⟨t221, A90, H⟩ := H
 replace H : ((minor_Check.f t215 t218 t221).bind fun bt224 => ((lampblackref07_Valid.f k l0).bind fun t226 => (if t226 = true then ((lampblackref07_Pattern.f k l1).bind fun t227 => (lampblacklaw07_MinorModels.j0 k l0 l1 l2 t211 t212 bt224.1 bt224.2 (!t227))) else (lampblacklaw07_MinorModels.j0 k l0 l1 l2 t211 t212 bt224.1 bt224.2 true)))) = some r := H
 have A9 := Aside0.mk A90
 clear A90
 replace H := Option.bind_eq_some_iff.mp H
 obtain ⟨⟨t224, t225⟩, A100, H⟩ := H
 replace H : ((lampblackref07_Valid.f k l0).bind fun t226 => (if t226 = true then ((lampblackref07_Pattern.f k l1).bind fun t227 => (lampblacklaw07_MinorModels.j0 k l0 l1 l2 t211 t212 t224 t225 (!t227))) else (lampblacklaw07_MinorModels.j0 k l0 l1 l2 t211 t212 t224 t225 true))) = some r := H
 have A10 := Aside0.mk A100
 clear A100
 have HC11 := Aside0.mk H
 clear H
 go_enter Tryd.func4, Tryd.ntmps4
 go_upto_region 3 with (first | ((with_reducible refine gate_callee (f := 22) rfl ?_); refine goesL_ (some 15) rfl rfl Tryd.func22 (by kernel_rfl) rfl #[.slice A0 l0.length c0] rfl (Qls) ?_; (with_reducible refine (lampblacklaw07_Few.calls _ _ l0 t205 _ ?side1 ?side2 A4.out).mono ?_); (case side1 => exact Qsc HR0.out); (case side2 => exact HC0.out); rintro e w12 ⟨v206, rfl, ho0, hb⟩; refine ⟨_, rfl, ?_⟩; have n0_ := Aside0.mk (Kd.R_lower ho0 (below_size (Qaw))); have n1_ := Aside0.mk (below_step (Qaw) hb); clear HB; have HO207 := n0_; have HB := n1_; clear n0_ n1_; (try clear hb); (try clear hb2); (try clear hk); (try clear hi); (try clear ho0)) | ((with_reducible refine gate_callee (f := 22) rfl ?_); refine goesL_ (some 17) rfl rfl Tryd.func22 (by kernel_rfl) rfl #[.slice A1 l1.length c1] rfl (Qls) ?_; (with_reducible refine (lampblacklaw07_Few.calls _ _ l1 t208 _ ?side1 ?side2 A5.out).mono ?_); (case side1 => exact Qsc (Kd.C_below HR1.out HB.out)); (case side2 => exact HC1.out); rintro e w13 ⟨v209, rfl, ho0, hb⟩; refine ⟨_, rfl, ?_⟩; have n0_ := Aside0.mk (Kd.R_elder' (Qro HO207.out) (Kd.R_base ho0) hb); have n1_ := Aside0.mk (Kd.R_lower (Kd.R_new' ho0 (Kd.R_lt (Qro HO207.out))) (below_size (Qaw))); have n2_ := Aside0.mk (below_step (Qaw) hb); clear HO207; clear HB; have HO207 := n0_; have HO210 := n1_; have HB := n2_; clear n0_ n1_ n2_; (try clear hb); (try clear hb2); (try clear hk); (try clear hi); (try clear ho0); obtain ⟨Ao14, co14, eo14⟩ := Kd.R_slice HO207.out; subst eo14; obtain ⟨Ao15, co15, eo15⟩ := Kd.R_slice HO210.out; subst eo15) | ((with_reducible refine gate_callee (f := 21) rfl ?_); refine goesL_ (some 18) rfl rfl Tryd.func21 (by kernel_rfl) rfl #[.slice Ao14 t205.length co14, .slice Ao15 t208.length co15] rfl (Qls) ?_; (with_reducible refine (minor_Model.calls (hGL := (Qlg)) _ _ t205 _ _ t208 t211 t212 _ ?side1 ?side2 ?side3 ?side4 A6.out).mono ?_); (case side1 => exact Qsc (Kd.R_reads' HO207.out).2.2); (case side2 => exact (Kd.R_reads' HO207.out).2.1); (case side3 => exact Qsc (Kd.R_reads' HO210.out).2.2); (case side4 => exact (Kd.R_reads' HO210.out).2.1); rintro e w16 ⟨v213, rfl, ho0, hb⟩; refine ⟨_, rfl, ?_⟩; have n0_ := Aside0.mk (Kd.R_elder' (Qro HO207.out) (Kd.R_base ho0) hb); have n1_ := Aside0.mk (Kd.R_elder' (Qro HO210.out) (Kd.R_base ho0) hb); have n2_ := Aside0.mk (Kd.R_lower (Kd.R_new' (Kd.R_new' ho0 (Kd.R_lt (Qro HO207.out))) (Kd.R_lt (Qro HO210.out))) (below_size (Qaw))); have n3_ := Aside0.mk (below_step (Qaw) hb); clear HO207; clear HO210; clear HB; have HO207 := n0_; have HO210 := n1_; have HO214 := n2_; have HB := n3_; clear n0_ n1_ n2_ n3_; (try clear hb); (try clear hb2); (try clear hk); (try clear hi); (try clear ho0)) | ((with_reducible refine gate_callee (f := 22) rfl ?_); refine goesL_ (some 23) rfl rfl Tryd.func22 (by kernel_rfl) rfl #[.slice A0 l0.length c0] rfl (Qls) ?_; (with_reducible refine (lampblacklaw07_Few.calls _ _ l0 t215 _ ?side1 ?side2 A7.out).mono ?_); (case side1 => exact Qsc (Kd.C_below HR0.out HB.out)); (case side2 => exact HC0.out); rintro e w17 ⟨v216, rfl, ho0, hb⟩; refine ⟨_, rfl, ?_⟩; have n0_ := Aside0.mk (Kd.R_elder' (Qro HO207.out) (Kd.R_base ho0) hb); have n1_ := Aside0.mk (Kd.R_elder' (Qro HO210.out) (Kd.R_base ho0) hb); have n2_ := Aside0.mk (Kd.R_elder' (Qro HO214.out) (Kd.R_base ho0) hb); have n3_ := Aside0.mk (Kd.R_lower (Kd.R_new' (Kd.R_new' (Kd.R_new' ho0 (Kd.R_lt (Qro HO207.out))) (Kd.R_lt (Qro HO210.out))) (Kd.R_lt (Qro HO214.out))) (below_size (Qaw))); have n4_ := Aside0.mk (below_step (Qaw) hb); clear HO207; clear HO210; clear HO214; clear HB; have HO207 := n0_; have HO210 := n1_; have HO214 := n2_; have HO217 := n3_; have HB := n4_; clear n0_ n1_ n2_ n3_ n4_; (try clear hb); (try clear hb2); (try clear hk); (try clear hi); (try clear ho0)) | ((with_reducible refine gate_callee (f := 22) rfl ?_); refine goesL_ (some 25) rfl rfl Tryd.func22 (by kernel_rfl) rfl #[.slice A1 l1.length c1] rfl (Qls) ?_; (with_reducible refine (lampblacklaw07_Few.calls _ _ l1 t218 _ ?side1 ?side2 A8.out).mono ?_); (case side1 => exact Qsc (Kd.C_below HR1.out HB.out)); (case side2 => exact HC1.out); rintro e w18 ⟨v219, rfl, ho0, hb⟩; refine ⟨_, rfl, ?_⟩; have n0_ := Aside0.mk (Kd.R_elder' (Qro HO207.out) (Kd.R_base ho0) hb); have n1_ := Aside0.mk (Kd.R_elder' (Qro HO210.out) (Kd.R_base ho0) hb); have n2_ := Aside0.mk (Kd.R_elder' (Qro HO214.out) (Kd.R_base ho0) hb); have n3_ := Aside0.mk (Kd.R_elder' (Qro HO217.out) (Kd.R_base ho0) hb); have n4_ := Aside0.mk (Kd.R_lower (Kd.R_new' (Kd.R_new' (Kd.R_new' (Kd.R_new' ho0 (Kd.R_lt (Qro HO207.out))) (Kd.R_lt (Qro HO210.out))) (Kd.R_lt (Qro HO214.out))) (Kd.R_lt (Qro HO217.out))) (below_size (Qaw))); have n5_ := Aside0.mk (below_step (Qaw) hb); clear HO207; clear HO210; clear HO214; clear HO217; clear HB; have HO207 := n0_; have HO210 := n1_; have HO214 := n2_; have HO217 := n3_; have HO220 := n4_; have HB := n5_; clear n0_ n1_ n2_ n3_ n4_ n5_; (try clear hb); (try clear hb2); (try clear hk); (try clear hi); (try clear ho0)) | ((with_reducible refine gate_callee (f := 24) rfl ?_); refine goesL_ (some 27) rfl rfl Tryd.func24 (by kernel_rfl) rfl #[.slice A2 l2.length c2] rfl (Qls) ?_; (with_reducible refine (lampblacklaw07_list.calls _ _ l2 t221 _ ?side1 ?side2 A9.out).mono ?_); (case side1 => exact Qsc (Kd.C_below HR2.out HB.out)); (case side2 => exact HC2.out); rintro e w19 ⟨v222, rfl, ho0, hb⟩; refine ⟨_, rfl, ?_⟩; have n0_ := Aside0.mk (Kd.R_elder' (Qro HO207.out) (Kd.R_base ho0) hb); have n1_ := Aside0.mk (Kd.R_elder' (Qro HO210.out) (Kd.R_base ho0) hb); have n2_ := Aside0.mk (Kd.R_elder' (Qro HO214.out) (Kd.R_base ho0) hb); have n3_ := Aside0.mk (Kd.R_elder' (Qro HO217.out) (Kd.R_base ho0) hb); have n4_ := Aside0.mk (Kd.R_elder' (Qro HO220.out) (Kd.R_base ho0) hb); have n5_ := Aside0.mk (Kd.R_lower (Kd.R_new' (Kd.R_new' (Kd.R_new' (Kd.R_new' (Kd.R_new' ho0 (Kd.R_lt (Qro HO207.out))) (Kd.R_lt (Qro HO210.out))) (Kd.R_lt (Qro HO214.out))) (Kd.R_lt (Qro HO217.out))) (Kd.R_lt (Qro HO220.out))) (below_size (Qaw))); have n6_ := Aside0.mk (below_step (Qaw) hb); clear HO207; clear HO210; clear HO214; clear HO217; clear HO220; clear HB; have HO207 := n0_; have HO210 := n1_; have HO214 := n2_; have HO217 := n3_; have HO220 := n4_; have HO223 := n5_; have HB := n6_; clear n0_ n1_ n2_ n3_ n4_ n5_ n6_; (try clear hb); (try clear hb2); (try clear hk); (try clear hi); (try clear ho0); obtain ⟨Ao20, co20, eo20⟩ := Kd.R_slice HO217.out; subst eo20; obtain ⟨Ao21, co21, eo21⟩ := Kd.R_slice HO220.out; subst eo21; obtain ⟨Ao22, co22, eo22⟩ := Kd.R_slice HO223.out; subst eo22) | ((with_reducible refine gate_callee (f := 23) rfl ?_); refine goesL_ (some 28) rfl rfl Tryd.func23 (by kernel_rfl) rfl #[.slice Ao20 t215.length co20, .slice Ao21 t218.length co21, .slice Ao22 t221.length co22] rfl (Qls) ?_; (with_reducible refine (minor_Check.calls (hGL := (Qlg)) _ _ t215 _ _ t218 _ _ t221 t224 t225 _ ?side1 ?side2 ?side3 ?side4 ?side5 ?side6 A10.out).mono ?_); (case side1 => exact Qsc (Kd.R_reads' HO217.out).2.2); (case side2 => exact (Kd.R_reads' HO217.out).2.1); (case side3 => exact Qsc (Kd.R_reads' HO220.out).2.2); (case side4 => exact (Kd.R_reads' HO220.out).2.1); (case side5 => exact Qsc (Kd.R_reads' HO223.out).2.2); (case side6 => exact (Kd.R_reads' HO223.out).2.1); rintro e w23 ⟨rfl, hb⟩; refine ⟨_, rfl, ?_⟩; have n0_ := Aside0.mk (Kd.R_below (Qro HO207.out) hb); have n1_ := Aside0.mk (Kd.R_below (Qro HO210.out) hb); have n2_ := Aside0.mk (Kd.R_below (Qro HO214.out) hb); have n3_ := Aside0.mk (Kd.R_below (Qro HO217.out) hb); have n4_ := Aside0.mk (Kd.R_below (Qro HO220.out) hb); have n5_ := Aside0.mk (Kd.R_below (Qro HO223.out) hb); have n6_ := Aside0.mk (below_step (Qaw) hb); clear HO207; clear HO210; clear HO214; clear HO217; clear HO220; clear HO223; clear HB; have HO207 := n0_; have HO210 := n1_; have HO214 := n2_; have HO217 := n3_; have HO220 := n4_; have HO223 := n5_; have HB := n6_; clear n0_ n1_ n2_ n3_ n4_ n5_ n6_; (try clear hb); (try clear hb2); (try clear hk); (try clear hi)))
 (try simp only [Act.put, List.setIfInBounds_toArray, List.set_cons_zero, List.set_cons_succ])
 go_cut [38] (fun v38 wc => ∃ (kq : Nat) (x38_10 : Bool), v38 = .bool x38_10 ∧ Aside0 (lampblacklaw07_MinorModels.j0 kq l0 l1 l2 t211 t212 t224 t225 x38_10 = some r) ∧ Aside0 (kq ≤ k) ∧ Aside0 (Kd.R (Kd.int .i64) 3 wc w.heap.size (fun _ => True) v213 t211) ∧ Aside0 (Below w.heap.size w wc))
 case first =>
  have H := HC11.out
  clear HC11
  replace H := Option.bind_eq_some_iff.mp H
  obtain ⟨t226, A240, H⟩ := H
  replace H : (if t226 = true then ((lampblackref07_Pattern.f k l1).bind fun t227 => (lampblacklaw07_MinorModels.j0 k l0 l1 l2 t211 t212 t224 t225 (!t227))) else (lampblacklaw07_MinorModels.j0 k l0 l1 l2 t211 t212 t224 t225 true)) = some r := H
  have A24 := Aside0.mk A240
  clear A240
  by_cases c25 : t226 = true
  ·subst c25
   have H1 : ((lampblackref07_Pattern.f k l1).bind fun t227 => (lampblacklaw07_MinorModels.j0 k l0 l1 l2 t211 t212 t224 t225 (!t227))) = some r := by rw [if_pos rfl] at H; exact H
   clear H
   have H := H1
   clear H1
   replace H := Option.bind_eq_some_iff.mp H
   obtain ⟨t227, A260, H⟩ := H
   replace H : (lampblacklaw07_MinorModels.j0 k l0 l1 l2 t211 t212 t224 t225 (!t227)) = some r := H
   have A26 := Aside0.mk A260
   clear A260
   have H' := Aside0.mk H
   clear H
   go_wp2_with (first | ((with_reducible refine gate_callee (f := 16) rfl ?_); refine goesL_ (some 32) rfl rfl Tryd.func16 (by kernel_rfl) rfl #[.slice A0 l0.length c0] rfl (Qls) ?_; (with_reducible refine (lampblackref07_Valid.calls k _ _ l0 true _ ?side1 ?side2 A24.out).mono ?_); (case side1 => exact Qsc (Kd.C_below HR0.out HB.out)); (case side2 => exact HC0.out); rintro e w' ⟨rfl, ⟨nd, rfl⟩⟩; refine ⟨_, rfl, ?_⟩) | (go_at_call 25; (with_reducible refine (lampblackref07_Pattern.calls k _ _ l1 t227 _ ?side1 ?side2 A26.out).mono ?_); (case side1 => repeat (first | exact (Kd.C_below HR1.out (Qaw)) | (with_reducible refine Kd.C_alloc ?_ _) | (with_reducible refine Kd.C_drewN ?_ _) | (with_reducible refine Kd.C_drew ?_))); (case side2 => exact HC1.out); rintro e w' ⟨rfl, ⟨nd, rfl⟩⟩))
   go_meet
   case rel => exact ⟨_, (!t227), (by first | rfl | (simp; done) | (simp [*]; done)), H', ⟨by first | omega | exact Nat.le_refl _⟩, ⟨by (with_reducible repeat (first | apply Kd.R_alloc | apply Kd.R_drewN | apply Kd.R_drew)); exact Kd.R_mono HO214.out (fun _ hk => trivial)⟩, ⟨by repeat (first | (with_reducible first | exact HB.out | apply below_alloc | apply pw_below_drewN | apply below_drew1) | exact HB.out)⟩⟩
  ·replace c25 := Bool.eq_false_iff.mpr c25
   subst c25
   have H1 : (lampblacklaw07_MinorModels.j0 k l0 l1 l2 t211 t212 t224 t225 true) = some r := by rw [if_neg (show ¬ (false = true) by decide)] at H; exact H
   clear H
   have H := H1
   clear H1
   have H' := Aside0.mk H
   clear H
   go_wp2_with (first | ((with_reducible refine gate_callee (f := 16) rfl ?_); refine goesL_ (some 32) rfl rfl Tryd.func16 (by kernel_rfl) rfl #[.slice A0 l0.length c0] rfl (Qls) ?_; (with_reducible refine (lampblackref07_Valid.calls k _ _ l0 false _ ?side1 ?side2 A24.out).mono ?_); (case side1 => exact Qsc (Kd.C_below HR0.out HB.out)); (case side2 => exact HC0.out); rintro e w' ⟨rfl, ⟨nd, rfl⟩⟩; refine ⟨_, rfl, ?_⟩))
   go_meet
   case rel => exact ⟨_, (true), (by first | rfl | (simp; done) | (simp [*]; done)), H', ⟨by first | omega | exact Nat.le_refl _⟩, ⟨by (with_reducible repeat (first | apply Kd.R_alloc | apply Kd.R_drewN | apply Kd.R_drew)); exact Kd.R_mono HO214.out (fun _ hk => trivial)⟩, ⟨by repeat (first | (with_reducible first | exact HB.out | apply below_alloc | apply pw_below_drewN | apply below_drew1) | exact HB.out)⟩⟩
 case rest =>
  clear HC11
  try clear c1
  try clear c2
  try clear p2
  try clear c4
  try clear c16
  try clear c21
  try clear c22
  try clear c23
  try clear c24
  try clear c25
  obtain ⟨kq, x38_10, rfl, HA, HJ10, HO_7, HB⟩ := hcut
  cases kq with
  | zero => exact absurd HA.out (by simp [lampblacklaw07_MinorModels.j0])
  | succ kj10 =>
   have H := HA.out
   clear HA
   simp only [lampblacklaw07_MinorModels.j0] at H
   by_cases c27 : x38_10 = true
   ·subst c27
    have H1 : (if (t211.length : Int) = 0 then (if t224 = true then (some false) else (if t212 = 2 then (if t225 = 2 then ((lampblacklaw07_awake.f kj10).bind fun t228 => (some t228)) else (some false)) else (some false))) else (some false)) = some r := by rw [if_pos rfl] at H; exact H
    clear H
    have H := H1
    clear H1
    by_cases c28 : (t211.length : Int) = 0
    ·rw [if_pos c28] at H
     have c28b0 : ((t211.length : Int) == 0) = true := beq_iff_eq.mpr c28
     have c28b1 : ((t211.length : Int) != 0) = false := bne_eq_false_iff_eq.mpr c28
     clear c28
     by_cases c29 : t224 = true
     ·subst c29
      have H1 : (some false) = some r := by rw [if_pos rfl] at H; exact H
      clear H
      have H := H1
      clear H1
      obtain rfl := Option.some.inj H
      obtain ⟨Ao30, co30, eo30⟩ := Kd.R_slice HO_7.out
      subst eo30
      go_wp2
      go_ret
      exact ⟨by first | rfl | (simp [errW_none, errW_some] <;> rfl) | (simp [*, errW_none, errW_some] <;> rfl), by repeat (first | (with_reducible first | exact HB.out | apply below_alloc | apply pw_below_drewN | apply below_drew1) | exact HB.out)⟩
     ·replace c29 := Bool.eq_false_iff.mpr c29
      subst c29
      have H1 : (if t212 = 2 then (if t225 = 2 then ((lampblacklaw07_awake.f kj10).bind fun t228 => (some t228)) else (some false)) else (some false)) = some r := by rw [if_neg (show ¬ (false = true) by decide)] at H; exact H
      clear H
      have H := H1
      clear H1
      by_cases c31 : t212 = 2
      ·rw [if_pos c31] at H
       have c31b0 : (t212 == 2) = true := beq_iff_eq.mpr c31
       have c31b1 : (t212 != 2) = false := bne_eq_false_iff_eq.mpr c31
       clear c31
       by_cases c32 : t225 = 2
       ·rw [if_pos c32] at H
        have c32b0 : (t225 == 2) = true := beq_iff_eq.mpr c32
        have c32b1 : (t225 != 2) = false := bne_eq_false_iff_eq.mpr c32
        clear c32
        replace H := Option.bind_eq_some_iff.mp H
        obtain ⟨t228, A330, H⟩ := H
        replace H : (some t228) = some r := H
        have A33 := Aside0.mk A330
        clear A330
        obtain rfl := Option.some.inj H
        obtain ⟨Ao34, co34, eo34⟩ := Kd.R_slice HO_7.out
        subst eo34
        go_wp2_with (first | (go_at_call 17; (with_reducible refine (lampblacklaw07_awake.calls (hGL := (Qlg)) kj10  t228 _ A33.out).mono ?_); rintro e w35 ⟨rfl, hb⟩; have n0_ := Aside0.mk (Kd.R_below (Qro HO_7.out) hb); have n1_ := Aside0.mk (below_step (Qaw) hb); clear HO_7; clear HB; have HO_7 := n0_; have HB := n1_; clear n0_ n1_; (try clear hb); (try clear hb2); (try clear hk); (try clear hi)))
        go_ret
        exact ⟨by first | rfl | (simp [errW_none, errW_some] <;> rfl) | (simp [*, errW_none, errW_some] <;> rfl), by repeat (first | (with_reducible first | exact HB.out | apply below_alloc | apply pw_below_drewN | apply below_drew1) | exact HB.out)⟩
       ·rw [if_neg c32] at H
        have c32b0 : (t225 == 2) = false := beq_eq_false_iff_ne.mpr c32
        have c32b1 : (t225 != 2) = true := bne_iff_ne.mpr c32
        obtain rfl := Option.some.inj H
        obtain ⟨Ao36, co36, eo36⟩ := Kd.R_slice HO_7.out
        subst eo36
        go_wp2
        go_ret
        exact ⟨by first | rfl | (simp [errW_none, errW_some] <;> rfl) | (simp [*, errW_none, errW_some] <;> rfl), by repeat (first | (with_reducible first | exact HB.out | apply below_alloc | apply pw_below_drewN | apply below_drew1) | exact HB.out)⟩
      ·rw [if_neg c31] at H
       have c31b0 : (t212 == 2) = false := beq_eq_false_iff_ne.mpr c31
       have c31b1 : (t212 != 2) = true := bne_iff_ne.mpr c31
       obtain rfl := Option.some.inj H
       obtain ⟨Ao37, co37, eo37⟩ := Kd.R_slice HO_7.out
       subst eo37
       go_wp2
       go_ret
       exact ⟨by first | rfl | (simp [errW_none, errW_some] <;> rfl) | (simp [*, errW_none, errW_some] <;> rfl), by repeat (first | (with_reducible first | exact HB.out | apply below_alloc | apply pw_below_drewN | apply below_drew1) | exact HB.out)⟩
    ·rw [if_neg c28] at H
     have c28b0 : ((t211.length : Int) == 0) = false := beq_eq_false_iff_ne.mpr c28
     have c28b1 : ((t211.length : Int) != 0) = true := bne_iff_ne.mpr c28
     have c28b2 : ¬ (t211 = []) := fun h_ => c28 (by rw [h_]; rfl)
     obtain rfl := Option.some.inj H
     obtain ⟨Ao38, co38, eo38⟩ := Kd.R_slice HO_7.out
     subst eo38
     go_wp2
     go_ret
     exact ⟨by first | rfl | (simp [errW_none, errW_some] <;> rfl) | (simp [*, errW_none, errW_some] <;> rfl), by repeat (first | (with_reducible first | exact HB.out | apply below_alloc | apply pw_below_drewN | apply below_drew1) | exact HB.out)⟩
   ·replace c27 := Bool.eq_false_iff.mpr c27
    subst c27
    have H1 : ((lampblackref07_Model.f l0 l1).bind fun bt229 => ((slices_Equal_int_int.f kj10 t211 bt229.1).bind fun t233 => (if t233 = true then (if t212 = bt229.2 then ((lampblackref07_IsModel.f kj10 l0 l1 l2).bind fun t234 => (if (t224 == t234) = true then (if t225 = 0 then ((lampblacklaw07_awake.f kj10).bind fun t235 => (some t235)) else (some false)) else (some false))) else (some false)) else (some false)))) = some r := by rw [if_neg (show ¬ (false = true) by decide)] at H; exact H
    clear H
    have H := H1
    clear H1
    replace H := Option.bind_eq_some_iff.mp H
    obtain ⟨⟨t229, t230⟩, A390, H⟩ := H
    replace H : ((slices_Equal_int_int.f kj10 t211 t229).bind fun t233 => (if t233 = true then (if t212 = t230 then ((lampblackref07_IsModel.f kj10 l0 l1 l2).bind fun t234 => (if (t224 == t234) = true then (if t225 = 0 then ((lampblacklaw07_awake.f kj10).bind fun t235 => (some t235)) else (some false)) else (some false))) else (some false)) else (some false))) = some r := H
    have A39 := Aside0.mk A390
    clear A390
    replace H := Option.bind_eq_some_iff.mp H
    obtain ⟨t233, A400, H⟩ := H
    replace H : (if t233 = true then (if t212 = t230 then ((lampblackref07_IsModel.f kj10 l0 l1 l2).bind fun t234 => (if (t224 == t234) = true then (if t225 = 0 then ((lampblacklaw07_awake.f kj10).bind fun t235 => (some t235)) else (some false)) else (some false))) else (some false)) else (some false)) = some r := H
    have A40 := Aside0.mk A400
    clear A400
    by_cases c41 : t233 = true
    ·subst c41
     have H1 : (if t212 = t230 then ((lampblackref07_IsModel.f kj10 l0 l1 l2).bind fun t234 => (if (t224 == t234) = true then (if t225 = 0 then ((lampblacklaw07_awake.f kj10).bind fun t235 => (some t235)) else (some false)) else (some false))) else (some false)) = some r := by rw [if_pos rfl] at H; exact H
     clear H
     have H := H1
     clear H1
     by_cases c42 : t212 = t230
     ·rw [if_pos c42] at H
      have c42b0 : (t212 == t230) = true := beq_iff_eq.mpr c42
      have c42b1 : (t212 != t230) = false := bne_eq_false_iff_eq.mpr c42
      clear c42
      replace H := Option.bind_eq_some_iff.mp H
      obtain ⟨t234, A430, H⟩ := H
      replace H : (if (t224 == t234) = true then (if t225 = 0 then ((lampblacklaw07_awake.f kj10).bind fun t235 => (some t235)) else (some false)) else (some false)) = some r := H
      have A43 := Aside0.mk A430
      clear A430
      by_cases c44 : (t224 == t234) = true
      ·rw [if_pos c44] at H
       have c44b0 : (t224 == t234) = true := c44
       (try (have c44b1 : decide (t224 = t234) = true := by simpa using c44))
       (try (have c44b2 : (t224 == t234) = true := by simpa using c44))
       clear c44
       by_cases c45 : t225 = 0
       ·rw [if_pos c45] at H
        have c45b0 : (t225 == 0) = true := beq_iff_eq.mpr c45
        have c45b1 : (t225 != 0) = false := bne_eq_false_iff_eq.mpr c45
        clear c45
        replace H := Option.bind_eq_some_iff.mp H
        obtain ⟨t235, A460, H⟩ := H
        replace H : (some t235) = some r := H
        have A46 := Aside0.mk A460
        clear A460
        obtain rfl := Option.some.inj H
        go_wp2_with (first | ((with_reducible refine gate_callee (f := 26) rfl ?_); refine goesL_ (some 60) rfl rfl Tryd.func26 (by kernel_rfl) rfl #[.slice A0 l0.length c0, .slice A1 l1.length c1] rfl (Qls) ?_; (with_reducible refine (lampblackref07_Model.calls _ _ l0 _ _ l1 t229 t230 _ ?side1 ?side2 ?side3 ?side4 A39.out).mono ?_); (case side1 => exact Qsc (Kd.C_below HR0.out HB.out)); (case side2 => exact HC0.out); (case side3 => exact Qsc (Kd.C_below HR1.out HB.out)); (case side4 => exact HC1.out); rintro e w47 ⟨v231, rfl, ho0, hb⟩; refine ⟨_, rfl, ?_⟩; have n0_ := Aside0.mk (Kd.R_elder' (Qro HO_7.out) (Kd.R_base ho0) hb); have n1_ := Aside0.mk (Kd.R_lower (Kd.R_new' ho0 (Kd.R_lt (Qro HO_7.out))) (below_size (Qaw))); have n2_ := Aside0.mk (below_step (Qaw) hb); clear HO_7; clear HB; have HO_7 := n0_; have HO232 := n1_; have HB := n2_; clear n0_ n1_ n2_; (try clear hb); (try clear hb2); (try clear hk); (try clear hi); (try clear ho0); obtain ⟨Ao48, co48, eo48⟩ := Kd.R_slice HO_7.out; subst eo48; obtain ⟨Ao49, co49, eo49⟩ := Kd.R_slice HO232.out; subst eo49) | ((with_reducible refine gate_callee (f := 27) rfl ?_); refine goesL_ (some 65) rfl rfl Tryd.func27 (by kernel_rfl) rfl #[.slice Ao48 t211.length co48, .slice Ao49 t229.length co49] rfl (Qls) ?_; (with_reducible refine (slices_Equal_int_int.calls kj10 _ _ t211 _ _ t229 true _ ?side1 ?side2 ?side3 ?side4 A40.out).mono ?_); (case side1 => exact Qsc (Kd.R_reads' HO_7.out).2.2); (case side2 => exact (Kd.R_reads' HO_7.out).2.1); (case side3 => exact Qsc (Kd.R_reads' HO232.out).2.2); (case side4 => exact (Kd.R_reads' HO232.out).2.1); rintro e w' ⟨rfl, ⟨nd, rfl⟩⟩; refine ⟨_, rfl, ?_⟩) | (go_at_call 28; (with_reducible refine (lampblackref07_IsModel.calls kj10 _ _ l0 _ _ l1 _ _ l2 t234 _ ?side1 ?side2 ?side3 ?side4 ?side5 ?side6 A43.out).mono ?_); (case side1 => repeat (first | exact (Kd.C_below HR0.out (Qaw)) | (with_reducible refine Kd.C_alloc ?_ _) | (with_reducible refine Kd.C_drewN ?_ _) | (with_reducible refine Kd.C_drew ?_))); (case side2 => exact HC0.out); (case side3 => repeat (first | exact (Kd.C_below HR1.out (Qaw)) | (with_reducible refine Kd.C_alloc ?_ _) | (with_reducible refine Kd.C_drewN ?_ _) | (with_reducible refine Kd.C_drew ?_))); (case side4 => exact HC1.out); (case side5 => repeat (first | exact (Kd.C_below HR2.out (Qaw)) | (with_reducible refine Kd.C_alloc ?_ _) | (with_reducible refine Kd.C_drewN ?_ _) | (with_reducible refine Kd.C_drew ?_))); (case side6 => exact HC2.out); rintro e w' ⟨rfl, ⟨nd, rfl⟩⟩) | (go_at_call 17; (with_reducible refine (lampblacklaw07_awake.calls (hGL := (Qlg)) kj10  t235 _ A46.out).mono ?_); rintro e w50 ⟨rfl, hb⟩; have n0_ := Aside0.mk (Kd.R_below (Qro HO_7.out) hb); have n1_ := Aside0.mk (Kd.R_below (Qro HO232.out) hb); have n2_ := Aside0.mk (below_step (Qaw) hb); clear HO_7; clear HO232; clear HB; have HO_7 := n0_; have HO232 := n1_; have HB := n2_; clear n0_ n1_ n2_; (try clear hb); (try clear hb2); (try clear hk); (try clear hi)))
        go_ret
        exact ⟨by first | rfl | (simp [errW_none, errW_some] <;> rfl) | (simp [*, errW_none, errW_some] <;> rfl), by repeat (first | (with_reducible first | exact HB.out | apply below_alloc | apply pw_below_drewN | apply below_drew1) | exact HB.out)⟩
       ·rw [if_neg c45] at H
        have c45b0 : (t225 == 0) = false := beq_eq_false_iff_ne.mpr c45
        have c45b1 : (t225 != 0) = true := bne_iff_ne.mpr c45
        obtain rfl := Option.some.inj H
        go_wp2_with (first | ((with_reducible refine gate_callee (f := 26) rfl ?_); refine goesL_ (some 60) rfl rfl Tryd.func26 (by kernel_rfl) rfl #[.slice A0 l0.length c0, .slice A1 l1.length c1] rfl (Qls) ?_; (with_reducible refine (lampblackref07_Model.calls _ _ l0 _ _ l1 t229 t230 _ ?side1 ?side2 ?side3 ?side4 A39.out).mono ?_); (case side1 => exact Qsc (Kd.C_below HR0.out HB.out)); (case side2 => exact HC0.out); (case side3 => exact Qsc (Kd.C_below HR1.out HB.out)); (case side4 => exact HC1.out); rintro e w51 ⟨v231, rfl, ho0, hb⟩; refine ⟨_, rfl, ?_⟩; have n0_ := Aside0.mk (Kd.R_elder' (Qro HO_7.out) (Kd.R_base ho0) hb); have n1_ := Aside0.mk (Kd.R_lower (Kd.R_new' ho0 (Kd.R_lt (Qro HO_7.out))) (below_size (Qaw))); have n2_ := Aside0.mk (below_step (Qaw) hb); clear HO_7; clear HB; have HO_7 := n0_; have HO232 := n1_; have HB := n2_; clear n0_ n1_ n2_; (try clear hb); (try clear hb2); (try clear hk); (try clear hi); (try clear ho0); obtain ⟨Ao52, co52, eo52⟩ := Kd.R_slice HO_7.out; subst eo52; obtain ⟨Ao53, co53, eo53⟩ := Kd.R_slice HO232.out; subst eo53) | ((with_reducible refine gate_callee (f := 27) rfl ?_); refine goesL_ (some 65) rfl rfl Tryd.func27 (by kernel_rfl) rfl #[.slice Ao52 t211.length co52, .slice Ao53 t229.length co53] rfl (Qls) ?_; (with_reducible refine (slices_Equal_int_int.calls kj10 _ _ t211 _ _ t229 true _ ?side1 ?side2 ?side3 ?side4 A40.out).mono ?_); (case side1 => exact Qsc (Kd.R_reads' HO_7.out).2.2); (case side2 => exact (Kd.R_reads' HO_7.out).2.1); (case side3 => exact Qsc (Kd.R_reads' HO232.out).2.2); (case side4 => exact (Kd.R_reads' HO232.out).2.1); rintro e w' ⟨rfl, ⟨nd, rfl⟩⟩; refine ⟨_, rfl, ?_⟩) | (go_at_call 28; (with_reducible refine (lampblackref07_IsModel.calls kj10 _ _ l0 _ _ l1 _ _ l2 t234 _ ?side1 ?side2 ?side3 ?side4 ?side5 ?side6 A43.out).mono ?_); (case side1 => repeat (first | exact (Kd.C_below HR0.out (Qaw)) | (with_reducible refine Kd.C_alloc ?_ _) | (with_reducible refine Kd.C_drewN ?_ _) | (with_reducible refine Kd.C_drew ?_))); (case side2 => exact HC0.out); (case side3 => repeat (first | exact (Kd.C_below HR1.out (Qaw)) | (with_reducible refine Kd.C_alloc ?_ _) | (with_reducible refine Kd.C_drewN ?_ _) | (with_reducible refine Kd.C_drew ?_))); (case side4 => exact HC1.out); (case side5 => repeat (first | exact (Kd.C_below HR2.out (Qaw)) | (with_reducible refine Kd.C_alloc ?_ _) | (with_reducible refine Kd.C_drewN ?_ _) | (with_reducible refine Kd.C_drew ?_))); (case side6 => exact HC2.out); rintro e w' ⟨rfl, ⟨nd, rfl⟩⟩))
        go_ret
        exact ⟨by first | rfl | (simp [errW_none, errW_some] <;> rfl) | (simp [*, errW_none, errW_some] <;> rfl), by repeat (first | (with_reducible first | exact HB.out | apply below_alloc | apply pw_below_drewN | apply below_drew1) | exact HB.out)⟩
      ·rw [if_neg c44] at H
       have c44b0 : (t224 == t234) = false := by simpa using c44
       (try (have c44b1 : decide (t224 = t234) = false := by simpa using c44))
       (try (have c44b2 : (t224 == t234) = false := by simpa using c44))
       (try (have c44b3 : ¬ (t224 = t234) := by simpa using c44))
       clear c44
       obtain rfl := Option.some.inj H
       go_wp2_with (first | ((with_reducible refine gate_callee (f := 26) rfl ?_); refine goesL_ (some 60) rfl rfl Tryd.func26 (by kernel_rfl) rfl #[.slice A0 l0.length c0, .slice A1 l1.length c1] rfl (Qls) ?_; (with_reducible refine (lampblackref07_Model.calls _ _ l0 _ _ l1 t229 t230 _ ?side1 ?side2 ?side3 ?side4 A39.out).mono ?_); (case side1 => exact Qsc (Kd.C_below HR0.out HB.out)); (case side2 => exact HC0.out); (case side3 => exact Qsc (Kd.C_below HR1.out HB.out)); (case side4 => exact HC1.out); rintro e w54 ⟨v231, rfl, ho0, hb⟩; refine ⟨_, rfl, ?_⟩; have n0_ := Aside0.mk (Kd.R_elder' (Qro HO_7.out) (Kd.R_base ho0) hb); have n1_ := Aside0.mk (Kd.R_lower (Kd.R_new' ho0 (Kd.R_lt (Qro HO_7.out))) (below_size (Qaw))); have n2_ := Aside0.mk (below_step (Qaw) hb); clear HO_7; clear HB; have HO_7 := n0_; have HO232 := n1_; have HB := n2_; clear n0_ n1_ n2_; (try clear hb); (try clear hb2); (try clear hk); (try clear hi); (try clear ho0); obtain ⟨Ao55, co55, eo55⟩ := Kd.R_slice HO_7.out; subst eo55; obtain ⟨Ao56, co56, eo56⟩ := Kd.R_slice HO232.out; subst eo56) | ((with_reducible refine gate_callee (f := 27) rfl ?_); refine goesL_ (some 65) rfl rfl Tryd.func27 (by kernel_rfl) rfl #[.slice Ao55 t211.length co55, .slice Ao56 t229.length co56] rfl (Qls) ?_; (with_reducible refine (slices_Equal_int_int.calls kj10 _ _ t211 _ _ t229 true _ ?side1 ?side2 ?side3 ?side4 A40.out).mono ?_); (case side1 => exact Qsc (Kd.R_reads' HO_7.out).2.2); (case side2 => exact (Kd.R_reads' HO_7.out).2.1); (case side3 => exact Qsc (Kd.R_reads' HO232.out).2.2); (case side4 => exact (Kd.R_reads' HO232.out).2.1); rintro e w' ⟨rfl, ⟨nd, rfl⟩⟩; refine ⟨_, rfl, ?_⟩) | (go_at_call 28; (with_reducible refine (lampblackref07_IsModel.calls kj10 _ _ l0 _ _ l1 _ _ l2 t234 _ ?side1 ?side2 ?side3 ?side4 ?side5 ?side6 A43.out).mono ?_); (case side1 => repeat (first | exact (Kd.C_below HR0.out (Qaw)) | (with_reducible refine Kd.C_alloc ?_ _) | (with_reducible refine Kd.C_drewN ?_ _) | (with_reducible refine Kd.C_drew ?_))); (case side2 => exact HC0.out); (case side3 => repeat (first | exact (Kd.C_below HR1.out (Qaw)) | (with_reducible refine Kd.C_alloc ?_ _) | (with_reducible refine Kd.C_drewN ?_ _) | (with_reducible refine Kd.C_drew ?_))); (case side4 => exact HC1.out); (case side5 => repeat (first | exact (Kd.C_below HR2.out (Qaw)) | (with_reducible refine Kd.C_alloc ?_ _) | (with_reducible refine Kd.C_drewN ?_ _) | (with_reducible refine Kd.C_drew ?_))); (case side6 => exact HC2.out); rintro e w' ⟨rfl, ⟨nd, rfl⟩⟩))
       go_ret
       exact ⟨by first | rfl | (simp [errW_none, errW_some] <;> rfl) | (simp [*, errW_none, errW_some] <;> rfl), by repeat (first | (with_reducible first | exact HB.out | apply below_alloc | apply pw_below_drewN | apply below_drew1) | exact HB.out)⟩
     ·rw [if_neg c42] at H
      have c42b0 : (t212 == t230) = false := beq_eq_false_iff_ne.mpr c42
      have c42b1 : (t212 != t230) = true := bne_iff_ne.mpr c42
      obtain rfl := Option.some.inj H
      go_wp2_with (first | ((with_reducible refine gate_callee (f := 26) rfl ?_); refine goesL_ (some 60) rfl rfl Tryd.func26 (by kernel_rfl) rfl #[.slice A0 l0.length c0, .slice A1 l1.length c1] rfl (Qls) ?_; (with_reducible refine (lampblackref07_Model.calls _ _ l0 _ _ l1 t229 t230 _ ?side1 ?side2 ?side3 ?side4 A39.out).mono ?_); (case side1 => exact Qsc (Kd.C_below HR0.out HB.out)); (case side2 => exact HC0.out); (case side3 => exact Qsc (Kd.C_below HR1.out HB.out)); (case side4 => exact HC1.out); rintro e w57 ⟨v231, rfl, ho0, hb⟩; refine ⟨_, rfl, ?_⟩; have n0_ := Aside0.mk (Kd.R_elder' (Qro HO_7.out) (Kd.R_base ho0) hb); have n1_ := Aside0.mk (Kd.R_lower (Kd.R_new' ho0 (Kd.R_lt (Qro HO_7.out))) (below_size (Qaw))); have n2_ := Aside0.mk (below_step (Qaw) hb); clear HO_7; clear HB; have HO_7 := n0_; have HO232 := n1_; have HB := n2_; clear n0_ n1_ n2_; (try clear hb); (try clear hb2); (try clear hk); (try clear hi); (try clear ho0); obtain ⟨Ao58, co58, eo58⟩ := Kd.R_slice HO_7.out; subst eo58; obtain ⟨Ao59, co59, eo59⟩ := Kd.R_slice HO232.out; subst eo59) | ((with_reducible refine gate_callee (f := 27) rfl ?_); refine goesL_ (some 65) rfl rfl Tryd.func27 (by kernel_rfl) rfl #[.slice Ao58 t211.length co58, .slice Ao59 t229.length co59] rfl (Qls) ?_; (with_reducible refine (slices_Equal_int_int.calls kj10 _ _ t211 _ _ t229 true _ ?side1 ?side2 ?side3 ?side4 A40.out).mono ?_); (case side1 => exact Qsc (Kd.R_reads' HO_7.out).2.2); (case side2 => exact (Kd.R_reads' HO_7.out).2.1); (case side3 => exact Qsc (Kd.R_reads' HO232.out).2.2); (case side4 => exact (Kd.R_reads' HO232.out).2.1); rintro e w' ⟨rfl, ⟨nd, rfl⟩⟩; refine ⟨_, rfl, ?_⟩))
      go_ret
      exact ⟨by first | rfl | (simp [errW_none, errW_some] <;> rfl) | (simp [*, errW_none, errW_some] <;> rfl), by repeat (first | (with_reducible first | exact HB.out | apply below_alloc | apply pw_below_drewN | apply below_drew1) | exact HB.out)⟩
    ·replace c41 := Bool.eq_false_iff.mpr c41
     subst c41
     have H1 : (some false) = some r := by rw [if_neg (show ¬ (false = true) by decide)] at H; exact H
     clear H
     have H := H1
     clear H1
     obtain rfl := Option.some.inj H
     go_wp2_with (first | ((with_reducible refine gate_callee (f := 26) rfl ?_); refine goesL_ (some 60) rfl rfl Tryd.func26 (by kernel_rfl) rfl #[.slice A0 l0.length c0, .slice A1 l1.length c1] rfl (Qls) ?_; (with_reducible refine (lampblackref07_Model.calls _ _ l0 _ _ l1 t229 t230 _ ?side1 ?side2 ?side3 ?side4 A39.out).mono ?_); (case side1 => exact Qsc (Kd.C_below HR0.out HB.out)); (case side2 => exact HC0.out); (case side3 => exact Qsc (Kd.C_below HR1.out HB.out)); (case side4 => exact HC1.out); rintro e w60 ⟨v231, rfl, ho0, hb⟩; refine ⟨_, rfl, ?_⟩; have n0_ := Aside0.mk (Kd.R_elder' (Qro HO_7.out) (Kd.R_base ho0) hb); have n1_ := Aside0.mk (Kd.R_lower (Kd.R_new' ho0 (Kd.R_lt (Qro HO_7.out))) (below_size (Qaw))); have n2_ := Aside0.mk (below_step (Qaw) hb); clear HO_7; clear HB; have HO_7 := n0_; have HO232 := n1_; have HB := n2_; clear n0_ n1_ n2_; (try clear hb); (try clear hb2); (try clear hk); (try clear hi); (try clear ho0); obtain ⟨Ao61, co61, eo61⟩ := Kd.R_slice HO_7.out; subst eo61; obtain ⟨Ao62, co62, eo62⟩ := Kd.R_slice HO232.out; subst eo62) | ((with_reducible refine gate_callee (f := 27) rfl ?_); refine goesL_ (some 65) rfl rfl Tryd.func27 (by kernel_rfl) rfl #[.slice Ao61 t211.length co61, .slice Ao62 t229.length co62] rfl (Qls) ?_; (with_reducible refine (slices_Equal_int_int.calls kj10 _ _ t211 _ _ t229 false _ ?side1 ?side2 ?side3 ?side4 A40.out).mono ?_); (case side1 => exact Qsc (Kd.R_reads' HO_7.out).2.2); (case side2 => exact (Kd.R_reads' HO_7.out).2.1); (case side3 => exact Qsc (Kd.R_reads' HO232.out).2.2); (case side4 => exact (Kd.R_reads' HO232.out).2.1); rintro e w' ⟨rfl, ⟨nd, rfl⟩⟩; refine ⟨_, rfl, ?_⟩))
     go_ret
     exact ⟨by first | rfl | (simp [errW_none, errW_some] <;> rfl) | (simp [*, errW_none, errW_some] <;> rfl), by repeat (first | (with_reducible first | exact HB.out | apply below_alloc | apply pw_below_drewN | apply below_drew1) | exact HB.out)⟩
end Go.Proofs.YtjloppfdagfpmaaDoor.X
end
section
namespace Go.Proofs.YtjloppfdagfpmaaDoor.X
open Go.RowKit YtjloppfdagfpmaaDoorW.PrintWords YtjloppfdagfpmaaDoorW.PrintLast YtjloppfdagfpmaaDoorW.PrintMore
attribute [local go_sem] max2_int min2_int max_two min_two max_three min_three max_four min_four
/-! ### minor_town_without: function 76 -/
def minor_town_without.l0 : Nat → Int → List Int → List Int → Int → Int → Option (List Int)
 | 0, _, _, _, _, _ => none
 | k + 1, x1, x5, x8, x9, x10 => if x10 < x9 then (if 0 ≤ x10 then (if x10 < (x8.length : Int) then (if x10 = x1 then (minor_town_without.l0 k x1 x5 x8 x9 (wrap64 (x10 + 1))) else (if 0 ≤ x1 then (if 0 ≤ (wrap64 (x1 + 1)) then (if x5.length < 17592186044416 then (minor_town_without.l0 k x1 (x5 ++ [Go.bits .or .i64 (Go.bits .and .i64 (rd x8 x10) (wrap64 ((shl .i64 1 x1) - 1))) (shl .i64 (shr .i64 (rd x8 x10) (wrap64 (x1 + 1))) x1)]) x8 x9 (wrap64 (x10 + 1))) else (none)) else (none)) else (none))) else (none)) else (none)) else (some x5)
def minor_town_without.f (k : Nat) (l0 : List Int) (a1 : Int) : Option (List Int) := minor_town_without.l0 k a1 ([] : List Int) l0 (l0.length : Int) 0
end Go.Proofs.YtjloppfdagfpmaaDoor.X
end
section
namespace Go.Proofs.YtjloppfdagfpmaaDoor.X
open Go.RowKit YtjloppfdagfpmaaDoorW.PrintWords YtjloppfdagfpmaaDoorW.PrintLast YtjloppfdagfpmaaDoorW.PrintMore
attribute [local go_sem] max2_int min2_int max_two min_two max_three min_three max_four min_four
/-! ### minor_town_int: function 77 -/
def minor_town_int.f (l0 : List Int) : Option (List Int) := (some (([] : List Int) : List Int)).bind fun y302 => (if y302.length + l0.length < 17592186044416 then (some (y302 ++ l0)) else (none))
end Go.Proofs.YtjloppfdagfpmaaDoor.X
end
section
namespace Go.Proofs.YtjloppfdagfpmaaDoor.X
open Go.RowKit YtjloppfdagfpmaaDoorW.PrintWords YtjloppfdagfpmaaDoorW.PrintLast YtjloppfdagfpmaaDoorW.PrintMore
attribute [local go_sem] max2_int min2_int max_two min_two max_three min_three max_four min_four
/-! ### minor_town_join: function 62 -/
def minor_town_join.f (l0 : List Int) (a1 : Int) (a2 : Int) : Option (List Int) := if 0 ≤ a1 then (if a1 < (l0.length : Int) then (if 0 ≤ a2 then ((some (l0.set (a1 : Int).toNat (Go.bits .or .i64 (rd l0 a1) (shl .i64 1 a2)) : List Int)).bind fun y146 => (if a2 < (l0.length : Int) then (some (y146.set (a2 : Int).toNat (Go.bits .or .i64 (rd y146 a2) (shl .i64 1 a1)))) else (none))) else (none)) else (none)) else (none)
end Go.Proofs.YtjloppfdagfpmaaDoor.X
end
section
namespace Go.Proofs.YtjloppfdagfpmaaDoor.X
open Go.RowKit YtjloppfdagfpmaaDoorW.PrintWords YtjloppfdagfpmaaDoorW.PrintLast YtjloppfdagfpmaaDoorW.PrintMore
attribute [local go_sem] max2_int min2_int max_two min_two max_three min_three max_four min_four
/-! ### minor_Contract: function 36 -/
mutual
def minor_Contract.j0 : Nat → Int → Int → List Int → Bool → Option (List Int × Int)
 | 0, _, _, _, _ => none
 | k + 1, x1, x2, x8, x44 => if x44 = true then (some (([] : List Int), 2)) else ((minor_town_int.f x8).bind fun t313 => (if 0 ≤ x2 then (if x2 < (x8.length : Int) then (if 0 ≤ x1 then ((minor_nodes.f k (Go.bits .andNot .i64 (rd x8 x2) (shl .i64 1 x1))).bind fun t317 => (minor_Contract.l0 k x1 x2 t313 t317 (t317.length : Int) 0)) else (none)) else (none)) else (none)))
def minor_Contract.l0 : Nat → Int → Int → List Int → List Int → Int → Int → Option (List Int × Int)
 | 0, _, _, _, _, _, _ => none
 | k + 1, x1, x2, x10, x54, x55, x56 => if x56 < x55 then (if 0 ≤ x56 then (if x56 < (x54.length : Int) then ((minor_town_join.f x10 x1 (rd x54 x56)).bind fun t321 => (minor_Contract.l0 k x1 x2 t321 x54 x55 (wrap64 (x56 + 1)))) else (none)) else (none)) else ((minor_town_without.f k x10 x2).bind fun t322 => (some (t322, 0)))
end
end Go.Proofs.YtjloppfdagfpmaaDoor.X
end
section
namespace Go.Proofs.YtjloppfdagfpmaaDoor.X
open Go.RowKit YtjloppfdagfpmaaDoorW.PrintWords YtjloppfdagfpmaaDoorW.PrintLast YtjloppfdagfpmaaDoorW.PrintMore
attribute [local go_sem] max2_int min2_int max_two min_two max_three min_three max_four min_four
/-! ### lampblackref07_Delete: function 37 -/
def lampblackref07_Delete.l0 : Nat → Int → List Int → List Int → Int → Int → Option (List Int)
 | 0, _, _, _, _, _ => none
 | k + 1, x1, x5, x8, x9, x10 => if x10 < x9 then (if 0 ≤ x10 then (if x10 < (x8.length : Int) then (if x10 = x1 then (lampblackref07_Delete.l0 k x1 x5 x8 x9 (wrap64 (x10 + 1))) else (if 0 ≤ x1 then (if 0 ≤ (wrap64 (x1 + 1)) then (if x5.length < 17592186044416 then (lampblackref07_Delete.l0 k x1 (x5 ++ [Go.bits .or .i64 (Go.bits .and .i64 (rd x8 x10) (wrap64 ((shl .i64 1 x1) - 1))) (shl .i64 (shr .i64 (rd x8 x10) (wrap64 (x1 + 1))) x1)]) x8 x9 (wrap64 (x10 + 1))) else (none)) else (none)) else (none))) else (none)) else (none)) else (some x5)
def lampblackref07_Delete.f (k : Nat) (l0 : List Int) (a1 : Int) : Option (List Int) := lampblackref07_Delete.l0 k a1 ([] : List Int) l0 (l0.length : Int) 0
end Go.Proofs.YtjloppfdagfpmaaDoor.X
end
section
namespace Go.Proofs.YtjloppfdagfpmaaDoor.X
open Go.RowKit YtjloppfdagfpmaaDoorW.PrintWords YtjloppfdagfpmaaDoorW.PrintLast YtjloppfdagfpmaaDoorW.PrintMore
attribute [local go_sem] max2_int min2_int max_two min_two max_three min_three max_four min_four
/-! ### lampblackref07_Contract: function 38 -/
def lampblackref07_Contract.l0 : Nat → List Int → Int → Int → List Int → Int → Int → Option (List Int)
 | 0, _, _, _, _, _, _ => none
 | k + 1, x0, x1, x2, x7, x13, x14 => if x14 < x13 then (if 0 ≤ x2 then (if x2 < (x0.length : Int) then (if 0 ≤ x14 then (if (Go.bits .and .i64 (shr .i64 (rd x0 x2) x14) 1) = 1 then (if x14 = x1 then (lampblackref07_Contract.l0 k x0 x1 x2 x7 x13 (wrap64 (x14 + 1))) else ((lampblackref07_join.f x7 x1 x14).bind fun t336 => (lampblackref07_Contract.l0 k x0 x1 x2 t336 x13 (wrap64 (x14 + 1))))) else (lampblackref07_Contract.l0 k x0 x1 x2 x7 x13 (wrap64 (x14 + 1)))) else (none)) else (none)) else (none)) else ((lampblackref07_Delete.f k x7 x2).bind fun t337 => (some t337))
end Go.Proofs.YtjloppfdagfpmaaDoor.X
end
section
/- (minor) Check in plain words: what it accepts are the models; a beginning of any length; a node less and two nodes made one keep a graph a graph. -/
namespace Go.Proofs.YtjloppfdagfpmaaDoor.X
open Go.RowKit YtjloppfdagfpmaaDoorW.PrintWords YtjloppfdagfpmaaDoorW.PrintLast YtjloppfdagfpmaaDoorW.PrintMore YtjloppfdagfpmaaDoor.T
theorem few_gen (g : List Int) (hg : g.length < 2 ^ 44) : ∃ h, lampblacklaw07_Few.f g = some h ∧ (∀ m, m ≤ 11 → chk m g = true → h = g) ∧ (∀ m, m ≤ 11 → chk m g = false → chk m h = false) ∧ h.length ≤ 12 := by
 have hm : mn (g.length : Int) 12 = ((min g.length 12 : Nat) : Int) := mn_nat g.length 12
 refine ⟨g.take (min g.length 12), ?_, ?_, ?_, ?_⟩
 ·unfold lampblacklaw07_Few.f slices_Clone_Graph.f
  simp only [hm, Int.toNat_natCast]
  rw [if_pos (by omega), if_pos (by omega)]
  simp only [Option.bind_some, List.length_nil, List.nil_append]
  rw [if_pos (by rw [List.length_take]; omega)]
  rfl
 ·intro m hm h
  simp only [chk, Bool.and_eq_true, decide_eq_true_eq] at h
  exact List.take_of_length_le (by omega)
 ·intro m hm h
  by_cases hl : g.length ≤ 12
  ·rw [List.take_of_length_le (by omega)]; exact h
  ·unfold chk
   have : ¬ (List.take (min g.length 12) g).length ≤ m := by rw [List.length_take]; omega
   rw [decide_eq_false this, Bool.and_false, Bool.false_and]
 ·rw [List.length_take]; omega
theorem list_eq (l : List Int) (hl : l.length < 2 ^ 44) : lampblacklaw07_list.f l = some (l.take 12) := by
 have hm : mn (l.length : Int) 12 = ((min l.length 12 : Nat) : Int) := mn_nat l.length 12
 unfold lampblacklaw07_list.f slices_Clone_int_int.f
 simp only [hm, Int.toNat_natCast]
 rw [if_pos (by omega), if_pos (by omega)]
 simp only [Option.bind_some, List.length_nil, List.nil_append]
 rw [if_pos (by rw [List.length_take]; omega), Option.bind_some]
 congr 1
 by_cases h : l.length ≤ 12
 ·rw [Nat.min_eq_left h, List.take_length, List.take_of_length_le h]
 ·rw [Nat.min_eq_right (by omega)]
theorem Check_eq {G P : List Nat} (hG : Gr 8 G) (hP : Gr 6 P) (l : List Int) (hl : l.length < 1000) : minor_Check.f (gi G) (gi P) l = some (if l.length = P.length then (chkM G P l [] 0, 0) else (false, 0)) := by
 have h1 := hG.most
 have h2 := hP.most
 unfold minor_Check.f
 rw [if_pos ⟨by rw [gi_length]; omega, by rw [gi_length]; omega, hl⟩, (chk_iff 8 (by omega) _).2 ⟨G, rfl, hG⟩, (chk_iff 6 (by omega) _).2 ⟨P, rfl, hP⟩, gi_toNat, gi_toNat, gi_length]
 rfl
theorem Check_bad (g p l : List Int) (h1 : g.length < 1000) (h2 : p.length < 1000) (h3 : l.length < 1000) (h : (chk 8 g && chk 6 p) = false) : minor_Check.f g p l = some (false, 2) := by
 unfold minor_Check.f
 rw [if_pos ⟨h1, h2, h3⟩, h]
 rfl
theorem Model_bad (g p : List Int) (h1 : g.length < 1000) (h2 : p.length < 1000) (h : (chk 8 g && chk 6 p) = false) : minor_Model.f g p = some ([], 2) := by
 unfold minor_Model.f
 rw [if_pos ⟨h1, h2⟩, h]
 rfl
/-! Graphs stay graphs. -/
end Go.Proofs.YtjloppfdagfpmaaDoor.X
end
section
/- MinorModels, without Go and memory: Model returns the first of the models with the fewest nodes, and Check accepts exactly models, or the documented error. -/
namespace Go.Proofs.YtjloppfdagfpmaaDoor.Pure
open Go.RowKit YtjloppfdagfpmaaDoorW.PrintWords YtjloppfdagfpmaaDoorW.PrintLast YtjloppfdagfpmaaDoorW.PrintMore YtjloppfdagfpmaaDoor.T YtjloppfdagfpmaaDoor.X
theorem equal_l0 (a b : List Int) (hl : a.length = b.length) (h40 : a.length < 2 ^ 40) : ∀ d i, i + d = a.length → Ev (fun k => slices_Equal_int_int.l0 k a b (a.length : Int) (i : Int)) (decide (a.drop i = b.drop i)) := by
 intro d
 induction d with
 | zero =>
  intro i hi
  refine Ev.step (f := fun _ => some true) (fun k => by rw [slices_Equal_int_int.l0, if_neg (by omega)]) (Ev.some ?_)
  rw [List.drop_eq_nil_of_le (by omega), List.drop_eq_nil_of_le (by omega)]
  rfl
 | succ d ih =>
  intro i hi
  have h1 : i < a.length := by omega
  have h2 : i < b.length := by omega
  have r1 : rd a (i : Int) = a[i] := by unfold rd; rw [Int.toNat_natCast, List.getD_eq_getElem?_getD, List.getElem?_eq_getElem h1]; rfl
  have r2 : rd b (i : Int) = b[i] := by unfold rd; rw [Int.toNat_natCast, List.getD_eq_getElem?_getD, List.getElem?_eq_getElem h2]; rfl
  rw [List.drop_eq_getElem_cons h1, List.drop_eq_getElem_cons h2]
  by_cases e : a[i] = b[i]
  ·refine Ev.step (f := fun k => slices_Equal_int_int.l0 k a b (a.length : Int) ((i + 1 : Nat) : Int)) (fun k => ?_) ?_
   ·rw [slices_Equal_int_int.l0, if_pos (by omega), if_pos (by omega), if_pos (by omega), if_pos (by omega), r1, r2, if_pos e, wrap_succ i (by omega)]
   ·rw [show (decide (a[i] :: a.drop (i + 1) = b[i] :: b.drop (i + 1))) = decide (a.drop (i + 1) = b.drop (i + 1)) from decide_eq_decide.2 ⟨fun h => (List.cons.inj h).2, fun h => by rw [e, h]⟩]
    exact ih (i + 1) (by omega)
  ·refine Ev.step (f := fun _ => some false) (fun k => ?_) (Ev.some (decide_eq_false fun h => e (List.cons.inj h).1).symm)
   rw [slices_Equal_int_int.l0, if_pos (by omega), if_pos (by omega), if_pos (by omega), if_pos (by omega), r1, r2, if_neg e]
theorem equal_ev (a b : List Int) (h40 : a.length < 2 ^ 40) : Ev (fun k => slices_Equal_int_int.f k a b) (decide (a = b)) := by
 unfold slices_Equal_int_int.f
 by_cases hl : a.length = b.length
 ·refine Ev.if_pos (by omega) ?_
  have := equal_l0 a b hl h40 a.length 0 (by omega)
  simpa using this
 ·exact Ev.if_neg (by omega) (Ev.some (by symm; rw [decide_eq_false_iff_not]; exact fun e => hl (by rw [e])))
theorem equal_same (a : List Int) (h40 : a.length < 2 ^ 40) : Ev (fun k => slices_Equal_int_int.f k a a) true := by
 have := equal_ev a a h40
 simpa using this
theorem refFits2_l0 (G P M : List Nat) (L : List Int) (hL : L.take M.length = gi M) (hLl : M.length ≤ L.length) (hG : Gr 9 G) (hP : Gr 6 P) (s : Nat) (hs : s < 2 ^ G.length) (hk : M.length < P.length) (hM : ∀ x ∈ M, x < 2 ^ G.length) : ∀ d j, j + d = M.length →
  Ev (fun k => lampblackref07_fits.l0 k (gi G) (gi P) L (M.length : Int) (s : Int) (M.length : Int) (j : Int)) ((List.range' j d).all (fp G P M s M.length)) := by
 have hpn := hP.most
 have hb := big (Nat.lt_of_lt_of_le (hP.row M.length) (show 2 ^ P.length ≤ 512 from Nat.pow_le_pow_right (n := 2) (by omega) (show P.length ≤ 9 by omega)))
 have hA := big (small G hG.most (Around_lt hG s))
 intro d
 induction d with
 | zero =>
  intro j hj
  exact Ev.step (f := fun _ => some true) (fun k => by rw [lampblackref07_fits.l0, if_neg (by omega)]) (Ev.some rfl)
 | succ d ih =>
  intro j hj
  have next := ih (j + 1) (by omega)
  have hMj : M.getD j 0 < 2 ^ 62 := by
   refine big (small G hG.most ?_)
   rw [List.getD_eq_getElem?_getD, List.getElem?_eq_getElem (by omega)]
   exact hM _ (List.getElem_mem _)
  rw [List.range'_succ, List.all_cons]
  by_cases hbit : (P.getD M.length 0).testBit j = true
  ·refine Ev.step (fun k => by rw [lampblackref07_fits.l0, if_pos (by omega), if_pos (by omega), if_pos (by rw [gi_length]; omega), if_pos (by omega), rd_gi, if_pos ((bit_one _ j hb (by omega)).2 hbit)]) ?_
   refine Ev.bind (refAround G hG s hs) (Ev.if_pos (by omega) ?_)
   rw [rd_take hL (show j < M.length by omega) hLl, rd_gi, b_and _ _ hA hMj, wrap_succ j (by omega)]
   have hfp : fp G P M s M.length j = decide (Around G s &&& M.getD j 0 ≠ 0) := by
    unfold fp
    rw [hbit, Nat.and_comm]
    rfl
   by_cases h0 : Around G s &&& M.getD j 0 = 0
   ·rw [hfp, h0]
    exact Ev.if_pos rfl (Ev.some rfl)
   ·rw [hfp, decide_eq_true h0, Bool.true_and]
    exact Ev.if_neg (by omega) next
  ·refine Ev.step (fun k => by rw [lampblackref07_fits.l0, if_pos (by omega), if_pos (by omega), if_pos (by rw [gi_length]; omega), if_pos (by omega), rd_gi, if_neg (fun h => hbit ((bit_one _ j hb (by omega)).1 h)), wrap_succ j (by omega)]) ?_
   have hfp : fp G P M s M.length j = true := by
    unfold fp
    rw [show (P.getD M.length 0).testBit j = false by simpa using hbit]
    rfl
   rw [hfp, Bool.true_and]
   exact next
theorem refFits2_ev (G P M : List Nat) (L : List Int) (hL : L.take M.length = gi M) (hLl : M.length ≤ L.length) (hG : Gr 9 G) (hP : Gr 6 P) (s : Nat) (hs : s < 2 ^ G.length) (hk : M.length < P.length) (hM : ∀ x ∈ M, x < 2 ^ G.length) : Ev (fun k => lampblackref07_fits.f k (gi G) (gi P) L (M.length : Int) (s : Int)) (fitB G P M s M.length) := by
 have h := refFits2_l0 G P M L hL hLl hG hP s hs hk hM M.length 0 (by omega)
 have hpn := hP.most
 rw [fitB_range G P M s M.length (by omega), List.range_eq_range']
 exact h
theorem isModel_l0 (G P : List Nat) (hG : Gr 9 G) (hP : Gr 6 P) (l : List Int) (hl : l.length < 2 ^ 44) : ∀ d i (M : List Nat) (met : Nat), i + d = l.length → l.take i = gi M → M.length = i → i ≤ P.length → (∀ x ∈ M, x < 2 ^ G.length) → met < 2 ^ G.length →
  Ev (fun k => lampblackref07_IsModel.l0 k (gi G) (gi P) l (met : Int) l (l.length : Int) (i : Int)) (decide (l.length = P.length) && chkM G P (l.drop i) M met) := by
 have hn := hG.most
 have hpn := hP.most
 intro d
 induction d with
 | zero =>
  intro i M met hi ht hm hiP hM hmet
  rw [List.drop_eq_nil_of_le (by omega)]
  refine Ev.step (f := fun _ => some ((l.length : Int) == ((gi P).length : Int))) (fun k => by rw [lampblackref07_IsModel.l0, if_neg (by omega)]) (Ev.some ?_)
  simp only [chkM, Bool.and_true, gi_length]
  by_cases e : l.length = P.length
  ·rw [e]; simp
  ·rw [decide_eq_false e, beq_eq_false_iff_ne]; omega
 | succ d ih =>
  intro i M met hi ht hm hiP hM hmet
  have hi' : i < l.length := by omega
  rw [List.drop_eq_getElem_cons hi']
  have hrd : rd l (i : Int) = l[i] := by
   unfold rd
   rw [Int.toNat_natCast, List.getD_eq_getElem?_getD, List.getElem?_eq_getElem hi']
   rfl
  have htk : l.take (i + 1) = l.take i ++ [l[i]] := by rw [List.take_add_one, List.getElem?_eq_getElem hi']; rfl
  generalize l[i] = x at *
  refine Ev.step (fun k => by rw [lampblackref07_IsModel.l0, if_pos (by omega), if_pos (by omega), if_pos (by omega), hrd, wrap_succ i (by omega)]) ?_
  by_cases hge : (i : Int) ≥ ((gi P).length : Int)
  ·rw [gi_length] at hge
   rw [decide_eq_false (by omega : ¬ l.length = P.length)]
   exact Ev.if_pos (by rw [gi_length]; exact hge) (Ev.some rfl)
  ·rw [gi_length] at hge
   refine Ev.if_neg (by rw [gi_length]; exact hge) (Ev.bind (refConn G hG x) ?_)
   simp only [chkM]
   cases hc : conn G x
   ·have hz : (decide (0 ≤ x) && decide (x < ((2 ^ G.length : Nat) : Int)) && decide (x.toNat &&& met = 0) && conB G x.toNat) = false := by
     cases h1 : decide (0 ≤ x)
     ·rfl
     ·cases h2 : decide (x < ((2 ^ G.length : Nat) : Int))
      ·rfl
      ·obtain ⟨y, rfl⟩ := Int.eq_ofNat_of_zero_le (of_decide_eq_true h1)
       have h3 := of_decide_eq_true h2
       rw [conn_conB hG y (by omega)] at hc
       rw [Int.toNat_natCast, hc]
       simp
    rw [hz]
    simp only [Bool.false_and, Bool.and_false]
    exact Ev.if_neg (by simp) (Ev.some rfl)
   ·obtain ⟨y, rfl, hy, hy0⟩ : ∃ n : Nat, x = n ∧ n < 2 ^ G.length ∧ 0 < n := by
     simp only [conn, Bool.and_eq_true, decide_eq_true_eq] at hc
     exact ⟨x.toNat, by omega, by omega, by omega⟩
    rw [conn_conB hG y hy] at hc
    have hb := big (small G hn hy)
    have hmb := big (small G hn hmet)
    rw [Int.toNat_natCast, hc, decide_eq_true (by omega : (0 : Int) ≤ (y : Int)), decide_eq_true (by omega : (y : Int) < ((2 ^ G.length : Nat) : Int)), b_and _ _ hmb hb, b_or _ _ hmb hb]
    simp only [Bool.true_and, Bool.and_true]
    refine Ev.if_pos trivial ?_
    by_cases h0 : y &&& met = 0
    ·rw [decide_eq_true h0, Bool.true_and]
     refine Ev.if_pos (by rw [Nat.and_comm, h0]; rfl) ?_
     have hf := refFits2_ev G P M l (by rw [hm]; exact ht) (by omega) hG hP y hy (by omega) hM
     rw [hm] at hf
     refine Ev.bind hf ?_
     rw [hm]
     cases hfb : fitB G P M y i
     ·simp only [Bool.false_and, Bool.and_false]
      exact Ev.if_neg (by simp) (Ev.some rfl)
     ·simp only [Bool.true_and]
      refine Ev.if_pos trivial (ih (i + 1) (M ++ [y]) (met ||| y) (by omega) (by rw [htk, ht]; simp [gi]) (by simp [hm]) (by omega) (fun z hz => ?_) (or_lt hmet hy))
      rcases List.mem_append.1 hz with hz | hz
      ·exact hM z hz
      ·rw [List.mem_singleton.1 hz]; exact hy
    ·rw [decide_eq_false h0]
     simp only [Bool.false_and, Bool.and_false]
     exact Ev.if_neg (by rw [Nat.and_comm]; omega) (Ev.some rfl)
theorem isModel_ev (G P : List Nat) (hG : Gr 9 G) (hP : Gr 6 P) (l : List Int) (hl : l.length < 2 ^ 44) : Ev (fun k => lampblackref07_IsModel.f k (gi G) (gi P) l) (decide (l.length = P.length) && chkM G P l [] 0) := by
 have := isModel_l0 G P hG hP l hl l.length 0 [] 0 (by omega) rfl rfl (by omega) (fun _ h => by cases h) (Nat.two_pow_pos _)
 unfold lampblackref07_IsModel.f
 exact this
theorem models_law (g p l : List Int) (hg : g.length < 2 ^ 44) (hp : p.length < 2 ^ 44) (hl : l.length < 2 ^ 44) : Ev (fun k => lampblacklaw07_MinorModels.f k g p l) true := by
 obtain ⟨h, e1, e2, e3, e4⟩ := few_gen g hg
 obtain ⟨q, f1, f2, f3, f4⟩ := few_gen p hp
 have hli := list_eq l hl
 have hll : (l.take 12).length ≤ 12 := by rw [List.length_take]; omega
 have hv1 := valid_ev g (by omega)
 have hv2 := pattern_ev p (by omega)
 unfold lampblacklaw07_MinorModels.f
 refine Ev.bind1 e1 (Ev.bind1 f1 ?_)
 by_cases hv : (chk 8 g && chk 6 p) = true
 ·rw [Bool.and_eq_true] at hv
  obtain ⟨G, rfl, hG⟩ := (chk_iff 8 (by omega) _).1 hv.1
  obtain ⟨P, rfl, hP⟩ := (chk_iff 6 (by omega) _).1 hv.2
  rw [e2 8 (by omega) hv.1] at e1 ⊢
  rw [f2 6 (by omega) hv.2] at f1 ⊢
  rw [hv.1] at hv1
  rw [hv.2] at hv2
  have hn := hG.most
  have hpn := hP.most
  have hG9 := gr_mono hG (show 8 ≤ 9 by omega)
  have hck : (if (l.take 12).length = P.length then (chkM G P (l.take 12) [] 0, (0 : Int)) else (false, 0)) = ((decide (l.length = P.length) && chkM G P l [] 0), 0) := by
   by_cases h12 : l.length ≤ 12
   ·rw [List.take_of_length_le h12]
    by_cases hlp : l.length = P.length
    ·rw [if_pos hlp, decide_eq_true hlp]; rfl
    ·rw [if_neg hlp, decide_eq_false hlp]; rfl
   ·have h1 : (l.take 12).length = 12 := by rw [List.length_take]; omega
    rw [if_neg (by omega), decide_eq_false (by omega : ¬ l.length = P.length)]; rfl
  refine Ev.bind1 (Model_eq hG hP) (Ev.bind1 e1 (Ev.bind1 f1 (Ev.bind1 hli (Ev.bind1 (Check_eq hG hP (l.take 12) (by omega)) (Ev.bind hv1 (Ev.if_pos rfl (Ev.bind hv2 ?_)))))))
  rw [hck]
  have hrm : lampblackref07_Model.f (gi G) (gi P) = some ((findN G P).elim ([], 4) fun M => (gi M, 0)) := by
   unfold lampblackref07_Model.f
   rw [hv.1, hv.2, gi_toNat, gi_toNat]
   rfl
  have hlen : ((findN G P).elim (([] : List Int), (4 : Int)) fun M => (gi M, 0)).1.length < 2 ^ 40 := by
   cases hfd : findN G P with
   | none => simp
   | some R =>
    have := (find_some (by omega) hP.pos hfd).1.1
    show (gi R).length < _
    rw [gi_length]
    omega
  refine Ev.step (fun k => by rw [show (!true) = false from rfl, lampblacklaw07_MinorModels.j0, if_neg (by simp), hrm, Option.bind_some]) ?_
  exact Ev.bind (equal_same _ hlen) (Ev.if_pos rfl (Ev.if_pos rfl (Ev.bind (isModel_ev G P hG9 hP l hl) (Ev.if_pos (by simp) (Ev.if_pos rfl (Ev.bind awake_ev (Ev.some rfl)))))))
 ·have hv' : (chk 8 g && chk 6 p) = false := by simpa using hv
  have hb : (chk 8 h && chk 6 q) = false := by
   rw [Bool.and_eq_false_iff] at hv' ⊢
   exact hv'.imp (e3 8 (by omega)) (f3 6 (by omega))
  have stop : Ev (fun k => lampblacklaw07_MinorModels.j0 k g p l [] 2 false 2 true) true :=
   Ev.step (fun k => by rw [lampblacklaw07_MinorModels.j0, if_pos rfl, if_pos (by rfl), if_neg (by simp), if_pos rfl, if_pos rfl]) (Ev.bind awake_ev (Ev.some rfl))
  refine Ev.bind1 (Model_bad h q (by omega) (by omega) hb) (Ev.bind1 e1 (Ev.bind1 f1 (Ev.bind1 hli (Ev.bind1 (Check_bad h q _ (by omega) (by omega) (by omega) hb) (Ev.bind hv1 ?_)))))
  cases hg8 : chk 8 g
  ·exact Ev.if_neg (by simp) stop
  ·rw [hg8, Bool.true_and] at hv'
   rw [hv'] at hv2
   exact Ev.if_pos rfl (Ev.bind hv2 stop)
theorem MinorModels : ∀ (l0 l1 l2 : List Int), l0.length ≤ maxLen → l0.length * 8 ≤ 140737488351232 → (∀ x ∈ l0, (Lit.int .i64 x).wf = true) → l1.length ≤ maxLen → l1.length * 8 ≤ 140737488351232 → (∀ x ∈ l1, (Lit.int .i64 x).wf = true) → l2.length ≤ maxLen → l2.length * 8 ≤ 140737488351232 → (∀ x ∈ l2, (Lit.int .i64 x).wf = true) → ∃ k, lampblacklaw07_MinorModels.f k l0 l1 l2 = some true := by
 intro g p l _ hg _ _ hp _ _ hl _
 exact Ev.rounds (models_law g p l (by omega) (by omega) (by omega))
end Go.Proofs.YtjloppfdagfpmaaDoor.Pure
end
