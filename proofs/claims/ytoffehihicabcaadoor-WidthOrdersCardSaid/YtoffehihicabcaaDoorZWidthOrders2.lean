/- Part 2 of what WidthOrders rests on: contracts of the functions that it reaches, and what they compute, in plain words. -/
import Derived.Test.YtoffehihicabcaaDoorZWidthOrders0
import Derived.Test.YtoffehihicabcaaDoorZWidthOrders1
import Derived.Outline
set_option linter.unusedVariables false
set_option linter.unusedSimpArgs false
section
namespace Go.Proofs.YtoffehihicabcaaDoor.X
open Go.RowKit YtoffehihicabcaaDoorW.PrintWords YtoffehihicabcaaDoorW.PrintLast YtoffehihicabcaaDoorW.PrintMore
attribute [local go_sem] max2_int min2_int max_two min_two max_three min_three max_four min_four
noncomputable section
/-! ### lampblacklaw02_WidthOrders: function 8 -/
def lampblacklaw02_WidthOrders.j0 : Nat → List Int → List Int → Int → Int → Bool → Option (Bool)
 | 0, _, _, _, _, _ => none
 | k + 1, x0, x1, x9, x10, x82 => if x82 = true then (some false) else ((lampblackref02_IsOrder.f k x1 (x0.length : Int)).bind fun t400 => (if t400 = true then ((lampblackref02_Along.f k x0 x1).bind fun t401 => (if x9 = t401 then (some (x10 == 0)) else (some false))) else (if x9 = 0 then (some (x10 == 2)) else (some false))))
def lampblacklaw02_WidthOrders.f (k : Nat) (l0 : List Int) (l1 : List Int) : Option (Bool) := (lampblacklaw02_Few.f l0).bind fun t372 => ((width_Width.f k t372).bind fun bt375 => ((lampblacklaw02_Few.f l0).bind fun t377 => ((width_Order.f k t377).bind fun bt380 => ((lampblacklaw02_Few.f l0).bind fun t384 => ((lampblacklaw02_list.f l1).bind fun t387 => ((width_Along.f k t384 t387).bind fun bt390 => ((lampblackref02_Valid.f k l0).bind fun t392 => (if t392 = true then ((lampblackref02_Width.f k l0).bind fun t394 => (if bt375.1 = t394 then (if bt375.2 = 0 then ((lampblackref02_Order.f k l0).bind fun t395 => ((slices_Equal_int_int.f k bt380.1 t395).bind fun t398 => (if t398 = true then (if bt380.2 = 0 then ((lampblacklaw02_awake.f k).bind fun t399 => (lampblacklaw02_WidthOrders.j0 k l0 l1 bt390.1 bt390.2 (!t399))) else (lampblacklaw02_WidthOrders.j0 k l0 l1 bt390.1 bt390.2 true)) else (lampblacklaw02_WidthOrders.j0 k l0 l1 bt390.1 bt390.2 true)))) else (lampblacklaw02_WidthOrders.j0 k l0 l1 bt390.1 bt390.2 true)) else (lampblacklaw02_WidthOrders.j0 k l0 l1 bt390.1 bt390.2 true))) else (if bt375.1 = 0 then (if (bt380.1.length : Int) = 0 then (if bt390.1 = 0 then (if bt375.2 = 2 then (if bt380.2 = 2 then (if bt390.2 = 2 then ((lampblacklaw02_awake.f k).bind fun t393 => (some t393)) else (some false)) else (some false)) else (some false)) else (some false)) else (some false)) else (some false))))))))))
set_option maxHeartbeats 8000000 in
set_option maxRecDepth 100000 in
theorem lampblacklaw02_WidthOrders.calls (k : Nat) (A0 : Option Addr) (c0 : Nat) (l0 : List Int) (A1 : Option Addr) (c1 : Nat) (l1 : List Int) (r : Bool) (w : World) (hGL : GL w) (hr0 : Kd.C (Kd.int .i64) w A0 l0.length l0) (hc0 : l0.length ≤ c0) (hr1 : Kd.C (Kd.int .i64) w A1 l1.length l1) (hc1 : l1.length ≤ c1) (h : lampblacklaw02_WidthOrders.f k l0 l1 = some r) :
  Calls Tryd.prog 8 #[.slice A0 l0.length c0, .slice A1 l1.length c1] w fun e w' => e = .returned (.bool r) ∧ Below w.heap.size w w' := by
 have HGL := Aside0.mk hGL
 clear hGL
 have HR0 := Aside0.mk hr0
 have HC0 := Aside0.mk hc0
 clear hr0 hc0
 have HR1 := Aside0.mk hr1
 have HC1 := Aside0.mk hc1
 clear hr1 hc1
 have HB := Aside0.mk (Below.refl w.heap.size w)
 have H : ((lampblacklaw02_Few.f l0).bind fun t372 => ((width_Width.f k t372).bind fun bt375 => ((lampblacklaw02_Few.f l0).bind fun t377 => ((width_Order.f k t377).bind fun bt380 => ((lampblacklaw02_Few.f l0).bind fun t384 => ((lampblacklaw02_list.f l1).bind fun t387 => ((width_Along.f k t384 t387).bind fun bt390 => ((lampblackref02_Valid.f k l0).bind fun t392 => (if t392 = true then ((lampblackref02_Width.f k l0).bind fun t394 => (if bt375.1 = t394 then (if bt375.2 = 0 then ((lampblackref02_Order.f k l0).bind fun t395 => ((slices_Equal_int_int.f k bt380.1 t395).bind fun t398 => (if t398 = true then (if bt380.2 = 0 then ((lampblacklaw02_awake.f k).bind fun t399 => (lampblacklaw02_WidthOrders.j0 k l0 l1 bt390.1 bt390.2 (!t399))) else (lampblacklaw02_WidthOrders.j0 k l0 l1 bt390.1 bt390.2 true)) else (lampblacklaw02_WidthOrders.j0 k l0 l1 bt390.1 bt390.2 true)))) else (lampblacklaw02_WidthOrders.j0 k l0 l1 bt390.1 bt390.2 true)) else (lampblacklaw02_WidthOrders.j0 k l0 l1 bt390.1 bt390.2 true))) else (if bt375.1 = 0 then (if (bt380.1.length : Int) = 0 then (if bt390.1 = 0 then (if bt375.2 = 2 then (if bt380.2 = 2 then (if bt390.2 = 2 then ((lampblacklaw02_awake.f k).bind fun t393 => (some t393)) else (some false)) else (some false)) else (some false)) else (some false)) else (some false)) else (some false))))))))))) = some r := h
 clear h
 replace H := Option.bind_eq_some_iff.mp H
 obtain ⟨t372, A30, H⟩ := H
 replace H : ((width_Width.f k t372).bind fun bt375 => ((lampblacklaw02_Few.f l0).bind fun t377 => ((width_Order.f k t377).bind fun bt380 => ((lampblacklaw02_Few.f l0).bind fun t384 => ((lampblacklaw02_list.f l1).bind fun t387 => ((width_Along.f k t384 t387).bind fun bt390 => ((lampblackref02_Valid.f k l0).bind fun t392 => (if t392 = true then ((lampblackref02_Width.f k l0).bind fun t394 => (if bt375.1 = t394 then (if bt375.2 = 0 then ((lampblackref02_Order.f k l0).bind fun t395 => ((slices_Equal_int_int.f k bt380.1 t395).bind fun t398 => (if t398 = true then (if bt380.2 = 0 then ((lampblacklaw02_awake.f k).bind fun t399 => (lampblacklaw02_WidthOrders.j0 k l0 l1 bt390.1 bt390.2 (!t399))) else (lampblacklaw02_WidthOrders.j0 k l0 l1 bt390.1 bt390.2 true)) else (lampblacklaw02_WidthOrders.j0 k l0 l1 bt390.1 bt390.2 true)))) else (lampblacklaw02_WidthOrders.j0 k l0 l1 bt390.1 bt390.2 true)) else (lampblacklaw02_WidthOrders.j0 k l0 l1 bt390.1 bt390.2 true))) else (if bt375.1 = 0 then (if (bt380.1.length : Int) = 0 then (if bt390.1 = 0 then (if bt375.2 = 2 then (if bt380.2 = 2 then (if bt390.2 = 2 then ((lampblacklaw02_awake.f k).bind fun t393 => (some t393)) else (some false)) else (some false)) else (some false)) else (some false)) else (some false)) else (some false)))))))))) = some r := H
 have A3 := Aside0.mk A30
 clear A30
 replace H := Option.bind_eq_some_iff.mp H
 obtain ⟨⟨t375, t376⟩, A40, H⟩ := H
 replace H : ((lampblacklaw02_Few.f l0).bind fun t377 => ((width_Order.f k t377).bind fun bt380 => ((lampblacklaw02_Few.f l0).bind fun t384 => ((lampblacklaw02_list.f l1).bind fun t387 => ((width_Along.f k t384 t387).bind fun bt390 => ((lampblackref02_Valid.f k l0).bind fun t392 => (if t392 = true then ((lampblackref02_Width.f k l0).bind fun t394 => (if t375 = t394 then (if t376 = 0 then ((lampblackref02_Order.f k l0).bind fun t395 => ((slices_Equal_int_int.f k bt380.1 t395).bind fun t398 => (if t398 = true then (if bt380.2 = 0 then ((lampblacklaw02_awake.f k).bind fun t399 => (lampblacklaw02_WidthOrders.j0 k l0 l1 bt390.1 bt390.2 (!t399))) else (lampblacklaw02_WidthOrders.j0 k l0 l1 bt390.1 bt390.2 true)) else (lampblacklaw02_WidthOrders.j0 k l0 l1 bt390.1 bt390.2 true)))) else (lampblacklaw02_WidthOrders.j0 k l0 l1 bt390.1 bt390.2 true)) else (lampblacklaw02_WidthOrders.j0 k l0 l1 bt390.1 bt390.2 true))) else (if t375 = 0 then (if (bt380.1.length : Int) = 0 then (if bt390.1 = 0 then (if t376 = 2 then (if bt380.2 = 2 then (if bt390.2 = 2 then ((lampblacklaw02_awake.f k).bind fun t393 => (some t393)) else (some false)) else (some false)) else (some false)) else (some false)) else (some false)) else (some false))))))))) = some r := H
 have A4 := Aside0.mk A40
 clear A40
 replace H := Option.bind_eq_some_iff.mp H
 obtain ⟨t377, A50, H⟩ := H
 replace H : ((width_Order.f k t377).bind fun bt380 => ((lampblacklaw02_Few.f l0).bind fun t384 => ((lampblacklaw02_list.f l1).bind fun t387 => ((width_Along.f k t384 t387).bind fun bt390 => ((lampblackref02_Valid.f k l0).bind fun t392 => (if t392 = true then ((lampblackref02_Width.f k l0).bind fun t394 => (if t375 = t394 then (if t376 = 0 then ((lampblackref02_Order.f k l0).bind fun t395 => ((slices_Equal_int_int.f k bt380.1 t395).bind fun t398 => (if t398 = true then (if bt380.2 = 0 then ((lampblacklaw02_awake.f k).bind fun t399 => (lampblacklaw02_WidthOrders.j0 k l0 l1 bt390.1 bt390.2 (!t399))) else (lampblacklaw02_WidthOrders.j0 k l0 l1 bt390.1 bt390.2 true)) else (lampblacklaw02_WidthOrders.j0 k l0 l1 bt390.1 bt390.2 true)))) else (lampblacklaw02_WidthOrders.j0 k l0 l1 bt390.1 bt390.2 true)) else (lampblacklaw02_WidthOrders.j0 k l0 l1 bt390.1 bt390.2 true))) else (if t375 = 0 then (if (bt380.1.length : Int) = 0 then (if bt390.1 = 0 then (if t376 = 2 then (if bt380.2 = 2 then (if bt390.2 = 2 then ((lampblacklaw02_awake.f k).bind fun t393 => (some t393)) else (some false)) else (some false)) else (some false)) else (some false)) else (some false)) else (some false)))))))) = some r := H
 have A5 := Aside0.mk A50
 clear A50
 replace H := Option.bind_eq_some_iff.mp H
 obtain ⟨⟨t380, t381⟩, A60, H⟩ := H
 replace H : ((lampblacklaw02_Few.f l0).bind fun t384 => ((lampblacklaw02_list.f l1).bind fun t387 => ((width_Along.f k t384 t387).bind fun bt390 => ((lampblackref02_Valid.f k l0).bind fun t392 => (if t392 = true then ((lampblackref02_Width.f k l0).bind fun t394 => (if t375 = t394 then (if t376 = 0 then ((lampblackref02_Order.f k l0).bind fun t395 => ((slices_Equal_int_int.f k t380 t395).bind fun t398 => (if t398 = true then (if t381 = 0 then ((lampblacklaw02_awake.f k).bind fun t399 => (lampblacklaw02_WidthOrders.j0 k l0 l1 bt390.1 bt390.2 (!t399))) else (lampblacklaw02_WidthOrders.j0 k l0 l1 bt390.1 bt390.2 true)) else (lampblacklaw02_WidthOrders.j0 k l0 l1 bt390.1 bt390.2 true)))) else (lampblacklaw02_WidthOrders.j0 k l0 l1 bt390.1 bt390.2 true)) else (lampblacklaw02_WidthOrders.j0 k l0 l1 bt390.1 bt390.2 true))) else (if t375 = 0 then (if (t380.length : Int) = 0 then (if bt390.1 = 0 then (if t376 = 2 then (if t381 = 2 then (if bt390.2 = 2 then ((lampblacklaw02_awake.f k).bind fun t393 => (some t393)) else (some false)) else (some false)) else (some false)) else (some false)) else (some false)) else (some false))))))) = some r := H
 have A6 := Aside0.mk A60
 clear A60
 replace H := Option.bind_eq_some_iff.mp H
 obtain ⟨t384, A70, H⟩ := H
 replace H : ((lampblacklaw02_list.f l1).bind fun t387 => ((width_Along.f k t384 t387).bind fun bt390 => ((lampblackref02_Valid.f k l0).bind fun t392 => (if t392 = true then ((lampblackref02_Width.f k l0).bind fun t394 => (if t375 = t394 then (if t376 = 0 then ((lampblackref02_Order.f k l0).bind fun t395 => ((slices_Equal_int_int.f k t380 t395).bind fun t398 => (if t398 = true then (if t381 = 0 then ((lampblacklaw02_awake.f k).bind fun t399 => (lampblacklaw02_WidthOrders.j0 k l0 l1 bt390.1 bt390.2 (!t399))) else (lampblacklaw02_WidthOrders.j0 k l0 l1 bt390.1 bt390.2 true)) else (lampblacklaw02_WidthOrders.j0 k l0 l1 bt390.1 bt390.2 true)))) else (lampblacklaw02_WidthOrders.j0 k l0 l1 bt390.1 bt390.2 true)) else (lampblacklaw02_WidthOrders.j0 k l0 l1 bt390.1 bt390.2 true))) else (if t375 = 0 then (if (t380.length : Int) = 0 then (if bt390.1 = 0 then (if t376 = 2 then (if t381 = 2 then (if bt390.2 = 2 then ((lampblacklaw02_awake.f k).bind fun t393 => (some t393)) else (some false)) else (some false)) else (some false)) else (some false)) else (some false)) else (some false)))))) = some r := H
 have A7 := Aside0.mk A70
 clear A70
 replace H := Option.bind_eq_some_iff.mp H
 obtain ⟨t387, A80, H⟩ := H
 replace H : ((width_Along.f k t384 t387).bind fun bt390 => ((lampblackref02_Valid.f k l0).bind fun t392 => (if t392 = true then ((lampblackref02_Width.f k l0).bind fun t394 => (if t375 = t394 then (if t376 = 0 then ((lampblackref02_Order.f k l0).bind fun t395 => ((slices_Equal_int_int.f k t380 t395).bind fun t398 => (if t398 = true then (if t381 = 0 then ((lampblacklaw02_awake.f k).bind fun t399 => (lampblacklaw02_WidthOrders.j0 k l0 l1 bt390.1 bt390.2 (!t399))) else (lampblacklaw02_WidthOrders.j0 k l0 l1 bt390.1 bt390.2 true)) else (lampblacklaw02_WidthOrders.j0 k l0 l1 bt390.1 bt390.2 true)))) else (lampblacklaw02_WidthOrders.j0 k l0 l1 bt390.1 bt390.2 true)) else (lampblacklaw02_WidthOrders.j0 k l0 l1 bt390.1 bt390.2 true))) else (if t375 = 0 then (if (t380.length : Int) = 0 then (if bt390.1 = 0 then (if t376 = 2 then (if t381 = 2 then (if bt390.2 = 2 then ((lampblacklaw02_awake.f k).bind fun t393 => (some t393)) else (some false)) else (some false)) else (some false)) else (some false)) else (some false)) else (some false))))) = some r := H
 have A8 := Aside0.mk A80
 clear A80
 replace H := Option.bind_eq_some_iff.mp H
 obtain ⟨⟨t390, t391⟩, A90, H⟩ := H
 replace H : ((lampblackref02_Valid.f k l0).bind fun t392 => (if t392 = true then ((lampblackref02_Width.f k l0).bind fun t394 => (if t375 = t394 then (if t376 = 0 then ((lampblackref02_Order.f k l0).bind fun t395 => ((slices_Equal_int_int.f k t380 t395).bind fun t398 => (if t398 = true then (if t381 = 0 then ((lampblacklaw02_awake.f k).bind fun t399 => (lampblacklaw02_WidthOrders.j0 k l0 l1 t390 t391 (!t399))) else (lampblacklaw02_WidthOrders.j0 k l0 l1 t390 t391 true)) else (lampblacklaw02_WidthOrders.j0 k l0 l1 t390 t391 true)))) else (lampblacklaw02_WidthOrders.j0 k l0 l1 t390 t391 true)) else (lampblacklaw02_WidthOrders.j0 k l0 l1 t390 t391 true))) else (if t375 = 0 then (if (t380.length : Int) = 0 then (if t390 = 0 then (if t376 = 2 then (if t381 = 2 then (if t391 = 2 then ((lampblacklaw02_awake.f k).bind fun t393 => (some t393)) else (some false)) else (some false)) else (some false)) else (some false)) else (some false)) else (some false)))) = some r := H
 have A9 := Aside0.mk A90
 clear A90
 replace H := Option.bind_eq_some_iff.mp H
 obtain ⟨t392, A100, H⟩ := H
 replace H : (if t392 = true then ((lampblackref02_Width.f k l0).bind fun t394 => (if t375 = t394 then (if t376 = 0 then ((lampblackref02_Order.f k l0).bind fun t395 => ((slices_Equal_int_int.f k t380 t395).bind fun t398 => (if t398 = true then (if t381 = 0 then ((lampblacklaw02_awake.f k).bind fun t399 => (lampblacklaw02_WidthOrders.j0 k l0 l1 t390 t391 (!t399))) else (lampblacklaw02_WidthOrders.j0 k l0 l1 t390 t391 true)) else (lampblacklaw02_WidthOrders.j0 k l0 l1 t390 t391 true)))) else (lampblacklaw02_WidthOrders.j0 k l0 l1 t390 t391 true)) else (lampblacklaw02_WidthOrders.j0 k l0 l1 t390 t391 true))) else (if t375 = 0 then (if (t380.length : Int) = 0 then (if t390 = 0 then (if t376 = 2 then (if t381 = 2 then (if t391 = 2 then ((lampblacklaw02_awake.f k).bind fun t393 => (some t393)) else (some false)) else (some false)) else (some false)) else (some false)) else (some false)) else (some false))) = some r := H
 have A10 := Aside0.mk A100
 clear A100
 by_cases c11 : t392 = true
 ·subst c11
  have H1 : ((lampblackref02_Width.f k l0).bind fun t394 => (if t375 = t394 then (if t376 = 0 then ((lampblackref02_Order.f k l0).bind fun t395 => ((slices_Equal_int_int.f k t380 t395).bind fun t398 => (if t398 = true then (if t381 = 0 then ((lampblacklaw02_awake.f k).bind fun t399 => (lampblacklaw02_WidthOrders.j0 k l0 l1 t390 t391 (!t399))) else (lampblacklaw02_WidthOrders.j0 k l0 l1 t390 t391 true)) else (lampblacklaw02_WidthOrders.j0 k l0 l1 t390 t391 true)))) else (lampblacklaw02_WidthOrders.j0 k l0 l1 t390 t391 true)) else (lampblacklaw02_WidthOrders.j0 k l0 l1 t390 t391 true))) = some r := by rw [if_pos rfl] at H; exact H
  clear H
  have H := H1
  clear H1
  have HC12 := Aside0.mk H
  clear H
  go_enter Tryd.func8, Tryd.ntmps8
  go_upto_region 6 with (first | ((with_reducible refine gate_callee (f := 19) rfl ?_); refine goesL_ (some 13) rfl rfl Tryd.func19 (by kernel_rfl) rfl #[.slice A0 l0.length c0] rfl (Qls) ?_; (with_reducible refine (lampblacklaw02_Few.calls _ _ l0 t372 _ ?side1 ?side2 A3.out).mono ?_); (case side1 => exact Qsc HR0.out); (case side2 => exact HC0.out); rintro e w13 ⟨v373, rfl, ho0, hb⟩; refine ⟨_, rfl, ?_⟩; have n0_ := Aside0.mk (Kd.R_lower ho0 (below_size (Qaw))); have n1_ := Aside0.mk (below_step (Qaw) hb); clear HB; have HO374 := n0_; have HB := n1_; clear n0_ n1_; (try clear hb); (try clear hb2); (try clear hk); (try clear hi); (try clear ho0); obtain ⟨Ao14, co14, eo14⟩ := Kd.R_slice HO374.out; subst eo14) | ((with_reducible refine gate_callee (f := 18) rfl ?_); refine goesL_ (some 14) rfl rfl Tryd.func18 (by kernel_rfl) rfl #[.slice Ao14 t372.length co14] rfl (Qls) ?_; (with_reducible refine (width_Width.calls (hGL := (Qlg)) k _ _ t372 t375 t376 _ ?side1 ?side2 A4.out).mono ?_); (case side1 => exact Qsc (Kd.R_reads' HO374.out).2.2); (case side2 => exact (Kd.R_reads' HO374.out).2.1); rintro e w15 ⟨rfl, hb⟩; refine ⟨_, rfl, ?_⟩; have n0_ := Aside0.mk (Kd.R_below (Qro HO374.out) hb); have n1_ := Aside0.mk (below_step (Qaw) hb); clear HO374; clear HB; have HO374 := n0_; have HB := n1_; clear n0_ n1_; (try clear hb); (try clear hb2); (try clear hk); (try clear hi)) | ((with_reducible refine gate_callee (f := 19) rfl ?_); refine goesL_ (some 19) rfl rfl Tryd.func19 (by kernel_rfl) rfl #[.slice A0 l0.length c0] rfl (Qls) ?_; (with_reducible refine (lampblacklaw02_Few.calls _ _ l0 t377 _ ?side1 ?side2 A5.out).mono ?_); (case side1 => exact Qsc (Kd.C_below HR0.out HB.out)); (case side2 => exact HC0.out); rintro e w16 ⟨v378, rfl, ho0, hb⟩; refine ⟨_, rfl, ?_⟩; have n0_ := Aside0.mk (Kd.R_elder' (Qro HO374.out) (Kd.R_base ho0) hb); have n1_ := Aside0.mk (Kd.R_lower (Kd.R_new' ho0 (Kd.R_lt (Qro HO374.out))) (below_size (Qaw))); have n2_ := Aside0.mk (below_step (Qaw) hb); clear HO374; clear HB; have HO374 := n0_; have HO379 := n1_; have HB := n2_; clear n0_ n1_ n2_; (try clear hb); (try clear hb2); (try clear hk); (try clear hi); (try clear ho0); obtain ⟨Ao17, co17, eo17⟩ := Kd.R_slice HO379.out; subst eo17) | ((with_reducible refine gate_callee (f := 36) rfl ?_); refine goesL_ (some 20) rfl rfl Tryd.func36 (by kernel_rfl) rfl #[.slice Ao17 t377.length co17] rfl (Qls) ?_; (with_reducible refine (width_Order.calls (hGL := (Qlg)) k _ _ t377 t380 t381 _ ?side1 ?side2 A6.out).mono ?_); (case side1 => exact Qsc (Kd.R_reads' HO379.out).2.2); (case side2 => exact (Kd.R_reads' HO379.out).2.1); rintro e w18 ⟨v382, rfl, ho0, hb⟩; refine ⟨_, rfl, ?_⟩; have n0_ := Aside0.mk (Kd.R_elder' (Qro HO374.out) (Kd.R_base ho0) hb); have n1_ := Aside0.mk (Kd.R_elder' (Qro HO379.out) (Kd.R_base ho0) hb); have n2_ := Aside0.mk (Kd.R_lower (Kd.R_new' (Kd.R_new' ho0 (Kd.R_lt (Qro HO374.out))) (Kd.R_lt (Qro HO379.out))) (below_size (Qaw))); have n3_ := Aside0.mk (below_step (Qaw) hb); clear HO374; clear HO379; clear HB; have HO374 := n0_; have HO379 := n1_; have HO383 := n2_; have HB := n3_; clear n0_ n1_ n2_ n3_; (try clear hb); (try clear hb2); (try clear hk); (try clear hi); (try clear ho0)) | ((with_reducible refine gate_callee (f := 19) rfl ?_); refine goesL_ (some 25) rfl rfl Tryd.func19 (by kernel_rfl) rfl #[.slice A0 l0.length c0] rfl (Qls) ?_; (with_reducible refine (lampblacklaw02_Few.calls _ _ l0 t384 _ ?side1 ?side2 A7.out).mono ?_); (case side1 => exact Qsc (Kd.C_below HR0.out HB.out)); (case side2 => exact HC0.out); rintro e w19 ⟨v385, rfl, ho0, hb⟩; refine ⟨_, rfl, ?_⟩; have n0_ := Aside0.mk (Kd.R_elder' (Qro HO374.out) (Kd.R_base ho0) hb); have n1_ := Aside0.mk (Kd.R_elder' (Qro HO379.out) (Kd.R_base ho0) hb); have n2_ := Aside0.mk (Kd.R_elder' (Qro HO383.out) (Kd.R_base ho0) hb); have n3_ := Aside0.mk (Kd.R_lower (Kd.R_new' (Kd.R_new' (Kd.R_new' ho0 (Kd.R_lt (Qro HO374.out))) (Kd.R_lt (Qro HO379.out))) (Kd.R_lt (Qro HO383.out))) (below_size (Qaw))); have n4_ := Aside0.mk (below_step (Qaw) hb); clear HO374; clear HO379; clear HO383; clear HB; have HO374 := n0_; have HO379 := n1_; have HO383 := n2_; have HO386 := n3_; have HB := n4_; clear n0_ n1_ n2_ n3_ n4_; (try clear hb); (try clear hb2); (try clear hk); (try clear hi); (try clear ho0)) | ((with_reducible refine gate_callee (f := 31) rfl ?_); refine goesL_ (some 27) rfl rfl Tryd.func31 (by kernel_rfl) rfl #[.slice A1 l1.length c1] rfl (Qls) ?_; (with_reducible refine (lampblacklaw02_list.calls _ _ l1 t387 _ ?side1 ?side2 A8.out).mono ?_); (case side1 => exact Qsc (Kd.C_below HR1.out HB.out)); (case side2 => exact HC1.out); rintro e w20 ⟨v388, rfl, ho0, hb⟩; refine ⟨_, rfl, ?_⟩; have n0_ := Aside0.mk (Kd.R_elder' (Qro HO374.out) (Kd.R_base ho0) hb); have n1_ := Aside0.mk (Kd.R_elder' (Qro HO379.out) (Kd.R_base ho0) hb); have n2_ := Aside0.mk (Kd.R_elder' (Qro HO383.out) (Kd.R_base ho0) hb); have n3_ := Aside0.mk (Kd.R_elder' (Qro HO386.out) (Kd.R_base ho0) hb); have n4_ := Aside0.mk (Kd.R_lower (Kd.R_new' (Kd.R_new' (Kd.R_new' (Kd.R_new' ho0 (Kd.R_lt (Qro HO374.out))) (Kd.R_lt (Qro HO379.out))) (Kd.R_lt (Qro HO383.out))) (Kd.R_lt (Qro HO386.out))) (below_size (Qaw))); have n5_ := Aside0.mk (below_step (Qaw) hb); clear HO374; clear HO379; clear HO383; clear HO386; clear HB; have HO374 := n0_; have HO379 := n1_; have HO383 := n2_; have HO386 := n3_; have HO389 := n4_; have HB := n5_; clear n0_ n1_ n2_ n3_ n4_ n5_; (try clear hb); (try clear hb2); (try clear hk); (try clear hi); (try clear ho0); obtain ⟨Ao21, co21, eo21⟩ := Kd.R_slice HO386.out; subst eo21; obtain ⟨Ao22, co22, eo22⟩ := Kd.R_slice HO389.out; subst eo22) | ((with_reducible refine gate_callee (f := 37) rfl ?_); refine goesL_ (some 28) rfl rfl Tryd.func37 (by kernel_rfl) rfl #[.slice Ao21 t384.length co21, .slice Ao22 t387.length co22] rfl (Qls) ?_; (with_reducible refine (width_Along.calls (hGL := (Qlg)) k _ _ t384 _ _ t387 t390 t391 _ ?side1 ?side2 ?side3 ?side4 A9.out).mono ?_); (case side1 => exact Qsc (Kd.R_reads' HO386.out).2.2); (case side2 => exact (Kd.R_reads' HO386.out).2.1); (case side3 => exact Qsc (Kd.R_reads' HO389.out).2.2); (case side4 => exact (Kd.R_reads' HO389.out).2.1); rintro e w23 ⟨rfl, hb⟩; refine ⟨_, rfl, ?_⟩; have n0_ := Aside0.mk (Kd.R_below (Qro HO374.out) hb); have n1_ := Aside0.mk (Kd.R_below (Qro HO379.out) hb); have n2_ := Aside0.mk (Kd.R_below (Qro HO383.out) hb); have n3_ := Aside0.mk (Kd.R_below (Qro HO386.out) hb); have n4_ := Aside0.mk (Kd.R_below (Qro HO389.out) hb); have n5_ := Aside0.mk (below_step (Qaw) hb); clear HO374; clear HO379; clear HO383; clear HO386; clear HO389; clear HB; have HO374 := n0_; have HO379 := n1_; have HO383 := n2_; have HO386 := n3_; have HO389 := n4_; have HB := n5_; clear n0_ n1_ n2_ n3_ n4_ n5_; (try clear hb); (try clear hb2); (try clear hk); (try clear hi)) | ((with_reducible refine gate_callee (f := 23) rfl ?_); refine goesL_ (some 32) rfl rfl Tryd.func23 (by kernel_rfl) rfl #[.slice A0 l0.length c0] rfl (Qls) ?_; (with_reducible refine (lampblackref02_Valid.calls k _ _ l0 true _ ?side1 ?side2 A10.out).mono ?_); (case side1 => exact Qsc (Kd.C_below HR0.out HB.out)); (case side2 => exact HC0.out); rintro e w' ⟨rfl, ⟨nd, rfl⟩⟩; refine ⟨_, rfl, ?_⟩))
  (try simp only [Act.put, List.setIfInBounds_toArray, List.set_cons_zero, List.set_cons_succ])
  go_cut [82] (fun v82 wc => ∃ (kq : Nat) (x82_11 : Bool), v82 = .bool x82_11 ∧ Aside0 (lampblacklaw02_WidthOrders.j0 kq l0 l1 t390 t391 x82_11 = some r) ∧ Aside0 (kq ≤ k) ∧ Aside0 (Below w.heap.size w wc))
  case first =>
   have H := HC12.out
   clear HC12
   replace H := Option.bind_eq_some_iff.mp H
   obtain ⟨t394, A240, H⟩ := H
   replace H : (if t375 = t394 then (if t376 = 0 then ((lampblackref02_Order.f k l0).bind fun t395 => ((slices_Equal_int_int.f k t380 t395).bind fun t398 => (if t398 = true then (if t381 = 0 then ((lampblacklaw02_awake.f k).bind fun t399 => (lampblacklaw02_WidthOrders.j0 k l0 l1 t390 t391 (!t399))) else (lampblacklaw02_WidthOrders.j0 k l0 l1 t390 t391 true)) else (lampblacklaw02_WidthOrders.j0 k l0 l1 t390 t391 true)))) else (lampblacklaw02_WidthOrders.j0 k l0 l1 t390 t391 true)) else (lampblacklaw02_WidthOrders.j0 k l0 l1 t390 t391 true)) = some r := H
   have A24 := Aside0.mk A240
   clear A240
   by_cases c25 : t375 = t394
   ·rw [if_pos c25] at H
    have c25b0 : (t375 == t394) = true := beq_iff_eq.mpr c25
    have c25b1 : (t375 != t394) = false := bne_eq_false_iff_eq.mpr c25
    clear c25
    (first | rw [c25b0] | (simp only [i64_w, i32_w]; rw [c25b0]) | skip)
    by_cases c26 : t376 = 0
    ·rw [if_pos c26] at H
     have c26b0 : (t376 == 0) = true := beq_iff_eq.mpr c26
     have c26b1 : (t376 != 0) = false := bne_eq_false_iff_eq.mpr c26
     clear c26
     replace H := Option.bind_eq_some_iff.mp H
     obtain ⟨t395, A270, H⟩ := H
     replace H : ((slices_Equal_int_int.f k t380 t395).bind fun t398 => (if t398 = true then (if t381 = 0 then ((lampblacklaw02_awake.f k).bind fun t399 => (lampblacklaw02_WidthOrders.j0 k l0 l1 t390 t391 (!t399))) else (lampblacklaw02_WidthOrders.j0 k l0 l1 t390 t391 true)) else (lampblacklaw02_WidthOrders.j0 k l0 l1 t390 t391 true))) = some r := H
     have A27 := Aside0.mk A270
     clear A270
     replace H := Option.bind_eq_some_iff.mp H
     obtain ⟨t398, A280, H⟩ := H
     replace H : (if t398 = true then (if t381 = 0 then ((lampblacklaw02_awake.f k).bind fun t399 => (lampblacklaw02_WidthOrders.j0 k l0 l1 t390 t391 (!t399))) else (lampblacklaw02_WidthOrders.j0 k l0 l1 t390 t391 true)) else (lampblacklaw02_WidthOrders.j0 k l0 l1 t390 t391 true)) = some r := H
     have A28 := Aside0.mk A280
     clear A280
     by_cases c29 : t398 = true
     ·subst c29
      have H1 : (if t381 = 0 then ((lampblacklaw02_awake.f k).bind fun t399 => (lampblacklaw02_WidthOrders.j0 k l0 l1 t390 t391 (!t399))) else (lampblacklaw02_WidthOrders.j0 k l0 l1 t390 t391 true)) = some r := by rw [if_pos rfl] at H; exact H
      clear H
      have H := H1
      clear H1
      by_cases c30 : t381 = 0
      ·rw [if_pos c30] at H
       have c30b0 : (t381 == 0) = true := beq_iff_eq.mpr c30
       have c30b1 : (t381 != 0) = false := bne_eq_false_iff_eq.mpr c30
       clear c30
       replace H := Option.bind_eq_some_iff.mp H
       obtain ⟨t399, A310, H⟩ := H
       replace H : (lampblacklaw02_WidthOrders.j0 k l0 l1 t390 t391 (!t399)) = some r := H
       have A31 := Aside0.mk A310
       clear A310
       have H' := Aside0.mk H
       clear H
       go_wp2_with (first | ((with_reducible refine gate_callee (f := 38) rfl ?_); refine goesL_ (some 62) rfl rfl Tryd.func38 (by kernel_rfl) rfl #[.slice A0 l0.length c0] rfl (Qls) ?_; (with_reducible refine (lampblackref02_Width.calls k _ _ l0 t394 _ ?side1 ?side2 A24.out).mono ?_); (case side1 => exact Qsc (Kd.C_below HR0.out HB.out)); (case side2 => exact HC0.out); rintro e w32 ⟨rfl, hb⟩; refine ⟨_, rfl, ?_⟩; have n0_ := Aside0.mk (Kd.R_below (Qro HO374.out) hb); have n1_ := Aside0.mk (Kd.R_below (Qro HO379.out) hb); have n2_ := Aside0.mk (Kd.R_below (Qro HO383.out) hb); have n3_ := Aside0.mk (Kd.R_below (Qro HO386.out) hb); have n4_ := Aside0.mk (Kd.R_below (Qro HO389.out) hb); have n5_ := Aside0.mk (below_step (Qaw) hb); clear HO374; clear HO379; clear HO383; clear HO386; clear HO389; clear HB; have HO374 := n0_; have HO379 := n1_; have HO383 := n2_; have HO386 := n3_; have HO389 := n4_; have HB := n5_; clear n0_ n1_ n2_ n3_ n4_ n5_; (try clear hb); (try clear hb2); (try clear hk); (try clear hi)) | (go_at_call 40; (with_reducible refine (lampblackref02_Order.calls k _ _ l0 t395 _ ?side1 ?side2 A27.out).mono ?_); (case side1 => exact Qsc (Kd.C_below HR0.out HB.out)); (case side2 => exact HC0.out); rintro e w33 ⟨v396, rfl, ho0, hb⟩; have n0_ := Aside0.mk (Kd.R_elder' (Qro HO374.out) (Kd.R_base ho0) hb); have n1_ := Aside0.mk (Kd.R_elder' (Qro HO379.out) (Kd.R_base ho0) hb); have n2_ := Aside0.mk (Kd.R_elder' (Qro HO383.out) (Kd.R_base ho0) hb); have n3_ := Aside0.mk (Kd.R_elder' (Qro HO386.out) (Kd.R_base ho0) hb); have n4_ := Aside0.mk (Kd.R_elder' (Qro HO389.out) (Kd.R_base ho0) hb); have n5_ := Aside0.mk (Kd.R_lower (Kd.R_new' (Kd.R_new' (Kd.R_new' (Kd.R_new' (Kd.R_new' ho0 (Kd.R_lt (Qro HO374.out))) (Kd.R_lt (Qro HO379.out))) (Kd.R_lt (Qro HO383.out))) (Kd.R_lt (Qro HO386.out))) (Kd.R_lt (Qro HO389.out))) (below_size (Qaw))); have n6_ := Aside0.mk (below_step (Qaw) hb); clear HO374; clear HO379; clear HO383; clear HO386; clear HO389; clear HB; have HO374 := n0_; have HO379 := n1_; have HO383 := n2_; have HO386 := n3_; have HO389 := n4_; have HO397 := n5_; have HB := n6_; clear n0_ n1_ n2_ n3_ n4_ n5_ n6_; (try clear hb); (try clear hb2); (try clear hk); (try clear hi); (try clear ho0); obtain ⟨Ao34, co34, eo34⟩ := Kd.R_slice HO383.out; subst eo34; obtain ⟨Ao35, co35, eo35⟩ := Kd.R_slice HO397.out; subst eo35) | (go_at_call 39; (with_reducible refine (slices_Equal_int_int.calls k _ _ t380 _ _ t395 true _ ?side1 ?side2 ?side3 ?side4 A28.out).mono ?_); (case side1 => exact Qsc (Kd.R_reads' HO383.out).2.2); (case side2 => exact (Kd.R_reads' HO383.out).2.1); (case side3 => exact Qsc (Kd.R_reads' HO397.out).2.2); (case side4 => exact (Kd.R_reads' HO397.out).2.1); rintro e w' ⟨rfl, ⟨nd, rfl⟩⟩) | (go_at_call 20; (with_reducible refine (lampblacklaw02_awake.calls (hGL := (Qlg)) k  t399 _ A31.out).mono ?_); rintro e w36 ⟨rfl, hb⟩; have n0_ := Aside0.mk (Kd.R_below (Qro HO374.out) hb); have n1_ := Aside0.mk (Kd.R_below (Qro HO379.out) hb); have n2_ := Aside0.mk (Kd.R_below (Qro HO383.out) hb); have n3_ := Aside0.mk (Kd.R_below (Qro HO386.out) hb); have n4_ := Aside0.mk (Kd.R_below (Qro HO389.out) hb); have n5_ := Aside0.mk (Kd.R_below (Qro HO397.out) hb); have n6_ := Aside0.mk (below_step (Qaw) hb); clear HO374; clear HO379; clear HO383; clear HO386; clear HO389; clear HO397; clear HB; have HO374 := n0_; have HO379 := n1_; have HO383 := n2_; have HO386 := n3_; have HO389 := n4_; have HO397 := n5_; have HB := n6_; clear n0_ n1_ n2_ n3_ n4_ n5_ n6_; (try clear hb); (try clear hb2); (try clear hk); (try clear hi)))
       go_meet
       case rel => exact ⟨_, (!t399), (by first | rfl | (simp; done) | (simp [*]; done)), H', ⟨by first | omega | exact Nat.le_refl _⟩, ⟨by repeat (first | (with_reducible first | exact HB.out | apply below_alloc | apply pw_below_drewN | apply below_drew1) | exact HB.out)⟩⟩
      ·rw [if_neg c30] at H
       have c30b0 : (t381 == 0) = false := beq_eq_false_iff_ne.mpr c30
       have c30b1 : (t381 != 0) = true := bne_iff_ne.mpr c30
       have H' := Aside0.mk H
       clear H
       go_wp2_with (first | ((with_reducible refine gate_callee (f := 38) rfl ?_); refine goesL_ (some 62) rfl rfl Tryd.func38 (by kernel_rfl) rfl #[.slice A0 l0.length c0] rfl (Qls) ?_; (with_reducible refine (lampblackref02_Width.calls k _ _ l0 t394 _ ?side1 ?side2 A24.out).mono ?_); (case side1 => exact Qsc (Kd.C_below HR0.out HB.out)); (case side2 => exact HC0.out); rintro e w37 ⟨rfl, hb⟩; refine ⟨_, rfl, ?_⟩; have n0_ := Aside0.mk (Kd.R_below (Qro HO374.out) hb); have n1_ := Aside0.mk (Kd.R_below (Qro HO379.out) hb); have n2_ := Aside0.mk (Kd.R_below (Qro HO383.out) hb); have n3_ := Aside0.mk (Kd.R_below (Qro HO386.out) hb); have n4_ := Aside0.mk (Kd.R_below (Qro HO389.out) hb); have n5_ := Aside0.mk (below_step (Qaw) hb); clear HO374; clear HO379; clear HO383; clear HO386; clear HO389; clear HB; have HO374 := n0_; have HO379 := n1_; have HO383 := n2_; have HO386 := n3_; have HO389 := n4_; have HB := n5_; clear n0_ n1_ n2_ n3_ n4_ n5_; (try clear hb); (try clear hb2); (try clear hk); (try clear hi)) | (go_at_call 40; (with_reducible refine (lampblackref02_Order.calls k _ _ l0 t395 _ ?side1 ?side2 A27.out).mono ?_); (case side1 => exact Qsc (Kd.C_below HR0.out HB.out)); (case side2 => exact HC0.out); rintro e w38 ⟨v396, rfl, ho0, hb⟩; have n0_ := Aside0.mk (Kd.R_elder' (Qro HO374.out) (Kd.R_base ho0) hb); have n1_ := Aside0.mk (Kd.R_elder' (Qro HO379.out) (Kd.R_base ho0) hb); have n2_ := Aside0.mk (Kd.R_elder' (Qro HO383.out) (Kd.R_base ho0) hb); have n3_ := Aside0.mk (Kd.R_elder' (Qro HO386.out) (Kd.R_base ho0) hb); have n4_ := Aside0.mk (Kd.R_elder' (Qro HO389.out) (Kd.R_base ho0) hb); have n5_ := Aside0.mk (Kd.R_lower (Kd.R_new' (Kd.R_new' (Kd.R_new' (Kd.R_new' (Kd.R_new' ho0 (Kd.R_lt (Qro HO374.out))) (Kd.R_lt (Qro HO379.out))) (Kd.R_lt (Qro HO383.out))) (Kd.R_lt (Qro HO386.out))) (Kd.R_lt (Qro HO389.out))) (below_size (Qaw))); have n6_ := Aside0.mk (below_step (Qaw) hb); clear HO374; clear HO379; clear HO383; clear HO386; clear HO389; clear HB; have HO374 := n0_; have HO379 := n1_; have HO383 := n2_; have HO386 := n3_; have HO389 := n4_; have HO397 := n5_; have HB := n6_; clear n0_ n1_ n2_ n3_ n4_ n5_ n6_; (try clear hb); (try clear hb2); (try clear hk); (try clear hi); (try clear ho0); obtain ⟨Ao39, co39, eo39⟩ := Kd.R_slice HO383.out; subst eo39; obtain ⟨Ao40, co40, eo40⟩ := Kd.R_slice HO397.out; subst eo40) | (go_at_call 39; (with_reducible refine (slices_Equal_int_int.calls k _ _ t380 _ _ t395 true _ ?side1 ?side2 ?side3 ?side4 A28.out).mono ?_); (case side1 => exact Qsc (Kd.R_reads' HO383.out).2.2); (case side2 => exact (Kd.R_reads' HO383.out).2.1); (case side3 => exact Qsc (Kd.R_reads' HO397.out).2.2); (case side4 => exact (Kd.R_reads' HO397.out).2.1); rintro e w' ⟨rfl, ⟨nd, rfl⟩⟩))
       go_meet
       case rel => exact ⟨_, (true), (by first | rfl | (simp; done) | (simp [*]; done)), H', ⟨by first | omega | exact Nat.le_refl _⟩, ⟨by repeat (first | (with_reducible first | exact HB.out | apply below_alloc | apply pw_below_drewN | apply below_drew1) | exact HB.out)⟩⟩
     ·replace c29 := Bool.eq_false_iff.mpr c29
      subst c29
      have H1 : (lampblacklaw02_WidthOrders.j0 k l0 l1 t390 t391 true) = some r := by rw [if_neg (show ¬ (false = true) by decide)] at H; exact H
      clear H
      have H := H1
      clear H1
      have H' := Aside0.mk H
      clear H
      go_wp2_with (first | ((with_reducible refine gate_callee (f := 38) rfl ?_); refine goesL_ (some 62) rfl rfl Tryd.func38 (by kernel_rfl) rfl #[.slice A0 l0.length c0] rfl (Qls) ?_; (with_reducible refine (lampblackref02_Width.calls k _ _ l0 t394 _ ?side1 ?side2 A24.out).mono ?_); (case side1 => exact Qsc (Kd.C_below HR0.out HB.out)); (case side2 => exact HC0.out); rintro e w41 ⟨rfl, hb⟩; refine ⟨_, rfl, ?_⟩; have n0_ := Aside0.mk (Kd.R_below (Qro HO374.out) hb); have n1_ := Aside0.mk (Kd.R_below (Qro HO379.out) hb); have n2_ := Aside0.mk (Kd.R_below (Qro HO383.out) hb); have n3_ := Aside0.mk (Kd.R_below (Qro HO386.out) hb); have n4_ := Aside0.mk (Kd.R_below (Qro HO389.out) hb); have n5_ := Aside0.mk (below_step (Qaw) hb); clear HO374; clear HO379; clear HO383; clear HO386; clear HO389; clear HB; have HO374 := n0_; have HO379 := n1_; have HO383 := n2_; have HO386 := n3_; have HO389 := n4_; have HB := n5_; clear n0_ n1_ n2_ n3_ n4_ n5_; (try clear hb); (try clear hb2); (try clear hk); (try clear hi)) | (go_at_call 40; (with_reducible refine (lampblackref02_Order.calls k _ _ l0 t395 _ ?side1 ?side2 A27.out).mono ?_); (case side1 => exact Qsc (Kd.C_below HR0.out HB.out)); (case side2 => exact HC0.out); rintro e w42 ⟨v396, rfl, ho0, hb⟩; have n0_ := Aside0.mk (Kd.R_elder' (Qro HO374.out) (Kd.R_base ho0) hb); have n1_ := Aside0.mk (Kd.R_elder' (Qro HO379.out) (Kd.R_base ho0) hb); have n2_ := Aside0.mk (Kd.R_elder' (Qro HO383.out) (Kd.R_base ho0) hb); have n3_ := Aside0.mk (Kd.R_elder' (Qro HO386.out) (Kd.R_base ho0) hb); have n4_ := Aside0.mk (Kd.R_elder' (Qro HO389.out) (Kd.R_base ho0) hb); have n5_ := Aside0.mk (Kd.R_lower (Kd.R_new' (Kd.R_new' (Kd.R_new' (Kd.R_new' (Kd.R_new' ho0 (Kd.R_lt (Qro HO374.out))) (Kd.R_lt (Qro HO379.out))) (Kd.R_lt (Qro HO383.out))) (Kd.R_lt (Qro HO386.out))) (Kd.R_lt (Qro HO389.out))) (below_size (Qaw))); have n6_ := Aside0.mk (below_step (Qaw) hb); clear HO374; clear HO379; clear HO383; clear HO386; clear HO389; clear HB; have HO374 := n0_; have HO379 := n1_; have HO383 := n2_; have HO386 := n3_; have HO389 := n4_; have HO397 := n5_; have HB := n6_; clear n0_ n1_ n2_ n3_ n4_ n5_ n6_; (try clear hb); (try clear hb2); (try clear hk); (try clear hi); (try clear ho0); obtain ⟨Ao43, co43, eo43⟩ := Kd.R_slice HO383.out; subst eo43; obtain ⟨Ao44, co44, eo44⟩ := Kd.R_slice HO397.out; subst eo44) | (go_at_call 39; (with_reducible refine (slices_Equal_int_int.calls k _ _ t380 _ _ t395 false _ ?side1 ?side2 ?side3 ?side4 A28.out).mono ?_); (case side1 => exact Qsc (Kd.R_reads' HO383.out).2.2); (case side2 => exact (Kd.R_reads' HO383.out).2.1); (case side3 => exact Qsc (Kd.R_reads' HO397.out).2.2); (case side4 => exact (Kd.R_reads' HO397.out).2.1); rintro e w' ⟨rfl, ⟨nd, rfl⟩⟩))
      go_meet
      case rel => exact ⟨_, (true), (by first | rfl | (simp; done) | (simp [*]; done)), H', ⟨by first | omega | exact Nat.le_refl _⟩, ⟨by repeat (first | (with_reducible first | exact HB.out | apply below_alloc | apply pw_below_drewN | apply below_drew1) | exact HB.out)⟩⟩
    ·rw [if_neg c26] at H
     have c26b0 : (t376 == 0) = false := beq_eq_false_iff_ne.mpr c26
     have c26b1 : (t376 != 0) = true := bne_iff_ne.mpr c26
     have H' := Aside0.mk H
     clear H
     go_wp2_with (first | ((with_reducible refine gate_callee (f := 38) rfl ?_); refine goesL_ (some 62) rfl rfl Tryd.func38 (by kernel_rfl) rfl #[.slice A0 l0.length c0] rfl (Qls) ?_; (with_reducible refine (lampblackref02_Width.calls k _ _ l0 t394 _ ?side1 ?side2 A24.out).mono ?_); (case side1 => exact Qsc (Kd.C_below HR0.out HB.out)); (case side2 => exact HC0.out); rintro e w45 ⟨rfl, hb⟩; refine ⟨_, rfl, ?_⟩; have n0_ := Aside0.mk (Kd.R_below (Qro HO374.out) hb); have n1_ := Aside0.mk (Kd.R_below (Qro HO379.out) hb); have n2_ := Aside0.mk (Kd.R_below (Qro HO383.out) hb); have n3_ := Aside0.mk (Kd.R_below (Qro HO386.out) hb); have n4_ := Aside0.mk (Kd.R_below (Qro HO389.out) hb); have n5_ := Aside0.mk (below_step (Qaw) hb); clear HO374; clear HO379; clear HO383; clear HO386; clear HO389; clear HB; have HO374 := n0_; have HO379 := n1_; have HO383 := n2_; have HO386 := n3_; have HO389 := n4_; have HB := n5_; clear n0_ n1_ n2_ n3_ n4_ n5_; (try clear hb); (try clear hb2); (try clear hk); (try clear hi)))
     go_meet
     case rel => exact ⟨_, (true), (by first | rfl | (simp; done) | (simp [*]; done)), H', ⟨by first | omega | exact Nat.le_refl _⟩, ⟨by repeat (first | (with_reducible first | exact HB.out | apply below_alloc | apply pw_below_drewN | apply below_drew1) | exact HB.out)⟩⟩
   ·rw [if_neg c25] at H
    have c25b0 : (t375 == t394) = false := beq_eq_false_iff_ne.mpr c25
    have c25b1 : (t375 != t394) = true := bne_iff_ne.mpr c25
    (first | rw [c25b0] | (simp only [i64_w, i32_w]; rw [c25b0]) | skip)
    have H' := Aside0.mk H
    clear H
    go_wp2_with (first | ((with_reducible refine gate_callee (f := 38) rfl ?_); refine goesL_ (some 62) rfl rfl Tryd.func38 (by kernel_rfl) rfl #[.slice A0 l0.length c0] rfl (Qls) ?_; (with_reducible refine (lampblackref02_Width.calls k _ _ l0 t394 _ ?side1 ?side2 A24.out).mono ?_); (case side1 => exact Qsc (Kd.C_below HR0.out HB.out)); (case side2 => exact HC0.out); rintro e w46 ⟨rfl, hb⟩; refine ⟨_, rfl, ?_⟩; have n0_ := Aside0.mk (Kd.R_below (Qro HO374.out) hb); have n1_ := Aside0.mk (Kd.R_below (Qro HO379.out) hb); have n2_ := Aside0.mk (Kd.R_below (Qro HO383.out) hb); have n3_ := Aside0.mk (Kd.R_below (Qro HO386.out) hb); have n4_ := Aside0.mk (Kd.R_below (Qro HO389.out) hb); have n5_ := Aside0.mk (below_step (Qaw) hb); clear HO374; clear HO379; clear HO383; clear HO386; clear HO389; clear HB; have HO374 := n0_; have HO379 := n1_; have HO383 := n2_; have HO386 := n3_; have HO389 := n4_; have HB := n5_; clear n0_ n1_ n2_ n3_ n4_ n5_; (try clear hb); (try clear hb2); (try clear hk); (try clear hi)))
    go_meet
    case rel => exact ⟨_, (true), (by first | rfl | (simp; done) | (simp [*]; done)), H', ⟨by first | omega | exact Nat.le_refl _⟩, ⟨by repeat (first | (with_reducible first | exact HB.out | apply below_alloc | apply pw_below_drewN | apply below_drew1) | exact HB.out)⟩⟩
  case rest =>
   clear HC12
   try clear c1
   try clear c2
   try clear p2
   try clear c3
   try clear c8
   try clear c11
   try clear c18
   try clear c19
   try clear c23
   try clear c25
   try clear c25b0
   try clear c25b1
   try clear c26
   try clear c26b0
   try clear c26b1
   try clear c29
   try clear c30
   try clear c30b0
   try clear c30b1
   try clear c31
   try clear c36
   try clear c37
   try clear c38
   obtain ⟨kq, x82_11, rfl, HA, HJ11, HB⟩ := hcut
   cases kq with
   | zero => exact absurd HA.out (by simp [lampblacklaw02_WidthOrders.j0])
   | succ kj11 =>
    have H := HA.out
    clear HA
    simp only [lampblacklaw02_WidthOrders.j0] at H
    by_cases c47 : x82_11 = true
    ·subst c47
     have H1 : (some false) = some r := by rw [if_pos rfl] at H; exact H
     clear H
     have H := H1
     clear H1
     obtain rfl := Option.some.inj H
     go_wp2
     go_ret
     exact ⟨by first | rfl | (simp [errW_none, errW_some] <;> rfl) | (simp [*, errW_none, errW_some] <;> rfl), by repeat (first | (with_reducible first | exact HB.out | apply below_alloc | apply pw_below_drewN | apply below_drew1) | exact HB.out)⟩
    ·replace c47 := Bool.eq_false_iff.mpr c47
     subst c47
     have H1 : ((lampblackref02_IsOrder.f kj11 l1 (l0.length : Int)).bind fun t400 => (if t400 = true then ((lampblackref02_Along.f kj11 l0 l1).bind fun t401 => (if t390 = t401 then (some (t391 == 0)) else (some false))) else (if t390 = 0 then (some (t391 == 2)) else (some false)))) = some r := by rw [if_neg (show ¬ (false = true) by decide)] at H; exact H
     clear H
     have H := H1
     clear H1
     replace H := Option.bind_eq_some_iff.mp H
     obtain ⟨t400, A480, H⟩ := H
     replace H : (if t400 = true then ((lampblackref02_Along.f kj11 l0 l1).bind fun t401 => (if t390 = t401 then (some (t391 == 0)) else (some false))) else (if t390 = 0 then (some (t391 == 2)) else (some false))) = some r := H
     have A48 := Aside0.mk A480
     clear A480
     by_cases c49 : t400 = true
     ·subst c49
      have H1 : ((lampblackref02_Along.f kj11 l0 l1).bind fun t401 => (if t390 = t401 then (some (t391 == 0)) else (some false))) = some r := by rw [if_pos rfl] at H; exact H
      clear H
      have H := H1
      clear H1
      replace H := Option.bind_eq_some_iff.mp H
      obtain ⟨t401, A500, H⟩ := H
      replace H : (if t390 = t401 then (some (t391 == 0)) else (some false)) = some r := H
      have A50 := Aside0.mk A500
      clear A500
      by_cases c51 : t390 = t401
      ·rw [if_pos c51] at H
       have c51b0 : (t390 == t401) = true := beq_iff_eq.mpr c51
       have c51b1 : (t390 != t401) = false := bne_eq_false_iff_eq.mpr c51
       clear c51
       obtain rfl := Option.some.inj H
       go_wp2_with (first | ((with_reducible refine gate_callee (f := 41) rfl ?_); refine goesL_ (some 86) rfl rfl Tryd.func41 (by kernel_rfl) rfl #[.slice A1 l1.length c1, .int .i64 (l0.length : Int)] rfl (Qls) ?_; (with_reducible refine (lampblackref02_IsOrder.calls kj11 _ _ l1 (l0.length : Int) true _ ?side1 ?side2 A48.out).mono ?_); (case side1 => exact Qsc (Kd.C_below HR1.out HB.out)); (case side2 => exact HC1.out); rintro e w' ⟨rfl, ⟨nd, rfl⟩⟩; refine ⟨_, rfl, ?_⟩) | ((with_reducible refine gate_callee (f := 42) rfl ?_); refine goesL_ (some 97) rfl rfl Tryd.func42 (by kernel_rfl) rfl #[.slice A0 l0.length c0, .slice A1 l1.length c1] rfl (Qls) ?_; (with_reducible refine (lampblackref02_Along.calls kj11 _ _ l0 _ _ l1 t401 _ ?side1 ?side2 ?side3 ?side4 A50.out).mono ?_); (case side1 => repeat (first | exact (Kd.C_below HR0.out (Qaw)) | (with_reducible refine Kd.C_alloc ?_ _) | (with_reducible refine Kd.C_drewN ?_ _) | (with_reducible refine Kd.C_drew ?_))); (case side2 => exact HC0.out); (case side3 => repeat (first | exact (Kd.C_below HR1.out (Qaw)) | (with_reducible refine Kd.C_alloc ?_ _) | (with_reducible refine Kd.C_drewN ?_ _) | (with_reducible refine Kd.C_drew ?_))); (case side4 => exact HC1.out); rintro e w52 ⟨rfl, hb⟩; refine ⟨_, rfl, ?_⟩; have n0_ := Aside0.mk (below_step (Qaw) hb); clear HB; have HB := n0_; clear n0_; (try clear hb); (try clear hb2); (try clear hk); (try clear hi)))
       go_ret
       exact ⟨by first | rfl | (simp [errW_none, errW_some] <;> rfl) | (simp [*, errW_none, errW_some] <;> rfl), by repeat (first | (with_reducible first | exact HB.out | apply below_alloc | apply pw_below_drewN | apply below_drew1) | exact HB.out)⟩
      ·rw [if_neg c51] at H
       have c51b0 : (t390 == t401) = false := beq_eq_false_iff_ne.mpr c51
       have c51b1 : (t390 != t401) = true := bne_iff_ne.mpr c51
       obtain rfl := Option.some.inj H
       go_wp2_with (first | ((with_reducible refine gate_callee (f := 41) rfl ?_); refine goesL_ (some 86) rfl rfl Tryd.func41 (by kernel_rfl) rfl #[.slice A1 l1.length c1, .int .i64 (l0.length : Int)] rfl (Qls) ?_; (with_reducible refine (lampblackref02_IsOrder.calls kj11 _ _ l1 (l0.length : Int) true _ ?side1 ?side2 A48.out).mono ?_); (case side1 => exact Qsc (Kd.C_below HR1.out HB.out)); (case side2 => exact HC1.out); rintro e w' ⟨rfl, ⟨nd, rfl⟩⟩; refine ⟨_, rfl, ?_⟩) | ((with_reducible refine gate_callee (f := 42) rfl ?_); refine goesL_ (some 97) rfl rfl Tryd.func42 (by kernel_rfl) rfl #[.slice A0 l0.length c0, .slice A1 l1.length c1] rfl (Qls) ?_; (with_reducible refine (lampblackref02_Along.calls kj11 _ _ l0 _ _ l1 t401 _ ?side1 ?side2 ?side3 ?side4 A50.out).mono ?_); (case side1 => repeat (first | exact (Kd.C_below HR0.out (Qaw)) | (with_reducible refine Kd.C_alloc ?_ _) | (with_reducible refine Kd.C_drewN ?_ _) | (with_reducible refine Kd.C_drew ?_))); (case side2 => exact HC0.out); (case side3 => repeat (first | exact (Kd.C_below HR1.out (Qaw)) | (with_reducible refine Kd.C_alloc ?_ _) | (with_reducible refine Kd.C_drewN ?_ _) | (with_reducible refine Kd.C_drew ?_))); (case side4 => exact HC1.out); rintro e w53 ⟨rfl, hb⟩; refine ⟨_, rfl, ?_⟩; have n0_ := Aside0.mk (below_step (Qaw) hb); clear HB; have HB := n0_; clear n0_; (try clear hb); (try clear hb2); (try clear hk); (try clear hi)))
       go_ret
       exact ⟨by first | rfl | (simp [errW_none, errW_some] <;> rfl) | (simp [*, errW_none, errW_some] <;> rfl), by repeat (first | (with_reducible first | exact HB.out | apply below_alloc | apply pw_below_drewN | apply below_drew1) | exact HB.out)⟩
     ·replace c49 := Bool.eq_false_iff.mpr c49
      subst c49
      have H1 : (if t390 = 0 then (some (t391 == 2)) else (some false)) = some r := by rw [if_neg (show ¬ (false = true) by decide)] at H; exact H
      clear H
      have H := H1
      clear H1
      by_cases c54 : t390 = 0
      ·rw [if_pos c54] at H
       have c54b0 : (t390 == 0) = true := beq_iff_eq.mpr c54
       have c54b1 : (t390 != 0) = false := bne_eq_false_iff_eq.mpr c54
       clear c54
       obtain rfl := Option.some.inj H
       go_wp2_with (first | ((with_reducible refine gate_callee (f := 41) rfl ?_); refine goesL_ (some 86) rfl rfl Tryd.func41 (by kernel_rfl) rfl #[.slice A1 l1.length c1, .int .i64 (l0.length : Int)] rfl (Qls) ?_; (with_reducible refine (lampblackref02_IsOrder.calls kj11 _ _ l1 (l0.length : Int) false _ ?side1 ?side2 A48.out).mono ?_); (case side1 => exact Qsc (Kd.C_below HR1.out HB.out)); (case side2 => exact HC1.out); rintro e w' ⟨rfl, ⟨nd, rfl⟩⟩; refine ⟨_, rfl, ?_⟩))
       go_ret
       exact ⟨by first | rfl | (simp [errW_none, errW_some] <;> rfl) | (simp [*, errW_none, errW_some] <;> rfl), by repeat (first | (with_reducible first | exact HB.out | apply below_alloc | apply pw_below_drewN | apply below_drew1) | exact HB.out)⟩
      ·rw [if_neg c54] at H
       have c54b0 : (t390 == 0) = false := beq_eq_false_iff_ne.mpr c54
       have c54b1 : (t390 != 0) = true := bne_iff_ne.mpr c54
       obtain rfl := Option.some.inj H
       go_wp2_with (first | ((with_reducible refine gate_callee (f := 41) rfl ?_); refine goesL_ (some 86) rfl rfl Tryd.func41 (by kernel_rfl) rfl #[.slice A1 l1.length c1, .int .i64 (l0.length : Int)] rfl (Qls) ?_; (with_reducible refine (lampblackref02_IsOrder.calls kj11 _ _ l1 (l0.length : Int) false _ ?side1 ?side2 A48.out).mono ?_); (case side1 => exact Qsc (Kd.C_below HR1.out HB.out)); (case side2 => exact HC1.out); rintro e w' ⟨rfl, ⟨nd, rfl⟩⟩; refine ⟨_, rfl, ?_⟩))
       go_ret
       exact ⟨by first | rfl | (simp [errW_none, errW_some] <;> rfl) | (simp [*, errW_none, errW_some] <;> rfl), by repeat (first | (with_reducible first | exact HB.out | apply below_alloc | apply pw_below_drewN | apply below_drew1) | exact HB.out)⟩
 ·replace c11 := Bool.eq_false_iff.mpr c11
  subst c11
  have H1 : (if t375 = 0 then (if (t380.length : Int) = 0 then (if t390 = 0 then (if t376 = 2 then (if t381 = 2 then (if t391 = 2 then ((lampblacklaw02_awake.f k).bind fun t393 => (some t393)) else (some false)) else (some false)) else (some false)) else (some false)) else (some false)) else (some false)) = some r := by rw [if_neg (show ¬ (false = true) by decide)] at H; exact H
  clear H
  have H := H1
  clear H1
  by_cases c55 : t375 = 0
  ·rw [if_pos c55] at H
   have c55b0 : (t375 == 0) = true := beq_iff_eq.mpr c55
   have c55b1 : (t375 != 0) = false := bne_eq_false_iff_eq.mpr c55
   clear c55
   by_cases c56 : (t380.length : Int) = 0
   ·rw [if_pos c56] at H
    have c56b0 : ((t380.length : Int) == 0) = true := beq_iff_eq.mpr c56
    have c56b1 : ((t380.length : Int) != 0) = false := bne_eq_false_iff_eq.mpr c56
    clear c56
    by_cases c57 : t390 = 0
    ·rw [if_pos c57] at H
     have c57b0 : (t390 == 0) = true := beq_iff_eq.mpr c57
     have c57b1 : (t390 != 0) = false := bne_eq_false_iff_eq.mpr c57
     clear c57
     by_cases c58 : t376 = 2
     ·rw [if_pos c58] at H
      have c58b0 : (t376 == 2) = true := beq_iff_eq.mpr c58
      have c58b1 : (t376 != 2) = false := bne_eq_false_iff_eq.mpr c58
      clear c58
      by_cases c59 : t381 = 2
      ·rw [if_pos c59] at H
       have c59b0 : (t381 == 2) = true := beq_iff_eq.mpr c59
       have c59b1 : (t381 != 2) = false := bne_eq_false_iff_eq.mpr c59
       clear c59
       by_cases c60 : t391 = 2
       ·rw [if_pos c60] at H
        have c60b0 : (t391 == 2) = true := beq_iff_eq.mpr c60
        have c60b1 : (t391 != 2) = false := bne_eq_false_iff_eq.mpr c60
        clear c60
        replace H := Option.bind_eq_some_iff.mp H
        obtain ⟨t393, A610, H⟩ := H
        replace H : (some t393) = some r := H
        have A61 := Aside0.mk A610
        clear A610
        obtain rfl := Option.some.inj H
        go_enter Tryd.func8, Tryd.ntmps8
        go_wp2_with (first | ((with_reducible refine gate_callee (f := 19) rfl ?_); refine goesL_ (some 13) rfl rfl Tryd.func19 (by kernel_rfl) rfl #[.slice A0 l0.length c0] rfl (Qls) ?_; (with_reducible refine (lampblacklaw02_Few.calls _ _ l0 t372 _ ?side1 ?side2 A3.out).mono ?_); (case side1 => exact Qsc HR0.out); (case side2 => exact HC0.out); rintro e w62 ⟨v373, rfl, ho0, hb⟩; refine ⟨_, rfl, ?_⟩; have n0_ := Aside0.mk (Kd.R_lower ho0 (below_size (Qaw))); have n1_ := Aside0.mk (below_step (Qaw) hb); clear HB; have HO374 := n0_; have HB := n1_; clear n0_ n1_; (try clear hb); (try clear hb2); (try clear hk); (try clear hi); (try clear ho0); obtain ⟨Ao63, co63, eo63⟩ := Kd.R_slice HO374.out; subst eo63) | ((with_reducible refine gate_callee (f := 18) rfl ?_); refine goesL_ (some 14) rfl rfl Tryd.func18 (by kernel_rfl) rfl #[.slice Ao63 t372.length co63] rfl (Qls) ?_; (with_reducible refine (width_Width.calls (hGL := (Qlg)) k _ _ t372 t375 t376 _ ?side1 ?side2 A4.out).mono ?_); (case side1 => exact Qsc (Kd.R_reads' HO374.out).2.2); (case side2 => exact (Kd.R_reads' HO374.out).2.1); rintro e w64 ⟨rfl, hb⟩; refine ⟨_, rfl, ?_⟩; have n0_ := Aside0.mk (Kd.R_below (Qro HO374.out) hb); have n1_ := Aside0.mk (below_step (Qaw) hb); clear HO374; clear HB; have HO374 := n0_; have HB := n1_; clear n0_ n1_; (try clear hb); (try clear hb2); (try clear hk); (try clear hi)) | ((with_reducible refine gate_callee (f := 19) rfl ?_); refine goesL_ (some 19) rfl rfl Tryd.func19 (by kernel_rfl) rfl #[.slice A0 l0.length c0] rfl (Qls) ?_; (with_reducible refine (lampblacklaw02_Few.calls _ _ l0 t377 _ ?side1 ?side2 A5.out).mono ?_); (case side1 => exact Qsc (Kd.C_below HR0.out HB.out)); (case side2 => exact HC0.out); rintro e w65 ⟨v378, rfl, ho0, hb⟩; refine ⟨_, rfl, ?_⟩; have n0_ := Aside0.mk (Kd.R_elder' (Qro HO374.out) (Kd.R_base ho0) hb); have n1_ := Aside0.mk (Kd.R_lower (Kd.R_new' ho0 (Kd.R_lt (Qro HO374.out))) (below_size (Qaw))); have n2_ := Aside0.mk (below_step (Qaw) hb); clear HO374; clear HB; have HO374 := n0_; have HO379 := n1_; have HB := n2_; clear n0_ n1_ n2_; (try clear hb); (try clear hb2); (try clear hk); (try clear hi); (try clear ho0); obtain ⟨Ao66, co66, eo66⟩ := Kd.R_slice HO379.out; subst eo66) | ((with_reducible refine gate_callee (f := 36) rfl ?_); refine goesL_ (some 20) rfl rfl Tryd.func36 (by kernel_rfl) rfl #[.slice Ao66 t377.length co66] rfl (Qls) ?_; (with_reducible refine (width_Order.calls (hGL := (Qlg)) k _ _ t377 t380 t381 _ ?side1 ?side2 A6.out).mono ?_); (case side1 => exact Qsc (Kd.R_reads' HO379.out).2.2); (case side2 => exact (Kd.R_reads' HO379.out).2.1); rintro e w67 ⟨v382, rfl, ho0, hb⟩; refine ⟨_, rfl, ?_⟩; have n0_ := Aside0.mk (Kd.R_elder' (Qro HO374.out) (Kd.R_base ho0) hb); have n1_ := Aside0.mk (Kd.R_elder' (Qro HO379.out) (Kd.R_base ho0) hb); have n2_ := Aside0.mk (Kd.R_lower (Kd.R_new' (Kd.R_new' ho0 (Kd.R_lt (Qro HO374.out))) (Kd.R_lt (Qro HO379.out))) (below_size (Qaw))); have n3_ := Aside0.mk (below_step (Qaw) hb); clear HO374; clear HO379; clear HB; have HO374 := n0_; have HO379 := n1_; have HO383 := n2_; have HB := n3_; clear n0_ n1_ n2_ n3_; (try clear hb); (try clear hb2); (try clear hk); (try clear hi); (try clear ho0)) | ((with_reducible refine gate_callee (f := 19) rfl ?_); refine goesL_ (some 25) rfl rfl Tryd.func19 (by kernel_rfl) rfl #[.slice A0 l0.length c0] rfl (Qls) ?_; (with_reducible refine (lampblacklaw02_Few.calls _ _ l0 t384 _ ?side1 ?side2 A7.out).mono ?_); (case side1 => exact Qsc (Kd.C_below HR0.out HB.out)); (case side2 => exact HC0.out); rintro e w68 ⟨v385, rfl, ho0, hb⟩; refine ⟨_, rfl, ?_⟩; have n0_ := Aside0.mk (Kd.R_elder' (Qro HO374.out) (Kd.R_base ho0) hb); have n1_ := Aside0.mk (Kd.R_elder' (Qro HO379.out) (Kd.R_base ho0) hb); have n2_ := Aside0.mk (Kd.R_elder' (Qro HO383.out) (Kd.R_base ho0) hb); have n3_ := Aside0.mk (Kd.R_lower (Kd.R_new' (Kd.R_new' (Kd.R_new' ho0 (Kd.R_lt (Qro HO374.out))) (Kd.R_lt (Qro HO379.out))) (Kd.R_lt (Qro HO383.out))) (below_size (Qaw))); have n4_ := Aside0.mk (below_step (Qaw) hb); clear HO374; clear HO379; clear HO383; clear HB; have HO374 := n0_; have HO379 := n1_; have HO383 := n2_; have HO386 := n3_; have HB := n4_; clear n0_ n1_ n2_ n3_ n4_; (try clear hb); (try clear hb2); (try clear hk); (try clear hi); (try clear ho0)) | ((with_reducible refine gate_callee (f := 31) rfl ?_); refine goesL_ (some 27) rfl rfl Tryd.func31 (by kernel_rfl) rfl #[.slice A1 l1.length c1] rfl (Qls) ?_; (with_reducible refine (lampblacklaw02_list.calls _ _ l1 t387 _ ?side1 ?side2 A8.out).mono ?_); (case side1 => exact Qsc (Kd.C_below HR1.out HB.out)); (case side2 => exact HC1.out); rintro e w69 ⟨v388, rfl, ho0, hb⟩; refine ⟨_, rfl, ?_⟩; have n0_ := Aside0.mk (Kd.R_elder' (Qro HO374.out) (Kd.R_base ho0) hb); have n1_ := Aside0.mk (Kd.R_elder' (Qro HO379.out) (Kd.R_base ho0) hb); have n2_ := Aside0.mk (Kd.R_elder' (Qro HO383.out) (Kd.R_base ho0) hb); have n3_ := Aside0.mk (Kd.R_elder' (Qro HO386.out) (Kd.R_base ho0) hb); have n4_ := Aside0.mk (Kd.R_lower (Kd.R_new' (Kd.R_new' (Kd.R_new' (Kd.R_new' ho0 (Kd.R_lt (Qro HO374.out))) (Kd.R_lt (Qro HO379.out))) (Kd.R_lt (Qro HO383.out))) (Kd.R_lt (Qro HO386.out))) (below_size (Qaw))); have n5_ := Aside0.mk (below_step (Qaw) hb); clear HO374; clear HO379; clear HO383; clear HO386; clear HB; have HO374 := n0_; have HO379 := n1_; have HO383 := n2_; have HO386 := n3_; have HO389 := n4_; have HB := n5_; clear n0_ n1_ n2_ n3_ n4_ n5_; (try clear hb); (try clear hb2); (try clear hk); (try clear hi); (try clear ho0); obtain ⟨Ao70, co70, eo70⟩ := Kd.R_slice HO386.out; subst eo70; obtain ⟨Ao71, co71, eo71⟩ := Kd.R_slice HO389.out; subst eo71) | ((with_reducible refine gate_callee (f := 37) rfl ?_); refine goesL_ (some 28) rfl rfl Tryd.func37 (by kernel_rfl) rfl #[.slice Ao70 t384.length co70, .slice Ao71 t387.length co71] rfl (Qls) ?_; (with_reducible refine (width_Along.calls (hGL := (Qlg)) k _ _ t384 _ _ t387 t390 t391 _ ?side1 ?side2 ?side3 ?side4 A9.out).mono ?_); (case side1 => exact Qsc (Kd.R_reads' HO386.out).2.2); (case side2 => exact (Kd.R_reads' HO386.out).2.1); (case side3 => exact Qsc (Kd.R_reads' HO389.out).2.2); (case side4 => exact (Kd.R_reads' HO389.out).2.1); rintro e w72 ⟨rfl, hb⟩; refine ⟨_, rfl, ?_⟩; have n0_ := Aside0.mk (Kd.R_below (Qro HO374.out) hb); have n1_ := Aside0.mk (Kd.R_below (Qro HO379.out) hb); have n2_ := Aside0.mk (Kd.R_below (Qro HO383.out) hb); have n3_ := Aside0.mk (Kd.R_below (Qro HO386.out) hb); have n4_ := Aside0.mk (Kd.R_below (Qro HO389.out) hb); have n5_ := Aside0.mk (below_step (Qaw) hb); clear HO374; clear HO379; clear HO383; clear HO386; clear HO389; clear HB; have HO374 := n0_; have HO379 := n1_; have HO383 := n2_; have HO386 := n3_; have HO389 := n4_; have HB := n5_; clear n0_ n1_ n2_ n3_ n4_ n5_; (try clear hb); (try clear hb2); (try clear hk); (try clear hi)) | ((with_reducible refine gate_callee (f := 23) rfl ?_); refine goesL_ (some 32) rfl rfl Tryd.func23 (by kernel_rfl) rfl #[.slice A0 l0.length c0] rfl (Qls) ?_; (with_reducible refine (lampblackref02_Valid.calls k _ _ l0 false _ ?side1 ?side2 A10.out).mono ?_); (case side1 => exact Qsc (Kd.C_below HR0.out HB.out)); (case side2 => exact HC0.out); rintro e w' ⟨rfl, ⟨nd, rfl⟩⟩; refine ⟨_, rfl, ?_⟩; obtain ⟨Ao73, co73, eo73⟩ := Kd.R_slice HO383.out; subst eo73) | (go_at_call 20; (with_reducible refine (lampblacklaw02_awake.calls (hGL := (Qlg)) k  t393 _ A61.out).mono ?_); rintro e w74 ⟨rfl, hb⟩; have n0_ := Aside0.mk (Kd.R_below (Qro HO374.out) hb); have n1_ := Aside0.mk (Kd.R_below (Qro HO379.out) hb); have n2_ := Aside0.mk (Kd.R_below (Qro HO383.out) hb); have n3_ := Aside0.mk (Kd.R_below (Qro HO386.out) hb); have n4_ := Aside0.mk (Kd.R_below (Qro HO389.out) hb); have n5_ := Aside0.mk (below_step (Qaw) hb); clear HO374; clear HO379; clear HO383; clear HO386; clear HO389; clear HB; have HO374 := n0_; have HO379 := n1_; have HO383 := n2_; have HO386 := n3_; have HO389 := n4_; have HB := n5_; clear n0_ n1_ n2_ n3_ n4_ n5_; (try clear hb); (try clear hb2); (try clear hk); (try clear hi)))
        go_ret
        exact ⟨by first | rfl | (simp [errW_none, errW_some] <;> rfl) | (simp [*, errW_none, errW_some] <;> rfl), by repeat (first | (with_reducible first | exact HB.out | apply below_alloc | apply pw_below_drewN | apply below_drew1) | exact HB.out)⟩
       ·rw [if_neg c60] at H
        have c60b0 : (t391 == 2) = false := beq_eq_false_iff_ne.mpr c60
        have c60b1 : (t391 != 2) = true := bne_iff_ne.mpr c60
        obtain rfl := Option.some.inj H
        go_enter Tryd.func8, Tryd.ntmps8
        go_wp2_with (first | ((with_reducible refine gate_callee (f := 19) rfl ?_); refine goesL_ (some 13) rfl rfl Tryd.func19 (by kernel_rfl) rfl #[.slice A0 l0.length c0] rfl (Qls) ?_; (with_reducible refine (lampblacklaw02_Few.calls _ _ l0 t372 _ ?side1 ?side2 A3.out).mono ?_); (case side1 => exact Qsc HR0.out); (case side2 => exact HC0.out); rintro e w75 ⟨v373, rfl, ho0, hb⟩; refine ⟨_, rfl, ?_⟩; have n0_ := Aside0.mk (Kd.R_lower ho0 (below_size (Qaw))); have n1_ := Aside0.mk (below_step (Qaw) hb); clear HB; have HO374 := n0_; have HB := n1_; clear n0_ n1_; (try clear hb); (try clear hb2); (try clear hk); (try clear hi); (try clear ho0); obtain ⟨Ao76, co76, eo76⟩ := Kd.R_slice HO374.out; subst eo76) | ((with_reducible refine gate_callee (f := 18) rfl ?_); refine goesL_ (some 14) rfl rfl Tryd.func18 (by kernel_rfl) rfl #[.slice Ao76 t372.length co76] rfl (Qls) ?_; (with_reducible refine (width_Width.calls (hGL := (Qlg)) k _ _ t372 t375 t376 _ ?side1 ?side2 A4.out).mono ?_); (case side1 => exact Qsc (Kd.R_reads' HO374.out).2.2); (case side2 => exact (Kd.R_reads' HO374.out).2.1); rintro e w77 ⟨rfl, hb⟩; refine ⟨_, rfl, ?_⟩; have n0_ := Aside0.mk (Kd.R_below (Qro HO374.out) hb); have n1_ := Aside0.mk (below_step (Qaw) hb); clear HO374; clear HB; have HO374 := n0_; have HB := n1_; clear n0_ n1_; (try clear hb); (try clear hb2); (try clear hk); (try clear hi)) | ((with_reducible refine gate_callee (f := 19) rfl ?_); refine goesL_ (some 19) rfl rfl Tryd.func19 (by kernel_rfl) rfl #[.slice A0 l0.length c0] rfl (Qls) ?_; (with_reducible refine (lampblacklaw02_Few.calls _ _ l0 t377 _ ?side1 ?side2 A5.out).mono ?_); (case side1 => exact Qsc (Kd.C_below HR0.out HB.out)); (case side2 => exact HC0.out); rintro e w78 ⟨v378, rfl, ho0, hb⟩; refine ⟨_, rfl, ?_⟩; have n0_ := Aside0.mk (Kd.R_elder' (Qro HO374.out) (Kd.R_base ho0) hb); have n1_ := Aside0.mk (Kd.R_lower (Kd.R_new' ho0 (Kd.R_lt (Qro HO374.out))) (below_size (Qaw))); have n2_ := Aside0.mk (below_step (Qaw) hb); clear HO374; clear HB; have HO374 := n0_; have HO379 := n1_; have HB := n2_; clear n0_ n1_ n2_; (try clear hb); (try clear hb2); (try clear hk); (try clear hi); (try clear ho0); obtain ⟨Ao79, co79, eo79⟩ := Kd.R_slice HO379.out; subst eo79) | ((with_reducible refine gate_callee (f := 36) rfl ?_); refine goesL_ (some 20) rfl rfl Tryd.func36 (by kernel_rfl) rfl #[.slice Ao79 t377.length co79] rfl (Qls) ?_; (with_reducible refine (width_Order.calls (hGL := (Qlg)) k _ _ t377 t380 t381 _ ?side1 ?side2 A6.out).mono ?_); (case side1 => exact Qsc (Kd.R_reads' HO379.out).2.2); (case side2 => exact (Kd.R_reads' HO379.out).2.1); rintro e w80 ⟨v382, rfl, ho0, hb⟩; refine ⟨_, rfl, ?_⟩; have n0_ := Aside0.mk (Kd.R_elder' (Qro HO374.out) (Kd.R_base ho0) hb); have n1_ := Aside0.mk (Kd.R_elder' (Qro HO379.out) (Kd.R_base ho0) hb); have n2_ := Aside0.mk (Kd.R_lower (Kd.R_new' (Kd.R_new' ho0 (Kd.R_lt (Qro HO374.out))) (Kd.R_lt (Qro HO379.out))) (below_size (Qaw))); have n3_ := Aside0.mk (below_step (Qaw) hb); clear HO374; clear HO379; clear HB; have HO374 := n0_; have HO379 := n1_; have HO383 := n2_; have HB := n3_; clear n0_ n1_ n2_ n3_; (try clear hb); (try clear hb2); (try clear hk); (try clear hi); (try clear ho0)) | ((with_reducible refine gate_callee (f := 19) rfl ?_); refine goesL_ (some 25) rfl rfl Tryd.func19 (by kernel_rfl) rfl #[.slice A0 l0.length c0] rfl (Qls) ?_; (with_reducible refine (lampblacklaw02_Few.calls _ _ l0 t384 _ ?side1 ?side2 A7.out).mono ?_); (case side1 => exact Qsc (Kd.C_below HR0.out HB.out)); (case side2 => exact HC0.out); rintro e w81 ⟨v385, rfl, ho0, hb⟩; refine ⟨_, rfl, ?_⟩; have n0_ := Aside0.mk (Kd.R_elder' (Qro HO374.out) (Kd.R_base ho0) hb); have n1_ := Aside0.mk (Kd.R_elder' (Qro HO379.out) (Kd.R_base ho0) hb); have n2_ := Aside0.mk (Kd.R_elder' (Qro HO383.out) (Kd.R_base ho0) hb); have n3_ := Aside0.mk (Kd.R_lower (Kd.R_new' (Kd.R_new' (Kd.R_new' ho0 (Kd.R_lt (Qro HO374.out))) (Kd.R_lt (Qro HO379.out))) (Kd.R_lt (Qro HO383.out))) (below_size (Qaw))); have n4_ := Aside0.mk (below_step (Qaw) hb); clear HO374; clear HO379; clear HO383; clear HB; have HO374 := n0_; have HO379 := n1_; have HO383 := n2_; have HO386 := n3_; have HB := n4_; clear n0_ n1_ n2_ n3_ n4_; (try clear hb); (try clear hb2); (try clear hk); (try clear hi); (try clear ho0)) | ((with_reducible refine gate_callee (f := 31) rfl ?_); refine goesL_ (some 27) rfl rfl Tryd.func31 (by kernel_rfl) rfl #[.slice A1 l1.length c1] rfl (Qls) ?_; (with_reducible refine (lampblacklaw02_list.calls _ _ l1 t387 _ ?side1 ?side2 A8.out).mono ?_); (case side1 => exact Qsc (Kd.C_below HR1.out HB.out)); (case side2 => exact HC1.out); rintro e w82 ⟨v388, rfl, ho0, hb⟩; refine ⟨_, rfl, ?_⟩; have n0_ := Aside0.mk (Kd.R_elder' (Qro HO374.out) (Kd.R_base ho0) hb); have n1_ := Aside0.mk (Kd.R_elder' (Qro HO379.out) (Kd.R_base ho0) hb); have n2_ := Aside0.mk (Kd.R_elder' (Qro HO383.out) (Kd.R_base ho0) hb); have n3_ := Aside0.mk (Kd.R_elder' (Qro HO386.out) (Kd.R_base ho0) hb); have n4_ := Aside0.mk (Kd.R_lower (Kd.R_new' (Kd.R_new' (Kd.R_new' (Kd.R_new' ho0 (Kd.R_lt (Qro HO374.out))) (Kd.R_lt (Qro HO379.out))) (Kd.R_lt (Qro HO383.out))) (Kd.R_lt (Qro HO386.out))) (below_size (Qaw))); have n5_ := Aside0.mk (below_step (Qaw) hb); clear HO374; clear HO379; clear HO383; clear HO386; clear HB; have HO374 := n0_; have HO379 := n1_; have HO383 := n2_; have HO386 := n3_; have HO389 := n4_; have HB := n5_; clear n0_ n1_ n2_ n3_ n4_ n5_; (try clear hb); (try clear hb2); (try clear hk); (try clear hi); (try clear ho0); obtain ⟨Ao83, co83, eo83⟩ := Kd.R_slice HO386.out; subst eo83; obtain ⟨Ao84, co84, eo84⟩ := Kd.R_slice HO389.out; subst eo84) | ((with_reducible refine gate_callee (f := 37) rfl ?_); refine goesL_ (some 28) rfl rfl Tryd.func37 (by kernel_rfl) rfl #[.slice Ao83 t384.length co83, .slice Ao84 t387.length co84] rfl (Qls) ?_; (with_reducible refine (width_Along.calls (hGL := (Qlg)) k _ _ t384 _ _ t387 t390 t391 _ ?side1 ?side2 ?side3 ?side4 A9.out).mono ?_); (case side1 => exact Qsc (Kd.R_reads' HO386.out).2.2); (case side2 => exact (Kd.R_reads' HO386.out).2.1); (case side3 => exact Qsc (Kd.R_reads' HO389.out).2.2); (case side4 => exact (Kd.R_reads' HO389.out).2.1); rintro e w85 ⟨rfl, hb⟩; refine ⟨_, rfl, ?_⟩; have n0_ := Aside0.mk (Kd.R_below (Qro HO374.out) hb); have n1_ := Aside0.mk (Kd.R_below (Qro HO379.out) hb); have n2_ := Aside0.mk (Kd.R_below (Qro HO383.out) hb); have n3_ := Aside0.mk (Kd.R_below (Qro HO386.out) hb); have n4_ := Aside0.mk (Kd.R_below (Qro HO389.out) hb); have n5_ := Aside0.mk (below_step (Qaw) hb); clear HO374; clear HO379; clear HO383; clear HO386; clear HO389; clear HB; have HO374 := n0_; have HO379 := n1_; have HO383 := n2_; have HO386 := n3_; have HO389 := n4_; have HB := n5_; clear n0_ n1_ n2_ n3_ n4_ n5_; (try clear hb); (try clear hb2); (try clear hk); (try clear hi)) | ((with_reducible refine gate_callee (f := 23) rfl ?_); refine goesL_ (some 32) rfl rfl Tryd.func23 (by kernel_rfl) rfl #[.slice A0 l0.length c0] rfl (Qls) ?_; (with_reducible refine (lampblackref02_Valid.calls k _ _ l0 false _ ?side1 ?side2 A10.out).mono ?_); (case side1 => exact Qsc (Kd.C_below HR0.out HB.out)); (case side2 => exact HC0.out); rintro e w' ⟨rfl, ⟨nd, rfl⟩⟩; refine ⟨_, rfl, ?_⟩; obtain ⟨Ao86, co86, eo86⟩ := Kd.R_slice HO383.out; subst eo86))
        go_ret
        exact ⟨by first | rfl | (simp [errW_none, errW_some] <;> rfl) | (simp [*, errW_none, errW_some] <;> rfl), by repeat (first | (with_reducible first | exact HB.out | apply below_alloc | apply pw_below_drewN | apply below_drew1) | exact HB.out)⟩
      ·rw [if_neg c59] at H
       have c59b0 : (t381 == 2) = false := beq_eq_false_iff_ne.mpr c59
       have c59b1 : (t381 != 2) = true := bne_iff_ne.mpr c59
       obtain rfl := Option.some.inj H
       go_enter Tryd.func8, Tryd.ntmps8
       go_wp2_with (first | ((with_reducible refine gate_callee (f := 19) rfl ?_); refine goesL_ (some 13) rfl rfl Tryd.func19 (by kernel_rfl) rfl #[.slice A0 l0.length c0] rfl (Qls) ?_; (with_reducible refine (lampblacklaw02_Few.calls _ _ l0 t372 _ ?side1 ?side2 A3.out).mono ?_); (case side1 => exact Qsc HR0.out); (case side2 => exact HC0.out); rintro e w87 ⟨v373, rfl, ho0, hb⟩; refine ⟨_, rfl, ?_⟩; have n0_ := Aside0.mk (Kd.R_lower ho0 (below_size (Qaw))); have n1_ := Aside0.mk (below_step (Qaw) hb); clear HB; have HO374 := n0_; have HB := n1_; clear n0_ n1_; (try clear hb); (try clear hb2); (try clear hk); (try clear hi); (try clear ho0); obtain ⟨Ao88, co88, eo88⟩ := Kd.R_slice HO374.out; subst eo88) | ((with_reducible refine gate_callee (f := 18) rfl ?_); refine goesL_ (some 14) rfl rfl Tryd.func18 (by kernel_rfl) rfl #[.slice Ao88 t372.length co88] rfl (Qls) ?_; (with_reducible refine (width_Width.calls (hGL := (Qlg)) k _ _ t372 t375 t376 _ ?side1 ?side2 A4.out).mono ?_); (case side1 => exact Qsc (Kd.R_reads' HO374.out).2.2); (case side2 => exact (Kd.R_reads' HO374.out).2.1); rintro e w89 ⟨rfl, hb⟩; refine ⟨_, rfl, ?_⟩; have n0_ := Aside0.mk (Kd.R_below (Qro HO374.out) hb); have n1_ := Aside0.mk (below_step (Qaw) hb); clear HO374; clear HB; have HO374 := n0_; have HB := n1_; clear n0_ n1_; (try clear hb); (try clear hb2); (try clear hk); (try clear hi)) | ((with_reducible refine gate_callee (f := 19) rfl ?_); refine goesL_ (some 19) rfl rfl Tryd.func19 (by kernel_rfl) rfl #[.slice A0 l0.length c0] rfl (Qls) ?_; (with_reducible refine (lampblacklaw02_Few.calls _ _ l0 t377 _ ?side1 ?side2 A5.out).mono ?_); (case side1 => exact Qsc (Kd.C_below HR0.out HB.out)); (case side2 => exact HC0.out); rintro e w90 ⟨v378, rfl, ho0, hb⟩; refine ⟨_, rfl, ?_⟩; have n0_ := Aside0.mk (Kd.R_elder' (Qro HO374.out) (Kd.R_base ho0) hb); have n1_ := Aside0.mk (Kd.R_lower (Kd.R_new' ho0 (Kd.R_lt (Qro HO374.out))) (below_size (Qaw))); have n2_ := Aside0.mk (below_step (Qaw) hb); clear HO374; clear HB; have HO374 := n0_; have HO379 := n1_; have HB := n2_; clear n0_ n1_ n2_; (try clear hb); (try clear hb2); (try clear hk); (try clear hi); (try clear ho0); obtain ⟨Ao91, co91, eo91⟩ := Kd.R_slice HO379.out; subst eo91) | ((with_reducible refine gate_callee (f := 36) rfl ?_); refine goesL_ (some 20) rfl rfl Tryd.func36 (by kernel_rfl) rfl #[.slice Ao91 t377.length co91] rfl (Qls) ?_; (with_reducible refine (width_Order.calls (hGL := (Qlg)) k _ _ t377 t380 t381 _ ?side1 ?side2 A6.out).mono ?_); (case side1 => exact Qsc (Kd.R_reads' HO379.out).2.2); (case side2 => exact (Kd.R_reads' HO379.out).2.1); rintro e w92 ⟨v382, rfl, ho0, hb⟩; refine ⟨_, rfl, ?_⟩; have n0_ := Aside0.mk (Kd.R_elder' (Qro HO374.out) (Kd.R_base ho0) hb); have n1_ := Aside0.mk (Kd.R_elder' (Qro HO379.out) (Kd.R_base ho0) hb); have n2_ := Aside0.mk (Kd.R_lower (Kd.R_new' (Kd.R_new' ho0 (Kd.R_lt (Qro HO374.out))) (Kd.R_lt (Qro HO379.out))) (below_size (Qaw))); have n3_ := Aside0.mk (below_step (Qaw) hb); clear HO374; clear HO379; clear HB; have HO374 := n0_; have HO379 := n1_; have HO383 := n2_; have HB := n3_; clear n0_ n1_ n2_ n3_; (try clear hb); (try clear hb2); (try clear hk); (try clear hi); (try clear ho0)) | ((with_reducible refine gate_callee (f := 19) rfl ?_); refine goesL_ (some 25) rfl rfl Tryd.func19 (by kernel_rfl) rfl #[.slice A0 l0.length c0] rfl (Qls) ?_; (with_reducible refine (lampblacklaw02_Few.calls _ _ l0 t384 _ ?side1 ?side2 A7.out).mono ?_); (case side1 => exact Qsc (Kd.C_below HR0.out HB.out)); (case side2 => exact HC0.out); rintro e w93 ⟨v385, rfl, ho0, hb⟩; refine ⟨_, rfl, ?_⟩; have n0_ := Aside0.mk (Kd.R_elder' (Qro HO374.out) (Kd.R_base ho0) hb); have n1_ := Aside0.mk (Kd.R_elder' (Qro HO379.out) (Kd.R_base ho0) hb); have n2_ := Aside0.mk (Kd.R_elder' (Qro HO383.out) (Kd.R_base ho0) hb); have n3_ := Aside0.mk (Kd.R_lower (Kd.R_new' (Kd.R_new' (Kd.R_new' ho0 (Kd.R_lt (Qro HO374.out))) (Kd.R_lt (Qro HO379.out))) (Kd.R_lt (Qro HO383.out))) (below_size (Qaw))); have n4_ := Aside0.mk (below_step (Qaw) hb); clear HO374; clear HO379; clear HO383; clear HB; have HO374 := n0_; have HO379 := n1_; have HO383 := n2_; have HO386 := n3_; have HB := n4_; clear n0_ n1_ n2_ n3_ n4_; (try clear hb); (try clear hb2); (try clear hk); (try clear hi); (try clear ho0)) | ((with_reducible refine gate_callee (f := 31) rfl ?_); refine goesL_ (some 27) rfl rfl Tryd.func31 (by kernel_rfl) rfl #[.slice A1 l1.length c1] rfl (Qls) ?_; (with_reducible refine (lampblacklaw02_list.calls _ _ l1 t387 _ ?side1 ?side2 A8.out).mono ?_); (case side1 => exact Qsc (Kd.C_below HR1.out HB.out)); (case side2 => exact HC1.out); rintro e w94 ⟨v388, rfl, ho0, hb⟩; refine ⟨_, rfl, ?_⟩; have n0_ := Aside0.mk (Kd.R_elder' (Qro HO374.out) (Kd.R_base ho0) hb); have n1_ := Aside0.mk (Kd.R_elder' (Qro HO379.out) (Kd.R_base ho0) hb); have n2_ := Aside0.mk (Kd.R_elder' (Qro HO383.out) (Kd.R_base ho0) hb); have n3_ := Aside0.mk (Kd.R_elder' (Qro HO386.out) (Kd.R_base ho0) hb); have n4_ := Aside0.mk (Kd.R_lower (Kd.R_new' (Kd.R_new' (Kd.R_new' (Kd.R_new' ho0 (Kd.R_lt (Qro HO374.out))) (Kd.R_lt (Qro HO379.out))) (Kd.R_lt (Qro HO383.out))) (Kd.R_lt (Qro HO386.out))) (below_size (Qaw))); have n5_ := Aside0.mk (below_step (Qaw) hb); clear HO374; clear HO379; clear HO383; clear HO386; clear HB; have HO374 := n0_; have HO379 := n1_; have HO383 := n2_; have HO386 := n3_; have HO389 := n4_; have HB := n5_; clear n0_ n1_ n2_ n3_ n4_ n5_; (try clear hb); (try clear hb2); (try clear hk); (try clear hi); (try clear ho0); obtain ⟨Ao95, co95, eo95⟩ := Kd.R_slice HO386.out; subst eo95; obtain ⟨Ao96, co96, eo96⟩ := Kd.R_slice HO389.out; subst eo96) | ((with_reducible refine gate_callee (f := 37) rfl ?_); refine goesL_ (some 28) rfl rfl Tryd.func37 (by kernel_rfl) rfl #[.slice Ao95 t384.length co95, .slice Ao96 t387.length co96] rfl (Qls) ?_; (with_reducible refine (width_Along.calls (hGL := (Qlg)) k _ _ t384 _ _ t387 t390 t391 _ ?side1 ?side2 ?side3 ?side4 A9.out).mono ?_); (case side1 => exact Qsc (Kd.R_reads' HO386.out).2.2); (case side2 => exact (Kd.R_reads' HO386.out).2.1); (case side3 => exact Qsc (Kd.R_reads' HO389.out).2.2); (case side4 => exact (Kd.R_reads' HO389.out).2.1); rintro e w97 ⟨rfl, hb⟩; refine ⟨_, rfl, ?_⟩; have n0_ := Aside0.mk (Kd.R_below (Qro HO374.out) hb); have n1_ := Aside0.mk (Kd.R_below (Qro HO379.out) hb); have n2_ := Aside0.mk (Kd.R_below (Qro HO383.out) hb); have n3_ := Aside0.mk (Kd.R_below (Qro HO386.out) hb); have n4_ := Aside0.mk (Kd.R_below (Qro HO389.out) hb); have n5_ := Aside0.mk (below_step (Qaw) hb); clear HO374; clear HO379; clear HO383; clear HO386; clear HO389; clear HB; have HO374 := n0_; have HO379 := n1_; have HO383 := n2_; have HO386 := n3_; have HO389 := n4_; have HB := n5_; clear n0_ n1_ n2_ n3_ n4_ n5_; (try clear hb); (try clear hb2); (try clear hk); (try clear hi)) | ((with_reducible refine gate_callee (f := 23) rfl ?_); refine goesL_ (some 32) rfl rfl Tryd.func23 (by kernel_rfl) rfl #[.slice A0 l0.length c0] rfl (Qls) ?_; (with_reducible refine (lampblackref02_Valid.calls k _ _ l0 false _ ?side1 ?side2 A10.out).mono ?_); (case side1 => exact Qsc (Kd.C_below HR0.out HB.out)); (case side2 => exact HC0.out); rintro e w' ⟨rfl, ⟨nd, rfl⟩⟩; refine ⟨_, rfl, ?_⟩; obtain ⟨Ao98, co98, eo98⟩ := Kd.R_slice HO383.out; subst eo98))
       go_ret
       exact ⟨by first | rfl | (simp [errW_none, errW_some] <;> rfl) | (simp [*, errW_none, errW_some] <;> rfl), by repeat (first | (with_reducible first | exact HB.out | apply below_alloc | apply pw_below_drewN | apply below_drew1) | exact HB.out)⟩
     ·rw [if_neg c58] at H
      have c58b0 : (t376 == 2) = false := beq_eq_false_iff_ne.mpr c58
      have c58b1 : (t376 != 2) = true := bne_iff_ne.mpr c58
      obtain rfl := Option.some.inj H
      go_enter Tryd.func8, Tryd.ntmps8
      go_wp2_with (first | ((with_reducible refine gate_callee (f := 19) rfl ?_); refine goesL_ (some 13) rfl rfl Tryd.func19 (by kernel_rfl) rfl #[.slice A0 l0.length c0] rfl (Qls) ?_; (with_reducible refine (lampblacklaw02_Few.calls _ _ l0 t372 _ ?side1 ?side2 A3.out).mono ?_); (case side1 => exact Qsc HR0.out); (case side2 => exact HC0.out); rintro e w99 ⟨v373, rfl, ho0, hb⟩; refine ⟨_, rfl, ?_⟩; have n0_ := Aside0.mk (Kd.R_lower ho0 (below_size (Qaw))); have n1_ := Aside0.mk (below_step (Qaw) hb); clear HB; have HO374 := n0_; have HB := n1_; clear n0_ n1_; (try clear hb); (try clear hb2); (try clear hk); (try clear hi); (try clear ho0); obtain ⟨Ao100, co100, eo100⟩ := Kd.R_slice HO374.out; subst eo100) | ((with_reducible refine gate_callee (f := 18) rfl ?_); refine goesL_ (some 14) rfl rfl Tryd.func18 (by kernel_rfl) rfl #[.slice Ao100 t372.length co100] rfl (Qls) ?_; (with_reducible refine (width_Width.calls (hGL := (Qlg)) k _ _ t372 t375 t376 _ ?side1 ?side2 A4.out).mono ?_); (case side1 => exact Qsc (Kd.R_reads' HO374.out).2.2); (case side2 => exact (Kd.R_reads' HO374.out).2.1); rintro e w101 ⟨rfl, hb⟩; refine ⟨_, rfl, ?_⟩; have n0_ := Aside0.mk (Kd.R_below (Qro HO374.out) hb); have n1_ := Aside0.mk (below_step (Qaw) hb); clear HO374; clear HB; have HO374 := n0_; have HB := n1_; clear n0_ n1_; (try clear hb); (try clear hb2); (try clear hk); (try clear hi)) | ((with_reducible refine gate_callee (f := 19) rfl ?_); refine goesL_ (some 19) rfl rfl Tryd.func19 (by kernel_rfl) rfl #[.slice A0 l0.length c0] rfl (Qls) ?_; (with_reducible refine (lampblacklaw02_Few.calls _ _ l0 t377 _ ?side1 ?side2 A5.out).mono ?_); (case side1 => exact Qsc (Kd.C_below HR0.out HB.out)); (case side2 => exact HC0.out); rintro e w102 ⟨v378, rfl, ho0, hb⟩; refine ⟨_, rfl, ?_⟩; have n0_ := Aside0.mk (Kd.R_elder' (Qro HO374.out) (Kd.R_base ho0) hb); have n1_ := Aside0.mk (Kd.R_lower (Kd.R_new' ho0 (Kd.R_lt (Qro HO374.out))) (below_size (Qaw))); have n2_ := Aside0.mk (below_step (Qaw) hb); clear HO374; clear HB; have HO374 := n0_; have HO379 := n1_; have HB := n2_; clear n0_ n1_ n2_; (try clear hb); (try clear hb2); (try clear hk); (try clear hi); (try clear ho0); obtain ⟨Ao103, co103, eo103⟩ := Kd.R_slice HO379.out; subst eo103) | ((with_reducible refine gate_callee (f := 36) rfl ?_); refine goesL_ (some 20) rfl rfl Tryd.func36 (by kernel_rfl) rfl #[.slice Ao103 t377.length co103] rfl (Qls) ?_; (with_reducible refine (width_Order.calls (hGL := (Qlg)) k _ _ t377 t380 t381 _ ?side1 ?side2 A6.out).mono ?_); (case side1 => exact Qsc (Kd.R_reads' HO379.out).2.2); (case side2 => exact (Kd.R_reads' HO379.out).2.1); rintro e w104 ⟨v382, rfl, ho0, hb⟩; refine ⟨_, rfl, ?_⟩; have n0_ := Aside0.mk (Kd.R_elder' (Qro HO374.out) (Kd.R_base ho0) hb); have n1_ := Aside0.mk (Kd.R_elder' (Qro HO379.out) (Kd.R_base ho0) hb); have n2_ := Aside0.mk (Kd.R_lower (Kd.R_new' (Kd.R_new' ho0 (Kd.R_lt (Qro HO374.out))) (Kd.R_lt (Qro HO379.out))) (below_size (Qaw))); have n3_ := Aside0.mk (below_step (Qaw) hb); clear HO374; clear HO379; clear HB; have HO374 := n0_; have HO379 := n1_; have HO383 := n2_; have HB := n3_; clear n0_ n1_ n2_ n3_; (try clear hb); (try clear hb2); (try clear hk); (try clear hi); (try clear ho0)) | ((with_reducible refine gate_callee (f := 19) rfl ?_); refine goesL_ (some 25) rfl rfl Tryd.func19 (by kernel_rfl) rfl #[.slice A0 l0.length c0] rfl (Qls) ?_; (with_reducible refine (lampblacklaw02_Few.calls _ _ l0 t384 _ ?side1 ?side2 A7.out).mono ?_); (case side1 => exact Qsc (Kd.C_below HR0.out HB.out)); (case side2 => exact HC0.out); rintro e w105 ⟨v385, rfl, ho0, hb⟩; refine ⟨_, rfl, ?_⟩; have n0_ := Aside0.mk (Kd.R_elder' (Qro HO374.out) (Kd.R_base ho0) hb); have n1_ := Aside0.mk (Kd.R_elder' (Qro HO379.out) (Kd.R_base ho0) hb); have n2_ := Aside0.mk (Kd.R_elder' (Qro HO383.out) (Kd.R_base ho0) hb); have n3_ := Aside0.mk (Kd.R_lower (Kd.R_new' (Kd.R_new' (Kd.R_new' ho0 (Kd.R_lt (Qro HO374.out))) (Kd.R_lt (Qro HO379.out))) (Kd.R_lt (Qro HO383.out))) (below_size (Qaw))); have n4_ := Aside0.mk (below_step (Qaw) hb); clear HO374; clear HO379; clear HO383; clear HB; have HO374 := n0_; have HO379 := n1_; have HO383 := n2_; have HO386 := n3_; have HB := n4_; clear n0_ n1_ n2_ n3_ n4_; (try clear hb); (try clear hb2); (try clear hk); (try clear hi); (try clear ho0)) | ((with_reducible refine gate_callee (f := 31) rfl ?_); refine goesL_ (some 27) rfl rfl Tryd.func31 (by kernel_rfl) rfl #[.slice A1 l1.length c1] rfl (Qls) ?_; (with_reducible refine (lampblacklaw02_list.calls _ _ l1 t387 _ ?side1 ?side2 A8.out).mono ?_); (case side1 => exact Qsc (Kd.C_below HR1.out HB.out)); (case side2 => exact HC1.out); rintro e w106 ⟨v388, rfl, ho0, hb⟩; refine ⟨_, rfl, ?_⟩; have n0_ := Aside0.mk (Kd.R_elder' (Qro HO374.out) (Kd.R_base ho0) hb); have n1_ := Aside0.mk (Kd.R_elder' (Qro HO379.out) (Kd.R_base ho0) hb); have n2_ := Aside0.mk (Kd.R_elder' (Qro HO383.out) (Kd.R_base ho0) hb); have n3_ := Aside0.mk (Kd.R_elder' (Qro HO386.out) (Kd.R_base ho0) hb); have n4_ := Aside0.mk (Kd.R_lower (Kd.R_new' (Kd.R_new' (Kd.R_new' (Kd.R_new' ho0 (Kd.R_lt (Qro HO374.out))) (Kd.R_lt (Qro HO379.out))) (Kd.R_lt (Qro HO383.out))) (Kd.R_lt (Qro HO386.out))) (below_size (Qaw))); have n5_ := Aside0.mk (below_step (Qaw) hb); clear HO374; clear HO379; clear HO383; clear HO386; clear HB; have HO374 := n0_; have HO379 := n1_; have HO383 := n2_; have HO386 := n3_; have HO389 := n4_; have HB := n5_; clear n0_ n1_ n2_ n3_ n4_ n5_; (try clear hb); (try clear hb2); (try clear hk); (try clear hi); (try clear ho0); obtain ⟨Ao107, co107, eo107⟩ := Kd.R_slice HO386.out; subst eo107; obtain ⟨Ao108, co108, eo108⟩ := Kd.R_slice HO389.out; subst eo108) | ((with_reducible refine gate_callee (f := 37) rfl ?_); refine goesL_ (some 28) rfl rfl Tryd.func37 (by kernel_rfl) rfl #[.slice Ao107 t384.length co107, .slice Ao108 t387.length co108] rfl (Qls) ?_; (with_reducible refine (width_Along.calls (hGL := (Qlg)) k _ _ t384 _ _ t387 t390 t391 _ ?side1 ?side2 ?side3 ?side4 A9.out).mono ?_); (case side1 => exact Qsc (Kd.R_reads' HO386.out).2.2); (case side2 => exact (Kd.R_reads' HO386.out).2.1); (case side3 => exact Qsc (Kd.R_reads' HO389.out).2.2); (case side4 => exact (Kd.R_reads' HO389.out).2.1); rintro e w109 ⟨rfl, hb⟩; refine ⟨_, rfl, ?_⟩; have n0_ := Aside0.mk (Kd.R_below (Qro HO374.out) hb); have n1_ := Aside0.mk (Kd.R_below (Qro HO379.out) hb); have n2_ := Aside0.mk (Kd.R_below (Qro HO383.out) hb); have n3_ := Aside0.mk (Kd.R_below (Qro HO386.out) hb); have n4_ := Aside0.mk (Kd.R_below (Qro HO389.out) hb); have n5_ := Aside0.mk (below_step (Qaw) hb); clear HO374; clear HO379; clear HO383; clear HO386; clear HO389; clear HB; have HO374 := n0_; have HO379 := n1_; have HO383 := n2_; have HO386 := n3_; have HO389 := n4_; have HB := n5_; clear n0_ n1_ n2_ n3_ n4_ n5_; (try clear hb); (try clear hb2); (try clear hk); (try clear hi)) | ((with_reducible refine gate_callee (f := 23) rfl ?_); refine goesL_ (some 32) rfl rfl Tryd.func23 (by kernel_rfl) rfl #[.slice A0 l0.length c0] rfl (Qls) ?_; (with_reducible refine (lampblackref02_Valid.calls k _ _ l0 false _ ?side1 ?side2 A10.out).mono ?_); (case side1 => exact Qsc (Kd.C_below HR0.out HB.out)); (case side2 => exact HC0.out); rintro e w' ⟨rfl, ⟨nd, rfl⟩⟩; refine ⟨_, rfl, ?_⟩; obtain ⟨Ao110, co110, eo110⟩ := Kd.R_slice HO383.out; subst eo110))
      go_ret
      exact ⟨by first | rfl | (simp [errW_none, errW_some] <;> rfl) | (simp [*, errW_none, errW_some] <;> rfl), by repeat (first | (with_reducible first | exact HB.out | apply below_alloc | apply pw_below_drewN | apply below_drew1) | exact HB.out)⟩
    ·rw [if_neg c57] at H
     have c57b0 : (t390 == 0) = false := beq_eq_false_iff_ne.mpr c57
     have c57b1 : (t390 != 0) = true := bne_iff_ne.mpr c57
     obtain rfl := Option.some.inj H
     go_enter Tryd.func8, Tryd.ntmps8
     go_wp2_with (first | ((with_reducible refine gate_callee (f := 19) rfl ?_); refine goesL_ (some 13) rfl rfl Tryd.func19 (by kernel_rfl) rfl #[.slice A0 l0.length c0] rfl (Qls) ?_; (with_reducible refine (lampblacklaw02_Few.calls _ _ l0 t372 _ ?side1 ?side2 A3.out).mono ?_); (case side1 => exact Qsc HR0.out); (case side2 => exact HC0.out); rintro e w111 ⟨v373, rfl, ho0, hb⟩; refine ⟨_, rfl, ?_⟩; have n0_ := Aside0.mk (Kd.R_lower ho0 (below_size (Qaw))); have n1_ := Aside0.mk (below_step (Qaw) hb); clear HB; have HO374 := n0_; have HB := n1_; clear n0_ n1_; (try clear hb); (try clear hb2); (try clear hk); (try clear hi); (try clear ho0); obtain ⟨Ao112, co112, eo112⟩ := Kd.R_slice HO374.out; subst eo112) | ((with_reducible refine gate_callee (f := 18) rfl ?_); refine goesL_ (some 14) rfl rfl Tryd.func18 (by kernel_rfl) rfl #[.slice Ao112 t372.length co112] rfl (Qls) ?_; (with_reducible refine (width_Width.calls (hGL := (Qlg)) k _ _ t372 t375 t376 _ ?side1 ?side2 A4.out).mono ?_); (case side1 => exact Qsc (Kd.R_reads' HO374.out).2.2); (case side2 => exact (Kd.R_reads' HO374.out).2.1); rintro e w113 ⟨rfl, hb⟩; refine ⟨_, rfl, ?_⟩; have n0_ := Aside0.mk (Kd.R_below (Qro HO374.out) hb); have n1_ := Aside0.mk (below_step (Qaw) hb); clear HO374; clear HB; have HO374 := n0_; have HB := n1_; clear n0_ n1_; (try clear hb); (try clear hb2); (try clear hk); (try clear hi)) | ((with_reducible refine gate_callee (f := 19) rfl ?_); refine goesL_ (some 19) rfl rfl Tryd.func19 (by kernel_rfl) rfl #[.slice A0 l0.length c0] rfl (Qls) ?_; (with_reducible refine (lampblacklaw02_Few.calls _ _ l0 t377 _ ?side1 ?side2 A5.out).mono ?_); (case side1 => exact Qsc (Kd.C_below HR0.out HB.out)); (case side2 => exact HC0.out); rintro e w114 ⟨v378, rfl, ho0, hb⟩; refine ⟨_, rfl, ?_⟩; have n0_ := Aside0.mk (Kd.R_elder' (Qro HO374.out) (Kd.R_base ho0) hb); have n1_ := Aside0.mk (Kd.R_lower (Kd.R_new' ho0 (Kd.R_lt (Qro HO374.out))) (below_size (Qaw))); have n2_ := Aside0.mk (below_step (Qaw) hb); clear HO374; clear HB; have HO374 := n0_; have HO379 := n1_; have HB := n2_; clear n0_ n1_ n2_; (try clear hb); (try clear hb2); (try clear hk); (try clear hi); (try clear ho0); obtain ⟨Ao115, co115, eo115⟩ := Kd.R_slice HO379.out; subst eo115) | ((with_reducible refine gate_callee (f := 36) rfl ?_); refine goesL_ (some 20) rfl rfl Tryd.func36 (by kernel_rfl) rfl #[.slice Ao115 t377.length co115] rfl (Qls) ?_; (with_reducible refine (width_Order.calls (hGL := (Qlg)) k _ _ t377 t380 t381 _ ?side1 ?side2 A6.out).mono ?_); (case side1 => exact Qsc (Kd.R_reads' HO379.out).2.2); (case side2 => exact (Kd.R_reads' HO379.out).2.1); rintro e w116 ⟨v382, rfl, ho0, hb⟩; refine ⟨_, rfl, ?_⟩; have n0_ := Aside0.mk (Kd.R_elder' (Qro HO374.out) (Kd.R_base ho0) hb); have n1_ := Aside0.mk (Kd.R_elder' (Qro HO379.out) (Kd.R_base ho0) hb); have n2_ := Aside0.mk (Kd.R_lower (Kd.R_new' (Kd.R_new' ho0 (Kd.R_lt (Qro HO374.out))) (Kd.R_lt (Qro HO379.out))) (below_size (Qaw))); have n3_ := Aside0.mk (below_step (Qaw) hb); clear HO374; clear HO379; clear HB; have HO374 := n0_; have HO379 := n1_; have HO383 := n2_; have HB := n3_; clear n0_ n1_ n2_ n3_; (try clear hb); (try clear hb2); (try clear hk); (try clear hi); (try clear ho0)) | ((with_reducible refine gate_callee (f := 19) rfl ?_); refine goesL_ (some 25) rfl rfl Tryd.func19 (by kernel_rfl) rfl #[.slice A0 l0.length c0] rfl (Qls) ?_; (with_reducible refine (lampblacklaw02_Few.calls _ _ l0 t384 _ ?side1 ?side2 A7.out).mono ?_); (case side1 => exact Qsc (Kd.C_below HR0.out HB.out)); (case side2 => exact HC0.out); rintro e w117 ⟨v385, rfl, ho0, hb⟩; refine ⟨_, rfl, ?_⟩; have n0_ := Aside0.mk (Kd.R_elder' (Qro HO374.out) (Kd.R_base ho0) hb); have n1_ := Aside0.mk (Kd.R_elder' (Qro HO379.out) (Kd.R_base ho0) hb); have n2_ := Aside0.mk (Kd.R_elder' (Qro HO383.out) (Kd.R_base ho0) hb); have n3_ := Aside0.mk (Kd.R_lower (Kd.R_new' (Kd.R_new' (Kd.R_new' ho0 (Kd.R_lt (Qro HO374.out))) (Kd.R_lt (Qro HO379.out))) (Kd.R_lt (Qro HO383.out))) (below_size (Qaw))); have n4_ := Aside0.mk (below_step (Qaw) hb); clear HO374; clear HO379; clear HO383; clear HB; have HO374 := n0_; have HO379 := n1_; have HO383 := n2_; have HO386 := n3_; have HB := n4_; clear n0_ n1_ n2_ n3_ n4_; (try clear hb); (try clear hb2); (try clear hk); (try clear hi); (try clear ho0)) | ((with_reducible refine gate_callee (f := 31) rfl ?_); refine goesL_ (some 27) rfl rfl Tryd.func31 (by kernel_rfl) rfl #[.slice A1 l1.length c1] rfl (Qls) ?_; (with_reducible refine (lampblacklaw02_list.calls _ _ l1 t387 _ ?side1 ?side2 A8.out).mono ?_); (case side1 => exact Qsc (Kd.C_below HR1.out HB.out)); (case side2 => exact HC1.out); rintro e w118 ⟨v388, rfl, ho0, hb⟩; refine ⟨_, rfl, ?_⟩; have n0_ := Aside0.mk (Kd.R_elder' (Qro HO374.out) (Kd.R_base ho0) hb); have n1_ := Aside0.mk (Kd.R_elder' (Qro HO379.out) (Kd.R_base ho0) hb); have n2_ := Aside0.mk (Kd.R_elder' (Qro HO383.out) (Kd.R_base ho0) hb); have n3_ := Aside0.mk (Kd.R_elder' (Qro HO386.out) (Kd.R_base ho0) hb); have n4_ := Aside0.mk (Kd.R_lower (Kd.R_new' (Kd.R_new' (Kd.R_new' (Kd.R_new' ho0 (Kd.R_lt (Qro HO374.out))) (Kd.R_lt (Qro HO379.out))) (Kd.R_lt (Qro HO383.out))) (Kd.R_lt (Qro HO386.out))) (below_size (Qaw))); have n5_ := Aside0.mk (below_step (Qaw) hb); clear HO374; clear HO379; clear HO383; clear HO386; clear HB; have HO374 := n0_; have HO379 := n1_; have HO383 := n2_; have HO386 := n3_; have HO389 := n4_; have HB := n5_; clear n0_ n1_ n2_ n3_ n4_ n5_; (try clear hb); (try clear hb2); (try clear hk); (try clear hi); (try clear ho0); obtain ⟨Ao119, co119, eo119⟩ := Kd.R_slice HO386.out; subst eo119; obtain ⟨Ao120, co120, eo120⟩ := Kd.R_slice HO389.out; subst eo120) | ((with_reducible refine gate_callee (f := 37) rfl ?_); refine goesL_ (some 28) rfl rfl Tryd.func37 (by kernel_rfl) rfl #[.slice Ao119 t384.length co119, .slice Ao120 t387.length co120] rfl (Qls) ?_; (with_reducible refine (width_Along.calls (hGL := (Qlg)) k _ _ t384 _ _ t387 t390 t391 _ ?side1 ?side2 ?side3 ?side4 A9.out).mono ?_); (case side1 => exact Qsc (Kd.R_reads' HO386.out).2.2); (case side2 => exact (Kd.R_reads' HO386.out).2.1); (case side3 => exact Qsc (Kd.R_reads' HO389.out).2.2); (case side4 => exact (Kd.R_reads' HO389.out).2.1); rintro e w121 ⟨rfl, hb⟩; refine ⟨_, rfl, ?_⟩; have n0_ := Aside0.mk (Kd.R_below (Qro HO374.out) hb); have n1_ := Aside0.mk (Kd.R_below (Qro HO379.out) hb); have n2_ := Aside0.mk (Kd.R_below (Qro HO383.out) hb); have n3_ := Aside0.mk (Kd.R_below (Qro HO386.out) hb); have n4_ := Aside0.mk (Kd.R_below (Qro HO389.out) hb); have n5_ := Aside0.mk (below_step (Qaw) hb); clear HO374; clear HO379; clear HO383; clear HO386; clear HO389; clear HB; have HO374 := n0_; have HO379 := n1_; have HO383 := n2_; have HO386 := n3_; have HO389 := n4_; have HB := n5_; clear n0_ n1_ n2_ n3_ n4_ n5_; (try clear hb); (try clear hb2); (try clear hk); (try clear hi)) | ((with_reducible refine gate_callee (f := 23) rfl ?_); refine goesL_ (some 32) rfl rfl Tryd.func23 (by kernel_rfl) rfl #[.slice A0 l0.length c0] rfl (Qls) ?_; (with_reducible refine (lampblackref02_Valid.calls k _ _ l0 false _ ?side1 ?side2 A10.out).mono ?_); (case side1 => exact Qsc (Kd.C_below HR0.out HB.out)); (case side2 => exact HC0.out); rintro e w' ⟨rfl, ⟨nd, rfl⟩⟩; refine ⟨_, rfl, ?_⟩; obtain ⟨Ao122, co122, eo122⟩ := Kd.R_slice HO383.out; subst eo122))
     go_ret
     exact ⟨by first | rfl | (simp [errW_none, errW_some] <;> rfl) | (simp [*, errW_none, errW_some] <;> rfl), by repeat (first | (with_reducible first | exact HB.out | apply below_alloc | apply pw_below_drewN | apply below_drew1) | exact HB.out)⟩
   ·rw [if_neg c56] at H
    have c56b0 : ((t380.length : Int) == 0) = false := beq_eq_false_iff_ne.mpr c56
    have c56b1 : ((t380.length : Int) != 0) = true := bne_iff_ne.mpr c56
    have c56b2 : ¬ (t380 = []) := fun h_ => c56 (by rw [h_]; rfl)
    obtain rfl := Option.some.inj H
    go_enter Tryd.func8, Tryd.ntmps8
    go_wp2_with (first | ((with_reducible refine gate_callee (f := 19) rfl ?_); refine goesL_ (some 13) rfl rfl Tryd.func19 (by kernel_rfl) rfl #[.slice A0 l0.length c0] rfl (Qls) ?_; (with_reducible refine (lampblacklaw02_Few.calls _ _ l0 t372 _ ?side1 ?side2 A3.out).mono ?_); (case side1 => exact Qsc HR0.out); (case side2 => exact HC0.out); rintro e w123 ⟨v373, rfl, ho0, hb⟩; refine ⟨_, rfl, ?_⟩; have n0_ := Aside0.mk (Kd.R_lower ho0 (below_size (Qaw))); have n1_ := Aside0.mk (below_step (Qaw) hb); clear HB; have HO374 := n0_; have HB := n1_; clear n0_ n1_; (try clear hb); (try clear hb2); (try clear hk); (try clear hi); (try clear ho0); obtain ⟨Ao124, co124, eo124⟩ := Kd.R_slice HO374.out; subst eo124) | ((with_reducible refine gate_callee (f := 18) rfl ?_); refine goesL_ (some 14) rfl rfl Tryd.func18 (by kernel_rfl) rfl #[.slice Ao124 t372.length co124] rfl (Qls) ?_; (with_reducible refine (width_Width.calls (hGL := (Qlg)) k _ _ t372 t375 t376 _ ?side1 ?side2 A4.out).mono ?_); (case side1 => exact Qsc (Kd.R_reads' HO374.out).2.2); (case side2 => exact (Kd.R_reads' HO374.out).2.1); rintro e w125 ⟨rfl, hb⟩; refine ⟨_, rfl, ?_⟩; have n0_ := Aside0.mk (Kd.R_below (Qro HO374.out) hb); have n1_ := Aside0.mk (below_step (Qaw) hb); clear HO374; clear HB; have HO374 := n0_; have HB := n1_; clear n0_ n1_; (try clear hb); (try clear hb2); (try clear hk); (try clear hi)) | ((with_reducible refine gate_callee (f := 19) rfl ?_); refine goesL_ (some 19) rfl rfl Tryd.func19 (by kernel_rfl) rfl #[.slice A0 l0.length c0] rfl (Qls) ?_; (with_reducible refine (lampblacklaw02_Few.calls _ _ l0 t377 _ ?side1 ?side2 A5.out).mono ?_); (case side1 => exact Qsc (Kd.C_below HR0.out HB.out)); (case side2 => exact HC0.out); rintro e w126 ⟨v378, rfl, ho0, hb⟩; refine ⟨_, rfl, ?_⟩; have n0_ := Aside0.mk (Kd.R_elder' (Qro HO374.out) (Kd.R_base ho0) hb); have n1_ := Aside0.mk (Kd.R_lower (Kd.R_new' ho0 (Kd.R_lt (Qro HO374.out))) (below_size (Qaw))); have n2_ := Aside0.mk (below_step (Qaw) hb); clear HO374; clear HB; have HO374 := n0_; have HO379 := n1_; have HB := n2_; clear n0_ n1_ n2_; (try clear hb); (try clear hb2); (try clear hk); (try clear hi); (try clear ho0); obtain ⟨Ao127, co127, eo127⟩ := Kd.R_slice HO379.out; subst eo127) | ((with_reducible refine gate_callee (f := 36) rfl ?_); refine goesL_ (some 20) rfl rfl Tryd.func36 (by kernel_rfl) rfl #[.slice Ao127 t377.length co127] rfl (Qls) ?_; (with_reducible refine (width_Order.calls (hGL := (Qlg)) k _ _ t377 t380 t381 _ ?side1 ?side2 A6.out).mono ?_); (case side1 => exact Qsc (Kd.R_reads' HO379.out).2.2); (case side2 => exact (Kd.R_reads' HO379.out).2.1); rintro e w128 ⟨v382, rfl, ho0, hb⟩; refine ⟨_, rfl, ?_⟩; have n0_ := Aside0.mk (Kd.R_elder' (Qro HO374.out) (Kd.R_base ho0) hb); have n1_ := Aside0.mk (Kd.R_elder' (Qro HO379.out) (Kd.R_base ho0) hb); have n2_ := Aside0.mk (Kd.R_lower (Kd.R_new' (Kd.R_new' ho0 (Kd.R_lt (Qro HO374.out))) (Kd.R_lt (Qro HO379.out))) (below_size (Qaw))); have n3_ := Aside0.mk (below_step (Qaw) hb); clear HO374; clear HO379; clear HB; have HO374 := n0_; have HO379 := n1_; have HO383 := n2_; have HB := n3_; clear n0_ n1_ n2_ n3_; (try clear hb); (try clear hb2); (try clear hk); (try clear hi); (try clear ho0)) | ((with_reducible refine gate_callee (f := 19) rfl ?_); refine goesL_ (some 25) rfl rfl Tryd.func19 (by kernel_rfl) rfl #[.slice A0 l0.length c0] rfl (Qls) ?_; (with_reducible refine (lampblacklaw02_Few.calls _ _ l0 t384 _ ?side1 ?side2 A7.out).mono ?_); (case side1 => exact Qsc (Kd.C_below HR0.out HB.out)); (case side2 => exact HC0.out); rintro e w129 ⟨v385, rfl, ho0, hb⟩; refine ⟨_, rfl, ?_⟩; have n0_ := Aside0.mk (Kd.R_elder' (Qro HO374.out) (Kd.R_base ho0) hb); have n1_ := Aside0.mk (Kd.R_elder' (Qro HO379.out) (Kd.R_base ho0) hb); have n2_ := Aside0.mk (Kd.R_elder' (Qro HO383.out) (Kd.R_base ho0) hb); have n3_ := Aside0.mk (Kd.R_lower (Kd.R_new' (Kd.R_new' (Kd.R_new' ho0 (Kd.R_lt (Qro HO374.out))) (Kd.R_lt (Qro HO379.out))) (Kd.R_lt (Qro HO383.out))) (below_size (Qaw))); have n4_ := Aside0.mk (below_step (Qaw) hb); clear HO374; clear HO379; clear HO383; clear HB; have HO374 := n0_; have HO379 := n1_; have HO383 := n2_; have HO386 := n3_; have HB := n4_; clear n0_ n1_ n2_ n3_ n4_; (try clear hb); (try clear hb2); (try clear hk); (try clear hi); (try clear ho0)) | ((with_reducible refine gate_callee (f := 31) rfl ?_); refine goesL_ (some 27) rfl rfl Tryd.func31 (by kernel_rfl) rfl #[.slice A1 l1.length c1] rfl (Qls) ?_; (with_reducible refine (lampblacklaw02_list.calls _ _ l1 t387 _ ?side1 ?side2 A8.out).mono ?_); (case side1 => exact Qsc (Kd.C_below HR1.out HB.out)); (case side2 => exact HC1.out); rintro e w130 ⟨v388, rfl, ho0, hb⟩; refine ⟨_, rfl, ?_⟩; have n0_ := Aside0.mk (Kd.R_elder' (Qro HO374.out) (Kd.R_base ho0) hb); have n1_ := Aside0.mk (Kd.R_elder' (Qro HO379.out) (Kd.R_base ho0) hb); have n2_ := Aside0.mk (Kd.R_elder' (Qro HO383.out) (Kd.R_base ho0) hb); have n3_ := Aside0.mk (Kd.R_elder' (Qro HO386.out) (Kd.R_base ho0) hb); have n4_ := Aside0.mk (Kd.R_lower (Kd.R_new' (Kd.R_new' (Kd.R_new' (Kd.R_new' ho0 (Kd.R_lt (Qro HO374.out))) (Kd.R_lt (Qro HO379.out))) (Kd.R_lt (Qro HO383.out))) (Kd.R_lt (Qro HO386.out))) (below_size (Qaw))); have n5_ := Aside0.mk (below_step (Qaw) hb); clear HO374; clear HO379; clear HO383; clear HO386; clear HB; have HO374 := n0_; have HO379 := n1_; have HO383 := n2_; have HO386 := n3_; have HO389 := n4_; have HB := n5_; clear n0_ n1_ n2_ n3_ n4_ n5_; (try clear hb); (try clear hb2); (try clear hk); (try clear hi); (try clear ho0); obtain ⟨Ao131, co131, eo131⟩ := Kd.R_slice HO386.out; subst eo131; obtain ⟨Ao132, co132, eo132⟩ := Kd.R_slice HO389.out; subst eo132) | ((with_reducible refine gate_callee (f := 37) rfl ?_); refine goesL_ (some 28) rfl rfl Tryd.func37 (by kernel_rfl) rfl #[.slice Ao131 t384.length co131, .slice Ao132 t387.length co132] rfl (Qls) ?_; (with_reducible refine (width_Along.calls (hGL := (Qlg)) k _ _ t384 _ _ t387 t390 t391 _ ?side1 ?side2 ?side3 ?side4 A9.out).mono ?_); (case side1 => exact Qsc (Kd.R_reads' HO386.out).2.2); (case side2 => exact (Kd.R_reads' HO386.out).2.1); (case side3 => exact Qsc (Kd.R_reads' HO389.out).2.2); (case side4 => exact (Kd.R_reads' HO389.out).2.1); rintro e w133 ⟨rfl, hb⟩; refine ⟨_, rfl, ?_⟩; have n0_ := Aside0.mk (Kd.R_below (Qro HO374.out) hb); have n1_ := Aside0.mk (Kd.R_below (Qro HO379.out) hb); have n2_ := Aside0.mk (Kd.R_below (Qro HO383.out) hb); have n3_ := Aside0.mk (Kd.R_below (Qro HO386.out) hb); have n4_ := Aside0.mk (Kd.R_below (Qro HO389.out) hb); have n5_ := Aside0.mk (below_step (Qaw) hb); clear HO374; clear HO379; clear HO383; clear HO386; clear HO389; clear HB; have HO374 := n0_; have HO379 := n1_; have HO383 := n2_; have HO386 := n3_; have HO389 := n4_; have HB := n5_; clear n0_ n1_ n2_ n3_ n4_ n5_; (try clear hb); (try clear hb2); (try clear hk); (try clear hi)) | ((with_reducible refine gate_callee (f := 23) rfl ?_); refine goesL_ (some 32) rfl rfl Tryd.func23 (by kernel_rfl) rfl #[.slice A0 l0.length c0] rfl (Qls) ?_; (with_reducible refine (lampblackref02_Valid.calls k _ _ l0 false _ ?side1 ?side2 A10.out).mono ?_); (case side1 => exact Qsc (Kd.C_below HR0.out HB.out)); (case side2 => exact HC0.out); rintro e w' ⟨rfl, ⟨nd, rfl⟩⟩; refine ⟨_, rfl, ?_⟩; obtain ⟨Ao134, co134, eo134⟩ := Kd.R_slice HO383.out; subst eo134))
    go_ret
    exact ⟨by first | rfl | (simp [errW_none, errW_some] <;> rfl) | (simp [*, errW_none, errW_some] <;> rfl), by repeat (first | (with_reducible first | exact HB.out | apply below_alloc | apply pw_below_drewN | apply below_drew1) | exact HB.out)⟩
  ·rw [if_neg c55] at H
   have c55b0 : (t375 == 0) = false := beq_eq_false_iff_ne.mpr c55
   have c55b1 : (t375 != 0) = true := bne_iff_ne.mpr c55
   obtain rfl := Option.some.inj H
   go_enter Tryd.func8, Tryd.ntmps8
   go_wp2_with (first | ((with_reducible refine gate_callee (f := 19) rfl ?_); refine goesL_ (some 13) rfl rfl Tryd.func19 (by kernel_rfl) rfl #[.slice A0 l0.length c0] rfl (Qls) ?_; (with_reducible refine (lampblacklaw02_Few.calls _ _ l0 t372 _ ?side1 ?side2 A3.out).mono ?_); (case side1 => exact Qsc HR0.out); (case side2 => exact HC0.out); rintro e w135 ⟨v373, rfl, ho0, hb⟩; refine ⟨_, rfl, ?_⟩; have n0_ := Aside0.mk (Kd.R_lower ho0 (below_size (Qaw))); have n1_ := Aside0.mk (below_step (Qaw) hb); clear HB; have HO374 := n0_; have HB := n1_; clear n0_ n1_; (try clear hb); (try clear hb2); (try clear hk); (try clear hi); (try clear ho0); obtain ⟨Ao136, co136, eo136⟩ := Kd.R_slice HO374.out; subst eo136) | ((with_reducible refine gate_callee (f := 18) rfl ?_); refine goesL_ (some 14) rfl rfl Tryd.func18 (by kernel_rfl) rfl #[.slice Ao136 t372.length co136] rfl (Qls) ?_; (with_reducible refine (width_Width.calls (hGL := (Qlg)) k _ _ t372 t375 t376 _ ?side1 ?side2 A4.out).mono ?_); (case side1 => exact Qsc (Kd.R_reads' HO374.out).2.2); (case side2 => exact (Kd.R_reads' HO374.out).2.1); rintro e w137 ⟨rfl, hb⟩; refine ⟨_, rfl, ?_⟩; have n0_ := Aside0.mk (Kd.R_below (Qro HO374.out) hb); have n1_ := Aside0.mk (below_step (Qaw) hb); clear HO374; clear HB; have HO374 := n0_; have HB := n1_; clear n0_ n1_; (try clear hb); (try clear hb2); (try clear hk); (try clear hi)) | ((with_reducible refine gate_callee (f := 19) rfl ?_); refine goesL_ (some 19) rfl rfl Tryd.func19 (by kernel_rfl) rfl #[.slice A0 l0.length c0] rfl (Qls) ?_; (with_reducible refine (lampblacklaw02_Few.calls _ _ l0 t377 _ ?side1 ?side2 A5.out).mono ?_); (case side1 => exact Qsc (Kd.C_below HR0.out HB.out)); (case side2 => exact HC0.out); rintro e w138 ⟨v378, rfl, ho0, hb⟩; refine ⟨_, rfl, ?_⟩; have n0_ := Aside0.mk (Kd.R_elder' (Qro HO374.out) (Kd.R_base ho0) hb); have n1_ := Aside0.mk (Kd.R_lower (Kd.R_new' ho0 (Kd.R_lt (Qro HO374.out))) (below_size (Qaw))); have n2_ := Aside0.mk (below_step (Qaw) hb); clear HO374; clear HB; have HO374 := n0_; have HO379 := n1_; have HB := n2_; clear n0_ n1_ n2_; (try clear hb); (try clear hb2); (try clear hk); (try clear hi); (try clear ho0); obtain ⟨Ao139, co139, eo139⟩ := Kd.R_slice HO379.out; subst eo139) | ((with_reducible refine gate_callee (f := 36) rfl ?_); refine goesL_ (some 20) rfl rfl Tryd.func36 (by kernel_rfl) rfl #[.slice Ao139 t377.length co139] rfl (Qls) ?_; (with_reducible refine (width_Order.calls (hGL := (Qlg)) k _ _ t377 t380 t381 _ ?side1 ?side2 A6.out).mono ?_); (case side1 => exact Qsc (Kd.R_reads' HO379.out).2.2); (case side2 => exact (Kd.R_reads' HO379.out).2.1); rintro e w140 ⟨v382, rfl, ho0, hb⟩; refine ⟨_, rfl, ?_⟩; have n0_ := Aside0.mk (Kd.R_elder' (Qro HO374.out) (Kd.R_base ho0) hb); have n1_ := Aside0.mk (Kd.R_elder' (Qro HO379.out) (Kd.R_base ho0) hb); have n2_ := Aside0.mk (Kd.R_lower (Kd.R_new' (Kd.R_new' ho0 (Kd.R_lt (Qro HO374.out))) (Kd.R_lt (Qro HO379.out))) (below_size (Qaw))); have n3_ := Aside0.mk (below_step (Qaw) hb); clear HO374; clear HO379; clear HB; have HO374 := n0_; have HO379 := n1_; have HO383 := n2_; have HB := n3_; clear n0_ n1_ n2_ n3_; (try clear hb); (try clear hb2); (try clear hk); (try clear hi); (try clear ho0)) | ((with_reducible refine gate_callee (f := 19) rfl ?_); refine goesL_ (some 25) rfl rfl Tryd.func19 (by kernel_rfl) rfl #[.slice A0 l0.length c0] rfl (Qls) ?_; (with_reducible refine (lampblacklaw02_Few.calls _ _ l0 t384 _ ?side1 ?side2 A7.out).mono ?_); (case side1 => exact Qsc (Kd.C_below HR0.out HB.out)); (case side2 => exact HC0.out); rintro e w141 ⟨v385, rfl, ho0, hb⟩; refine ⟨_, rfl, ?_⟩; have n0_ := Aside0.mk (Kd.R_elder' (Qro HO374.out) (Kd.R_base ho0) hb); have n1_ := Aside0.mk (Kd.R_elder' (Qro HO379.out) (Kd.R_base ho0) hb); have n2_ := Aside0.mk (Kd.R_elder' (Qro HO383.out) (Kd.R_base ho0) hb); have n3_ := Aside0.mk (Kd.R_lower (Kd.R_new' (Kd.R_new' (Kd.R_new' ho0 (Kd.R_lt (Qro HO374.out))) (Kd.R_lt (Qro HO379.out))) (Kd.R_lt (Qro HO383.out))) (below_size (Qaw))); have n4_ := Aside0.mk (below_step (Qaw) hb); clear HO374; clear HO379; clear HO383; clear HB; have HO374 := n0_; have HO379 := n1_; have HO383 := n2_; have HO386 := n3_; have HB := n4_; clear n0_ n1_ n2_ n3_ n4_; (try clear hb); (try clear hb2); (try clear hk); (try clear hi); (try clear ho0)) | ((with_reducible refine gate_callee (f := 31) rfl ?_); refine goesL_ (some 27) rfl rfl Tryd.func31 (by kernel_rfl) rfl #[.slice A1 l1.length c1] rfl (Qls) ?_; (with_reducible refine (lampblacklaw02_list.calls _ _ l1 t387 _ ?side1 ?side2 A8.out).mono ?_); (case side1 => exact Qsc (Kd.C_below HR1.out HB.out)); (case side2 => exact HC1.out); rintro e w142 ⟨v388, rfl, ho0, hb⟩; refine ⟨_, rfl, ?_⟩; have n0_ := Aside0.mk (Kd.R_elder' (Qro HO374.out) (Kd.R_base ho0) hb); have n1_ := Aside0.mk (Kd.R_elder' (Qro HO379.out) (Kd.R_base ho0) hb); have n2_ := Aside0.mk (Kd.R_elder' (Qro HO383.out) (Kd.R_base ho0) hb); have n3_ := Aside0.mk (Kd.R_elder' (Qro HO386.out) (Kd.R_base ho0) hb); have n4_ := Aside0.mk (Kd.R_lower (Kd.R_new' (Kd.R_new' (Kd.R_new' (Kd.R_new' ho0 (Kd.R_lt (Qro HO374.out))) (Kd.R_lt (Qro HO379.out))) (Kd.R_lt (Qro HO383.out))) (Kd.R_lt (Qro HO386.out))) (below_size (Qaw))); have n5_ := Aside0.mk (below_step (Qaw) hb); clear HO374; clear HO379; clear HO383; clear HO386; clear HB; have HO374 := n0_; have HO379 := n1_; have HO383 := n2_; have HO386 := n3_; have HO389 := n4_; have HB := n5_; clear n0_ n1_ n2_ n3_ n4_ n5_; (try clear hb); (try clear hb2); (try clear hk); (try clear hi); (try clear ho0); obtain ⟨Ao143, co143, eo143⟩ := Kd.R_slice HO386.out; subst eo143; obtain ⟨Ao144, co144, eo144⟩ := Kd.R_slice HO389.out; subst eo144) | ((with_reducible refine gate_callee (f := 37) rfl ?_); refine goesL_ (some 28) rfl rfl Tryd.func37 (by kernel_rfl) rfl #[.slice Ao143 t384.length co143, .slice Ao144 t387.length co144] rfl (Qls) ?_; (with_reducible refine (width_Along.calls (hGL := (Qlg)) k _ _ t384 _ _ t387 t390 t391 _ ?side1 ?side2 ?side3 ?side4 A9.out).mono ?_); (case side1 => exact Qsc (Kd.R_reads' HO386.out).2.2); (case side2 => exact (Kd.R_reads' HO386.out).2.1); (case side3 => exact Qsc (Kd.R_reads' HO389.out).2.2); (case side4 => exact (Kd.R_reads' HO389.out).2.1); rintro e w145 ⟨rfl, hb⟩; refine ⟨_, rfl, ?_⟩; have n0_ := Aside0.mk (Kd.R_below (Qro HO374.out) hb); have n1_ := Aside0.mk (Kd.R_below (Qro HO379.out) hb); have n2_ := Aside0.mk (Kd.R_below (Qro HO383.out) hb); have n3_ := Aside0.mk (Kd.R_below (Qro HO386.out) hb); have n4_ := Aside0.mk (Kd.R_below (Qro HO389.out) hb); have n5_ := Aside0.mk (below_step (Qaw) hb); clear HO374; clear HO379; clear HO383; clear HO386; clear HO389; clear HB; have HO374 := n0_; have HO379 := n1_; have HO383 := n2_; have HO386 := n3_; have HO389 := n4_; have HB := n5_; clear n0_ n1_ n2_ n3_ n4_ n5_; (try clear hb); (try clear hb2); (try clear hk); (try clear hi)) | ((with_reducible refine gate_callee (f := 23) rfl ?_); refine goesL_ (some 32) rfl rfl Tryd.func23 (by kernel_rfl) rfl #[.slice A0 l0.length c0] rfl (Qls) ?_; (with_reducible refine (lampblackref02_Valid.calls k _ _ l0 false _ ?side1 ?side2 A10.out).mono ?_); (case side1 => exact Qsc (Kd.C_below HR0.out HB.out)); (case side2 => exact HC0.out); rintro e w' ⟨rfl, ⟨nd, rfl⟩⟩; refine ⟨_, rfl, ?_⟩))
   go_ret
   exact ⟨by first | rfl | (simp [errW_none, errW_some] <;> rfl) | (simp [*, errW_none, errW_some] <;> rfl), by repeat (first | (with_reducible first | exact HB.out | apply below_alloc | apply pw_below_drewN | apply below_drew1) | exact HB.out)⟩
end
end Go.Proofs.YtoffehihicabcaaDoor.X
end
section
/- The references' own words: IsGraph, Reached. -/
namespace Go.Proofs.YtoffehihicabcaaDoor.X
open Go.RowKit YtoffehihicabcaaDoorW.PrintWords YtoffehihicabcaaDoorW.PrintLast YtoffehihicabcaaDoorW.PrintMore YtoffehihicabcaaDoor.T
theorem isGraph_l1 (m : Nat) (g : List Int) (hn : g.length ≤ 13) (i : Nat) (hi : i < g.length) (r : Bool)
  (hrest : Ev (fun k => lampblackref01_IsGraph.l0 k g (m : Int) g (g.length : Int) ((i + 1 : Nat) : Int)) r) :
  ∀ d j, j + d = g.length → Ev (fun k => lampblackref01_IsGraph.l1 k g (m : Int) (i : Int) (rd g (i : Int)) g (g.length : Int) (i : Int) (g.length : Int) (j : Int))
   (allFrom (fun j => decide (ibit (rd g (i : Int)) j = ibit (rd g (j : Int)) i)) g.length d j && r) := by
 intro d
 induction d with
 | zero =>
  intro j hj
  refine Ev.step (fun k => ?_) hrest
  rw [lampblackref01_IsGraph.l1, if_neg (by omega), wrap_succ i (by omega)]
 | succ d ih =>
  intro j hj
  simp only [allFrom]
  by_cases hb : ibit (rd g (i : Int)) j = ibit (rd g (j : Int)) i
  ·refine Ev.step (f := fun k => lampblackref01_IsGraph.l1 k g (m : Int) (i : Int) (rd g (i : Int)) g (g.length : Int) (i : Int) (g.length : Int) ((j + 1 : Nat) : Int)) (fun k => ?_) ?_
   ·rw [lampblackref01_IsGraph.l1, if_pos (by omega), if_pos (by omega), if_pos (by omega), if_pos (by omega), wrap_succ j (by omega)]
    exact if_pos hb
   ·have := ih (j + 1) (by omega)
    simpa [hb] using this
  ·refine Ev.step (f := fun _ => some false) (fun k => ?_) (Ev.some (by simp [hb]))
   rw [lampblackref01_IsGraph.l1, if_pos (by omega), if_pos (by omega), if_pos (by omega), if_pos (by omega)]
   exact if_neg hb
theorem isGraph_l0 (m : Nat) (hm : m ≤ 13) (g : List Int) (h1 : 1 ≤ g.length) (hn : g.length ≤ m) :
  ∀ d i, i + d = g.length → Ev (fun k => lampblackref01_IsGraph.l0 k g (m : Int) g (g.length : Int) (i : Int)) (allFrom (rowOk g) g.length d i) := by
 intro d
 induction d with
 | zero =>
  intro i hi
  refine Ev.step (f := fun _ => some true) (fun k => ?_) (Ev.some (by simp [allFrom]))
  rw [lampblackref01_IsGraph.l0, if_neg (by omega), if_pos (by omega), decide_eq_true (by omega)]
 | succ d ih =>
  intro i hi
  have stop : ∀ k, lampblackref01_IsGraph.j1 (k + 1) g (m : Int) (i : Int) (rd g (i : Int)) g (g.length : Int) (i : Int) true = some false := fun k => by
   rw [lampblackref01_IsGraph.j1, if_pos rfl]
  simp only [allFrom, rowOk]
  by_cases h1' : rd g (i : Int) < 0
  ·refine Ev.step (fun k => ?_) (f := fun k => lampblackref01_IsGraph.j1 k g (m : Int) (i : Int) (rd g (i : Int)) g (g.length : Int) (i : Int) true) ?_
   ·rw [lampblackref01_IsGraph.l0, if_pos (by omega), if_pos (by omega), if_pos (by omega), if_neg (by omega), if_pos h1']
   ·exact Ev.step stop (Ev.some (by simp [h1']))
  ·by_cases h2 : rd g (i : Int) ≥ shl .i64 1 (g.length : Int)
   ·refine Ev.step (fun k => ?_) (f := fun k => lampblackref01_IsGraph.j1 k g (m : Int) (i : Int) (rd g (i : Int)) g (g.length : Int) (i : Int) true) ?_
    ·rw [lampblackref01_IsGraph.l0, if_pos (by omega), if_pos (by omega), if_pos (by omega), if_neg (by omega), if_neg h1', if_pos h2]
    ·exact Ev.step stop (Ev.some (by simp [h2]))
   ·refine Ev.step (fun k => ?_) (f := fun k => lampblackref01_IsGraph.j1 k g (m : Int) (i : Int) (rd g (i : Int)) g (g.length : Int) (i : Int) (ibit (rd g (i : Int)) i == 1)) ?_
    ·rw [lampblackref01_IsGraph.l0, if_pos (by omega), if_pos (by omega), if_pos (by omega), if_neg (by omega), if_neg h1', if_neg h2]
     rfl
    ·by_cases h3 : (ibit (rd g (i : Int)) i == 1) = true
     ·simp only [h3]
      exact Ev.step stop (Ev.some (by simp))
     ·refine Ev.step (fun k => by rw [lampblackref01_IsGraph.j1, if_neg h3]) ?_
      have := isGraph_l1 m g (by omega) i (by omega) _ (ih (i + 1) (by omega)) g.length 0 (by omega)
      have h3' : (ibit (rd g (i : Int)) i == 1) = false := by simpa using h3
      simp only [h1', h2, h3', decide_false, Bool.not_false, Bool.true_and]
      exact this
theorem isGraph_ev (m : Nat) (hm : m ≤ 13) (g : List Int) (hg : g.length < 2 ^ 60) : Ev (fun k => lampblackref01_IsGraph.f k g (m : Int)) (chk m g) := by
 unfold lampblackref01_IsGraph.f
 by_cases h1 : 1 ≤ g.length
 ·by_cases h2 : g.length ≤ m
  ·have := isGraph_l0 m hm g h1 h2 g.length 0 (by omega)
   simpa [chk, h1, h2] using this
  ·refine Ev.step (f := fun k => lampblackref01_IsGraph.j1 k g (m : Int) 0 (rd g 0) g (g.length : Int) 0 true) (fun k => ?_) (Ev.step (f := fun _ => some false) (fun k => ?_) (Ev.some (by simp [chk, h2])))
   ·rw [lampblackref01_IsGraph.l0, if_pos (by omega), if_pos (by omega), if_pos (by omega), if_pos (by omega)]
   ·rw [lampblackref01_IsGraph.j1, if_pos rfl]
 ·refine Ev.step (f := fun _ => some false) (fun k => ?_) (Ev.some (by simp [chk, h1]))
  rw [lampblackref01_IsGraph.l0, if_neg (by omega), if_neg (by omega)]
theorem reached_l1 (m : Nat) (G : List Nat) (hG : Gr m G) (hm : m ≤ 13) (w : Nat) (hw : w < 2 ^ G.length) (c : Nat) (x0 : Nat) (Q : Int → Prop)
  (cont : ∀ x' : Nat, x' < 2 ^ G.length → (∀ j, bset x0 j → bset x' j) → (∀ s, (∀ j, bset x0 j → Con (Adj G) (bset w) s j) → ∀ j, bset x' j → Con (Adj G) (bset w) s j) → (∀ i j, bset x0 i → Adj G i j → bset w j → bset x' j) →
   ∃ r, Ev (fun k => lampblackref01_Reached.l0 k (gi G) (w : Int) (x' : Int) (G.length : Int) ((c + 1 : Nat) : Int)) r ∧ Q r) (hc : c < 2 ^ 50) :
  ∀ d i (x : Nat), i + d = G.length → x < 2 ^ G.length → (∀ j, bset x0 j → bset x j) → (∀ s, (∀ j, bset x0 j → Con (Adj G) (bset w) s j) → ∀ j, bset x j → Con (Adj G) (bset w) s j) →
   (∀ i' j, i' < i → bset x0 i' → Adj G i' j → bset w j → bset x j) →
   ∃ r, Ev (fun k => lampblackref01_Reached.l1 k (gi G) (w : Int) (x : Int) (G.length : Int) (c : Int) (G.length : Int) (i : Int)) r ∧ Q r := by
 have p62 : ∀ y : Nat, y < 2 ^ G.length → y < 2 ^ 62 := fun y hy => Nat.lt_trans hy (Nat.pow_lt_pow_right (by omega) (by have := hG.most; omega))
 have hmost := hG.most
 intro d
 induction d with
 | zero =>
  intro i x hi hx h1 h2 h3
  obtain ⟨r, e1, e2⟩ := cont x hx h1 h2 (fun i' j hi' ha hj => h3 i' j (by have := hG.adj_lt' ha; omega) hi' ha hj)
  refine ⟨r, Ev.step (fun k => ?_) e1, e2⟩
  rw [lampblackref01_Reached.l1, if_neg (by omega), wrap_succ c (by omega)]
 | succ d ih =>
  intro i x hi hx h1 h2 h3
  by_cases hb : x.testBit i = true
  ·have hrow := hG.row i
   have hA : G.getD i 0 &&& w < 2 ^ G.length := Nat.lt_of_le_of_lt Nat.and_le_left hrow
   obtain ⟨r, e1, e2⟩ := ih (i + 1) (x ||| (G.getD i 0 &&& w)) (by omega) (or_lt hx hA) (fun j hj => (or_bset _ _ _).2 (.inl (h1 j hj)))
    (fun s hs j hj => by
     rcases (or_bset _ _ _).1 hj with h | h
     ·exact h2 s hs j h
     ·obtain ⟨ha, hb'⟩ := (and_bset _ _ _).1 h
      exact .step (h2 s hs i hb) ha hb')
    (fun i' j hi' hx0 ha hj => by
     by_cases e : i' = i
     ·subst e; exact (or_bset _ _ _).2 (.inr ((and_bset _ _ _).2 ⟨ha, hj⟩))
     ·exact (or_bset _ _ _).2 (.inl (h3 i' j (by omega) hx0 ha hj)))
   refine ⟨r, Ev.step (fun k => ?_) e1, e2⟩
   rw [lampblackref01_Reached.l1, if_pos (by omega), if_pos (by omega), if_pos ((bit_one x i (p62 x hx) (by omega)).2 hb), if_pos (by rw [gi_length]; omega), rd_gi,
    b_and _ _ (p62 _ hrow) (p62 _ hw), b_or _ _ (p62 _ hx) (p62 _ hA), wrap_succ i (by omega)]
  ·obtain ⟨r, e1, e2⟩ := ih (i + 1) x (by omega) hx h1 h2
    (fun i' j hi' hx0 ha hj => by
     by_cases e : i' = i
     ·subst e; exact (hb (h1 _ hx0)).elim
     ·exact h3 i' j (by omega) hx0 ha hj)
   refine ⟨r, Ev.step (fun k => ?_) e1, e2⟩
   rw [lampblackref01_Reached.l1, if_pos (by omega), if_pos (by omega), if_neg (fun h => hb ((bit_one x i (p62 x hx) (by omega)).1 h)), wrap_succ i (by omega)]
theorem reached_l0 (m : Nat) (G : List Nat) (hG : Gr m G) (hm : m ≤ 13) (w v : Nat) (hw : w < 2 ^ G.length) (hv : v < G.length) :
  ∀ d c (x : Nat), c + d = G.length → x < 2 ^ G.length → bset x v → (∀ j, bset x j → Con (Adj G) (bset w) (bset (2 ^ v)) j) →
   ((∀ i j, bset x i → Adj G i j → bset w j → bset x j) ∨ c + 1 ≤ pc x G.length) →
   ∃ r, Ev (fun k => lampblackref01_Reached.l0 k (gi G) (w : Int) (x : Int) (G.length : Int) (c : Int)) r ∧ r = ((conset G (2 ^ v) w : Nat) : Int) := by
 have hp : 2 ^ v < 2 ^ G.length := Nat.pow_lt_pow_right (by omega) hv
 have hmost := hG.most
 intro d
 induction d with
 | zero =>
  intro c x hc hx hv' h1 h2
  refine ⟨(x : Int), Ev.step (f := fun _ => some (x : Int)) (fun k => ?_) (Ev.some rfl), ?_⟩
  ·rw [lampblackref01_Reached.l0, if_neg (by omega)]
  ·have hcl : ∀ i j, bset x i → Adj G i j → bset w j → bset x j := by
    rcases h2 with h | h
    ·exact h
    ·have := pc_le x G.length; omega
   congr 1
   exact conset_eq hG hp hx (fun j hj => by rw [(two_pow_bit v j).1 hj]; exact hv') h1 hcl
 | succ d ih =>
  intro c x hc hx hv' h1 h2
  obtain ⟨r, e1, e2⟩ := reached_l1 m G hG hm w hw c x (fun r => r = ((conset G (2 ^ v) w : Nat) : Int))
   (fun x' hx' g1 g2 g3 => by
    refine ih (c + 1) x' (by omega) hx' (g1 v hv') (g2 _ h1) ?_
    by_cases hcl : ∀ i j, bset x i → Adj G i j → bset w j → bset x j
    ·-- closed: nothing came
     refine .inl fun i j hi ha hj => ?_
     have key : ∀ u, Con (Adj G) (bset w) (bset x) u → bset x u := fun u hu => by
      induction hu with
      | base h => exact h
      | step _ a b ih => exact hcl _ _ ih a b
     have this : ∀ j, bset x' j → bset x j := fun j hj => key j (g2 (bset x) (fun j hj => .base hj) j hj)
     exact g1 _ (hcl i j (this i hi) ha hj)
    ·right
     have hcount : c + 1 ≤ pc x G.length := h2.resolve_left hcl
     have : ∃ i j, bset x i ∧ Adj G i j ∧ bset w j ∧ ¬ bset x j := Classical.byContradiction fun hno => hcl fun i j a b c => Classical.byContradiction fun h => hno ⟨i, j, a, b, c, h⟩
     obtain ⟨i, j, a, b, c', h⟩ := this
     have hj : x.testBit j = false := by unfold bset at h; simpa using h
     have := pc_lt (x := x) (y := x') j G.length (fun q _ hq => g1 q hq) (hG.adj_lt b) hj (g3 i j a b c')
     omega) (by omega) G.length 0 x (by omega) hx (fun _ h => h) (fun s hs j hj => hs j hj) (fun i' j hi' => by omega)
  refine ⟨r, Ev.step (fun k => ?_) e1, e2⟩
  rw [lampblackref01_Reached.l0, if_pos (by omega), gi_length]
  rfl
theorem reached_ev (m : Nat) (G : List Nat) (hG : Gr m G) (hm : m ≤ 13) (w v : Nat) (hw : w < 2 ^ G.length) (hv : v < G.length) :
  Ev (fun k => lampblackref01_Reached.f k (gi G) (w : Int) (v : Int)) ((conset G (2 ^ v) w : Nat) : Int) := by
 have hp : 2 ^ v < 2 ^ G.length := Nat.pow_lt_pow_right (by omega) hv
 have hmost := hG.most
 have h1 : 1 ≤ pc (2 ^ v) G.length := by
  have := pc_lt (x := 0) (y := 2 ^ v) v G.length (fun j _ h => by simp at h) hv (by simp) ((two_pow_bit v v).2 rfl)
  omega
 obtain ⟨r, e1, e2⟩ := reached_l0 m G hG hm w v hw hv G.length 0 (2 ^ v) (by omega) hp ((two_pow_bit v v).2 rfl) (fun j hj => .base hj) (.inr h1)
 subst e2
 unfold lampblackref01_Reached.f
 refine Ev.if_pos (by omega) ?_
 rw [s_one v (by omega), gi_length]
 exact e1
end Go.Proofs.YtoffehihicabcaaDoor.X
end
section
namespace Go.Proofs.YtoffehihicabcaaDoor.X
open Go.RowKit YtoffehihicabcaaDoorW.PrintWords YtoffehihicabcaaDoorW.PrintLast YtoffehihicabcaaDoorW.PrintMore
attribute [local go_sem] max2_int min2_int max_two min_two max_three min_three max_four min_four
noncomputable section
/-! ### lampblackref02_Connected: function 24 -/
mutual
def lampblackref02_Connected.j0 : Nat → List Int → Int → Bool → Option (Bool)
 | 0, _, _, _ => none
 | k + 1, x0, x1, x14 => if x14 = true then (some false) else (lampblackref02_Connected.l0 k x0 x1 0)
def lampblackref02_Connected.l0 : Nat → List Int → Int → Int → Option (Bool)
 | 0, _, _, _ => none
 | k + 1, x0, x1, x5 => if 0 ≤ x5 then (if (Go.bits .and .i64 (shr .i64 x1 x5) 1) = 0 then (lampblackref02_Connected.l0 k x0 x1 (wrap64 (x5 + 1))) else ((lampblackref01_Reached.f k x0 x1 x5).bind fun t219 => (some (t219 == x1)))) else (none)
end
def lampblackref02_Connected.f (k : Nat) (l0 : List Int) (a1 : Int) : Option (Bool) := if a1 ≤ 0 then (lampblackref02_Connected.j0 k l0 a1 true) else (lampblackref02_Connected.j0 k l0 a1 (decide (a1 ≥ (shl .i64 1 (l0.length : Int)))))
end
end Go.Proofs.YtoffehihicabcaaDoor.X
end
section
namespace Go.Proofs.YtoffehihicabcaaDoor.X
open Go.RowKit YtoffehihicabcaaDoorW.PrintWords YtoffehihicabcaaDoorW.PrintLast YtoffehihicabcaaDoorW.PrintMore
attribute [local go_sem] max2_int min2_int max_two min_two max_three min_three max_four min_four
noncomputable section
/-! ### lampblackref02_Touch: function 25 -/
def lampblackref02_Touch.f (k : Nat) (l0 : List Int) (a1 : Int) (a2 : Int) : Option (Bool) := (lampblackref02_Around.f k l0 a1).bind fun t221 => (some ((Go.bits .and .i64 (Go.bits .or .i64 a1 t221) a2) != 0))
end
end Go.Proofs.YtoffehihicabcaaDoor.X
end
section
namespace Go.Proofs.YtoffehihicabcaaDoor.X
open Go.RowKit YtoffehihicabcaaDoorW.PrintWords YtoffehihicabcaaDoorW.PrintLast YtoffehihicabcaaDoorW.PrintMore
attribute [local go_sem] max2_int min2_int max_two min_two max_three min_three max_four min_four
noncomputable section
/-! ### width_Touch: function 22 -/
end
end Go.Proofs.YtoffehihicabcaaDoor.X
end
section
/- Connected sets, and whether two sets touch: the program's word and the reference's are one. -/
namespace Go.Proofs.YtoffehihicabcaaDoor.X
open Go.RowKit YtoffehihicabcaaDoorW.PrintWords YtoffehihicabcaaDoorW.PrintLast YtoffehihicabcaaDoorW.PrintMore YtoffehihicabcaaDoor.T
def low (a : Nat) : Nat := (els a 9).headD 0
theorem size_all : ∀ x : Fin 512, lampblackref02_Size.f 12 (x.val : Int) = some (pc x.val 9 : Int) := by decide +kernel
theorem size_ev (x : Nat) (hx : x < 512) : Ev (fun k => lampblackref02_Size.f k (x : Int)) ((pc x 9 : Nat) : Int) := Ev.of (lampblackref02_Size.mono _) (size_all ⟨x, hx⟩)
theorem refAround_l0 (G : List Nat) (hG : Gr 9 G) (s : Nat) (hs : s < 2 ^ G.length) : ∀ d i, i + d = G.length →
  Ev (fun k => lampblackref02_Around.l0 k (gi G) (s : Int) ((around G s i : Nat) : Int) (G.length : Int) (i : Int)) ((Around G s : Nat) : Int) := by
 have hn := hG.most
 have hbig := big (small G hn hs)
 have hlt : ∀ i, around G s i < 2 ^ G.length := fun i => lt_of_bits fun j hj => by
  obtain ⟨x, _, _, h⟩ := (around_bit G s i j).1 hj; exact hG.adj_lt h
 intro d
 induction d with
 | zero =>
  intro i hi
  obtain rfl : i = G.length := by omega
  exact Ev.step (f := fun _ => some ((around G s G.length : Nat) : Int)) (fun k => by rw [lampblackref02_Around.l0, if_neg (by omega)]) (Ev.some rfl)
 | succ d ih =>
  intro i hi
  refine Ev.step (fun k => ?_) (ih (i + 1) (by omega))
  by_cases hb : s.testBit i = true
  ·rw [lampblackref02_Around.l0, if_pos (by omega), if_pos (by omega), if_pos ((bit_one s i hbig (by omega)).2 hb), if_pos (by rw [gi_length]; omega), rd_gi,
    b_or _ _ (big (small G hn (hlt i))) (big (small G hn (hG.row i))), wrap_succ i (by omega)]
   simp only [around, hb, if_true]
  ·rw [lampblackref02_Around.l0, if_pos (by omega), if_pos (by omega), if_neg (fun h => hb ((bit_one s i hbig (by omega)).1 h)), wrap_succ i (by omega)]
   simp only [around, hb]
   simp
theorem refAround (G : List Nat) (hG : Gr 9 G) (s : Nat) (hs : s < 2 ^ G.length) : Ev (fun k => lampblackref02_Around.f k (gi G) (s : Int)) ((Around G s : Nat) : Int) := by
 have := refAround_l0 G hG s hs G.length 0 (by omega)
 unfold lampblackref02_Around.f
 rw [gi_length]
 exact this
theorem valid_ev (g : List Int) (hg : g.length < 2 ^ 60) : Ev (fun k => lampblackref02_Valid.f k g) (chk 9 g) := by
 unfold lampblackref02_Valid.f
 exact Ev.bind (isGraph_ev 9 (by omega) g hg) (Ev.some rfl)
theorem few_eq (g : List Int) (hg : g.length < 2 ^ 44) : ∃ h, lampblacklaw02_Few.f g = some h ∧ (chk 9 g = true → h = g) ∧ (chk 9 g = false → chk 9 h = false) ∧ h.length ≤ 13 := by
 have hm : mn (g.length : Int) 13 = ((min g.length 13 : Nat) : Int) := mn_nat g.length 13
 refine ⟨g.take (min g.length 13), ?_, ?_, ?_, ?_⟩
 ·unfold lampblacklaw02_Few.f slices_Clone_Graph.f
  simp only [hm, Int.toNat_natCast]
  rw [if_pos (by omega), if_pos (by omega)]
  simp only [Option.bind_some, List.length_nil, List.nil_append]
  rw [if_pos (by rw [List.length_take]; omega)]
  rfl
 ·intro h
  simp only [chk, Bool.and_eq_true, decide_eq_true_eq] at h
  exact List.take_of_length_le (by omega)
 ·intro h
  by_cases hl : g.length ≤ 13
  ·rw [List.take_of_length_le (by omega)]; exact h
  ·unfold chk
   have : ¬ (List.take (min g.length 13) g).length ≤ 9 := by rw [List.length_take]; omega
   rw [decide_eq_false this, Bool.and_false, Bool.false_and]
 ·rw [List.length_take]; omega
end Go.Proofs.YtoffehihicabcaaDoor.X
end
section
/- order, Along and the reference's Order, Along: what they compute. -/
namespace Go.Proofs.YtoffehihicabcaaDoor.X
open Go.RowKit YtoffehihicabcaaDoorW.PrintWords YtoffehihicabcaaDoorW.PrintLast YtoffehihicabcaaDoorW.PrintMore YtoffehihicabcaaDoor.T
theorem dg_le {G : List Nat} (hG : Gr 9 G) (gone v : Nat) : dg G gone v ≤ G.length := by
 unfold dg
 rw [pc_nine (nbset_lt hG _ _) hG.most]
 exact pc_le _ _
theorem canB_big {G : List Nat} (hG : Gr 9 G) {k : Nat} (hk : G.length ≤ k) : ∀ d gone, pc (lft G gone) 9 = d → gone < 2 ^ G.length → canB G k gone = true := by
 have hn := hG.most
 intro d
 induction d with
 | zero =>
  intro gone hd hg
  by_cases hne : gone = 2 ^ G.length - 1
  ·rw [hne]; exact canB_all k
  ·exact absurd hd (pc_pos (lft_small hn gone) (lft_ne hg hne))
 | succ d ih =>
  intro gone hd hg
  by_cases hne : gone = 2 ^ G.length - 1
  ·rw [hne]; exact canB_all k
  ·obtain ⟨v, hv⟩ := some_bit (lft_ne hg hne)
   have := pc_lft hn hv
   exact (canB_true hn hg hne).2 ⟨v, hv, Nat.le_trans (dg_le hG gone v) hk, ih _ (by omega) (or_in hg hv)⟩
theorem turn_ev {G : List Nat} (hG : Gr 9 G) {gone v : Nat} (hg : gone < 2 ^ G.length) (hv : v < G.length) : Ev (fun k => lampblackref02_turn.f k (gi G) (gone : Int) (v : Int)) ((dg G gone v : Nat) : Int) := by
 have hn := hG.most
 have hp : 2 ^ v < 2 ^ G.length := Nat.pow_lt_pow_right (by omega) hv
 have hA := Around_lt hG (conset G (2 ^ v) (gone ||| 2 ^ v))
 have hd : diff (Around G (conset G (2 ^ v) (gone ||| 2 ^ v))) gone < 2 ^ G.length := Nat.lt_of_le_of_lt (diff_le _ _) hA
 unfold lampblackref02_turn.f
 refine Ev.if_pos (by omega) ?_
 simp only [s_one v (by omega), b_or gone (2 ^ v) (big (small G hn hg)) (big (small G hn hp))]
 refine Ev.bind (reached_ev 9 G hG (by omega) _ v (or_lt hg hp) hv) ?_
 refine Ev.bind (refAround G hG _ (conset_lt G _ _)) ?_
 simp only [b_andNot _ gone (big (small G hn hA)) (big (small G hn hg)), b_andNot _ (2 ^ v) (big (small G hn hd)) (big (small G hn hp))]
 exact Ev.bind (size_ev _ (small G hn (nbset_lt hG gone v))) (Ev.some rfl)
/-! rest: behind each set, the least width of an order of the others. -/
def RS (G : List Nat) (S x : Nat) : Prop := ∀ k, x ≤ k ↔ canB G k S = true
def GoodR (G : List Nat) (r : List Int) : Prop := ∃ W : List Nat, r = gi W ∧ W.length = 2 ^ G.length ∧ ∀ S, S < 2 ^ G.length → RS G S (W.getD S 0)
theorem rest_l1 {G : List Nat} (hG : Gr 9 G) (S : Nat) (hS : S < 2 ^ G.length) (hne : S ≠ 2 ^ G.length - 1)
  (cont : ∀ W : List Nat, W.length = 2 ^ G.length → (∀ T, S ≤ T → T < 2 ^ G.length → RS G T (W.getD T 0)) → ∃ r, Ev (fun k => lampblackref02_rest.l0 k (gi G) (G.length : Int) (gi W) (wrap64 ((S : Int) - 1))) r ∧ GoodR G r) :
  ∀ d v (W : List Nat), v + d = G.length → W.length = 2 ^ G.length → (∀ T, S < T → T < 2 ^ G.length → RS G T (W.getD T 0)) →
   (∀ k, W.getD S 0 ≤ k ↔ G.length ≤ k ∨ ∃ u, u < v ∧ bset (lft G S) u ∧ dg G S u ≤ k ∧ canB G k (S ||| 2 ^ u) = true) →
   ∃ r, Ev (fun k => lampblackref02_rest.l1 k (gi G) (G.length : Int) (gi W) (S : Int) (G.length : Int) (v : Int)) r ∧ GoodR G r := by
 have hn := hG.most
 have h29 : 2 ^ G.length ≤ 2 ^ 9 := Nat.pow_le_pow_right (by omega) hn
 intro d
 induction d with
 | zero =>
  intro v W hv hW hT hc
  have hRS : RS G S (W.getD S 0) := by
   intro k
   rw [hc k]
   by_cases hk : G.length ≤ k
   ·exact ⟨fun _ => canB_big hG hk _ S rfl hS, fun _ => .inl hk⟩
   ·rw [canB_true hn hS hne]
    constructor
    ·rintro (h | ⟨u, _, h1, h2, h3⟩)
     ·exact (hk h).elim
     ·exact ⟨u, h1, h2, h3⟩
    ·rintro ⟨u, h1, h2, h3⟩
     exact .inr ⟨u, by have := ((lft_bit G S u).1 h1).1; omega, h1, h2, h3⟩
  obtain ⟨r, h1, h2⟩ := cont W hW (fun T hT1 hT2 => by
   by_cases e : T = S
   ·subst e; exact hRS
   ·exact hT T (by omega) hT2)
  exact ⟨r, Ev.step (fun k => by rw [lampblackref02_rest.l1, if_neg (by omega)]) h1, h2⟩
 | succ d ih =>
  intro v W hv hW hT hc
  have hvn : v < G.length := by omega
  have hgl := gi_length W
  by_cases hb : S.testBit v = true
  ·have hnl : ¬ bset (lft G S) v := fun h => ((lft_bit G S v).1 h).2 hb
   obtain ⟨r, h1, h2⟩ := ih (v + 1) W (by omega) hW hT (fun k => by
    rw [hc k]
    constructor
    ·rintro (h | ⟨u, hu, h⟩)
     ·exact .inl h
     ·exact .inr ⟨u, by omega, h⟩
    ·rintro (h | ⟨u, hu, h⟩)
     ·exact .inl h
     ·by_cases e : u = v
      ·subst e; exact absurd h.1 hnl
      ·exact .inr ⟨u, by omega, h⟩)
   refine ⟨r, Ev.step (fun k => ?_) h1, h2⟩
   rw [lampblackref02_rest.l1, if_pos (by omega), if_pos (by omega), if_neg (by rw [bit_zero S v (by omega) (by omega), hb]; simp), wrap_succ v (by omega)]
  ·have hb' : S.testBit v = false := by simpa using hb
   have hlb : bset (lft G S) v := (lft_bit G S v).2 ⟨hvn, hb⟩
   have hor := or_in hS hlb
   have hgt : S < S ||| 2 ^ v := by
    have h1 : S ≤ S ||| 2 ^ v := Nat.left_le_or
    have h2 : S ≠ S ||| 2 ^ v := fun e => by
     have : bset (S ||| 2 ^ v) v := (or_bit S v v).2 (.inr rfl)
     rw [← e] at this
     exact hb this
    omega
   have hRv := hT _ hgt hor
   have hp : 2 ^ v < 2 ^ G.length := Nat.pow_lt_pow_right (by omega) hvn
   obtain ⟨r, h1, h2⟩ := ih (v + 1) (W.set S (min (W.getD S 0) (max (dg G S v) (W.getD (S ||| 2 ^ v) 0)))) (by omega) (by rw [List.length_set, hW]) (fun T hT1 hT2 => by
    rw [getD_set W S T _ (by omega), if_neg (by omega)]
    exact hT T hT1 hT2) (fun k => by
    have emm : ∀ a b c : Nat, min a (max b c) ≤ k ↔ a ≤ k ∨ (b ≤ k ∧ c ≤ k) := fun a b c => by omega
    rw [getD_set W S S _ (by omega), if_pos rfl, emm, hc k, hRv k]
    constructor
    ·rintro ((h | ⟨u, hu, h⟩) | ⟨h3, h4⟩)
     ·exact .inl h
     ·exact .inr ⟨u, by omega, h⟩
     ·exact .inr ⟨v, by omega, hlb, h3, h4⟩
    ·rintro (h | ⟨u, hu, h3, h4, h5⟩)
     ·exact .inl (.inl h)
     ·by_cases e : u = v
      ·subst e; exact .inr ⟨h4, h5⟩
      ·exact .inl (.inr ⟨u, by omega, h3, h4, h5⟩))
   have e1 : Go.bits .or .i64 (S : Int) (shl .i64 1 (v : Int)) = ((S ||| 2 ^ v : Nat) : Int) := by
    rw [s_one v (by omega), b_or S (2 ^ v) (by omega) (by omega)]
   refine ⟨r, Ev.step (f := fun k => (lampblackref02_turn.f k (gi G) (S : Int) (v : Int)).bind fun t => if 0 ≤ ((S ||| 2 ^ v : Nat) : Int) then (if ((S ||| 2 ^ v : Nat) : Int) < ((gi W).length : Int) then lampblackref02_rest.l1 k (gi G) (G.length : Int) ((gi W).set (S : Int).toNat (mn (rd (gi W) (S : Int)) (mx t (rd (gi W) ((S ||| 2 ^ v : Nat) : Int))))) (S : Int) (G.length : Int) ((v + 1 : Nat) : Int) else none) else none) (fun k => ?_) (Ev.bind (turn_ev hG hS hvn) (Ev.if_pos (by omega) (Ev.if_pos (by omega) ?_))), h2⟩
   ·rw [lampblackref02_rest.l1, if_pos (by omega), if_pos (by omega), if_pos ((bit_zero S v (by omega) (by omega)).2 hb'), if_pos (by omega), if_pos (by omega), e1, wrap_succ v (by omega)]
   ·simp only [rd_gi, mx_nat, mn_nat, Int.toNat_natCast, gi_set]
    exact h1
theorem rest_l0 {G : List Nat} (hG : Gr 9 G) : ∀ d (W : List Nat), d + 1 ≤ 2 ^ G.length → W.length = 2 ^ G.length → (∀ T, d ≤ T → T < 2 ^ G.length → RS G T (W.getD T 0)) →
  ∃ r, Ev (fun k => lampblackref02_rest.l0 k (gi G) (G.length : Int) (gi W) ((d : Int) - 1)) r ∧ GoodR G r := by
 have hn := hG.most
 have h29 : 2 ^ G.length ≤ 2 ^ 9 := Nat.pow_le_pow_right (by omega) hn
 intro d
 induction d with
 | zero =>
  intro W hd hW hT
  exact ⟨gi W, Ev.step (f := fun _ => some (gi W)) (fun k => by rw [lampblackref02_rest.l0, if_neg (by omega)]) (Ev.some rfl), W, rfl, hW, fun S hS => hT S (by omega) hS⟩
 | succ d ih =>
  intro W hd hW hT
  have hgl := gi_length W
  have e0 : (((d + 1 : Nat) : Int) - 1) = (d : Int) := by omega
  rw [e0]
  have hlen2 : (W.set d G.length).length = 2 ^ G.length := by rw [List.length_set, hW]
  obtain ⟨r, h1, h2⟩ := rest_l1 hG d (by omega) (by omega) (fun W' hW' hT' => by
   obtain ⟨r, h1, h2⟩ := ih W' (by omega) hW' hT'
   refine ⟨r, ?_, h2⟩
   rw [w64_small _ (by omega) (by omega)]
   exact h1) G.length 0 (W.set d G.length) (by omega) hlen2 (fun T hT1 hT2 => by
    rw [getD_set W d T _ (by omega), if_neg (by omega)]
    exact hT T (by omega) hT2) (fun k => by
    rw [getD_set W d d _ (by omega), if_pos rfl]
    exact ⟨fun h => .inl h, fun h => by
     rcases h with h | ⟨u, hu, _⟩
     ·exact h
     ·omega⟩)
  refine ⟨r, Ev.step (fun k => ?_) h1, h2⟩
  rw [lampblackref02_rest.l0, if_pos (by omega), if_pos (by omega), if_pos (by omega), Int.toNat_natCast, gi_set, gi_length]
  rfl
theorem rest_ev {G : List Nat} (hG : Gr 9 G) : ∃ r, Ev (fun k => lampblackref02_rest.f k (gi G)) r ∧ GoodR G r := by
 have hn := hG.most
 have h29 : 2 ^ G.length ≤ 2 ^ 9 := Nat.pow_le_pow_right (by omega) hn
 have h1 : 2 ^ 1 ≤ 2 ^ G.length := Nat.pow_le_pow_right (by omega) hG.pos
 obtain ⟨r, e1, e2⟩ := rest_l0 hG (2 ^ G.length - 1) (List.replicate (2 ^ G.length) 0) (by omega) (by simp) (fun T hT1 hT2 => by
  obtain rfl : T = 2 ^ G.length - 1 := by omega
  intro k
  rw [canB_all k]
  have : (List.replicate (2 ^ G.length) 0).getD (2 ^ G.length - 1) 0 = 0 := by
   rw [List.getD_eq_getElem?_getD, List.getElem?_replicate]
   split <;> rfl
  rw [this]
  simp)
 refine ⟨r, ?_, e2⟩
 unfold lampblackref02_rest.f
 rw [gi_length, s_one G.length (by omega)]
 refine Ev.if_pos (by omega) (Ev.if_pos (by omega) ?_)
 have e3 : wrap64 (((2 ^ G.length : Nat) : Int) - 2) = ((2 ^ G.length - 1 : Nat) : Int) - 1 := by
  rw [w64_small _ (by omega) (by omega)]; omega
 have e4 : List.replicate ((2 ^ G.length : Nat) : Int).toNat (0 : Int) = gi (List.replicate (2 ^ G.length) 0) := by
  rw [Int.toNat_natCast]; simp [gi]
 rw [e3, e4]
 exact e1
theorem rest_zero {G : List Nat} (hG : Gr 9 G) {W : Nat} (hW : IsWidth G W) {x : Nat} (h : RS G 0 x) : x = W := by
 have hn := hG.most
 refine IsWidth.uniq (G := G) (fun k => ?_) hW
 rw [h k, canB_zero hn hG]
theorem refWidth_ev {G : List Nat} (hG : Gr 9 G) {W : Nat} (hW : IsWidth G W) : Ev (fun k => lampblackref02_Width.f k (gi G)) (W : Int) := by
 obtain ⟨r, h1, R, rfl, h2, h3⟩ := rest_ev hG
 have h0 := Nat.two_pow_pos G.length
 unfold lampblackref02_Width.f
 refine Ev.bind h1 (Ev.if_pos (by rw [gi_length]; omega) (Ev.some ?_))
 have := rest_zero hG hW (h3 0 h0)
 rw [← this]
 exact rd_gi R 0
/-! The reference's Order is the program's. -/
theorem next_find {G : List Nat} (hn : G.length ≤ 9) {k gone x : Nat} (hx : (els (lft G gone) 9).find? (nextP G k gone) = some x) :
  bset (lft G gone) x ∧ nextP G k gone x = true ∧ ∀ v, v < x → bset (lft G gone) v → nextP G k gone v = false := by
 refine ⟨(mem_els.1 (List.mem_of_find?_eq_some hx)).2, List.find?_some hx, fun v hv hb => ?_⟩
 obtain ⟨_, la, lb, h1, h2⟩ := List.find?_eq_some_iff_append.1 hx
 have hm : v ∈ els (lft G gone) 9 := mem_els.2 ⟨bit_lt (lft_small hn gone) hb, hb⟩
 have hs : (els (lft G gone) 9).Pairwise (· < ·) := List.Pairwise.filter _ List.pairwise_lt_range
 rw [h1] at hm hs
 rcases List.mem_append.1 hm with hm | hm
 ·simpa using h2 v hm
 ·rcases List.mem_cons.1 hm with rfl | hm
  ·omega
  ·have := (List.pairwise_append.1 hs).2.1
   have := (List.pairwise_cons.1 this).1 v hm
   omega
theorem refOrder_l1 {G : List Nat} (hG : Gr 9 G) {W : Nat} (hW : IsWidth G W) (R : List Nat) (hR : R.length = 2 ^ G.length) (hRS : ∀ S, S < 2 ^ G.length → RS G S (R.getD S 0)) (gone : Nat) (hg : gone < 2 ^ G.length) (M : List Nat) (hM : M.length ≤ 9) (x : Nat)
  (hx1 : bset (lft G gone) x) (hx2 : nextP G W gone x = true) (hx3 : ∀ v, v < x → bset (lft G gone) v → nextP G W gone v = false) (i : Int) (r : List Int)
  (h : Ev (fun k => lampblackref02_Order.l0 k (gi G) (gi R) (gi (M ++ [x])) ((gone ||| 2 ^ x : Nat) : Int) (G.length : Int) (wrap64 (i + 1))) r) :
  ∀ d v, v + d = x → Ev (fun k => lampblackref02_Order.l1 k (gi G) (gi R) (gi M) (gone : Int) (G.length : Int) i (G.length : Int) (v : Int)) r := by
 have hn := hG.most
 have h29 : 2 ^ G.length ≤ 2 ^ 9 := Nat.pow_le_pow_right (by omega) hn
 have h0 := Nat.two_pow_pos G.length
 have hxn := ((lft_bit G gone x).1 hx1).1
 have hgl := gi_length R
 have hgm := gi_length M
 have hW0 : R.getD 0 0 = W := rest_zero hG hW (hRS 0 h0)
 have key : ∀ v, v < G.length → bset (lft G gone) v → (mx ((dg G gone v : Nat) : Int) (rd (gi R) ((gone ||| 2 ^ v : Nat) : Int)) ≤ rd (gi R) 0 ↔ nextP G W gone v = true) := fun v hv hb => by
  have hor := or_in hg hb
  have h1 : rd (gi R) 0 = (W : Int) := by rw [← hW0]; exact rd_gi R 0
  rw [h1, rd_gi, mx_nat]
  unfold nextP
  rw [Bool.and_eq_true, decide_eq_true_eq, ← hRS _ hor W]
  omega
 intro d
 induction d with
 | zero =>
  intro v hv
  obtain rfl : v = x := by omega
  have hb' : gone.testBit v = false := by
   have := ((lft_bit G gone v).1 hx1).2
   unfold bset at this
   simpa using this
  have hor := or_in hg hx1
  have hp : 2 ^ v < 2 ^ G.length := Nat.pow_lt_pow_right (by omega) hxn
  have e1 : Go.bits .or .i64 (gone : Int) (shl .i64 1 (v : Int)) = ((gone ||| 2 ^ v : Nat) : Int) := by
   rw [s_one v (by omega), b_or gone (2 ^ v) (by omega) (by omega)]
  refine Ev.step (f := fun k => (lampblackref02_turn.f k (gi G) (gone : Int) (v : Int)).bind fun t => if 0 ≤ ((gone ||| 2 ^ v : Nat) : Int) then (if ((gone ||| 2 ^ v : Nat) : Int) < ((gi R).length : Int) then (if 0 < ((gi R).length : Int) then (if mx t (rd (gi R) ((gone ||| 2 ^ v : Nat) : Int)) ≤ rd (gi R) 0 then (if (gi M).length < 17592186044416 then lampblackref02_Order.l0 k (gi G) (gi R) (gi M ++ [(v : Int)]) ((gone ||| 2 ^ v : Nat) : Int) (G.length : Int) (wrap64 (i + 1)) else none) else lampblackref02_Order.l1 k (gi G) (gi R) (gi M) (gone : Int) (G.length : Int) i (G.length : Int) (wrap64 ((v : Int) + 1))) else none) else none) else none) (fun k => ?_) (Ev.bind (turn_ev hG hg hxn) (Ev.if_pos (by omega) (Ev.if_pos (by omega) (Ev.if_pos (by omega) (Ev.if_pos ((key v hxn hx1).2 hx2) (Ev.if_pos (by omega) ?_))))))
  ·rw [lampblackref02_Order.l1, if_pos (by omega), if_pos (by omega), if_pos ((bit_zero gone v (by omega) (by omega)).2 hb'), e1]
  ·rw [gi_snoc]; exact h
 | succ d ih =>
  intro v hv
  have hvn : v < G.length := by omega
  have next := ih (v + 1) (by omega)
  by_cases hb : gone.testBit v = true
  ·refine Ev.step (fun k => ?_) next
   rw [lampblackref02_Order.l1, if_pos (by omega), if_pos (by omega), if_neg (by rw [bit_zero gone v (by omega) (by omega), hb]; simp), wrap_succ v (by omega)]
  ·have hb' : gone.testBit v = false := by simpa using hb
   have hlb : bset (lft G gone) v := (lft_bit G gone v).2 ⟨hvn, hb⟩
   have hor := or_in hg hlb
   have hp : 2 ^ v < 2 ^ G.length := Nat.pow_lt_pow_right (by omega) hvn
   have hno := hx3 v (by omega) hlb
   have e1 : Go.bits .or .i64 (gone : Int) (shl .i64 1 (v : Int)) = ((gone ||| 2 ^ v : Nat) : Int) := by
    rw [s_one v (by omega), b_or gone (2 ^ v) (by omega) (by omega)]
   refine Ev.step (f := fun k => (lampblackref02_turn.f k (gi G) (gone : Int) (v : Int)).bind fun t => if 0 ≤ ((gone ||| 2 ^ v : Nat) : Int) then (if ((gone ||| 2 ^ v : Nat) : Int) < ((gi R).length : Int) then (if 0 < ((gi R).length : Int) then (if mx t (rd (gi R) ((gone ||| 2 ^ v : Nat) : Int)) ≤ rd (gi R) 0 then (if (gi M).length < 17592186044416 then lampblackref02_Order.l0 k (gi G) (gi R) (gi M ++ [(v : Int)]) ((gone ||| 2 ^ v : Nat) : Int) (G.length : Int) (wrap64 (i + 1)) else none) else lampblackref02_Order.l1 k (gi G) (gi R) (gi M) (gone : Int) (G.length : Int) i (G.length : Int) ((v + 1 : Nat) : Int)) else none) else none) else none) (fun k => ?_) (Ev.bind (turn_ev hG hg hvn) (Ev.if_pos (by omega) (Ev.if_pos (by omega) (Ev.if_pos (by omega) (Ev.if_neg (fun h => by rw [(key v hvn hlb).1 h] at hno; cases hno) next)))))
   rw [lampblackref02_Order.l1, if_pos (by omega), if_pos (by omega), if_pos ((bit_zero gone v (by omega) (by omega)).2 hb'), e1, wrap_succ v (by omega)]
theorem refOrder_l0 {G : List Nat} (hG : Gr 9 G) {W : Nat} (hW : IsWidth G W) (R : List Nat) (hR : R.length = 2 ^ G.length) (hRS : ∀ S, S < 2 ^ G.length → RS G S (R.getD S 0)) :
  ∀ d gone (M : List Nat), pc (lft G gone) 9 = d → gone < 2 ^ G.length → M.length + d = G.length → canB G W gone = true → Ev (fun k => lampblackref02_Order.l0 k (gi G) (gi R) (gi M) (gone : Int) (G.length : Int) (M.length : Int)) (gi (M ++ ordD G W d gone)) := by
 have hn := hG.most
 intro d
 induction d with
 | zero =>
  intro gone M hd hg hM hc
  refine Ev.step (f := fun _ => some (gi M)) (fun k => by rw [lampblackref02_Order.l0, if_neg (by omega)]) (Ev.some ?_)
  rw [ordD]; simp
 | succ d ih =>
  intro gone M hd hg hM hc
  have hne : gone ≠ 2 ^ G.length - 1 := fun h => by rw [h, lft_all] at hd; simp [pc] at hd
  obtain ⟨x, hx⟩ : ∃ x, (els (lft G gone) 9).find? (nextP G W gone) = some x := by
   obtain ⟨v, h1, h2, h3⟩ := (canB_true hn hg hne).1 hc
   have hm : v ∈ els (lft G gone) 9 := mem_els.2 ⟨bit_lt (lft_small hn gone) h1, h1⟩
   cases hf : (els (lft G gone) 9).find? (nextP G W gone) with
   | some x => exact ⟨x, rfl⟩
   | none =>
    have := List.find?_eq_none.1 hf v hm
    unfold nextP at this
    rw [h3, decide_eq_true h2] at this
    simp at this
  obtain ⟨h1, h2, h3⟩ := next_find hn hx
  have hpc := pc_lft hn h1
  have hcx : canB G W (gone ||| 2 ^ x) = true := by
   unfold nextP at h2
   rw [Bool.and_eq_true] at h2
   exact h2.2
  have next := ih (gone ||| 2 ^ x) (M ++ [x]) (by omega) (or_in hg h1) (by simp; omega) hcx
  have e : M ++ [x] ++ ordD G W d (gone ||| 2 ^ x) = M ++ ordD G W (d + 1) gone := by
   rw [ordD, hx]; simp
  rw [e] at next
  refine Ev.step (fun k => by rw [lampblackref02_Order.l0, if_pos (by omega), gi_length]) ?_
  refine refOrder_l1 hG hW R hR hRS gone hg M (by omega) x h1 h2 h3 _ _ ?_ x 0 (by omega)
  rw [wrap_succ M.length (by omega)]
  have hl : (M ++ [x]).length = M.length + 1 := by simp
  rw [hl] at next
  exact next
theorem lft_zero_pc {G : List Nat} (hn : G.length ≤ 9) : pc (lft G 0) 9 = G.length := by
 have e : lft G 0 = 2 ^ G.length - 1 := eq_bits fun j => by rw [lft_bit, all_bit]; simp [bset]
 rw [e]
 have : ∀ i : Fin 10, pc (2 ^ i.val - 1) 9 = i.val := by decide
 exact this ⟨G.length, by omega⟩
theorem refOrder_ev {G : List Nat} (hG : Gr 9 G) {W : Nat} (hW : IsWidth G W) : Ev (fun k => lampblackref02_Order.f k (gi G)) (gi (ordL G W)) := by
 have hn := hG.most
 obtain ⟨r, h1, R, rfl, h2, h3⟩ := rest_ev hG
 unfold lampblackref02_Order.f
 refine Ev.bind h1 ?_
 have := refOrder_l0 hG hW R h2 h3 G.length 0 [] (lft_zero_pc hn) (Nat.two_pow_pos _) (by simp) ((canB_zero hn hG).2 ((hW W).1 (Nat.le_refl _)))
 rw [gi_length]
 exact this
theorem ordD_len {G : List Nat} (hn : G.length ≤ 9) {k : Nat} : ∀ d gone, (ordD G k d gone).length ≤ d
 | 0, gone => by rw [ordD]; simp
 | d + 1, gone => by
  rw [ordD]
  split
  ·rename_i v _
   have := ordD_len hn (k := k) d (gone ||| 2 ^ v)
   simp; omega
  ·simp
theorem Order_ev {G : List Nat} (hG : Gr 9 G) {W : Nat} (hW : IsWidth G W) : Ev (fun k => width_Order.f k (gi G)) (gi (ordL G W), 0) := by
 have h : Ev (fun k => width_read.f k (gi G)) (gi G, true) := by
  have h := read_ev (gi G) (by rw [gi_length]; have := hG.most; omega)
  rw [(chk_iff 9 (by omega) _).2 ⟨G, rfl, hG⟩] at h
  exact h
 unfold width_Order.f
 refine Ev.bind h (Ev.if_pos rfl (Ev.bind1 ?_ (Ev.some rfl)))
 unfold width_town_order.f
 rw [if_pos ((chk_iff 9 (by omega) _).2 ⟨G, rfl, hG⟩), gi_toNatO, (widthN_is hG).uniq hW]
theorem Order_bad (g : List Int) (hl : g.length < 2 ^ 60) (h : chk 9 g = false) : Ev (fun k => width_Order.f k g) ([], 2) := by
 have h1 := read_ev g hl
 rw [h] at h1
 unfold width_Order.f
 exact Ev.bind h1 (Ev.if_neg (by simp) (Ev.some rfl))
/-! Along. -/
noncomputable def alongN (G : List Nat) : List Nat → Nat → Nat → Nat
 | [], _, o => o
 | v :: l, gone, o => alongN G l (gone ||| 2 ^ v) (max o (dg G gone v))
theorem refAlong_l0 {G : List Nat} (hG : Gr 9 G) (P : List Nat) (hP : ∀ v ∈ P, v < G.length) (hPl : P.length ≤ 1000) : ∀ d i gone o, i + d = P.length → gone < 2 ^ G.length → Ev (fun k => lampblackref02_Along.l0 k (gi G) (o : Nat) (gone : Nat) (gi P) (P.length : Int) (i : Int)) ((alongN G (P.drop i) gone o : Nat) : Int) := by
 have hn := hG.most
 have h29 : 2 ^ G.length ≤ 2 ^ 9 := Nat.pow_le_pow_right (by omega) hn
 have hgl := gi_length P
 intro d
 induction d with
 | zero =>
  intro i gone o hi hg
  rw [List.drop_eq_nil_of_le (by omega)]
  exact Ev.step (f := fun _ => some ((o : Nat) : Int)) (fun k => by rw [lampblackref02_Along.l0, if_neg (by omega)]) (Ev.some rfl)
 | succ d ih =>
  intro i gone o hi hg
  have hil : i < P.length := by omega
  have hv := hP P[i] (List.getElem_mem hil)
  have hr : rd (gi P) (i : Int) = ((P[i] : Nat) : Int) := by rw [rd_gi, List.getD_eq_getElem?_getD, List.getElem?_eq_getElem hil]; rfl
  rw [List.drop_eq_getElem_cons hil, alongN]
  generalize P[i] = v at *
  have hp : 2 ^ v < 2 ^ G.length := Nat.pow_lt_pow_right (by omega) hv
  have next := ih (i + 1) (gone ||| 2 ^ v) (max o (dg G gone v)) (by omega) (Nat.or_lt_two_pow hg hp)
  refine Ev.step (f := fun k => (lampblackref02_turn.f k (gi G) (gone : Int) (v : Int)).bind fun t => if 0 ≤ (v : Int) then lampblackref02_Along.l0 k (gi G) (mx (o : Int) t) ((gone ||| 2 ^ v : Nat) : Int) (gi P) (P.length : Int) ((i + 1 : Nat) : Int) else none) (fun k => ?_) (Ev.bind (turn_ev hG hg hv) (Ev.if_pos (by omega) ?_))
  ·rw [lampblackref02_Along.l0, if_pos (by omega), if_pos (by omega), if_pos (by omega), hr, s_one v (by omega), b_or gone (2 ^ v) (by omega) (by omega), wrap_succ i (by omega)]
  ·rw [mx_nat]; exact next
theorem refAlong_ev {G : List Nat} (hG : Gr 9 G) (P : List Nat) (hP : ∀ v ∈ P, v < G.length) (hPl : P.length ≤ 1000) : Ev (fun k => lampblackref02_Along.f k (gi G) (gi P)) ((alongN G P 0 0 : Nat) : Int) := by
 have := refAlong_l0 hG P hP hPl P.length 0 0 0 (by omega) (Nat.two_pow_pos _)
 unfold lampblackref02_Along.f
 rw [gi_length]
 exact this
theorem along_l0 {G : List Nat} (hG : Gr 9 G) (P : List Nat) (hP : ∀ v ∈ P, v < G.length) (hPl : P.length ≤ 1000) : ∀ d i gone o, i + d = P.length → gone < 2 ^ G.length → Ev (fun k => width_Along.l0 k (gi G) (gone : Nat) (o : Nat) (gi P) (P.length : Int) (i : Int)) (((alongN G (P.drop i) gone o : Nat) : Int), 0) := by
 have hn := hG.most
 have h29 : 2 ^ G.length ≤ 2 ^ 9 := Nat.pow_le_pow_right (by omega) hn
 have hgl := gi_length P
 intro d
 induction d with
 | zero =>
  intro i gone o hi hg
  rw [List.drop_eq_nil_of_le (by omega)]
  exact Ev.step (f := fun _ => some (((o : Nat) : Int), 0)) (fun k => by rw [width_Along.l0, if_neg (by omega)]) (Ev.some rfl)
 | succ d ih =>
  intro i gone o hi hg
  have hil : i < P.length := by omega
  have hv := hP P[i] (List.getElem_mem hil)
  have hr : rd (gi P) (i : Int) = ((P[i] : Nat) : Int) := by rw [rd_gi, List.getD_eq_getElem?_getD, List.getElem?_eq_getElem hil]; rfl
  rw [List.drop_eq_getElem_cons hil, alongN]
  generalize P[i] = v at *
  have hp : 2 ^ v < 2 ^ G.length := Nat.pow_lt_pow_right (by omega) hv
  have next := ih (i + 1) (gone ||| 2 ^ v) (max o (dg G gone v)) (by omega) (Nat.or_lt_two_pow hg hp)
  refine Ev.step (f := fun k => (width_town_degree.f k (gi G) (v : Int) (gone : Int)).bind fun t => if 0 ≤ (v : Int) then width_Along.l0 k (gi G) ((gone ||| 2 ^ v : Nat) : Int) (mx (o : Int) t) (gi P) (P.length : Int) ((i + 1 : Nat) : Int) else none) (fun k => ?_) (Ev.bind (degree_ev G hG gone v hg hv) (Ev.if_pos (by omega) ?_))
  ·rw [width_Along.l0, if_pos (by omega), if_pos (by omega), if_pos (by omega), hr, s_one v (by omega), b_or gone (2 ^ v) (by omega) (by omega), wrap_succ i (by omega)]
  ·rw [mx_nat]; exact next
theorem isOrder_l0 (l : List Int) (n : Nat) (hn : n ≤ 9) (hl : l.length < 2 ^ 60) : ∀ (d i : Nat) (P : List Nat), i + d = l.length → l.take i = gi P → P.Nodup → (∀ v ∈ P, v < n) →
  ∃ r, Ev (fun k => lampblackref02_IsOrder.l0 k l (n : Int) ((lset P : Nat) : Int) l (l.length : Int) (i : Int)) r ∧ (r = true ↔ IsOrd n l) := by
 intro d
 induction d with
 | zero =>
  intro i P hi hP h1 h2
  have e : l = gi P := by rw [← hP, List.take_of_length_le (by omega)]
  refine ⟨((l.length : Int) == (n : Int)), Ev.step (f := fun _ => some ((l.length : Int) == (n : Int))) (fun k => by rw [lampblackref02_IsOrder.l0, if_neg (by omega)]) (Ev.some rfl), ?_⟩
  rw [e, IsOrd.of h1 h2, gi_length, beq_iff_eq]
  omega
 | succ d ih =>
  intro i P hi hP h1 h2
  have hil : i < l.length := by omega
  have hP62 : lset P < 2 ^ 62 := Nat.lt_of_lt_of_le (lset_lt h2) (Nat.pow_le_pow_right (by omega) (by omega))
  by_cases h3 : rd l (i : Int) < 0
  ·refine ⟨false, Ev.step (f := fun _ => some false) (fun k => by rw [lampblackref02_IsOrder.l0, if_pos (by omega), if_pos (by omega), if_pos (by omega), if_pos h3]) (Ev.some rfl), ?_⟩
   simp only [Bool.false_eq_true, false_iff]
   intro h
   obtain ⟨v, hv, _⟩ := h.get i hil
   omega
  ·by_cases h4 : rd l (i : Int) ≥ (n : Int)
   ·refine ⟨false, Ev.step (f := fun _ => some false) (fun k => by rw [lampblackref02_IsOrder.l0, if_pos (by omega), if_pos (by omega), if_pos (by omega), if_neg h3, if_pos h4]) (Ev.some rfl), ?_⟩
    simp only [Bool.false_eq_true, false_iff]
    intro h
    obtain ⟨v, hv, hv2⟩ := h.get i hil
    omega
   ·obtain ⟨v, hv⟩ : ∃ v : Nat, rd l (i : Int) = (v : Int) := ⟨(rd l (i : Int)).toNat, by omega⟩
    have hvn : v < n := by omega
    by_cases h5 : v ∈ P
    ·refine ⟨false, Ev.step (f := fun _ => some false) (fun k => ?_) (Ev.some rfl), ?_⟩
     ·rw [lampblackref02_IsOrder.l0, if_pos (by omega), if_pos (by omega), if_pos (by omega), if_neg h3, if_neg h4, if_pos (by omega), hv, if_pos ((bit_one _ _ hP62 (by omega)).2 ((lset_bit P v).2 h5))]
     ·simp only [Bool.false_eq_true, false_iff]
      intro h
      exact h.fresh hil hP hv h5
    ·have hb : ¬ Go.bits .and .i64 (shr .i64 ((lset P : Nat) : Int) (v : Int)) 1 = 1 := fun h => h5 ((lset_bit P v).1 ((bit_one _ _ hP62 (by omega)).1 h))
     obtain ⟨r, h6, h7⟩ := ih (i + 1) (P ++ [v]) (by omega) (take_snoc hP hil v hv) (List.nodup_append.2 ⟨h1, by simp, by simp; intro a ha; exact fun e => h5 (e ▸ ha)⟩) (by
      intro x hx
      rcases List.mem_append.1 hx with h | h
      ·exact h2 x h
      ·rw [List.mem_singleton.1 h]; exact hvn)
     refine ⟨r, Ev.step (fun k => ?_) h6, h7⟩
     have e2 : 2 ^ v < 2 ^ 62 := Nat.pow_lt_pow_right (by omega) (by omega)
     rw [lampblackref02_IsOrder.l0, if_pos (by omega), if_pos (by omega), if_pos (by omega), if_neg h3, if_neg h4, if_pos (by omega), hv, if_neg hb, s_one v (by omega), b_or _ _ hP62 e2, wrap_succ i (by omega), lset_snoc]
theorem isOrder_ev (l : List Int) (n : Nat) (hn : n ≤ 9) (hl : l.length < 2 ^ 60) : ∃ r, Ev (fun k => lampblackref02_IsOrder.f k l (n : Int)) r ∧ (r = true ↔ IsOrd n l) :=
 isOrder_l0 l n hn hl l.length 0 [] (by omega) (by simp [gi]) List.nodup_nil (by simp)
theorem isOrd2_l0 {G : List Nat} (hG : Gr 9 G) (l : List Int) (hl : l.length < 2 ^ 60) : ∀ (d i : Nat) (P : List Nat), i + d = l.length → l.take i = gi P → (∀ v ∈ P, v < G.length) →
  ∃ r, Ev (fun k => width_town_isOrder.l0 k (gi G) l ((lset P : Nat) : Int) l (l.length : Int) (i : Int)) r ∧ (r = true ↔ IsOrd G.length l) := by
 have hn := hG.most
 have hgl := gi_length G
 intro d
 induction d with
 | zero =>
  intro i P hi hP h2
  have e : l = gi P := by rw [← hP, List.take_of_length_le (by omega)]
  by_cases hlen : l.length = G.length
  ·refine ⟨((lset P : Nat) : Int) == ((2 ^ G.length - 1 : Nat) : Int), Ev.step (fun k => by rw [width_town_isOrder.l0, if_neg (by omega), if_pos (by omega)]) (Ev.bind1 (all_eq G hn) (Ev.some rfl)), ?_⟩
   have hPl : P.length = G.length := by rw [← hlen, e, gi_length]
   rw [beq_iff_eq]
   constructor
   ·intro h
    have h : lset P = 2 ^ G.length - 1 := by omega
    refine ⟨P, e, nodup_of_covers (n := G.length) (by omega) (fun j hj => (lset_bit P j).1 (by rw [h]; exact (all_bit _ j).2 hj)), h2, hPl⟩
   ·rintro ⟨Q, e2, q1, q2, q3⟩
    obtain rfl : P = Q := gi_inj (e.symm.trans e2)
    have : lset P = 2 ^ G.length - 1 := eq_bits fun j => by
     rw [lset_bit, all_bit]
     exact ⟨fun h => h2 j h, fun h => covers_of_nodup q3 q1 h2 j h⟩
    omega
  ·refine ⟨false, Ev.step (f := fun _ => some false) (fun k => by rw [width_town_isOrder.l0, if_neg (by omega), if_neg (by omega)]) (Ev.some rfl), ?_⟩
   simp only [Bool.false_eq_true, false_iff]
   exact fun h => hlen h.length
 | succ d ih =>
  intro i P hi hP h2
  have hil : i < l.length := by omega
  have hP62 : lset P < 2 ^ 62 := Nat.lt_of_lt_of_le (lset_lt h2) (Nat.pow_le_pow_right (by omega) (by omega))
  by_cases h3 : rd l (i : Int) < 0
  ·refine ⟨false, Ev.step (f := fun _ => some false) (fun k => by rw [width_town_isOrder.l0, if_pos (by omega), if_pos (by omega), if_pos (by omega), if_pos h3]) (Ev.some rfl), ?_⟩
   simp only [Bool.false_eq_true, false_iff]
   intro h
   obtain ⟨v, hv, _⟩ := h.get i hil
   omega
  ·by_cases h4 : rd l (i : Int) ≥ (G.length : Int)
   ·refine ⟨false, Ev.step (f := fun _ => some false) (fun k => by rw [width_town_isOrder.l0, if_pos (by omega), if_pos (by omega), if_pos (by omega), if_neg h3, if_pos (by omega)]) (Ev.some rfl), ?_⟩
    simp only [Bool.false_eq_true, false_iff]
    intro h
    obtain ⟨v, hv, hv2⟩ := h.get i hil
    omega
   ·obtain ⟨v, hv⟩ : ∃ v : Nat, rd l (i : Int) = (v : Int) := ⟨(rd l (i : Int)).toNat, by omega⟩
    have hvn : v < G.length := by omega
    obtain ⟨r, h6, h7⟩ := ih (i + 1) (P ++ [v]) (by omega) (take_snoc hP hil v hv) (by
     intro x hx
     rcases List.mem_append.1 hx with h | h
     ·exact h2 x h
     ·rw [List.mem_singleton.1 h]; exact hvn)
    refine ⟨r, Ev.step (fun k => ?_) h6, h7⟩
    have e2 : 2 ^ v < 2 ^ 62 := Nat.pow_lt_pow_right (by omega) (by omega)
    rw [width_town_isOrder.l0, if_pos (by omega), if_pos (by omega), if_pos (by omega), if_neg h3, if_neg (by omega), if_pos (by omega), hv, s_one v (by omega), b_or _ _ hP62 e2, wrap_succ i (by omega), lset_snoc]
theorem isOrd2_ev {G : List Nat} (hG : Gr 9 G) (l : List Int) (hl : l.length < 2 ^ 60) : ∃ r, Ev (fun k => width_town_isOrder.f k (gi G) l) r ∧ (r = true ↔ IsOrd G.length l) :=
 isOrd2_l0 hG l hl l.length 0 [] (by omega) (by simp [gi]) (by simp)
theorem Along_ev {G : List Nat} (hG : Gr 9 G) (P : List Nat) (h : IsOrd G.length (gi P)) : Ev (fun k => width_Along.f k (gi G) (gi P)) (((alongN G P 0 0 : Nat) : Int), 0) := by
 have hn := hG.most
 obtain ⟨Q, e, q1, q2, q3⟩ := id h
 obtain rfl : P = Q := gi_inj e
 have h1 := read_ev (gi G) (by rw [gi_length]; omega)
 rw [(chk_iff 9 (by omega) _).2 ⟨G, rfl, hG⟩] at h1
 obtain ⟨r, h2, h3⟩ := isOrd2_ev hG (gi P) (by rw [gi_length]; omega)
 rw [h3.2 h] at h2
 unfold width_Along.f
 refine Ev.bind h1 (Ev.if_pos rfl (Ev.bind h2 ?_))
 refine Ev.step (fun k => by rw [width_Along.j0, if_neg (by simp), gi_length]) ?_
 exact along_l0 hG P q2 (by omega) P.length 0 0 0 (by omega) (Nat.two_pow_pos _)
theorem Along_no {G : List Nat} (hG : Gr 9 G) (l : List Int) (hl : l.length < 2 ^ 60) (h : ¬ IsOrd G.length l) : Ev (fun k => width_Along.f k (gi G) l) (0, 2) := by
 have hn := hG.most
 have h1 := read_ev (gi G) (by rw [gi_length]; omega)
 rw [(chk_iff 9 (by omega) _).2 ⟨G, rfl, hG⟩] at h1
 obtain ⟨r, h2, h3⟩ := isOrd2_ev hG l hl
 have hr : r = false := by
  cases r
  ·rfl
  ·exact absurd (h3.1 rfl) h
 rw [hr] at h2
 unfold width_Along.f
 refine Ev.bind h1 (Ev.if_pos rfl (Ev.bind h2 ?_))
 exact Ev.step (f := fun _ => some (0, 2)) (fun k => by rw [width_Along.j0, if_pos (by simp)]) (Ev.some rfl)
theorem Along_bad (g l : List Int) (hl : g.length < 2 ^ 60) (h : chk 9 g = false) : Ev (fun k => width_Along.f k g l) (0, 2) := by
 have h1 := read_ev g hl
 rw [h] at h1
 unfold width_Along.f
 refine Ev.bind h1 (Ev.if_neg (by simp) ?_)
 exact Ev.step (f := fun _ => some (0, 2)) (fun k => by rw [width_Along.j0, if_pos rfl]) (Ev.some rfl)
end Go.Proofs.YtoffehihicabcaaDoor.X
end
section
namespace Go.Proofs.YtoffehihicabcaaDoor.X
open Go.RowKit YtoffehihicabcaaDoorW.PrintWords YtoffehihicabcaaDoorW.PrintLast YtoffehihicabcaaDoorW.PrintMore
attribute [local go_sem] max2_int min2_int max_two min_two max_three min_three max_four min_four
noncomputable section
/-! ### lampblackref02_IsBramble: function 33 -/
mutual
def lampblackref02_IsBramble.l0 : Nat → List Int → List Int → List Int → Int → Int → Option (Bool)
 | 0, _, _, _, _, _ => none
 | k + 1, x0, x1, x9, x10, x11 => if x11 < x10 then (if 0 ≤ x11 then (if x11 < (x9.length : Int) then (if x11 ≥ 200 then (lampblackref02_IsBramble.j1 k x0 x1 x11 (rd x9 x11) x9 x10 x11 true) else ((lampblackref02_Connected.f k x0 (rd x9 x11)).bind fun t296 => (lampblackref02_IsBramble.j1 k x0 x1 x11 (rd x9 x11) x9 x10 x11 (!t296)))) else (none)) else (none)) else (some (decide ((x1.length : Int) > 0)))
def lampblackref02_IsBramble.j1 : Nat → List Int → List Int → Int → Int → List Int → Int → Int → Bool → Option (Bool)
 | 0, _, _, _, _, _, _, _, _ => none
 | k + 1, x0, x1, x5, x6, x9, x10, x11, x23 => if x23 = true then (some false) else (if 0 ≤ x5 then (if x5 ≤ (x1.length : Int) then (lampblackref02_IsBramble.l1 k x0 x1 x6 x9 x10 x11 (x1.take (x5 : Int).toNat) ((x1.take (x5 : Int).toNat).length : Int) 0) else (none)) else (none))
def lampblackref02_IsBramble.l1 : Nat → List Int → List Int → Int → List Int → Int → Int → List Int → Int → Int → Option (Bool)
 | 0, _, _, _, _, _, _, _, _, _ => none
 | k + 1, x0, x1, x6, x9, x10, x11, x26, x27, x28 => if x28 < x27 then (if 0 ≤ x28 then (if x28 < (x26.length : Int) then ((lampblackref02_Touch.f k x0 x6 (rd x26 x28)).bind fun t299 => (if t299 = true then (lampblackref02_IsBramble.l1 k x0 x1 x6 x9 x10 x11 x26 x27 (wrap64 (x28 + 1))) else (some false))) else (none)) else (none)) else (lampblackref02_IsBramble.l0 k x0 x1 x9 x10 (wrap64 (x11 + 1)))
end
end
end Go.Proofs.YtoffehihicabcaaDoor.X
end
section
namespace Go.Proofs.YtoffehihicabcaaDoor.X
open Go.RowKit YtoffehihicabcaaDoorW.PrintWords YtoffehihicabcaaDoorW.PrintLast YtoffehihicabcaaDoorW.PrintMore
attribute [local go_sem] max2_int min2_int max_two min_two max_three min_three max_four min_four
noncomputable section
/-! ### lampblackref02_Cover: function 34 -/
mutual
def lampblackref02_Cover.l0 : Nat → List Int → Int → Int → Int → Option (Int)
 | 0, _, _, _, _ => none
 | k + 1, x1, x5, x16, x17 => if x17 < x16 then ((lampblackref02_Size.f k x17).bind fun t300 => ((lampblackref02_Size.f k x5).bind fun t301 => (lampblackref02_Cover.l1 k x1 x5 x17 (decide (t300 < t301)) x16 x17 x1 (x1.length : Int) 0))) else (some x5)
def lampblackref02_Cover.l1 : Nat → List Int → Int → Int → Bool → Int → Int → List Int → Int → Int → Option (Int)
 | 0, _, _, _, _, _, _, _, _, _ => none
 | k + 1, x1, x5, x6, x7, x16, x17, x25, x26, x27 => if x27 < x26 then (if 0 ≤ x27 then (if x27 < (x25.length : Int) then (if x7 = true then (lampblackref02_Cover.l1 k x1 x5 x6 ((Go.bits .and .i64 (rd x25 x27) x6) != 0) x16 x17 x25 x26 (wrap64 (x27 + 1))) else (lampblackref02_Cover.l1 k x1 x5 x6 false x16 x17 x25 x26 (wrap64 (x27 + 1)))) else (none)) else (none)) else (if x7 = true then (lampblackref02_Cover.l0 k x1 x6 x16 (wrap64 (x17 + 1))) else (lampblackref02_Cover.l0 k x1 x5 x16 (wrap64 (x17 + 1))))
end
end
end Go.Proofs.YtoffehihicabcaaDoor.X
end
section
namespace Go.Proofs.YtoffehihicabcaaDoor.X
open Go.RowKit YtoffehihicabcaaDoorW.PrintWords YtoffehihicabcaaDoorW.PrintLast YtoffehihicabcaaDoorW.PrintMore
attribute [local go_sem] max2_int min2_int max_two min_two max_three min_three max_four min_four
noncomputable section
/-! ### width_CheckBramble: function 30 -/
end
end Go.Proofs.YtoffehihicabcaaDoor.X
end
section
namespace Go.Proofs.YtoffehihicabcaaDoor.X
open Go.RowKit YtoffehihicabcaaDoorW.PrintWords YtoffehihicabcaaDoorW.PrintLast YtoffehihicabcaaDoorW.PrintMore
attribute [local go_sem] max2_int min2_int max_two min_two max_three min_three max_four min_four
noncomputable section
/-! ### width_Cover: function 32 -/
end
end Go.Proofs.YtoffehihicabcaaDoor.X
end
section
/- Brambles and their covers: the program's word and the reference's are one. -/
namespace Go.Proofs.YtoffehihicabcaaDoor.X
open Go.RowKit YtoffehihicabcaaDoorW.PrintWords YtoffehihicabcaaDoorW.PrintLast YtoffehihicabcaaDoorW.PrintMore YtoffehihicabcaaDoor.T
theorem list_eq (l : List Int) (hl : l.length < 2 ^ 44) : lampblacklaw02_list.f l = some (l.take 210) := by
 have hm : mn (l.length : Int) 210 = ((min l.length 210 : Nat) : Int) := mn_nat l.length 210
 have ht : l.take (min l.length 210) = l.take 210 := by
  by_cases h : l.length ≤ 210
  ·rw [List.take_of_length_le (by omega), List.take_of_length_le h]
  ·rw [show min l.length 210 = 210 by omega]
 unfold lampblacklaw02_list.f slices_Clone_int_int.f
 rw [hm, Int.toNat_natCast, if_pos (by omega), if_pos (by omega), ht]
 simp only [Option.bind_some, List.length_nil, List.nil_append]
 rw [if_pos (by rw [List.length_take]; omega)]
 rfl
end Go.Proofs.YtoffehihicabcaaDoor.X
end
section
/- WidthOrders, without Go and memory: Width and Order return the width and the first order that has it, and Along the width of an order, or the documented error. -/
namespace Go.Proofs.YtoffehihicabcaaDoor.Pure
open Go.RowKit YtoffehihicabcaaDoorW.PrintWords YtoffehihicabcaaDoorW.PrintLast YtoffehihicabcaaDoorW.PrintMore YtoffehihicabcaaDoor.T YtoffehihicabcaaDoor.X
theorem equal_l0 (a b : List Int) (hl : a.length = b.length) (h40 : a.length < 2 ^ 40) : ∀ d i, i + d = a.length → Ev (fun k => slices_Equal_int_int.l0 k a b (a.length : Int) (i : Int)) (decide (a.drop i = b.drop i)) := by
 intro d
 induction d with
 | zero =>
  intro i hi
  refine Ev.step (f := fun _ => some true) (fun k => by rw [slices_Equal_int_int.l0, if_neg (by omega)]) (Ev.some ?_)
  rw [List.drop_eq_nil_of_le (by omega), List.drop_eq_nil_of_le (by omega)]
  rfl
 | succ d ih =>
  intro i hi
  have h1 : i < a.length := by omega
  have h2 : i < b.length := by omega
  have r1 : rd a (i : Int) = a[i] := by unfold rd; rw [Int.toNat_natCast, List.getD_eq_getElem?_getD, List.getElem?_eq_getElem h1]; rfl
  have r2 : rd b (i : Int) = b[i] := by unfold rd; rw [Int.toNat_natCast, List.getD_eq_getElem?_getD, List.getElem?_eq_getElem h2]; rfl
  rw [List.drop_eq_getElem_cons h1, List.drop_eq_getElem_cons h2]
  by_cases e : a[i] = b[i]
  ·refine Ev.step (f := fun k => slices_Equal_int_int.l0 k a b (a.length : Int) ((i + 1 : Nat) : Int)) (fun k => ?_) ?_
   ·rw [slices_Equal_int_int.l0, if_pos (by omega), if_pos (by omega), if_pos (by omega), if_pos (by omega), r1, r2, if_pos e, wrap_succ i (by omega)]
   ·rw [show (decide (a[i] :: a.drop (i + 1) = b[i] :: b.drop (i + 1))) = decide (a.drop (i + 1) = b.drop (i + 1)) from decide_eq_decide.2 ⟨fun h => (List.cons.inj h).2, fun h => by rw [e, h]⟩]
    exact ih (i + 1) (by omega)
  ·refine Ev.step (f := fun _ => some false) (fun k => ?_) (Ev.some (decide_eq_false fun h => e (List.cons.inj h).1).symm)
   rw [slices_Equal_int_int.l0, if_pos (by omega), if_pos (by omega), if_pos (by omega), if_pos (by omega), r1, r2, if_neg e]
theorem equal_ev (a b : List Int) (h40 : a.length < 2 ^ 40) : Ev (fun k => slices_Equal_int_int.f k a b) (decide (a = b)) := by
 unfold slices_Equal_int_int.f
 by_cases hl : a.length = b.length
 ·refine Ev.if_pos (by omega) ?_
  have := equal_l0 a b hl h40 a.length 0 (by omega)
  simpa using this
 ·exact Ev.if_neg (by omega) (Ev.some (by symm; rw [decide_eq_false_iff_not]; exact fun e => hl (by rw [e])))
theorem equal_same (a : List Int) (h40 : a.length < 2 ^ 40) : Ev (fun k => slices_Equal_int_int.f k a a) true := by
 have := equal_ev a a h40
 simpa using this
theorem take_ord {n : Nat} (hn : n ≤ 9) (l : List Int) : IsOrd n (l.take 210) ↔ IsOrd n l := by
 by_cases h : l.length ≤ 210
 ·rw [List.take_of_length_le h]
 ·constructor
  ·intro h2; have := h2.length; rw [List.length_take] at this; omega
  ·intro h2; have := h2.length; omega
theorem orders_law (g l : List Int) (hg : g.length < 2 ^ 44) (hl : l.length < 2 ^ 44) : Ev (fun k => lampblacklaw02_WidthOrders.f k g l) true := by
 obtain ⟨h, e, e1, e2, e3⟩ := few_eq g hg
 have hv := valid_ev g (by omega)
 have hli := list_eq l hl
 have h210 : (l.take 210).length ≤ 210 := by rw [List.length_take]; omega
 unfold lampblacklaw02_WidthOrders.f
 refine Ev.bind1 e ?_
 by_cases hc : chk 9 g = true
 ·obtain ⟨G, rfl, hG⟩ := (chk_iff 9 (by omega) _).1 hc
  rw [e1 hc] at e ⊢
  rw [hc] at hv
  have hn := hG.most
  obtain ⟨W, hW, hWe⟩ := Width_ev G hG
  have hol : (ordL G W).length ≤ 9 := Nat.le_trans (ordD_len hn _ _) hn
  obtain ⟨b, hb, hb2⟩ := isOrder_ev l G.length hn (by omega)
  have hio : Ev (fun k => lampblackref02_IsOrder.f k l (((gi G).length : Nat) : Int)) b := by rw [gi_length]; exact hb
  have main : ∀ r : Int × Int, Ev (fun k => width_Along.f k (gi G) (l.take 210)) r → Ev (fun k => lampblacklaw02_WidthOrders.j0 k (gi G) l r.1 r.2 false) true → Ev (fun k => (width_Width.f k (gi G)).bind fun bt375 => ((lampblacklaw02_Few.f (gi G)).bind fun t377 => ((width_Order.f k t377).bind fun bt380 => ((lampblacklaw02_Few.f (gi G)).bind fun t384 => ((lampblacklaw02_list.f l).bind fun t387 => ((width_Along.f k t384 t387).bind fun bt390 => ((lampblackref02_Valid.f k (gi G)).bind fun t392 => (if t392 = true then ((lampblackref02_Width.f k (gi G)).bind fun t394 => (if bt375.1 = t394 then (if bt375.2 = 0 then ((lampblackref02_Order.f k (gi G)).bind fun t395 => ((slices_Equal_int_int.f k bt380.1 t395).bind fun t398 => (if t398 = true then (if bt380.2 = 0 then ((lampblacklaw02_awake.f k).bind fun t399 => (lampblacklaw02_WidthOrders.j0 k (gi G) l bt390.1 bt390.2 (!t399))) else (lampblacklaw02_WidthOrders.j0 k (gi G) l bt390.1 bt390.2 true)) else (lampblacklaw02_WidthOrders.j0 k (gi G) l bt390.1 bt390.2 true)))) else (lampblacklaw02_WidthOrders.j0 k (gi G) l bt390.1 bt390.2 true)) else (lampblacklaw02_WidthOrders.j0 k (gi G) l bt390.1 bt390.2 true))) else (if bt375.1 = 0 then (if (bt380.1.length : Int) = 0 then (if bt390.1 = 0 then (if bt375.2 = 2 then (if bt380.2 = 2 then (if bt390.2 = 2 then ((lampblacklaw02_awake.f k).bind fun t393 => (some t393)) else (some false)) else (some false)) else (some false)) else (some false)) else (some false)) else (some false)))))))))) true := fun r h1 h2 =>
   Ev.bind hWe (Ev.bind1 e (Ev.bind (Order_ev hG hW) (Ev.bind1 e (Ev.bind1 hli (Ev.bind h1 (Ev.bind hv (Ev.if_pos rfl (Ev.bind (refWidth_ev hG hW) (Ev.if_pos rfl (Ev.if_pos rfl (Ev.bind (refOrder_ev hG hW) (Ev.bind (equal_same _ (by rw [gi_length]; omega)) (Ev.if_pos rfl (Ev.if_pos rfl (Ev.bind awake_ev h2)))))))))))))))
  cases b with
  | true =>
   obtain ⟨P, rfl, q1, q2, q3⟩ := hb2.1 rfl
   have hord : IsOrd G.length (gi P) := ⟨P, rfl, q1, q2, q3⟩
   have ht : (gi P).take 210 = gi P := List.take_of_length_le (by rw [gi_length]; omega)
   refine main _ (by rw [ht]; exact Along_ev hG P hord) ?_
   refine Ev.step (fun k => by rw [lampblacklaw02_WidthOrders.j0, if_neg (by simp)]) (Ev.bind hio (Ev.if_pos rfl (Ev.bind (refAlong_ev hG P q2 (by omega)) (Ev.if_pos rfl (Ev.some rfl)))))
  | false =>
   have hno : ¬ IsOrd G.length (l.take 210) := fun h => by
    have := hb2.2 ((take_ord hn l).1 h)
    cases this
   refine main _ (Along_no hG _ (by omega) hno) ?_
   refine Ev.step (fun k => by rw [lampblacklaw02_WidthOrders.j0, if_neg (by simp)]) (Ev.bind hio (Ev.if_neg Bool.false_ne_true (Ev.if_pos rfl (Ev.some rfl))))
 ·have hc' : chk 9 g = false := by simpa using hc
  rw [hc'] at hv
  exact Ev.bind (Width_bad h (by omega) (e2 hc')) (Ev.bind1 e (Ev.bind (Order_bad h (by omega) (e2 hc')) (Ev.bind1 e (Ev.bind1 hli (Ev.bind (Along_bad h _ (by omega) (e2 hc')) (Ev.bind hv (Ev.if_neg (by simp) (Ev.if_pos rfl (Ev.if_pos rfl (Ev.if_pos rfl (Ev.if_pos rfl (Ev.if_pos rfl (Ev.if_pos rfl (Ev.bind awake_ev (Ev.some rfl)))))))))))))))
theorem WidthOrders : ∀ (l0 l1 : List Int), l0.length ≤ maxLen → l0.length * 8 ≤ 140737488351232 → (∀ x ∈ l0, (Lit.int .i64 x).wf = true) → l1.length ≤ maxLen → l1.length * 8 ≤ 140737488351232 → (∀ x ∈ l1, (Lit.int .i64 x).wf = true) → ∃ k, lampblacklaw02_WidthOrders.f k l0 l1 = some true := by
 intro g l _ hg _ _ hl _
 exact Ev.rounds (orders_law g l (by omega) (by omega))
end Go.Proofs.YtoffehihicabcaaDoor.Pure
end
