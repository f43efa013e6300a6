/- Part 2 of what MinorFound rests on: contracts of the functions that it reaches, and what they compute, in plain words. -/
import Derived.Test.YtjloppfdagfpmaaDoorZMinorFound0
import Derived.Test.YtjloppfdagfpmaaDoorZMinorFound1
set_option linter.unusedVariables false
set_option linter.unusedSimpArgs false
section
namespace Go.Proofs.YtjloppfdagfpmaaDoor.X
open Go.RowKit YtjloppfdagfpmaaDoorW.PrintWords YtjloppfdagfpmaaDoorW.PrintLast YtjloppfdagfpmaaDoorW.PrintMore
attribute [local go_sem] max2_int min2_int max_two min_two max_three min_three max_four min_four
/-! ### lampblacklaw07_MinorFound: function 7 -/
mutual
def lampblacklaw07_MinorFound.j0 : Nat → List Int → List Int → List Int → Int → Int → List Int → Int → Bool → Bool → Option (Bool)
 | 0, _, _, _, _, _, _, _, _, _ => none
 | k + 1, x0, x1, x2, x3, x4, x11, x12, x13, x70 => if x70 = true then (some false) else (if x12 = 0 then ((lampblacklaw07_Few.f x0).bind fun t382 => ((lampblacklaw07_Few.f x1).bind fun t385 => ((minor_Check.f t382 t385 x11).bind fun bt388 => (if bt388.1 = true then (lampblacklaw07_MinorFound.j1 k x0 x1 x2 x3 x4 x11 x12 x13 (bt388.2 != 0)) else (lampblacklaw07_MinorFound.j1 k x0 x1 x2 x3 x4 x11 x12 x13 true))))) else (lampblacklaw07_MinorFound.j4 k x0 x1 x3 x4 x12))
def lampblacklaw07_MinorFound.j4 : Nat → List Int → List Int → Int → Int → Int → Option (Bool)
 | 0, _, _, _, _, _ => none
 | k + 1, x0, x1, x3, x4, x12 => (some (([(([0] : List Int)), (([1] : List Int))] : List (List Int)) : List (List Int))).bind fun y400 => (lampblacklaw07_MinorFound.l2 k x0 x1 x3 x4 x12 y400 (y400.length : Int) 0)
def lampblacklaw07_MinorFound.l2 : Nat → List Int → List Int → Int → Int → Int → List (List Int) → Int → Int → Option (Bool)
 | 0, _, _, _, _, _, _, _, _ => none
 | k + 1, x0, x1, x3, x4, x12, x118, x119, x120 => if x120 < x119 then (if 0 ≤ x120 then (if x120 < (x118.length : Int) then (if 0 < ((rd_L1 x118 x120).length : Int) then (if (rd (rd_L1 x118 x120) 0) = 0 then ((lampblacklaw07_Few.f x0).bind fun t406 => ((minor_Delete.f k t406 x3).bind fun bt409 => (lampblacklaw07_MinorFound.j6 k x0 x1 x3 x4 x12 bt409.1 bt409.2 x118 x119 x120))) else ((lampblacklaw07_Few.f x0).bind fun t413 => ((minor_Contract.f k t413 x3 x4).bind fun bt416 => (lampblacklaw07_MinorFound.j6 k x0 x1 x3 x4 x12 bt416.1 bt416.2 x118 x119 x120)))) else (none)) else (none)) else (none)) else ((lampblacklaw07_awake.f k).bind fun t403 => (some t403))
def lampblacklaw07_MinorFound.j6 : Nat → List Int → List Int → Int → Int → Int → List Int → Int → List (List Int) → Int → Int → Option (Bool)
 | 0, _, _, _, _, _, _, _, _, _, _ => none
 | k + 1, x0, x1, x3, x4, x12, x25, x26, x118, x119, x120 => if x26 = 0 then ((lampblacklaw07_Few.f x1).bind fun t420 => ((lampblacklaw07_has.f x25 t420).bind fun bt423 => (if bt423.2 = true then (if bt423.1 = true then (if x12 = 0 then (lampblacklaw07_MinorFound.l2 k x0 x1 x3 x4 x12 x118 x119 (wrap64 (x120 + 1))) else (some false)) else (lampblacklaw07_MinorFound.l2 k x0 x1 x3 x4 x12 x118 x119 (wrap64 (x120 + 1)))) else (some false)))) else (lampblacklaw07_MinorFound.l2 k x0 x1 x3 x4 x12 x118 x119 (wrap64 (x120 + 1)))
def lampblacklaw07_MinorFound.j1 : Nat → List Int → List Int → List Int → Int → Int → List Int → Int → Bool → Bool → Option (Bool)
 | 0, _, _, _, _, _, _, _, _, _ => none
 | k + 1, x0, x1, x2, x3, x4, x11, x12, x13, x87 => if x87 = true then (some false) else (lampblacklaw07_MinorFound.l0 k x0 x1 x2 x3 x4 x12 x13 0 0 x11 (x11.length : Int) 0)
def lampblacklaw07_MinorFound.l0 : Nat → List Int → List Int → List Int → Int → Int → Int → Bool → Int → Int → List Int → Int → Int → Option (Bool)
 | 0, _, _, _, _, _, _, _, _, _, _, _, _ => none
 | k + 1, x0, x1, x2, x3, x4, x12, x13, x17, x18, x88, x89, x90 => if x90 < x89 then (if 0 ≤ x90 then (if x90 < (x88.length : Int) then (lampblacklaw07_MinorFound.l0 k x0 x1 x2 x3 x4 x12 x13 (Go.bits .or .i64 x17 (rd x88 x90)) x18 x88 x89 (wrap64 (x90 + 1))) else (none)) else (none)) else (lampblacklaw07_MinorFound.l1 k x0 x1 x3 x4 x12 x13 x17 x18 x2 (x2.length : Int) 0)
def lampblacklaw07_MinorFound.l1 : Nat → List Int → List Int → Int → Int → Int → Bool → Int → Int → List Int → Int → Int → Option (Bool)
 | 0, _, _, _, _, _, _, _, _, _, _, _ => none
 | k + 1, x0, x1, x3, x4, x12, x13, x17, x18, x98, x99, x100 => if x100 < x99 then (if 0 ≤ x100 then (if x100 < (x98.length : Int) then (lampblacklaw07_MinorFound.l1 k x0 x1 x3 x4 x12 x13 x17 (Go.bits .or .i64 x18 (rd x98 x100)) x98 x99 (wrap64 (x100 + 1))) else (none)) else (none)) else (if x13 = true then ((lampblackref02_Size.f k x17).bind fun t392 => ((lampblackref02_Size.f k x18).bind fun t393 => (if t392 > t393 then (some false) else (lampblacklaw07_MinorFound.j4 k x0 x1 x3 x4 x12)))) else (lampblacklaw07_MinorFound.j4 k x0 x1 x3 x4 x12))
end
def lampblacklaw07_MinorFound.f (k : Nat) (l0 : List Int) (l1 : List Int) (l2 : List Int) (a3 : Int) (a4 : Int) : Option (Bool) := (lampblacklaw07_Few.f l0).bind fun t360 => ((lampblacklaw07_Few.f l1).bind fun t363 => ((minor_Model.f t360 t363).bind fun bt366 => ((lampblacklaw07_Few.f l0).bind fun t370 => ((lampblacklaw07_Few.f l1).bind fun t373 => ((lampblacklaw07_list.f l2).bind fun t376 => ((minor_Check.f t370 t373 t376).bind fun bt379 => (if bt379.2 = 0 then (if bt379.1 = true then (if bt366.2 = 0 then (lampblacklaw07_MinorFound.j0 k l0 l1 l2 a3 a4 bt366.1 bt366.2 bt379.1 false) else (lampblacklaw07_MinorFound.j0 k l0 l1 l2 a3 a4 bt366.1 bt366.2 bt379.1 true)) else (if bt366.2 = 0 then (lampblacklaw07_MinorFound.j0 k l0 l1 l2 a3 a4 bt366.1 bt366.2 bt379.1 false) else (lampblacklaw07_MinorFound.j0 k l0 l1 l2 a3 a4 bt366.1 bt366.2 bt379.1 (bt366.2 != 4)))) else (if bt366.2 = 2 then (if bt379.2 = 2 then ((lampblacklaw07_awake.f k).bind fun t381 => (some t381)) else (some false)) else (some false)))))))))
set_option maxHeartbeats 8000000 in
set_option maxRecDepth 100000 in
theorem lampblacklaw07_MinorFound.calls (k : Nat) (A0 : Option Addr) (c0 : Nat) (l0 : List Int) (A1 : Option Addr) (c1 : Nat) (l1 : List Int) (A2 : Option Addr) (c2 : Nat) (l2 : List Int) (a3 : Int) (a4 : Int) (r : Bool) (w : World) (hGL : GL w) (hr0 : Kd.C (Kd.int .i64) w A0 l0.length l0) (hc0 : l0.length ≤ c0) (hr1 : Kd.C (Kd.int .i64) w A1 l1.length l1) (hc1 : l1.length ≤ c1) (hr2 : Kd.C (Kd.int .i64) w A2 l2.length l2) (hc2 : l2.length ≤ c2) (h : lampblacklaw07_MinorFound.f k l0 l1 l2 a3 a4 = some r) :
  Calls Tryd.prog 7 #[.slice A0 l0.length c0, .slice A1 l1.length c1, .slice A2 l2.length c2, .int .i64 a3, .int .i64 a4] w fun e w' => e = .returned (.bool r) ∧ Below w.heap.size w w' := by
 have HGL := Aside0.mk hGL
 clear hGL
 have HR0 := Aside0.mk hr0
 have HC0 := Aside0.mk hc0
 clear hr0 hc0
 have HR1 := Aside0.mk hr1
 have HC1 := Aside0.mk hc1
 clear hr1 hc1
 have HR2 := Aside0.mk hr2
 have HC2 := Aside0.mk hc2
 clear hr2 hc2
 have HB := Aside0.mk (Below.refl w.heap.size w)
 have H : ((lampblacklaw07_Few.f l0).bind fun t360 => ((lampblacklaw07_Few.f l1).bind fun t363 => ((minor_Model.f t360 t363).bind fun bt366 => ((lampblacklaw07_Few.f l0).bind fun t370 => ((lampblacklaw07_Few.f l1).bind fun t373 => ((lampblacklaw07_list.f l2).bind fun t376 => ((minor_Check.f t370 t373 t376).bind fun bt379 => (if bt379.2 = 0 then (if bt379.1 = true then (if bt366.2 = 0 then (lampblacklaw07_MinorFound.j0 k l0 l1 l2 a3 a4 bt366.1 bt366.2 bt379.1 false) else (lampblacklaw07_MinorFound.j0 k l0 l1 l2 a3 a4 bt366.1 bt366.2 bt379.1 true)) else (if bt366.2 = 0 then (lampblacklaw07_MinorFound.j0 k l0 l1 l2 a3 a4 bt366.1 bt366.2 bt379.1 false) else (lampblacklaw07_MinorFound.j0 k l0 l1 l2 a3 a4 bt366.1 bt366.2 bt379.1 (bt366.2 != 4)))) else (if bt366.2 = 2 then (if bt379.2 = 2 then ((lampblacklaw07_awake.f k).bind fun t381 => (some t381)) else (some false)) else (some false)))))))))) = some r := h
 clear h
 replace H := Option.bind_eq_some_iff.mp H
 obtain ⟨t360, A60, H⟩ := H
 replace H : ((lampblacklaw07_Few.f l1).bind fun t363 => ((minor_Model.f t360 t363).bind fun bt366 => ((lampblacklaw07_Few.f l0).bind fun t370 => ((lampblacklaw07_Few.f l1).bind fun t373 => ((lampblacklaw07_list.f l2).bind fun t376 => ((minor_Check.f t370 t373 t376).bind fun bt379 => (if bt379.2 = 0 then (if bt379.1 = true then (if bt366.2 = 0 then (lampblacklaw07_MinorFound.j0 k l0 l1 l2 a3 a4 bt366.1 bt366.2 bt379.1 false) else (lampblacklaw07_MinorFound.j0 k l0 l1 l2 a3 a4 bt366.1 bt366.2 bt379.1 true)) else (if bt366.2 = 0 then (lampblacklaw07_MinorFound.j0 k l0 l1 l2 a3 a4 bt366.1 bt366.2 bt379.1 false) else (lampblacklaw07_MinorFound.j0 k l0 l1 l2 a3 a4 bt366.1 bt366.2 bt379.1 (bt366.2 != 4)))) else (if bt366.2 = 2 then (if bt379.2 = 2 then ((lampblacklaw07_awake.f k).bind fun t381 => (some t381)) else (some false)) else (some false))))))))) = some r := H
 have A6 := Aside0.mk A60
 clear A60
 replace H := Option.bind_eq_some_iff.mp H
 obtain ⟨t363, A70, H⟩ := H
 replace H : ((minor_Model.f t360 t363).bind fun bt366 => ((lampblacklaw07_Few.f l0).bind fun t370 => ((lampblacklaw07_Few.f l1).bind fun t373 => ((lampblacklaw07_list.f l2).bind fun t376 => ((minor_Check.f t370 t373 t376).bind fun bt379 => (if bt379.2 = 0 then (if bt379.1 = true then (if bt366.2 = 0 then (lampblacklaw07_MinorFound.j0 k l0 l1 l2 a3 a4 bt366.1 bt366.2 bt379.1 false) else (lampblacklaw07_MinorFound.j0 k l0 l1 l2 a3 a4 bt366.1 bt366.2 bt379.1 true)) else (if bt366.2 = 0 then (lampblacklaw07_MinorFound.j0 k l0 l1 l2 a3 a4 bt366.1 bt366.2 bt379.1 false) else (lampblacklaw07_MinorFound.j0 k l0 l1 l2 a3 a4 bt366.1 bt366.2 bt379.1 (bt366.2 != 4)))) else (if bt366.2 = 2 then (if bt379.2 = 2 then ((lampblacklaw07_awake.f k).bind fun t381 => (some t381)) else (some false)) else (some false)))))))) = some r := H
 have A7 := Aside0.mk A70
 clear A70
 replace H := Option.bind_eq_some_iff.mp H
 obtain ⟨⟨t366, t367⟩, A80, H⟩ := H
 replace H : ((lampblacklaw07_Few.f l0).bind fun t370 => ((lampblacklaw07_Few.f l1).bind fun t373 => ((lampblacklaw07_list.f l2).bind fun t376 => ((minor_Check.f t370 t373 t376).bind fun bt379 => (if bt379.2 = 0 then (if bt379.1 = true then (if t367 = 0 then (lampblacklaw07_MinorFound.j0 k l0 l1 l2 a3 a4 t366 t367 bt379.1 false) else (lampblacklaw07_MinorFound.j0 k l0 l1 l2 a3 a4 t366 t367 bt379.1 true)) else (if t367 = 0 then (lampblacklaw07_MinorFound.j0 k l0 l1 l2 a3 a4 t366 t367 bt379.1 false) else (lampblacklaw07_MinorFound.j0 k l0 l1 l2 a3 a4 t366 t367 bt379.1 (t367 != 4)))) else (if t367 = 2 then (if bt379.2 = 2 then ((lampblacklaw07_awake.f k).bind fun t381 => (some t381)) else (some false)) else (some false))))))) = some r := H
 have A8 := Aside0.mk A80
 clear A80
 replace H := Option.bind_eq_some_iff.mp H
 obtain ⟨t370, A90, H⟩ := H
 replace H : ((lampblacklaw07_Few.f l1).bind fun t373 => ((lampblacklaw07_list.f l2).bind fun t376 => ((minor_Check.f t370 t373 t376).bind fun bt379 => (if bt379.2 = 0 then (if bt379.1 = true then (if t367 = 0 then (lampblacklaw07_MinorFound.j0 k l0 l1 l2 a3 a4 t366 t367 bt379.1 false) else (lampblacklaw07_MinorFound.j0 k l0 l1 l2 a3 a4 t366 t367 bt379.1 true)) else (if t367 = 0 then (lampblacklaw07_MinorFound.j0 k l0 l1 l2 a3 a4 t366 t367 bt379.1 false) else (lampblacklaw07_MinorFound.j0 k l0 l1 l2 a3 a4 t366 t367 bt379.1 (t367 != 4)))) else (if t367 = 2 then (if bt379.2 = 2 then ((lampblacklaw07_awake.f k).bind fun t381 => (some t381)) else (some false)) else (some false)))))) = some r := H
 have A9 := Aside0.mk A90
 clear A90
 replace H := Option.bind_eq_some_iff.mp H
 obtain ⟨t373, A100, H⟩ := H
 replace H : ((lampblacklaw07_list.f l2).bind fun t376 => ((minor_Check.f t370 t373 t376).bind fun bt379 => (if bt379.2 = 0 then (if bt379.1 = true then (if t367 = 0 then (lampblacklaw07_MinorFound.j0 k l0 l1 l2 a3 a4 t366 t367 bt379.1 false) else (lampblacklaw07_MinorFound.j0 k l0 l1 l2 a3 a4 t366 t367 bt379.1 true)) else (if t367 = 0 then (lampblacklaw07_MinorFound.j0 k l0 l1 l2 a3 a4 t366 t367 bt379.1 false) else (lampblacklaw07_MinorFound.j0 k l0 l1 l2 a3 a4 t366 t367 bt379.1 (t367 != 4)))) else (if t367 = 2 then (if bt379.2 = 2 then ((lampblacklaw07_awake.f k).bind fun t381 => (some t381)) else (some false)) else (some false))))) = some r := H
 have A10 := Aside0.mk A100
 clear A100
 replace H := Option.bind_eq_some_iff.mp H
 obtain ⟨t376, A110, H⟩ := H
 replace H : ((minor_Check.f t370 t373 t376).bind fun bt379 => (if bt379.2 = 0 then (if bt379.1 = true then (if t367 = 0 then (lampblacklaw07_MinorFound.j0 k l0 l1 l2 a3 a4 t366 t367 bt379.1 false) else (lampblacklaw07_MinorFound.j0 k l0 l1 l2 a3 a4 t366 t367 bt379.1 true)) else (if t367 = 0 then (lampblacklaw07_MinorFound.j0 k l0 l1 l2 a3 a4 t366 t367 bt379.1 false) else (lampblacklaw07_MinorFound.j0 k l0 l1 l2 a3 a4 t366 t367 bt379.1 (t367 != 4)))) else (if t367 = 2 then (if bt379.2 = 2 then ((lampblacklaw07_awake.f k).bind fun t381 => (some t381)) else (some false)) else (some false)))) = some r := H
 have A11 := Aside0.mk A110
 clear A110
 replace H := Option.bind_eq_some_iff.mp H
 obtain ⟨⟨t379, t380⟩, A120, H⟩ := H
 replace H : (if t380 = 0 then (if t379 = true then (if t367 = 0 then (lampblacklaw07_MinorFound.j0 k l0 l1 l2 a3 a4 t366 t367 t379 false) else (lampblacklaw07_MinorFound.j0 k l0 l1 l2 a3 a4 t366 t367 t379 true)) else (if t367 = 0 then (lampblacklaw07_MinorFound.j0 k l0 l1 l2 a3 a4 t366 t367 t379 false) else (lampblacklaw07_MinorFound.j0 k l0 l1 l2 a3 a4 t366 t367 t379 (t367 != 4)))) else (if t367 = 2 then (if t380 = 2 then ((lampblacklaw07_awake.f k).bind fun t381 => (some t381)) else (some false)) else (some false))) = some r := H
 have A12 := Aside0.mk A120
 clear A120
 by_cases c13 : t380 = 0
 ·rw [if_pos c13] at H
  have c13b0 : (t380 == 0) = true := beq_iff_eq.mpr c13
  have c13b1 : (t380 != 0) = false := bne_eq_false_iff_eq.mpr c13
  clear c13
  have HC14 := Aside0.mk H
  clear H
  go_enter Tryd.func7, Tryd.ntmps7
  go_upto_region 5 with (first | ((with_reducible refine gate_callee (f := 22) rfl ?_); refine goesL_ (some 31) rfl rfl Tryd.func22 (by kernel_rfl) rfl #[.slice A0 l0.length c0] rfl (Qls) ?_; (with_reducible refine (lampblacklaw07_Few.calls _ _ l0 t360 _ ?side1 ?side2 A6.out).mono ?_); (case side1 => exact Qsc HR0.out); (case side2 => exact HC0.out); rintro e w15 ⟨v361, rfl, ho0, hb⟩; refine ⟨_, rfl, ?_⟩; have n0_ := Aside0.mk (Kd.R_lower ho0 (below_size (Qaw))); have n1_ := Aside0.mk (below_step (Qaw) hb); clear HB; have HO362 := n0_; have HB := n1_; clear n0_ n1_; (try clear hb); (try clear hb2); (try clear hk); (try clear hi); (try clear ho0)) | ((with_reducible refine gate_callee (f := 22) rfl ?_); refine goesL_ (some 33) rfl rfl Tryd.func22 (by kernel_rfl) rfl #[.slice A1 l1.length c1] rfl (Qls) ?_; (with_reducible refine (lampblacklaw07_Few.calls _ _ l1 t363 _ ?side1 ?side2 A7.out).mono ?_); (case side1 => exact Qsc (Kd.C_below HR1.out HB.out)); (case side2 => exact HC1.out); rintro e w16 ⟨v364, rfl, ho0, hb⟩; refine ⟨_, rfl, ?_⟩; have n0_ := Aside0.mk (Kd.R_elder' (Qro HO362.out) (Kd.R_base ho0) hb); have n1_ := Aside0.mk (Kd.R_lower (Kd.R_new' ho0 (Kd.R_lt (Qro HO362.out))) (below_size (Qaw))); have n2_ := Aside0.mk (below_step (Qaw) hb); clear HO362; clear HB; have HO362 := n0_; have HO365 := n1_; have HB := n2_; clear n0_ n1_ n2_; (try clear hb); (try clear hb2); (try clear hk); (try clear hi); (try clear ho0); obtain ⟨Ao17, co17, eo17⟩ := Kd.R_slice HO362.out; subst eo17; obtain ⟨Ao18, co18, eo18⟩ := Kd.R_slice HO365.out; subst eo18) | ((with_reducible refine gate_callee (f := 21) rfl ?_); refine goesL_ (some 34) rfl rfl Tryd.func21 (by kernel_rfl) rfl #[.slice Ao17 t360.length co17, .slice Ao18 t363.length co18] rfl (Qls) ?_; (with_reducible refine (minor_Model.calls (hGL := (Qlg)) _ _ t360 _ _ t363 t366 t367 _ ?side1 ?side2 ?side3 ?side4 A8.out).mono ?_); (case side1 => exact Qsc (Kd.R_reads' HO362.out).2.2); (case side2 => exact (Kd.R_reads' HO362.out).2.1); (case side3 => exact Qsc (Kd.R_reads' HO365.out).2.2); (case side4 => exact (Kd.R_reads' HO365.out).2.1); rintro e w19 ⟨v368, rfl, ho0, hb⟩; refine ⟨_, rfl, ?_⟩; have n0_ := Aside0.mk (Kd.R_elder' (Qro HO362.out) (Kd.R_base ho0) hb); have n1_ := Aside0.mk (Kd.R_elder' (Qro HO365.out) (Kd.R_base ho0) hb); have n2_ := Aside0.mk (Kd.R_lower (Kd.R_new' (Kd.R_new' ho0 (Kd.R_lt (Qro HO362.out))) (Kd.R_lt (Qro HO365.out))) (below_size (Qaw))); have n3_ := Aside0.mk (below_step (Qaw) hb); clear HO362; clear HO365; clear HB; have HO362 := n0_; have HO365 := n1_; have HO369 := n2_; have HB := n3_; clear n0_ n1_ n2_ n3_; (try clear hb); (try clear hb2); (try clear hk); (try clear hi); (try clear ho0)) | ((with_reducible refine gate_callee (f := 22) rfl ?_); refine goesL_ (some 39) rfl rfl Tryd.func22 (by kernel_rfl) rfl #[.slice A0 l0.length c0] rfl (Qls) ?_; (with_reducible refine (lampblacklaw07_Few.calls _ _ l0 t370 _ ?side1 ?side2 A9.out).mono ?_); (case side1 => exact Qsc (Kd.C_below HR0.out HB.out)); (case side2 => exact HC0.out); rintro e w20 ⟨v371, rfl, ho0, hb⟩; refine ⟨_, rfl, ?_⟩; have n0_ := Aside0.mk (Kd.R_elder' (Qro HO362.out) (Kd.R_base ho0) hb); have n1_ := Aside0.mk (Kd.R_elder' (Qro HO365.out) (Kd.R_base ho0) hb); have n2_ := Aside0.mk (Kd.R_elder' (Qro HO369.out) (Kd.R_base ho0) hb); have n3_ := Aside0.mk (Kd.R_lower (Kd.R_new' (Kd.R_new' (Kd.R_new' ho0 (Kd.R_lt (Qro HO362.out))) (Kd.R_lt (Qro HO365.out))) (Kd.R_lt (Qro HO369.out))) (below_size (Qaw))); have n4_ := Aside0.mk (below_step (Qaw) hb); clear HO362; clear HO365; clear HO369; clear HB; have HO362 := n0_; have HO365 := n1_; have HO369 := n2_; have HO372 := n3_; have HB := n4_; clear n0_ n1_ n2_ n3_ n4_; (try clear hb); (try clear hb2); (try clear hk); (try clear hi); (try clear ho0)) | ((with_reducible refine gate_callee (f := 22) rfl ?_); refine goesL_ (some 41) rfl rfl Tryd.func22 (by kernel_rfl) rfl #[.slice A1 l1.length c1] rfl (Qls) ?_; (with_reducible refine (lampblacklaw07_Few.calls _ _ l1 t373 _ ?side1 ?side2 A10.out).mono ?_); (case side1 => exact Qsc (Kd.C_below HR1.out HB.out)); (case side2 => exact HC1.out); rintro e w21 ⟨v374, rfl, ho0, hb⟩; refine ⟨_, rfl, ?_⟩; have n0_ := Aside0.mk (Kd.R_elder' (Qro HO362.out) (Kd.R_base ho0) hb); have n1_ := Aside0.mk (Kd.R_elder' (Qro HO365.out) (Kd.R_base ho0) hb); have n2_ := Aside0.mk (Kd.R_elder' (Qro HO369.out) (Kd.R_base ho0) hb); have n3_ := Aside0.mk (Kd.R_elder' (Qro HO372.out) (Kd.R_base ho0) hb); have n4_ := Aside0.mk (Kd.R_lower (Kd.R_new' (Kd.R_new' (Kd.R_new' (Kd.R_new' ho0 (Kd.R_lt (Qro HO362.out))) (Kd.R_lt (Qro HO365.out))) (Kd.R_lt (Qro HO369.out))) (Kd.R_lt (Qro HO372.out))) (below_size (Qaw))); have n5_ := Aside0.mk (below_step (Qaw) hb); clear HO362; clear HO365; clear HO369; clear HO372; clear HB; have HO362 := n0_; have HO365 := n1_; have HO369 := n2_; have HO372 := n3_; have HO375 := n4_; have HB := n5_; clear n0_ n1_ n2_ n3_ n4_ n5_; (try clear hb); (try clear hb2); (try clear hk); (try clear hi); (try clear ho0)) | ((with_reducible refine gate_callee (f := 24) rfl ?_); refine goesL_ (some 43) rfl rfl Tryd.func24 (by kernel_rfl) rfl #[.slice A2 l2.length c2] rfl (Qls) ?_; (with_reducible refine (lampblacklaw07_list.calls _ _ l2 t376 _ ?side1 ?side2 A11.out).mono ?_); (case side1 => exact Qsc (Kd.C_below HR2.out HB.out)); (case side2 => exact HC2.out); rintro e w22 ⟨v377, rfl, ho0, hb⟩; refine ⟨_, rfl, ?_⟩; have n0_ := Aside0.mk (Kd.R_elder' (Qro HO362.out) (Kd.R_base ho0) hb); have n1_ := Aside0.mk (Kd.R_elder' (Qro HO365.out) (Kd.R_base ho0) hb); have n2_ := Aside0.mk (Kd.R_elder' (Qro HO369.out) (Kd.R_base ho0) hb); have n3_ := Aside0.mk (Kd.R_elder' (Qro HO372.out) (Kd.R_base ho0) hb); have n4_ := Aside0.mk (Kd.R_elder' (Qro HO375.out) (Kd.R_base ho0) hb); have n5_ := Aside0.mk (Kd.R_lower (Kd.R_new' (Kd.R_new' (Kd.R_new' (Kd.R_new' (Kd.R_new' ho0 (Kd.R_lt (Qro HO362.out))) (Kd.R_lt (Qro HO365.out))) (Kd.R_lt (Qro HO369.out))) (Kd.R_lt (Qro HO372.out))) (Kd.R_lt (Qro HO375.out))) (below_size (Qaw))); have n6_ := Aside0.mk (below_step (Qaw) hb); clear HO362; clear HO365; clear HO369; clear HO372; clear HO375; clear HB; have HO362 := n0_; have HO365 := n1_; have HO369 := n2_; have HO372 := n3_; have HO375 := n4_; have HO378 := n5_; have HB := n6_; clear n0_ n1_ n2_ n3_ n4_ n5_ n6_; (try clear hb); (try clear hb2); (try clear hk); (try clear hi); (try clear ho0); obtain ⟨Ao23, co23, eo23⟩ := Kd.R_slice HO372.out; subst eo23; obtain ⟨Ao24, co24, eo24⟩ := Kd.R_slice HO375.out; subst eo24; obtain ⟨Ao25, co25, eo25⟩ := Kd.R_slice HO378.out; subst eo25) | ((with_reducible refine gate_callee (f := 23) rfl ?_); refine goesL_ (some 44) rfl rfl Tryd.func23 (by kernel_rfl) rfl #[.slice Ao23 t370.length co23, .slice Ao24 t373.length co24, .slice Ao25 t376.length co25] rfl (Qls) ?_; (with_reducible refine (minor_Check.calls (hGL := (Qlg)) _ _ t370 _ _ t373 _ _ t376 t379 t380 _ ?side1 ?side2 ?side3 ?side4 ?side5 ?side6 A12.out).mono ?_); (case side1 => exact Qsc (Kd.R_reads' HO372.out).2.2); (case side2 => exact (Kd.R_reads' HO372.out).2.1); (case side3 => exact Qsc (Kd.R_reads' HO375.out).2.2); (case side4 => exact (Kd.R_reads' HO375.out).2.1); (case side5 => exact Qsc (Kd.R_reads' HO378.out).2.2); (case side6 => exact (Kd.R_reads' HO378.out).2.1); rintro e w26 ⟨rfl, hb⟩; refine ⟨_, rfl, ?_⟩; have n0_ := Aside0.mk (Kd.R_below (Qro HO362.out) hb); have n1_ := Aside0.mk (Kd.R_below (Qro HO365.out) hb); have n2_ := Aside0.mk (Kd.R_below (Qro HO369.out) hb); have n3_ := Aside0.mk (Kd.R_below (Qro HO372.out) hb); have n4_ := Aside0.mk (Kd.R_below (Qro HO375.out) hb); have n5_ := Aside0.mk (Kd.R_below (Qro HO378.out) hb); have n6_ := Aside0.mk (below_step (Qaw) hb); clear HO362; clear HO365; clear HO369; clear HO372; clear HO375; clear HO378; clear HB; have HO362 := n0_; have HO365 := n1_; have HO369 := n2_; have HO372 := n3_; have HO375 := n4_; have HO378 := n5_; have HB := n6_; clear n0_ n1_ n2_ n3_ n4_ n5_ n6_; (try clear hb); (try clear hb2); (try clear hk); (try clear hi)))
  (try simp only [Act.put, List.setIfInBounds_toArray, List.set_cons_zero, List.set_cons_succ])
  go_cut [70] (fun v70 wc => ∃ (kq : Nat) (x70_13 : Bool), v70 = .bool x70_13 ∧ Aside0 (lampblacklaw07_MinorFound.j0 kq l0 l1 l2 a3 a4 t366 t367 t379 x70_13 = some r) ∧ Aside0 (kq ≤ k) ∧ Aside0 (Kd.R (Kd.int .i64) 3 wc w.heap.size (fun _ => True) v368 t366) ∧ Aside0 (Below w.heap.size w wc))
  case first =>
   have H := HC14.out
   clear HC14
   by_cases c27 : t379 = true
   ·subst c27
    have H1 : (if t367 = 0 then (lampblacklaw07_MinorFound.j0 k l0 l1 l2 a3 a4 t366 t367 true false) else (lampblacklaw07_MinorFound.j0 k l0 l1 l2 a3 a4 t366 t367 true true)) = some r := by rw [if_pos rfl] at H; exact H
    clear H
    have H := H1
    clear H1
    by_cases c28 : t367 = 0
    ·rw [if_pos c28] at H
     have c28b0 : (t367 == 0) = true := beq_iff_eq.mpr c28
     have c28b1 : (t367 != 0) = false := bne_eq_false_iff_eq.mpr c28
     clear c28
     (first | rw [c28b0] | (simp only [i64_w, i32_w]; rw [c28b0]) | skip)
     have H' := Aside0.mk H
     clear H
     go_wp2
     go_meet
     case rel => exact ⟨_, (false), (by first | rfl | (simp; done) | (simp [*]; done)), H', ⟨by first | omega | exact Nat.le_refl _⟩, ⟨by (with_reducible repeat (first | apply Kd.R_alloc | apply Kd.R_drewN | apply Kd.R_drew)); exact Kd.R_mono HO369.out (fun _ hk => trivial)⟩, ⟨by repeat (first | (with_reducible first | exact HB.out | apply below_alloc | apply pw_below_drewN | apply below_drew1) | exact HB.out)⟩⟩
    ·rw [if_neg c28] at H
     have c28b0 : (t367 == 0) = false := beq_eq_false_iff_ne.mpr c28
     have c28b1 : (t367 != 0) = true := bne_iff_ne.mpr c28
     (first | rw [c28b0] | (simp only [i64_w, i32_w]; rw [c28b0]) | skip)
     have H' := Aside0.mk H
     clear H
     go_wp2
     go_meet
     case rel => exact ⟨_, (true), (by first | rfl | (simp; done) | (simp [*]; done)), H', ⟨by first | omega | exact Nat.le_refl _⟩, ⟨by (with_reducible repeat (first | apply Kd.R_alloc | apply Kd.R_drewN | apply Kd.R_drew)); exact Kd.R_mono HO369.out (fun _ hk => trivial)⟩, ⟨by repeat (first | (with_reducible first | exact HB.out | apply below_alloc | apply pw_below_drewN | apply below_drew1) | exact HB.out)⟩⟩
   ·replace c27 := Bool.eq_false_iff.mpr c27
    subst c27
    have H1 : (if t367 = 0 then (lampblacklaw07_MinorFound.j0 k l0 l1 l2 a3 a4 t366 t367 false false) else (lampblacklaw07_MinorFound.j0 k l0 l1 l2 a3 a4 t366 t367 false (t367 != 4))) = some r := by rw [if_neg (show ¬ (false = true) by decide)] at H; exact H
    clear H
    have H := H1
    clear H1
    by_cases c29 : t367 = 0
    ·rw [if_pos c29] at H
     have c29b0 : (t367 == 0) = true := beq_iff_eq.mpr c29
     have c29b1 : (t367 != 0) = false := bne_eq_false_iff_eq.mpr c29
     clear c29
     have H' := Aside0.mk H
     clear H
     go_wp2
     go_meet
     case rel => exact ⟨_, (false), (by first | rfl | (simp; done) | (simp [*]; done)), H', ⟨by first | omega | exact Nat.le_refl _⟩, ⟨by (with_reducible repeat (first | apply Kd.R_alloc | apply Kd.R_drewN | apply Kd.R_drew)); exact Kd.R_mono HO369.out (fun _ hk => trivial)⟩, ⟨by repeat (first | (with_reducible first | exact HB.out | apply below_alloc | apply pw_below_drewN | apply below_drew1) | exact HB.out)⟩⟩
    ·rw [if_neg c29] at H
     have c29b0 : (t367 == 0) = false := beq_eq_false_iff_ne.mpr c29
     have c29b1 : (t367 != 0) = true := bne_iff_ne.mpr c29
     have H' := Aside0.mk H
     clear H
     go_wp2
     go_meet
     case rel => exact ⟨_, ((t367 != 4)), (by first | rfl | (simp; done) | (simp [*]; done)), H', ⟨by first | omega | exact Nat.le_refl _⟩, ⟨by (with_reducible repeat (first | apply Kd.R_alloc | apply Kd.R_drewN | apply Kd.R_drew)); exact Kd.R_mono HO369.out (fun _ hk => trivial)⟩, ⟨by repeat (first | (with_reducible first | exact HB.out | apply below_alloc | apply pw_below_drewN | apply below_drew1) | exact HB.out)⟩⟩
  case rest =>
   clear HC14
   try clear c1
   try clear c2
   try clear p2
   try clear c7
   try clear c13
   try clear c13b0
   try clear c13b1
   try clear c21
   try clear c22
   try clear c23
   try clear c24
   try clear c27
   try clear c28
   try clear c28b0
   try clear c28b1
   try clear c29
   try clear c29b0
   try clear c29b1
   obtain ⟨kq, x70_13, rfl, HA, HJ13, HO_11, HB⟩ := hcut
   cases kq with
   | zero => exact absurd HA.out (by simp [lampblacklaw07_MinorFound.j0])
   | succ kj13 =>
    have H := HA.out
    clear HA
    simp only [lampblacklaw07_MinorFound.j0] at H
    by_cases c30 : x70_13 = true
    ·subst c30
     have H1 : (some false) = some r := by rw [if_pos rfl] at H; exact H
     clear H
     have H := H1
     clear H1
     obtain rfl := Option.some.inj H
     go_wp2
     go_ret
     exact ⟨by first | rfl | (simp [errW_none, errW_some] <;> rfl) | (simp [*, errW_none, errW_some] <;> rfl), by repeat (first | (with_reducible first | exact HB.out | apply below_alloc | apply pw_below_drewN | apply below_drew1) | exact HB.out)⟩
    ·replace c30 := Bool.eq_false_iff.mpr c30
     subst c30
     have H1 : (if t367 = 0 then ((lampblacklaw07_Few.f l0).bind fun t382 => ((lampblacklaw07_Few.f l1).bind fun t385 => ((minor_Check.f t382 t385 t366).bind fun bt388 => (if bt388.1 = true then (lampblacklaw07_MinorFound.j1 kj13 l0 l1 l2 a3 a4 t366 t367 t379 (bt388.2 != 0)) else (lampblacklaw07_MinorFound.j1 kj13 l0 l1 l2 a3 a4 t366 t367 t379 true))))) else (lampblacklaw07_MinorFound.j4 kj13 l0 l1 a3 a4 t367)) = some r := by rw [if_neg (show ¬ (false = true) by decide)] at H; exact H
     clear H
     have H := H1
     clear H1
     have HC31 := Aside0.mk H
     clear H
     go_upto_if 72 with (fail)
     go_cut [] (fun wc => ∃ (kq : Nat), Aside0 (lampblacklaw07_MinorFound.j4 kq l0 l1 a3 a4 t367 = some r) ∧ Aside0 (kq ≤ kj13) ∧ Aside0 (Below w.heap.size w wc))
     case first =>
      have H := HC31.out
      clear HC31
      by_cases c32 : t367 = 0
      ·rw [if_pos c32] at H
       have c32b0 : (t367 == 0) = true := beq_iff_eq.mpr c32
       have c32b1 : (t367 != 0) = false := bne_eq_false_iff_eq.mpr c32
       clear c32
       (first | rw [c32b0] | (simp only [i64_w, i32_w]; rw [c32b0]) | skip)
       replace H := Option.bind_eq_some_iff.mp H
       obtain ⟨t382, A330, H⟩ := H
       replace H : ((lampblacklaw07_Few.f l1).bind fun t385 => ((minor_Check.f t382 t385 t366).bind fun bt388 => (if bt388.1 = true then (lampblacklaw07_MinorFound.j1 kj13 l0 l1 l2 a3 a4 t366 t367 t379 (bt388.2 != 0)) else (lampblacklaw07_MinorFound.j1 kj13 l0 l1 l2 a3 a4 t366 t367 t379 true)))) = some r := H
       have A33 := Aside0.mk A330
       clear A330
       replace H := Option.bind_eq_some_iff.mp H
       obtain ⟨t385, A340, H⟩ := H
       replace H : ((minor_Check.f t382 t385 t366).bind fun bt388 => (if bt388.1 = true then (lampblacklaw07_MinorFound.j1 kj13 l0 l1 l2 a3 a4 t366 t367 t379 (bt388.2 != 0)) else (lampblacklaw07_MinorFound.j1 kj13 l0 l1 l2 a3 a4 t366 t367 t379 true))) = some r := H
       have A34 := Aside0.mk A340
       clear A340
       replace H := Option.bind_eq_some_iff.mp H
       obtain ⟨⟨t388, t389⟩, A350, H⟩ := H
       replace H : (if t388 = true then (lampblacklaw07_MinorFound.j1 kj13 l0 l1 l2 a3 a4 t366 t367 t379 (t389 != 0)) else (lampblacklaw07_MinorFound.j1 kj13 l0 l1 l2 a3 a4 t366 t367 t379 true)) = some r := H
       have A35 := Aside0.mk A350
       clear A350
       have HC36 := Aside0.mk H
       clear H
       go_upto_region 9 with (first | ((with_reducible refine gate_callee (f := 22) rfl ?_); refine goesL_ (some 75) rfl rfl Tryd.func22 (by kernel_rfl) rfl #[.slice A0 l0.length c0] rfl (Qls) ?_; (with_reducible refine (lampblacklaw07_Few.calls _ _ l0 t382 _ ?side1 ?side2 A33.out).mono ?_); (case side1 => exact Qsc (Kd.C_below HR0.out HB.out)); (case side2 => exact HC0.out); rintro e w37 ⟨v383, rfl, ho0, hb⟩; refine ⟨_, rfl, ?_⟩; have n0_ := Aside0.mk (Kd.R_elder' (Qro HO_11.out) (Kd.R_base ho0) hb); have n1_ := Aside0.mk (Kd.R_lower (Kd.R_new' ho0 (Kd.R_lt (Qro HO_11.out))) (below_size (Qaw))); have n2_ := Aside0.mk (below_step (Qaw) hb); clear HO_11; clear HB; have HO_11 := n0_; have HO384 := n1_; have HB := n2_; clear n0_ n1_ n2_; (try clear hb); (try clear hb2); (try clear hk); (try clear hi); (try clear ho0)) | ((with_reducible refine gate_callee (f := 22) rfl ?_); refine goesL_ (some 77) rfl rfl Tryd.func22 (by kernel_rfl) rfl #[.slice A1 l1.length c1] rfl (Qls) ?_; (with_reducible refine (lampblacklaw07_Few.calls _ _ l1 t385 _ ?side1 ?side2 A34.out).mono ?_); (case side1 => exact Qsc (Kd.C_below HR1.out HB.out)); (case side2 => exact HC1.out); rintro e w38 ⟨v386, rfl, ho0, hb⟩; refine ⟨_, rfl, ?_⟩; have n0_ := Aside0.mk (Kd.R_elder' (Qro HO_11.out) (Kd.R_base ho0) hb); have n1_ := Aside0.mk (Kd.R_elder' (Qro HO384.out) (Kd.R_base ho0) hb); have n2_ := Aside0.mk (Kd.R_lower (Kd.R_new' (Kd.R_new' ho0 (Kd.R_lt (Qro HO_11.out))) (Kd.R_lt (Qro HO384.out))) (below_size (Qaw))); have n3_ := Aside0.mk (below_step (Qaw) hb); clear HO_11; clear HO384; clear HB; have HO_11 := n0_; have HO384 := n1_; have HO387 := n2_; have HB := n3_; clear n0_ n1_ n2_ n3_; (try clear hb); (try clear hb2); (try clear hk); (try clear hi); (try clear ho0); obtain ⟨Ao39, co39, eo39⟩ := Kd.R_slice HO384.out; subst eo39; obtain ⟨Ao40, co40, eo40⟩ := Kd.R_slice HO387.out; subst eo40; obtain ⟨Ao41, co41, eo41⟩ := Kd.R_slice HO_11.out; subst eo41) | ((with_reducible refine gate_callee (f := 23) rfl ?_); refine goesL_ (some 79) rfl rfl Tryd.func23 (by kernel_rfl) rfl #[.slice Ao39 t382.length co39, .slice Ao40 t385.length co40, .slice Ao41 t366.length co41] rfl (Qls) ?_; (with_reducible refine (minor_Check.calls (hGL := (Qlg)) _ _ t382 _ _ t385 _ _ t366 t388 t389 _ ?side1 ?side2 ?side3 ?side4 ?side5 ?side6 A35.out).mono ?_); (case side1 => exact Qsc (Kd.R_reads' HO384.out).2.2); (case side2 => exact (Kd.R_reads' HO384.out).2.1); (case side3 => exact Qsc (Kd.R_reads' HO387.out).2.2); (case side4 => exact (Kd.R_reads' HO387.out).2.1); (case side5 => exact Qsc (Kd.R_reads' HO_11.out).2.2); (case side6 => exact (Kd.R_reads' HO_11.out).2.1); rintro e w42 ⟨rfl, hb⟩; refine ⟨_, rfl, ?_⟩; have n0_ := Aside0.mk (Kd.R_below (Qro HO_11.out) hb); have n1_ := Aside0.mk (Kd.R_below (Qro HO384.out) hb); have n2_ := Aside0.mk (Kd.R_below (Qro HO387.out) hb); have n3_ := Aside0.mk (below_step (Qaw) hb); clear HO_11; clear HO384; clear HO387; clear HB; have HO_11 := n0_; have HO384 := n1_; have HO387 := n2_; have HB := n3_; clear n0_ n1_ n2_ n3_; (try clear hb); (try clear hb2); (try clear hk); (try clear hi)))
       (try simp only [Act.put, List.setIfInBounds_toArray, List.set_cons_zero, List.set_cons_succ])
       go_cut [87] (fun v87 wc => ∃ (kq : Nat) (x87_35 : Bool), v87 = .bool x87_35 ∧ Aside0 (lampblacklaw07_MinorFound.j1 kq l0 l1 l2 a3 a4 t366 t367 t379 x87_35 = some r) ∧ Aside0 (kq ≤ kj13) ∧ Aside0 (Kd.R (Kd.int .i64) 3 wc w.heap.size (fun _ => True) (.slice Ao41 t366.length co41) t366) ∧ Aside0 (Below w.heap.size w wc))
       case first =>
        have H := HC36.out
        clear HC36
        by_cases c43 : t388 = true
        ·subst c43
         have H1 : (lampblacklaw07_MinorFound.j1 kj13 l0 l1 l2 a3 a4 t366 t367 t379 (t389 != 0)) = some r := by rw [if_pos rfl] at H; exact H
         clear H
         have H := H1
         clear H1
         have H' := Aside0.mk H
         clear H
         go_wp2
         go_meet
         case rel => exact ⟨_, ((t389 != 0)), (by first | rfl | (simp; done) | (simp [*]; done)), H', ⟨by have := HJ13.out; first | omega | exact Nat.le_refl _⟩, ⟨by (with_reducible repeat (first | apply Kd.R_alloc | apply Kd.R_drewN | apply Kd.R_drew)); exact Kd.R_mono HO_11.out (fun _ hk => trivial)⟩, ⟨by repeat (first | (with_reducible first | exact HB.out | apply below_alloc | apply pw_below_drewN | apply below_drew1) | exact HB.out)⟩⟩
        ·replace c43 := Bool.eq_false_iff.mpr c43
         subst c43
         have H1 : (lampblacklaw07_MinorFound.j1 kj13 l0 l1 l2 a3 a4 t366 t367 t379 true) = some r := by rw [if_neg (show ¬ (false = true) by decide)] at H; exact H
         clear H
         have H := H1
         clear H1
         have H' := Aside0.mk H
         clear H
         go_wp2
         go_meet
         case rel => exact ⟨_, (true), (by first | rfl | (simp; done) | (simp [*]; done)), H', ⟨by have := HJ13.out; first | omega | exact Nat.le_refl _⟩, ⟨by (with_reducible repeat (first | apply Kd.R_alloc | apply Kd.R_drewN | apply Kd.R_drew)); exact Kd.R_mono HO_11.out (fun _ hk => trivial)⟩, ⟨by repeat (first | (with_reducible first | exact HB.out | apply below_alloc | apply pw_below_drewN | apply below_drew1) | exact HB.out)⟩⟩
       case rest =>
        clear HC36
        try clear c1
        try clear c2
        try clear p2
        try clear c3
        try clear c4
        try clear c7
        try clear c13
        try clear c13b0
        try clear c13b1
        try clear c21
        try clear c22
        try clear c23
        try clear c24
        try clear c27
        try clear c28
        try clear c28b0
        try clear c28b1
        try clear c29
        try clear c29b0
        try clear c29b1
        try clear c30
        try clear c32
        try clear c32b0
        try clear c32b1
        try clear c43
        try clear p2
        obtain ⟨kq, x87_35, rfl, HA, HJ35, HO_11, HB⟩ := hcut
        cases kq with
        | zero => exact absurd HA.out (by simp [lampblacklaw07_MinorFound.j1])
        | succ kj35 =>
         have H := HA.out
         clear HA
         simp only [lampblacklaw07_MinorFound.j1] at H
         by_cases c44 : x87_35 = true
         ·subst c44
          have H1 : (some false) = some r := by rw [if_pos rfl] at H; exact H
          clear H
          have H := H1
          clear H1
          obtain rfl := Option.some.inj H
          go_wp2
          go_ret
          exact ⟨by first | rfl | (simp [errW_none, errW_some] <;> rfl) | (simp [*, errW_none, errW_some] <;> rfl), by repeat (first | (with_reducible first | exact HB.out | apply below_alloc | apply pw_below_drewN | apply below_drew1) | exact HB.out)⟩
         ·replace c44 := Bool.eq_false_iff.mpr c44
          subst c44
          have H1 : (lampblacklaw07_MinorFound.l0 kj35 l0 l1 l2 a3 a4 t367 t379 0 0 t366 (t366.length : Int) 0) = some r := by rw [if_neg (show ¬ (false = true) by decide)] at H; exact H
          clear H
          have H := H1
          clear H1
          have H' := Aside0.mk H
          clear H
          go_wp2
          go_loopg [17, 90] kj35 (fun kq v17 v90 w' => ∃ (x17_3 : Int) (x90_3 : Int), v17 = .int .i64 x17_3 ∧ v90 = .int .i64 x90_3 ∧ Aside0 (lampblacklaw07_MinorFound.l0 kq l0 l1 l2 a3 a4 t367 t379 x17_3 0 t366 (t366.length : Int) x90_3 = some r) ∧ Aside0 (kq ≤ kj35) ∧ Aside0 (Kd.R (Kd.int .i64) 3 w' w.heap.size (fun _ => True) (.slice Ao41 t366.length co41) t366) ∧ Aside0 (Below w.heap.size w w'))
          case atStart => exact ⟨(0), (0), (by first | rfl | (simp; done) | (simp [*]; done)), (by first | rfl | (simp; done) | (simp [*]; done)), H', ⟨Nat.le_refl _⟩, ⟨by (with_reducible repeat (first | apply Kd.R_alloc | apply Kd.R_drewN | apply Kd.R_drew)); exact HO_11.out⟩, ⟨by repeat (first | (with_reducible first | exact HB.out | apply below_alloc | apply pw_below_drewN | apply below_drew1) | exact HB.out)⟩⟩
          case round =>
           clear H'
           try clear c1
           try clear c2
           try clear p2
           try clear c3
           try clear c4
           try clear c7
           try clear c13
           try clear c13b0
           try clear c13b1
           try clear c21
           try clear c22
           try clear c23
           try clear c24
           try clear c27
           try clear c28
           try clear c28b0
           try clear c28b1
           try clear c29
           try clear c29b0
           try clear c29b1
           try clear c30
           try clear c32
           try clear c32b0
           try clear c32b1
           try clear c43
           try clear c44
           try clear p2
           obtain ⟨x17_3, x90_3, rfl, rfl, HA, HK3, HO_88, HB⟩ := hrel
           cases gk with
           | zero => exact absurd HA.out (by simp [lampblacklaw07_MinorFound.l0])
           | succ k3 =>
            have H := HA.out
            clear HA
            simp only [lampblacklaw07_MinorFound.l0] at H
            by_cases c45 : x90_3 < (t366.length : Int)
            ·rw [if_pos c45] at H
             have c45b0 : decide (x90_3 < (t366.length : Int)) = true := decide_eq_true c45
             clear c45
             by_cases c46 : 0 ≤ x90_3
             ·rw [if_pos c46] at H
              have c46b0 : decide (0 ≤ x90_3) = true := decide_eq_true c46
              clear c46
              by_cases c47 : x90_3 < (t366.length : Int)
              ·rw [if_pos c47] at H
               have c47b0 : decide (x90_3 < (t366.length : Int)) = true := decide_eq_true c47
               clear c47
               have H' := Aside0.mk H
               clear H
               have p390 : 0 ≤ (x90_3 : Int) := of_decide_eq_true (by first | (with_reducible assumption) | assumption)
               have q390 : x90_3 < (t366.length : Int) := of_decide_eq_true (by first | (with_reducible assumption) | assumption)
               obtain ⟨ad390, e390, hx390_0⟩ := Kd.at_int (Kd.R_reads' HO_88.out).2.2 x90_3 p390 q390
               cases e390
               replace p390 := eq_true p390
               replace q390 := eq_true q390
               go_wp2
               go_roundg k3
               case measure => have := HJ13.out; have := HJ35.out; have := HK3.out; omega
               case rel => exact ⟨(Go.bits .or .i64 x17_3 (rd t366 x90_3)), (wrap64 (x90_3 + 1)), (by first | rfl | (simp; done) | (simp [*]; done)), (by first | rfl | (simp; done) | (simp [*]; done)), H', ⟨by have := HJ13.out; have := HJ35.out; have := HK3.out; omega⟩, ⟨by (with_reducible repeat (first | apply Kd.R_alloc | apply Kd.R_drewN | apply Kd.R_drew)); exact HO_88.out⟩, ⟨by repeat (first | (with_reducible first | exact HB.out | apply below_alloc | apply pw_below_drewN | apply below_drew1) | exact HB.out)⟩⟩
              ·rw [if_neg c47] at H
               exact absurd H (by simp)
             ·rw [if_neg c46] at H
              exact absurd H (by simp)
            ·rw [if_neg c45] at H
             have c45b0 : decide (x90_3 < (t366.length : Int)) = false := decide_eq_false c45
             clear c45
             have H' := Aside0.mk H
             clear H
             go_wp2
             go_loopg [18, 100] k3 (fun kq v18 v100 w' => ∃ (x18_4 : Int) (x100_4 : Int), v18 = .int .i64 x18_4 ∧ v100 = .int .i64 x100_4 ∧ Aside0 (lampblacklaw07_MinorFound.l1 kq l0 l1 a3 a4 t367 t379 x17_3 x18_4 l2 (l2.length : Int) x100_4 = some r) ∧ Aside0 (kq ≤ k3) ∧ Aside0 (Below w.heap.size w w'))
             case atStart => exact ⟨(0), (0), (by first | rfl | (simp; done) | (simp [*]; done)), (by first | rfl | (simp; done) | (simp [*]; done)), H', ⟨Nat.le_refl _⟩, ⟨by repeat (first | (with_reducible first | exact HB.out | apply below_alloc | apply pw_below_drewN | apply below_drew1) | exact HB.out)⟩⟩
             case round =>
              clear H'
              try clear c1
              try clear c2
              try clear p2
              try clear c3
              try clear p3
              try clear q3
              try clear hx3
              try clear c4
              try clear p6
              try clear c7
              try clear c13
              try clear c13b0
              try clear c13b1
              try clear c21
              try clear c22
              try clear c23
              try clear c24
              try clear c27
              try clear c28
              try clear c28b0
              try clear c28b1
              try clear c29
              try clear c29b0
              try clear c29b1
              try clear c30
              try clear c32
              try clear c32b0
              try clear c32b1
              try clear p39
              try clear q39
              try clear hx39
              try clear c43
              try clear c44
              try clear c45
              try clear c45b0
              try clear c46
              try clear c46b0
              try clear c47
              try clear c47b0
              try clear hx390_0
              try clear p2
              try clear p390
              try clear q390
              obtain ⟨x18_4, x100_4, rfl, rfl, HA, HK4, HB⟩ := hrel
              cases gk with
              | zero => exact absurd HA.out (by simp [lampblacklaw07_MinorFound.l1])
              | succ k4 =>
               have H := HA.out
               clear HA
               simp only [lampblacklaw07_MinorFound.l1] at H
               by_cases c48 : x100_4 < (l2.length : Int)
               ·rw [if_pos c48] at H
                have c48b0 : decide (x100_4 < (l2.length : Int)) = true := decide_eq_true c48
                clear c48
                by_cases c49 : 0 ≤ x100_4
                ·rw [if_pos c49] at H
                 have c49b0 : decide (0 ≤ x100_4) = true := decide_eq_true c49
                 clear c49
                 by_cases c50 : x100_4 < (l2.length : Int)
                 ·rw [if_pos c50] at H
                  have c50b0 : decide (x100_4 < (l2.length : Int)) = true := decide_eq_true c50
                  clear c50
                  have H' := Aside0.mk H
                  clear H
                  have p391 : 0 ≤ (x100_4 : Int) := of_decide_eq_true (by first | (with_reducible assumption) | assumption)
                  have q391 : x100_4 < (l2.length : Int) := of_decide_eq_true (by first | (with_reducible assumption) | assumption)
                  obtain ⟨ad391, e391, hx391_0⟩ := Kd.at_int HR2.out x100_4 p391 q391
                  cases e391
                  replace hx391_0 := (HB.out.cell (World.block_lt_of_cell? w _ hx391_0)).trans hx391_0
                  replace p391 := eq_true p391
                  replace q391 := eq_true q391
                  go_wp2
                  go_roundg k4
                  case measure => have := HJ13.out; have := HJ35.out; have := HK3.out; have := HK4.out; omega
                  case rel => exact ⟨(Go.bits .or .i64 x18_4 (rd l2 x100_4)), (wrap64 (x100_4 + 1)), (by first | rfl | (simp; done) | (simp [*]; done)), (by first | rfl | (simp; done) | (simp [*]; done)), H', ⟨by have := HJ13.out; have := HJ35.out; have := HK3.out; have := HK4.out; omega⟩, ⟨by repeat (first | (with_reducible first | exact HB.out | apply below_alloc | apply pw_below_drewN | apply below_drew1) | exact HB.out)⟩⟩
                 ·rw [if_neg c50] at H
                  exact absurd H (by simp)
                ·rw [if_neg c49] at H
                 exact absurd H (by simp)
               ·rw [if_neg c48] at H
                have c48b0 : decide (x100_4 < (l2.length : Int)) = false := decide_eq_false c48
                clear c48
                by_cases c51 : t379 = true
                ·subst c51
                 have H1 : ((lampblackref02_Size.f k4 x17_3).bind fun t392 => ((lampblackref02_Size.f k4 x18_4).bind fun t393 => (if t392 > t393 then (some false) else (lampblacklaw07_MinorFound.j4 k4 l0 l1 a3 a4 t367)))) = some r := by rw [if_pos rfl] at H; exact H
                 clear H
                 have H := H1
                 clear H1
                 replace H := Option.bind_eq_some_iff.mp H
                 obtain ⟨t392, A520, H⟩ := H
                 replace H : ((lampblackref02_Size.f k4 x18_4).bind fun t393 => (if t392 > t393 then (some false) else (lampblacklaw07_MinorFound.j4 k4 l0 l1 a3 a4 t367))) = some r := H
                 have A52 := Aside0.mk A520
                 clear A520
                 replace H := Option.bind_eq_some_iff.mp H
                 obtain ⟨t393, A530, H⟩ := H
                 replace H : (if t392 > t393 then (some false) else (lampblacklaw07_MinorFound.j4 k4 l0 l1 a3 a4 t367)) = some r := H
                 have A53 := Aside0.mk A530
                 clear A530
                 by_cases c54 : t392 > t393
                 ·rw [if_pos c54] at H
                  have c54b0 : decide (t393 < t392) = true := decide_eq_true c54
                  clear c54
                  obtain rfl := Option.some.inj H
                  go_wp2_with (first | (go_at_call 39; (with_reducible refine (lampblackref02_Size.calls k4 x17_3 t392 _ A52.out).mono ?_); rintro e w' ⟨rfl, ⟨nd, rfl⟩⟩) | (go_at_call 39; (with_reducible refine (lampblackref02_Size.calls k4 x18_4 t393 _ A53.out).mono ?_); rintro e w' ⟨rfl, ⟨nd, rfl⟩⟩))
                  go_ret
                  exact ⟨by first | rfl | (simp [errW_none, errW_some] <;> rfl) | (simp [*, errW_none, errW_some] <;> rfl), by repeat (first | (with_reducible first | exact HB.out | apply below_alloc | apply pw_below_drewN | apply below_drew1) | exact HB.out)⟩
                 ·rw [if_neg c54] at H
                  have c54b0 : decide (t393 < t392) = false := decide_eq_false c54
                  clear c54
                  have H' := Aside0.mk H
                  clear H
                  go_wp2_with (first | (go_at_call 39; (with_reducible refine (lampblackref02_Size.calls k4 x17_3 t392 _ A52.out).mono ?_); rintro e w' ⟨rfl, ⟨nd, rfl⟩⟩) | (go_at_call 39; (with_reducible refine (lampblackref02_Size.calls k4 x18_4 t393 _ A53.out).mono ?_); rintro e w' ⟨rfl, ⟨nd, rfl⟩⟩))
                  go_meet
                  case rel => exact ⟨_, H', ⟨by have := HJ13.out; have := HJ35.out; have := HK3.out; have := HK4.out; first | omega | exact Nat.le_refl _⟩, ⟨by repeat (first | (with_reducible first | exact HB.out | apply below_alloc | apply pw_below_drewN | apply below_drew1) | exact HB.out)⟩⟩
                ·replace c51 := Bool.eq_false_iff.mpr c51
                 subst c51
                 have H1 : (lampblacklaw07_MinorFound.j4 k4 l0 l1 a3 a4 t367) = some r := by rw [if_neg (show ¬ (false = true) by decide)] at H; exact H
                 clear H
                 have H := H1
                 clear H1
                 have H' := Aside0.mk H
                 clear H
                 go_wp2
                 go_meet
                 case rel => exact ⟨_, H', ⟨by have := HJ13.out; have := HJ35.out; have := HK3.out; have := HK4.out; first | omega | exact Nat.le_refl _⟩, ⟨by repeat (first | (with_reducible first | exact HB.out | apply below_alloc | apply pw_below_drewN | apply below_drew1) | exact HB.out)⟩⟩
      ·rw [if_neg c32] at H
       have c32b0 : (t367 == 0) = false := beq_eq_false_iff_ne.mpr c32
       have c32b1 : (t367 != 0) = true := bne_iff_ne.mpr c32
       (first | rw [c32b0] | (simp only [i64_w, i32_w]; rw [c32b0]) | skip)
       have H' := Aside0.mk H
       clear H
       go_wp2
       go_meet
       case rel => exact ⟨_, H', ⟨by have := HJ13.out; first | omega | exact Nat.le_refl _⟩, ⟨by repeat (first | (with_reducible first | exact HB.out | apply below_alloc | apply pw_below_drewN | apply below_drew1) | exact HB.out)⟩⟩
     case rest =>
      clear HC31
      try clear c1
      try clear c2
      try clear p2
      try clear c3
      try clear p3
      try clear q3
      try clear hx3
      try clear c4
      try clear c5
      try clear p6
      try clear c7
      try clear c13
      try clear c13b0
      try clear c13b1
      try clear c21
      try clear c22
      try clear c23
      try clear c24
      try clear c27
      try clear c28
      try clear c28b0
      try clear c28b1
      try clear c29
      try clear c29b0
      try clear c29b1
      try clear c30
      try clear c32
      try clear c32b0
      try clear c32b1
      try clear p39
      try clear q39
      try clear hx39
      try clear c43
      try clear c44
      try clear c45
      try clear c45b0
      try clear c46
      try clear c46b0
      try clear c47
      try clear c47b0
      try clear c48
      try clear c48b0
      try clear c49
      try clear c49b0
      try clear c50
      try clear c50b0
      try clear c51
      try clear c54
      try clear c54b0
      try clear hx390_0
      try clear hx391_0
      try clear p2
      try clear p3
      try clear p39
      try clear p390
      try clear p391
      try clear p6
      try clear q3
      try clear q39
      try clear q390
      try clear q391
      obtain ⟨kq, HA, HJ30, HB⟩ := hcut
      cases kq with
      | zero => exact absurd HA.out (by simp [lampblacklaw07_MinorFound.j4])
      | succ kj30 =>
       have H := HA.out
       clear HA
       simp only [lampblacklaw07_MinorFound.j4] at H
       obtain ⟨y394, hy394⟩ : ∃ y_ : List Int, y_ = (([0] : List Int)) := ⟨_, rfl⟩
       replace H : ((some (([y394, (([1] : List Int))] : List (List Int)) : List (List Int))).bind fun y400 => (lampblacklaw07_MinorFound.l2 kj30 l0 l1 a3 a4 t367 y400 (y400.length : Int) 0)) = some r := by first | (rw [hy394]; with_reducible exact H) | (have H2_ := (Option.bind_some _ _).symm.trans H; rw [hy394]; with_reducible exact H2_) | (have H2_ := (Option.bind_some _ _).symm.trans H; with_reducible exact H2_) | with_reducible exact H | (rw [hy394]; exact H) | exact H
       have Ny394 := Aside0.mk hy394
       clear hy394
       obtain ⟨y397, hy397⟩ : ∃ y_ : List Int, y_ = (([1] : List Int)) := ⟨_, rfl⟩
       replace H : ((some (([y394, y397] : List (List Int)) : List (List Int))).bind fun y400 => (lampblacklaw07_MinorFound.l2 kj30 l0 l1 a3 a4 t367 y400 (y400.length : Int) 0)) = some r := by first | (rw [hy397]; with_reducible exact H) | (have H2_ := (Option.bind_some _ _).symm.trans H; rw [hy397]; with_reducible exact H2_) | (have H2_ := (Option.bind_some _ _).symm.trans H; with_reducible exact H2_) | with_reducible exact H | (rw [hy397]; exact H) | exact H
       have Ny397 := Aside0.mk hy397
       clear hy397
       obtain ⟨y400, hy400⟩ : ∃ y_ : List (List Int), y_ = (([y394, y397] : List (List Int))) := ⟨_, rfl⟩
       replace H : (lampblacklaw07_MinorFound.l2 kj30 l0 l1 a3 a4 t367 y400 (y400.length : Int) 0) = some r := by first | (rw [hy400]; with_reducible exact H) | (have H2_ := (Option.bind_some _ _).symm.trans H; rw [hy400]; with_reducible exact H2_) | (have H2_ := (Option.bind_some _ _).symm.trans H; with_reducible exact H2_) | with_reducible exact H | (rw [hy400]; exact H) | exact H
       have Ny400 := Aside0.mk hy400
       clear hy400
       have H' := Aside0.mk H
       clear H
       go_wp2_with (first | ((with_reducible refine gate_dst (N := 116) rfl ?_); refine Kd.R_lit (Kd.int .i64) _ 3 ?hg (N := 116) ?hd (xs := ([0] : List Int)) (inner := [.int .i64 0]) (ok := fun _ => True) (okp := fun _ => True) ?hr ?hp (fun _ hk => hk) trivial (Below.refl _ _) (Nat.le_refl _) (by simp) ?_; (case hd => rfl); (case hg => rfl); (case hr => first | (go_simp; done) | (go_simp; rfl)); (case hp => exact (Reps.one (show Kd.M (Kd.int .i64) _ _ _ 0 [.int .i64 0] from rfl) (Reps.none _ _))); intro v395 w55 ho56 hb hg_ hnew_; clear hg_ hnew_; (first | rw [← Ny394.out] at ho56 | (simp only [Int.reduceToNat] at ho56; rw [← Ny394.out] at ho56)); have n0_ := Aside0.mk (Kd.R_lower ho56 (below_size (Qaw))); have n1_ := Aside0.mk (below_step (Qaw) hb); clear HB; have HO396 := n0_; have HB := n1_; clear n0_ n1_; clear hb ho56) | ((with_reducible refine gate_dst (N := 117) rfl ?_); refine Kd.R_lit (Kd.int .i64) _ 3 ?hg (N := 117) ?hd (xs := ([1] : List Int)) (inner := [.int .i64 1]) (ok := fun _ => True) (okp := fun _ => True) ?hr ?hp (fun _ hk => hk) trivial (Below.refl _ _) (Nat.le_refl _) (by simp) ?_; (case hd => rfl); (case hg => rfl); (case hr => first | (go_simp; done) | (go_simp; rfl)); (case hp => exact (Reps.one (show Kd.M (Kd.int .i64) _ _ _ 1 [.int .i64 1] from rfl) (Reps.none _ _))); intro v398 w57 ho58 hb hg_ hnew_; clear hg_ hnew_; (first | rw [← Ny397.out] at ho58 | (simp only [Int.reduceToNat] at ho58; rw [← Ny397.out] at ho58)); have n0_ := Aside0.mk (Kd.R_elder' (Qro HO396.out) (Kd.R_base ho58) hb); have n1_ := Aside0.mk (Kd.R_lower (Kd.R_new' ho58 (Kd.R_lt (Qro HO396.out))) (below_size (Qaw))); have n2_ := Aside0.mk (below_step (Qaw) hb); clear HO396; clear HB; have HO396 := n0_; have HO399 := n1_; have HB := n2_; clear n0_ n1_ n2_; clear hb ho58; obtain ⟨Ao59, co59, eo59⟩ := Kd.R_slice HO396.out; subst eo59; obtain ⟨Ao60, co60, eo60⟩ := Kd.R_slice HO399.out; subst eo60) | ((with_reducible refine gate_dst (N := 118) rfl ?_); refine Kd.N_lit (Kd.slice 3 (Kd.int .i64)) _ 22 ?hg (N' := 118) ?hd (xs := ([y394, y397] : List (List Int))) (inner := [.slice Ao59 y394.length co59, .slice Ao60 y397.length co60]) (ok := (fun _ => True)) (okp := (fun _ => True)) ?hr ?hp (fun _ hk => hk) ((show ∀ k_, w57.heap.size ≤ k_ → (fun _ => True) k_ from fun k_ hk => trivial) _ (Nat.le_refl _)) (Below.refl _ _) (Nat.le_refl _) (by simp) ?_; (case hd => rfl); (case hg => rfl); (case hr => first | (go_simp; done) | (go_simp; rfl)); (case hp => exact (Reps.one (show Kd.FK (Kd.slice 3 (Kd.int .i64)) _ _ y394 [.slice Ao59 y394.length co59] from (Kd.FK_slice_mk (Kd.R_reads' (Kd.R_mono (ok' := (fun _ => True)) (HO396.out) (fun k_ hk => trivial))).2.1 (Kd.R_F (Kd.R_mono (ok' := (fun _ => True)) (HO396.out) (fun k_ hk => trivial))))) (Reps.one (show Kd.FK (Kd.slice 3 (Kd.int .i64)) _ _ y397 [.slice Ao60 y397.length co60] from (Kd.FK_slice_mk (Kd.R_reads' (Kd.R_mono (ok' := (fun _ => True)) (HO399.out) (fun k_ hk => trivial))).2.1 (Kd.R_F (Kd.R_mono (ok' := (fun _ => True)) (HO399.out) (fun k_ hk => trivial))))) (Reps.none _ _)))); intro v401 w61 ho62 hb hg_ hnew_; clear hg_ hnew_; (first | rw [← Ny400.out] at ho62 | (simp only [Int.reduceToNat] at ho62; rw [← Ny400.out] at ho62)); have n0_ := Aside0.mk (Kd.N_lower ho62 (below_size (Qaw))); have n1_ := Aside0.mk (below_step (Qaw) hb); clear HB; clear HO396; clear HO399; have HO402 := n0_; have HB := n1_; clear n0_ n1_; clear hb ho62; obtain ⟨Ao63, co63, eo63⟩ := Kd.N_slice HO402.out; subst eo63))
       go_loopg [120] kj30 (fun kq v120 w' => ∃ (x120_3 : Int), v120 = .int .i64 x120_3 ∧ Aside0 (lampblacklaw07_MinorFound.l2 kq l0 l1 a3 a4 t367 y400 (y400.length : Int) x120_3 = some r) ∧ Aside0 (kq ≤ kj30) ∧ Aside0 (Kd.N (Kd.slice 3 (Kd.int .i64)) 22 w' w.heap.size (fun _ => True) (.slice Ao63 y400.length co63) y400) ∧ Aside0 (Below w.heap.size w w'))
       case atStart => exact ⟨(0), (by first | rfl | (simp; done) | (simp [*]; done)), H', ⟨Nat.le_refl _⟩, ⟨by (with_reducible repeat (first | apply Kd.N_alloc | apply Kd.N_drewN | apply Kd.N_drew)); exact HO402.out⟩, ⟨by repeat (first | (with_reducible first | exact HB.out | apply below_alloc | apply pw_below_drewN | apply below_drew1) | exact HB.out)⟩⟩
       case round =>
        clear H'
        try clear c1
        try clear c2
        try clear p2
        try clear c3
        try clear p3
        try clear q3
        try clear hx3
        try clear c4
        try clear c5
        try clear p6
        try clear c7
        try clear c13
        try clear c13b0
        try clear c13b1
        try clear c21
        try clear c22
        try clear c23
        try clear c24
        try clear c27
        try clear c28
        try clear c28b0
        try clear c28b1
        try clear c29
        try clear c29b0
        try clear c29b1
        try clear c30
        try clear c32
        try clear c32b0
        try clear c32b1
        try clear p39
        try clear q39
        try clear hx39
        try clear c43
        try clear c44
        try clear c45
        try clear c45b0
        try clear c46
        try clear c46b0
        try clear c47
        try clear c47b0
        try clear c48
        try clear c48b0
        try clear c49
        try clear c49b0
        try clear c50
        try clear c50b0
        try clear c51
        try clear c54
        try clear c54b0
        try clear hx390_0
        try clear hx391_0
        try clear p2
        try clear p3
        try clear p39
        try clear p390
        try clear p391
        try clear p6
        try clear q3
        try clear q39
        try clear q390
        try clear q391
        obtain ⟨x120_3, rfl, HA, HK3, HO_118, HB⟩ := hrel
        cases gk with
        | zero => exact absurd HA.out (by simp [lampblacklaw07_MinorFound.l2])
        | succ k3 =>
         have H := HA.out
         clear HA
         simp only [lampblacklaw07_MinorFound.l2] at H
         by_cases c64 : x120_3 < (y400.length : Int)
         ·rw [if_pos c64] at H
          have c64b0 : decide (x120_3 < (y400.length : Int)) = true := decide_eq_true c64
          clear c64
          by_cases c65 : 0 ≤ x120_3
          ·rw [if_pos c65] at H
           have c65b0 : decide (0 ≤ x120_3) = true := decide_eq_true c65
           clear c65
           by_cases c66 : x120_3 < (y400.length : Int)
           ·rw [if_pos c66] at H
            have c66b0 : decide (x120_3 < (y400.length : Int)) = true := decide_eq_true c66
            clear c66
            by_cases c67 : 0 < ((rd_L1 y400 x120_3).length : Int)
            ·rw [if_pos c67] at H
             have c67b0 : decide (0 < ((rd_L1 y400 x120_3).length : Int)) = true := decide_eq_true c67
             have c67b1 : decide (0 < (rd_L1 y400 x120_3).length) = true := decide_eq_true (by omega)
             clear c67
             have HC68 := Aside0.mk H
             clear H
             have p404 : 0 ≤ (x120_3 : Int) := of_decide_eq_true (by first | (with_reducible assumption) | assumption)
             have q404 : x120_3 < (y400.length : Int) := of_decide_eq_true (by first | (with_reducible assumption) | assumption)
             obtain ⟨ad404, A404_0, c404_0, e404, hx404_0, hl404_0, hi404_0⟩ := at_L1 (Kd.N_reads' HO_118.out).2.2 x120_3 p404 q404
             cases e404
             obtain ⟨ce404, hce404, hMe404, hcc404⟩ := Kd.N_get HO_118.out [] x120_3 p404 (by first | exact q404 | exact of_decide_eq_true (by first | (with_reducible assumption) | assumption) | (have e_ := (Kd.N_reads' HO_118.out).1; omega))
             obtain ⟨ua404_0, uc404_0, rfl, ul404_0, ge404_0⟩ := Kd.FK_slice_open hMe404
             have hv404_0 := hcc404 0 _ rfl
             rw [Nat.add_zero, show ((Kd.slice 3 (Kd.int .i64))).sz = 1 from rfl, Nat.mul_one] at hv404_0
             replace hv404_0 := Option.some.inj (hv404_0.symm.trans hx404_0)
             injection hv404_0 with hva_ hvn_ hvc_
             rw [hva_] at ge404_0
             rw [hvc_] at ul404_0
             have HL404_0 := Aside0.mk (show Kd.V (Kd.int .i64) 3 _ w.heap.size _ _ (rd_L1 y400 x120_3) from Kd.V_mk ul404_0 ge404_0)
             clear hva_ hvn_ hvc_ ge404_0 ul404_0
             clear hcc404 hce404
             have HR404_0 := Aside0.mk hi404_0
             have HC404_0 := Aside0.mk hl404_0
             clear hi404_0 hl404_0
             replace p404 := eq_true p404
             replace q404 := eq_true q404
             have p405 : 0 ≤ (0 : Int) := (by omega)
             have q405 : 0 < ((rd_L1 y400 x120_3).length : Int) := of_decide_eq_true (by first | (with_reducible assumption) | assumption)
             obtain ⟨ad405, e405, hx405_0⟩ := Kd.at_int (by repeat (first | (with_reducible exact HR404_0.out) | (with_reducible refine Kd.C_alloc ?_ _) | (with_reducible refine Kd.C_drewN ?_ _) | (with_reducible refine Kd.C_drew ?_) | exact HR404_0.out)) 0 p405 q405
             cases e405
             have qi405 : (0 < (rd_L1 y400 x120_3).length) = True := eq_true (by omega)
             (try rw [show ((0 : Int)).toNat = 0 from rfl] at hx405_0)
             (try rw [Addr.add_zero'] at hx405_0)
             replace p405 := eq_true p405
             replace q405 := eq_true q405
             go_upto_if 127 with (fail)
             go_cut [25, 26] (fun v25 v26 wc => ∃ (kq : Nat) (x25_67 : List Int) (x26_67 : Int), v26 = .int .i64 x26_67 ∧ Aside0 (lampblacklaw07_MinorFound.j6 kq l0 l1 a3 a4 t367 x25_67 x26_67 y400 (y400.length : Int) x120_3 = some r) ∧ Aside0 (kq ≤ k3) ∧ Aside0 (Kd.R (Kd.int .i64) 3 wc w.heap.size (fun _ => True) v25 x25_67) ∧ Aside0 (Kd.N (Kd.slice 3 (Kd.int .i64)) 22 wc w.heap.size (fun k_ => some k_ ≠ (v25 : Value).ownBlock) (.slice (some ad404) y400.length co63) y400) ∧ Aside0 (Kd.C (Kd.int .i64) wc (some ad405) (rd_L1 y400 x120_3).length (rd_L1 y400 x120_3)) ∧ Aside0 (Below w.heap.size w wc))
             case first =>
              have H := HC68.out
              clear HC68
              by_cases c69 : (rd (rd_L1 y400 x120_3) 0) = 0
              ·rw [if_pos c69] at H
               have c69b0 : ((rd (rd_L1 y400 x120_3) 0) == 0) = true := beq_iff_eq.mpr c69
               have c69b1 : ((rd (rd_L1 y400 x120_3) 0) != 0) = false := bne_eq_false_iff_eq.mpr c69
               clear c69
               (first | rw [c69b0] | (simp only [i64_w, i32_w]; rw [c69b0]) | skip)
               replace H := Option.bind_eq_some_iff.mp H
               obtain ⟨t406, A700, H⟩ := H
               replace H : ((minor_Delete.f k3 t406 a3).bind fun bt409 => (lampblacklaw07_MinorFound.j6 k3 l0 l1 a3 a4 t367 bt409.1 bt409.2 y400 (y400.length : Int) x120_3)) = some r := H
               have A70 := Aside0.mk A700
               clear A700
               replace H := Option.bind_eq_some_iff.mp H
               obtain ⟨⟨t409, t410⟩, A710, H⟩ := H
               replace H : (lampblacklaw07_MinorFound.j6 k3 l0 l1 a3 a4 t367 t409 t410 y400 (y400.length : Int) x120_3) = some r := H
               have A71 := Aside0.mk A710
               clear A710
               have H' := Aside0.mk H
               clear H
               go_wp2_with (first | ((with_reducible refine gate_callee (f := 22) rfl ?_); refine goesL_ (some 130) rfl rfl Tryd.func22 (by kernel_rfl) rfl #[.slice A0 l0.length c0] rfl (Qls) ?_; (with_reducible refine (lampblacklaw07_Few.calls _ _ l0 t406 _ ?side1 ?side2 A70.out).mono ?_); (case side1 => exact Qsc (Kd.C_below HR0.out HB.out)); (case side2 => exact HC0.out); rintro e w72 ⟨v407, rfl, ho0, hb⟩; refine ⟨_, rfl, ?_⟩; have n0_ := Aside0.mk (Kd.N_elder' (by (with_reducible repeat (first | apply Kd.N_alloc | apply Kd.N_drewN | apply Kd.N_drew)); exact HO_118.out) (Kd.R_base ho0) hb); have n1_ := Aside0.mk (Kd.V_elder' (by (with_reducible repeat (first | apply Kd.V_alloc | apply Kd.V_drewN | apply Kd.V_drew)); exact HL404_0.out) (Kd.R_base ho0) hb); have n2_ := Aside0.mk (Kd.R_lower ho0 (below_size (Qaw))); have n3_ := Aside0.mk (Kd.C_below (by repeat (first | (with_reducible exact HR404_0.out) | (with_reducible refine Kd.C_alloc ?_ _) | (with_reducible refine Kd.C_drewN ?_ _) | (with_reducible refine Kd.C_drew ?_) | exact HR404_0.out)) hb); have n4_ := Aside0.mk (below_step (Qaw) hb); clear HO_118; clear HL404_0; clear HR404_0; clear HB; have HO_118 := n0_; have HL404_0 := n1_; have HO408 := n2_; have HR404_0 := n3_; have HB := n4_; clear n0_ n1_ n2_ n3_ n4_; (try clear hb); (try clear hb2); (try clear hk); (try clear hi); (try clear ho0); obtain ⟨Ao73, co73, eo73⟩ := Kd.R_slice HO408.out; subst eo73) | ((with_reducible refine gate_callee (f := 35) rfl ?_); refine goesL_ (some 132) rfl rfl Tryd.func35 (by kernel_rfl) rfl #[.slice Ao73 t406.length co73, .int .i64 a3] rfl (Qls) ?_; (with_reducible refine (minor_Delete.calls k3 _ _ t406 a3 t409 t410 _ ?side1 ?side2 A71.out).mono ?_); (case side1 => exact Qsc (Kd.R_reads' HO408.out).2.2); (case side2 => exact (Kd.R_reads' HO408.out).2.1); rintro e w74 ⟨v411, rfl, ho0, hb⟩; refine ⟨_, rfl, ?_⟩; have n0_ := Aside0.mk (Kd.N_elder' (by (with_reducible repeat (first | apply Kd.N_alloc | apply Kd.N_drewN | apply Kd.N_drew)); exact HO_118.out) (Kd.R_base ho0) hb); have n1_ := Aside0.mk (Kd.V_elder' (by (with_reducible repeat (first | apply Kd.V_alloc | apply Kd.V_drewN | apply Kd.V_drew)); exact HL404_0.out) (Kd.R_base ho0) hb); have n2_ := Aside0.mk (Kd.R_elder' (Qro HO408.out) (Kd.R_base ho0) hb); have n3_ := Aside0.mk (Kd.R_lower (Kd.R_new' ho0 (Kd.R_lt (Qro HO408.out))) (below_size (Qaw))); have n4_ := Aside0.mk (Kd.C_below (by repeat (first | (with_reducible exact HR404_0.out) | (with_reducible refine Kd.C_alloc ?_ _) | (with_reducible refine Kd.C_drewN ?_ _) | (with_reducible refine Kd.C_drew ?_) | exact HR404_0.out)) hb); have n5_ := Aside0.mk (below_step (Qaw) hb); clear HO_118; clear HL404_0; clear HO408; clear HR404_0; clear HB; have HO_118 := n0_; have HL404_0 := n1_; have HO408 := n2_; have HO412 := n3_; have HR404_0 := n4_; have HB := n5_; clear n0_ n1_ n2_ n3_ n4_ n5_; (try clear hb); (try clear hb2); (try clear hk); (try clear hi); (try clear ho0)))
               go_meet
               case rel => exact ⟨_, (t409), (t410), (by first | rfl | (simp; done) | (simp [*]; done)), H', ⟨by have := HJ13.out; have := HJ30.out; have := HK3.out; first | omega | exact Nat.le_refl _⟩, ⟨by (with_reducible repeat (first | apply Kd.R_alloc | apply Kd.R_drewN | apply Kd.R_drew)); exact Kd.R_mono HO412.out (fun _ hk => trivial)⟩, ⟨by (with_reducible repeat (first | apply Kd.N_alloc | apply Kd.N_drewN | apply Kd.N_drew)); exact Kd.N_mono HO_118.out (fun _ hk => hk.2)⟩, ⟨by repeat (first | (with_reducible exact HR404_0.out) | (with_reducible refine Kd.C_alloc ?_ _) | (with_reducible refine Kd.C_drewN ?_ _) | (with_reducible refine Kd.C_drew ?_) | exact HR404_0.out)⟩, ⟨by repeat (first | (with_reducible first | exact HB.out | apply below_alloc | apply pw_below_drewN | apply below_drew1) | exact HB.out)⟩⟩
              ·rw [if_neg c69] at H
               have c69b0 : ((rd (rd_L1 y400 x120_3) 0) == 0) = false := beq_eq_false_iff_ne.mpr c69
               have c69b1 : ((rd (rd_L1 y400 x120_3) 0) != 0) = true := bne_iff_ne.mpr c69
               (first | rw [c69b0] | (simp only [i64_w, i32_w]; rw [c69b0]) | skip)
               replace H := Option.bind_eq_some_iff.mp H
               obtain ⟨t413, A750, H⟩ := H
               replace H : ((minor_Contract.f k3 t413 a3 a4).bind fun bt416 => (lampblacklaw07_MinorFound.j6 k3 l0 l1 a3 a4 t367 bt416.1 bt416.2 y400 (y400.length : Int) x120_3)) = some r := H
               have A75 := Aside0.mk A750
               clear A750
               replace H := Option.bind_eq_some_iff.mp H
               obtain ⟨⟨t416, t417⟩, A760, H⟩ := H
               replace H : (lampblacklaw07_MinorFound.j6 k3 l0 l1 a3 a4 t367 t416 t417 y400 (y400.length : Int) x120_3) = some r := H
               have A76 := Aside0.mk A760
               clear A760
               have H' := Aside0.mk H
               clear H
               go_wp2_with (first | ((with_reducible refine gate_callee (f := 22) rfl ?_); refine goesL_ (some 137) rfl rfl Tryd.func22 (by kernel_rfl) rfl #[.slice A0 l0.length c0] rfl (Qls) ?_; (with_reducible refine (lampblacklaw07_Few.calls _ _ l0 t413 _ ?side1 ?side2 A75.out).mono ?_); (case side1 => exact Qsc (Kd.C_below HR0.out HB.out)); (case side2 => exact HC0.out); rintro e w77 ⟨v414, rfl, ho0, hb⟩; refine ⟨_, rfl, ?_⟩; have n0_ := Aside0.mk (Kd.N_elder' (by (with_reducible repeat (first | apply Kd.N_alloc | apply Kd.N_drewN | apply Kd.N_drew)); exact HO_118.out) (Kd.R_base ho0) hb); have n1_ := Aside0.mk (Kd.V_elder' (by (with_reducible repeat (first | apply Kd.V_alloc | apply Kd.V_drewN | apply Kd.V_drew)); exact HL404_0.out) (Kd.R_base ho0) hb); have n2_ := Aside0.mk (Kd.R_lower ho0 (below_size (Qaw))); have n3_ := Aside0.mk (Kd.C_below (by repeat (first | (with_reducible exact HR404_0.out) | (with_reducible refine Kd.C_alloc ?_ _) | (with_reducible refine Kd.C_drewN ?_ _) | (with_reducible refine Kd.C_drew ?_) | exact HR404_0.out)) hb); have n4_ := Aside0.mk (below_step (Qaw) hb); clear HO_118; clear HL404_0; clear HR404_0; clear HB; have HO_118 := n0_; have HL404_0 := n1_; have HO415 := n2_; have HR404_0 := n3_; have HB := n4_; clear n0_ n1_ n2_ n3_ n4_; (try clear hb); (try clear hb2); (try clear hk); (try clear hi); (try clear ho0); obtain ⟨Ao78, co78, eo78⟩ := Kd.R_slice HO415.out; subst eo78) | ((with_reducible refine gate_callee (f := 36) rfl ?_); refine goesL_ (some 140) rfl rfl Tryd.func36 (by kernel_rfl) rfl #[.slice Ao78 t413.length co78, .int .i64 a3, .int .i64 a4] rfl (Qls) ?_; (with_reducible refine (minor_Contract.calls (hGL := (Qlg)) k3 _ _ t413 a3 a4 t416 t417 _ ?side1 ?side2 A76.out).mono ?_); (case side1 => exact Qsc (Kd.R_reads' HO415.out).2.2); (case side2 => exact (Kd.R_reads' HO415.out).2.1); rintro e w79 ⟨v418, rfl, ho0, hb⟩; refine ⟨_, rfl, ?_⟩; have n0_ := Aside0.mk (Kd.N_elder' (by (with_reducible repeat (first | apply Kd.N_alloc | apply Kd.N_drewN | apply Kd.N_drew)); exact HO_118.out) (Kd.R_base ho0) hb); have n1_ := Aside0.mk (Kd.V_elder' (by (with_reducible repeat (first | apply Kd.V_alloc | apply Kd.V_drewN | apply Kd.V_drew)); exact HL404_0.out) (Kd.R_base ho0) hb); have n2_ := Aside0.mk (Kd.R_elder' (Qro HO415.out) (Kd.R_base ho0) hb); have n3_ := Aside0.mk (Kd.R_lower (Kd.R_new' ho0 (Kd.R_lt (Qro HO415.out))) (below_size (Qaw))); have n4_ := Aside0.mk (Kd.C_below (by repeat (first | (with_reducible exact HR404_0.out) | (with_reducible refine Kd.C_alloc ?_ _) | (with_reducible refine Kd.C_drewN ?_ _) | (with_reducible refine Kd.C_drew ?_) | exact HR404_0.out)) hb); have n5_ := Aside0.mk (below_step (Qaw) hb); clear HO_118; clear HL404_0; clear HO415; clear HR404_0; clear HB; have HO_118 := n0_; have HL404_0 := n1_; have HO415 := n2_; have HO419 := n3_; have HR404_0 := n4_; have HB := n5_; clear n0_ n1_ n2_ n3_ n4_ n5_; (try clear hb); (try clear hb2); (try clear hk); (try clear hi); (try clear ho0)))
               go_meet
               case rel => exact ⟨_, (t416), (t417), (by first | rfl | (simp; done) | (simp [*]; done)), H', ⟨by have := HJ13.out; have := HJ30.out; have := HK3.out; first | omega | exact Nat.le_refl _⟩, ⟨by (with_reducible repeat (first | apply Kd.R_alloc | apply Kd.R_drewN | apply Kd.R_drew)); exact Kd.R_mono HO419.out (fun _ hk => trivial)⟩, ⟨by (with_reducible repeat (first | apply Kd.N_alloc | apply Kd.N_drewN | apply Kd.N_drew)); exact Kd.N_mono HO_118.out (fun _ hk => hk.2)⟩, ⟨by repeat (first | (with_reducible exact HR404_0.out) | (with_reducible refine Kd.C_alloc ?_ _) | (with_reducible refine Kd.C_drewN ?_ _) | (with_reducible refine Kd.C_drew ?_) | exact HR404_0.out)⟩, ⟨by repeat (first | (with_reducible first | exact HB.out | apply below_alloc | apply pw_below_drewN | apply below_drew1) | exact HB.out)⟩⟩
             case rest =>
              clear HC68
              try clear c1
              try clear c2
              try clear p2
              try clear c3
              try clear p3
              try clear q3
              try clear hx3
              try clear c4
              try clear p4
              try clear q4
              try clear hx4
              try clear qi4
              try clear c5
              try clear c6
              try clear p6
              try clear c7
              try clear c13
              try clear c13b0
              try clear c13b1
              try clear c21
              try clear c22
              try clear c23
              try clear c24
              try clear c27
              try clear c28
              try clear c28b0
              try clear c28b1
              try clear c29
              try clear c29b0
              try clear c29b1
              try clear c30
              try clear c32
              try clear c32b0
              try clear c32b1
              try clear c35
              try clear c36
              try clear p39
              try clear q39
              try clear hx39
              try clear c40
              try clear p40
              try clear q40
              try clear hx40
              try clear qi40
              try clear c43
              try clear c44
              try clear c45
              try clear c45b0
              try clear c46
              try clear c46b0
              try clear c47
              try clear c47b0
              try clear c48
              try clear c48b0
              try clear c49
              try clear c49b0
              try clear c50
              try clear c50b0
              try clear c51
              try clear c54
              try clear c54b0
              try clear c64
              try clear c64b0
              try clear p64
              try clear c65
              try clear c65b0
              try clear c66
              try clear c66b0
              try clear c67
              try clear c67b0
              try clear c67b1
              try clear c69
              try clear c69b0
              try clear c69b1
              try clear hx390_0
              try clear hx391_0
              try clear hx404_0
              try clear hx405_0
              try clear p2
              try clear p3
              try clear p39
              try clear p390
              try clear p391
              try clear p404
              try clear p405
              try clear p6
              try clear q3
              try clear q39
              try clear q390
              try clear q391
              try clear q404
              try clear q405
              obtain ⟨kq, x25_67, x26_67, rfl, HA, HJ67, HO_25, HO_118, HR404_0, HB⟩ := hcut
              cases kq with
              | zero => exact absurd HA.out (by simp [lampblacklaw07_MinorFound.j6])
              | succ kj67 =>
               have H := HA.out
               clear HA
               simp only [lampblacklaw07_MinorFound.j6] at H
               by_cases c80 : x26_67 = 0
               ·rw [if_pos c80] at H
                have c80b0 : (x26_67 == 0) = true := beq_iff_eq.mpr c80
                have c80b1 : (x26_67 != 0) = false := bne_eq_false_iff_eq.mpr c80
                clear c80
                replace H := Option.bind_eq_some_iff.mp H
                obtain ⟨t420, A810, H⟩ := H
                replace H : ((lampblacklaw07_has.f x25_67 t420).bind fun bt423 => (if bt423.2 = true then (if bt423.1 = true then (if t367 = 0 then (lampblacklaw07_MinorFound.l2 kj67 l0 l1 a3 a4 t367 y400 (y400.length : Int) (wrap64 (x120_3 + 1))) else (some false)) else (lampblacklaw07_MinorFound.l2 kj67 l0 l1 a3 a4 t367 y400 (y400.length : Int) (wrap64 (x120_3 + 1)))) else (some false))) = some r := H
                have A81 := Aside0.mk A810
                clear A810
                replace H := Option.bind_eq_some_iff.mp H
                obtain ⟨⟨t423, t424⟩, A820, H⟩ := H
                replace H : (if t424 = true then (if t423 = true then (if t367 = 0 then (lampblacklaw07_MinorFound.l2 kj67 l0 l1 a3 a4 t367 y400 (y400.length : Int) (wrap64 (x120_3 + 1))) else (some false)) else (lampblacklaw07_MinorFound.l2 kj67 l0 l1 a3 a4 t367 y400 (y400.length : Int) (wrap64 (x120_3 + 1)))) else (some false)) = some r := H
                have A82 := Aside0.mk A820
                clear A820
                by_cases c83 : t424 = true
                ·subst c83
                 have H1 : (if t423 = true then (if t367 = 0 then (lampblacklaw07_MinorFound.l2 kj67 l0 l1 a3 a4 t367 y400 (y400.length : Int) (wrap64 (x120_3 + 1))) else (some false)) else (lampblacklaw07_MinorFound.l2 kj67 l0 l1 a3 a4 t367 y400 (y400.length : Int) (wrap64 (x120_3 + 1)))) = some r := by rw [if_pos rfl] at H; exact H
                 clear H
                 have H := H1
                 clear H1
                 by_cases c84 : t423 = true
                 ·subst c84
                  have H1 : (if t367 = 0 then (lampblacklaw07_MinorFound.l2 kj67 l0 l1 a3 a4 t367 y400 (y400.length : Int) (wrap64 (x120_3 + 1))) else (some false)) = some r := by rw [if_pos rfl] at H; exact H
                  clear H
                  have H := H1
                  clear H1
                  by_cases c85 : t367 = 0
                  ·rw [if_pos c85] at H
                   have c85b0 : (t367 == 0) = true := beq_iff_eq.mpr c85
                   have c85b1 : (t367 != 0) = false := bne_eq_false_iff_eq.mpr c85
                   clear c85
                   have H' := Aside0.mk H
                   clear H
                   go_wp2_with (first | ((with_reducible refine gate_callee (f := 22) rfl ?_); refine goesL_ (some 148) rfl rfl Tryd.func22 (by kernel_rfl) rfl #[.slice A1 l1.length c1] rfl (Qls) ?_; (with_reducible refine (lampblacklaw07_Few.calls _ _ l1 t420 _ ?side1 ?side2 A81.out).mono ?_); (case side1 => exact Qsc (Kd.C_below HR1.out HB.out)); (case side2 => exact HC1.out); rintro e w86 ⟨v421, rfl, ho0, hb⟩; refine ⟨_, rfl, ?_⟩; have n0_ := Aside0.mk (Kd.R_elder' (Qro HO_25.out) (Kd.R_base ho0) hb); have n1_ := Aside0.mk (Kd.N_elder' (by (with_reducible repeat (first | apply Kd.N_alloc | apply Kd.N_drewN | apply Kd.N_drew)); exact HO_118.out) (Kd.R_base ho0) hb); have n2_ := Aside0.mk (Kd.R_lower (Kd.R_new' ho0 (Kd.R_lt (Qro HO_25.out))) (below_size (Qaw))); have n3_ := Aside0.mk (Kd.C_below (by repeat (first | (with_reducible exact HR404_0.out) | (with_reducible refine Kd.C_alloc ?_ _) | (with_reducible refine Kd.C_drewN ?_ _) | (with_reducible refine Kd.C_drew ?_) | exact HR404_0.out)) hb); have n4_ := Aside0.mk (below_step (Qaw) hb); clear HO_25; clear HO_118; clear HR404_0; clear HB; have HO_25 := n0_; have HO_118 := n1_; have HO422 := n2_; have HR404_0 := n3_; have HB := n4_; clear n0_ n1_ n2_ n3_ n4_; (try clear hb); (try clear hb2); (try clear hk); (try clear hi); (try clear ho0); obtain ⟨Ao87, co87, eo87⟩ := Kd.R_slice HO_25.out; subst eo87; obtain ⟨Ao88, co88, eo88⟩ := Kd.R_slice HO422.out; subst eo88) | ((with_reducible refine gate_callee (f := 20) rfl ?_); refine goesL_ (some 149) rfl rfl Tryd.func20 (by kernel_rfl) rfl #[.slice Ao87 x25_67.length co87, .slice Ao88 t420.length co88] rfl (Qls) ?_; (with_reducible refine (lampblacklaw07_has.calls (hGL := (Qlg)) _ _ x25_67 _ _ t420 true true _ ?side1 ?side2 ?side3 ?side4 A82.out).mono ?_); (case side1 => exact Qsc (Kd.R_reads' HO_25.out).2.2); (case side2 => exact (Kd.R_reads' HO_25.out).2.1); (case side3 => exact Qsc (Kd.R_reads' HO422.out).2.2); (case side4 => exact (Kd.R_reads' HO422.out).2.1); rintro e w89 ⟨rfl, hb⟩; refine ⟨_, rfl, ?_⟩; have n0_ := Aside0.mk (Kd.R_below (Qro HO_25.out) hb); have n1_ := Aside0.mk (Kd.N_below (by (with_reducible repeat (first | apply Kd.N_alloc | apply Kd.N_drewN | apply Kd.N_drew)); exact HO_118.out) hb); have n2_ := Aside0.mk (Kd.R_below (Qro HO422.out) hb); have n3_ := Aside0.mk (Kd.C_below (by repeat (first | (with_reducible exact HR404_0.out) | (with_reducible refine Kd.C_alloc ?_ _) | (with_reducible refine Kd.C_drewN ?_ _) | (with_reducible refine Kd.C_drew ?_) | exact HR404_0.out)) hb); have n4_ := Aside0.mk (below_step (Qaw) hb); clear HO_25; clear HO_118; clear HO422; clear HR404_0; clear HB; have HO_25 := n0_; have HO_118 := n1_; have HO422 := n2_; have HR404_0 := n3_; have HB := n4_; clear n0_ n1_ n2_ n3_ n4_; (try clear hb); (try clear hb2); (try clear hk); (try clear hi)))
                   go_roundg kj67
                   case measure => have := HJ13.out; have := HJ30.out; have := HK3.out; have := HJ67.out; omega
                   case rel => exact ⟨(wrap64 (x120_3 + 1)), (by first | rfl | (simp; done) | (simp [*]; done)), H', ⟨by have := HJ13.out; have := HJ30.out; have := HK3.out; have := HJ67.out; omega⟩, ⟨by (with_reducible repeat (first | apply Kd.N_alloc | apply Kd.N_drewN | apply Kd.N_drew)); exact Kd.N_mono HO_118.out (fun _ hk => trivial)⟩, ⟨by repeat (first | (with_reducible first | exact HB.out | apply below_alloc | apply pw_below_drewN | apply below_drew1) | exact HB.out)⟩⟩
                  ·rw [if_neg c85] at H
                   have c85b0 : (t367 == 0) = false := beq_eq_false_iff_ne.mpr c85
                   have c85b1 : (t367 != 0) = true := bne_iff_ne.mpr c85
                   obtain rfl := Option.some.inj H
                   go_wp2_with (first | ((with_reducible refine gate_callee (f := 22) rfl ?_); refine goesL_ (some 148) rfl rfl Tryd.func22 (by kernel_rfl) rfl #[.slice A1 l1.length c1] rfl (Qls) ?_; (with_reducible refine (lampblacklaw07_Few.calls _ _ l1 t420 _ ?side1 ?side2 A81.out).mono ?_); (case side1 => exact Qsc (Kd.C_below HR1.out HB.out)); (case side2 => exact HC1.out); rintro e w90 ⟨v421, rfl, ho0, hb⟩; refine ⟨_, rfl, ?_⟩; have n0_ := Aside0.mk (Kd.R_elder' (Qro HO_25.out) (Kd.R_base ho0) hb); have n1_ := Aside0.mk (Kd.N_elder' (by (with_reducible repeat (first | apply Kd.N_alloc | apply Kd.N_drewN | apply Kd.N_drew)); exact HO_118.out) (Kd.R_base ho0) hb); have n2_ := Aside0.mk (Kd.R_lower (Kd.R_new' ho0 (Kd.R_lt (Qro HO_25.out))) (below_size (Qaw))); have n3_ := Aside0.mk (Kd.C_below (by repeat (first | (with_reducible exact HR404_0.out) | (with_reducible refine Kd.C_alloc ?_ _) | (with_reducible refine Kd.C_drewN ?_ _) | (with_reducible refine Kd.C_drew ?_) | exact HR404_0.out)) hb); have n4_ := Aside0.mk (below_step (Qaw) hb); clear HO_25; clear HO_118; clear HR404_0; clear HB; have HO_25 := n0_; have HO_118 := n1_; have HO422 := n2_; have HR404_0 := n3_; have HB := n4_; clear n0_ n1_ n2_ n3_ n4_; (try clear hb); (try clear hb2); (try clear hk); (try clear hi); (try clear ho0); obtain ⟨Ao91, co91, eo91⟩ := Kd.R_slice HO_25.out; subst eo91; obtain ⟨Ao92, co92, eo92⟩ := Kd.R_slice HO422.out; subst eo92) | ((with_reducible refine gate_callee (f := 20) rfl ?_); refine goesL_ (some 149) rfl rfl Tryd.func20 (by kernel_rfl) rfl #[.slice Ao91 x25_67.length co91, .slice Ao92 t420.length co92] rfl (Qls) ?_; (with_reducible refine (lampblacklaw07_has.calls (hGL := (Qlg)) _ _ x25_67 _ _ t420 true true _ ?side1 ?side2 ?side3 ?side4 A82.out).mono ?_); (case side1 => exact Qsc (Kd.R_reads' HO_25.out).2.2); (case side2 => exact (Kd.R_reads' HO_25.out).2.1); (case side3 => exact Qsc (Kd.R_reads' HO422.out).2.2); (case side4 => exact (Kd.R_reads' HO422.out).2.1); rintro e w93 ⟨rfl, hb⟩; refine ⟨_, rfl, ?_⟩; have n0_ := Aside0.mk (Kd.R_below (Qro HO_25.out) hb); have n1_ := Aside0.mk (Kd.N_below (by (with_reducible repeat (first | apply Kd.N_alloc | apply Kd.N_drewN | apply Kd.N_drew)); exact HO_118.out) hb); have n2_ := Aside0.mk (Kd.R_below (Qro HO422.out) hb); have n3_ := Aside0.mk (Kd.C_below (by repeat (first | (with_reducible exact HR404_0.out) | (with_reducible refine Kd.C_alloc ?_ _) | (with_reducible refine Kd.C_drewN ?_ _) | (with_reducible refine Kd.C_drew ?_) | exact HR404_0.out)) hb); have n4_ := Aside0.mk (below_step (Qaw) hb); clear HO_25; clear HO_118; clear HO422; clear HR404_0; clear HB; have HO_25 := n0_; have HO_118 := n1_; have HO422 := n2_; have HR404_0 := n3_; have HB := n4_; clear n0_ n1_ n2_ n3_ n4_; (try clear hb); (try clear hb2); (try clear hk); (try clear hi)))
                   go_ret
                   exact ⟨by first | rfl | (simp [errW_none, errW_some] <;> rfl) | (simp [*, errW_none, errW_some] <;> rfl), by repeat (first | (with_reducible first | exact HB.out | apply below_alloc | apply pw_below_drewN | apply below_drew1) | exact HB.out)⟩
                 ·replace c84 := Bool.eq_false_iff.mpr c84
                  subst c84
                  have H1 : (lampblacklaw07_MinorFound.l2 kj67 l0 l1 a3 a4 t367 y400 (y400.length : Int) (wrap64 (x120_3 + 1))) = some r := by rw [if_neg (show ¬ (false = true) by decide)] at H; exact H
                  clear H
                  have H := H1
                  clear H1
                  have H' := Aside0.mk H
                  clear H
                  go_wp2_with (first | ((with_reducible refine gate_callee (f := 22) rfl ?_); refine goesL_ (some 148) rfl rfl Tryd.func22 (by kernel_rfl) rfl #[.slice A1 l1.length c1] rfl (Qls) ?_; (with_reducible refine (lampblacklaw07_Few.calls _ _ l1 t420 _ ?side1 ?side2 A81.out).mono ?_); (case side1 => exact Qsc (Kd.C_below HR1.out HB.out)); (case side2 => exact HC1.out); rintro e w94 ⟨v421, rfl, ho0, hb⟩; refine ⟨_, rfl, ?_⟩; have n0_ := Aside0.mk (Kd.R_elder' (Qro HO_25.out) (Kd.R_base ho0) hb); have n1_ := Aside0.mk (Kd.N_elder' (by (with_reducible repeat (first | apply Kd.N_alloc | apply Kd.N_drewN | apply Kd.N_drew)); exact HO_118.out) (Kd.R_base ho0) hb); have n2_ := Aside0.mk (Kd.R_lower (Kd.R_new' ho0 (Kd.R_lt (Qro HO_25.out))) (below_size (Qaw))); have n3_ := Aside0.mk (Kd.C_below (by repeat (first | (with_reducible exact HR404_0.out) | (with_reducible refine Kd.C_alloc ?_ _) | (with_reducible refine Kd.C_drewN ?_ _) | (with_reducible refine Kd.C_drew ?_) | exact HR404_0.out)) hb); have n4_ := Aside0.mk (below_step (Qaw) hb); clear HO_25; clear HO_118; clear HR404_0; clear HB; have HO_25 := n0_; have HO_118 := n1_; have HO422 := n2_; have HR404_0 := n3_; have HB := n4_; clear n0_ n1_ n2_ n3_ n4_; (try clear hb); (try clear hb2); (try clear hk); (try clear hi); (try clear ho0); obtain ⟨Ao95, co95, eo95⟩ := Kd.R_slice HO_25.out; subst eo95; obtain ⟨Ao96, co96, eo96⟩ := Kd.R_slice HO422.out; subst eo96) | ((with_reducible refine gate_callee (f := 20) rfl ?_); refine goesL_ (some 149) rfl rfl Tryd.func20 (by kernel_rfl) rfl #[.slice Ao95 x25_67.length co95, .slice Ao96 t420.length co96] rfl (Qls) ?_; (with_reducible refine (lampblacklaw07_has.calls (hGL := (Qlg)) _ _ x25_67 _ _ t420 false true _ ?side1 ?side2 ?side3 ?side4 A82.out).mono ?_); (case side1 => exact Qsc (Kd.R_reads' HO_25.out).2.2); (case side2 => exact (Kd.R_reads' HO_25.out).2.1); (case side3 => exact Qsc (Kd.R_reads' HO422.out).2.2); (case side4 => exact (Kd.R_reads' HO422.out).2.1); rintro e w97 ⟨rfl, hb⟩; refine ⟨_, rfl, ?_⟩; have n0_ := Aside0.mk (Kd.R_below (Qro HO_25.out) hb); have n1_ := Aside0.mk (Kd.N_below (by (with_reducible repeat (first | apply Kd.N_alloc | apply Kd.N_drewN | apply Kd.N_drew)); exact HO_118.out) hb); have n2_ := Aside0.mk (Kd.R_below (Qro HO422.out) hb); have n3_ := Aside0.mk (Kd.C_below (by repeat (first | (with_reducible exact HR404_0.out) | (with_reducible refine Kd.C_alloc ?_ _) | (with_reducible refine Kd.C_drewN ?_ _) | (with_reducible refine Kd.C_drew ?_) | exact HR404_0.out)) hb); have n4_ := Aside0.mk (below_step (Qaw) hb); clear HO_25; clear HO_118; clear HO422; clear HR404_0; clear HB; have HO_25 := n0_; have HO_118 := n1_; have HO422 := n2_; have HR404_0 := n3_; have HB := n4_; clear n0_ n1_ n2_ n3_ n4_; (try clear hb); (try clear hb2); (try clear hk); (try clear hi)))
                  go_roundg kj67
                  case measure => have := HJ13.out; have := HJ30.out; have := HK3.out; have := HJ67.out; omega
                  case rel => exact ⟨(wrap64 (x120_3 + 1)), (by first | rfl | (simp; done) | (simp [*]; done)), H', ⟨by have := HJ13.out; have := HJ30.out; have := HK3.out; have := HJ67.out; omega⟩, ⟨by (with_reducible repeat (first | apply Kd.N_alloc | apply Kd.N_drewN | apply Kd.N_drew)); exact Kd.N_mono HO_118.out (fun _ hk => trivial)⟩, ⟨by repeat (first | (with_reducible first | exact HB.out | apply below_alloc | apply pw_below_drewN | apply below_drew1) | exact HB.out)⟩⟩
                ·replace c83 := Bool.eq_false_iff.mpr c83
                 subst c83
                 have H1 : (some false) = some r := by rw [if_neg (show ¬ (false = true) by decide)] at H; exact H
                 clear H
                 have H := H1
                 clear H1
                 obtain rfl := Option.some.inj H
                 go_wp2_with (first | ((with_reducible refine gate_callee (f := 22) rfl ?_); refine goesL_ (some 148) rfl rfl Tryd.func22 (by kernel_rfl) rfl #[.slice A1 l1.length c1] rfl (Qls) ?_; (with_reducible refine (lampblacklaw07_Few.calls _ _ l1 t420 _ ?side1 ?side2 A81.out).mono ?_); (case side1 => exact Qsc (Kd.C_below HR1.out HB.out)); (case side2 => exact HC1.out); rintro e w98 ⟨v421, rfl, ho0, hb⟩; refine ⟨_, rfl, ?_⟩; have n0_ := Aside0.mk (Kd.R_elder' (Qro HO_25.out) (Kd.R_base ho0) hb); have n1_ := Aside0.mk (Kd.N_elder' (by (with_reducible repeat (first | apply Kd.N_alloc | apply Kd.N_drewN | apply Kd.N_drew)); exact HO_118.out) (Kd.R_base ho0) hb); have n2_ := Aside0.mk (Kd.R_lower (Kd.R_new' ho0 (Kd.R_lt (Qro HO_25.out))) (below_size (Qaw))); have n3_ := Aside0.mk (Kd.C_below (by repeat (first | (with_reducible exact HR404_0.out) | (with_reducible refine Kd.C_alloc ?_ _) | (with_reducible refine Kd.C_drewN ?_ _) | (with_reducible refine Kd.C_drew ?_) | exact HR404_0.out)) hb); have n4_ := Aside0.mk (below_step (Qaw) hb); clear HO_25; clear HO_118; clear HR404_0; clear HB; have HO_25 := n0_; have HO_118 := n1_; have HO422 := n2_; have HR404_0 := n3_; have HB := n4_; clear n0_ n1_ n2_ n3_ n4_; (try clear hb); (try clear hb2); (try clear hk); (try clear hi); (try clear ho0); obtain ⟨Ao99, co99, eo99⟩ := Kd.R_slice HO_25.out; subst eo99; obtain ⟨Ao100, co100, eo100⟩ := Kd.R_slice HO422.out; subst eo100) | ((with_reducible refine gate_callee (f := 20) rfl ?_); refine goesL_ (some 149) rfl rfl Tryd.func20 (by kernel_rfl) rfl #[.slice Ao99 x25_67.length co99, .slice Ao100 t420.length co100] rfl (Qls) ?_; (with_reducible refine (lampblacklaw07_has.calls (hGL := (Qlg)) _ _ x25_67 _ _ t420 t423 false _ ?side1 ?side2 ?side3 ?side4 A82.out).mono ?_); (case side1 => exact Qsc (Kd.R_reads' HO_25.out).2.2); (case side2 => exact (Kd.R_reads' HO_25.out).2.1); (case side3 => exact Qsc (Kd.R_reads' HO422.out).2.2); (case side4 => exact (Kd.R_reads' HO422.out).2.1); rintro e w101 ⟨rfl, hb⟩; refine ⟨_, rfl, ?_⟩; have n0_ := Aside0.mk (Kd.R_below (Qro HO_25.out) hb); have n1_ := Aside0.mk (Kd.N_below (by (with_reducible repeat (first | apply Kd.N_alloc | apply Kd.N_drewN | apply Kd.N_drew)); exact HO_118.out) hb); have n2_ := Aside0.mk (Kd.R_below (Qro HO422.out) hb); have n3_ := Aside0.mk (Kd.C_below (by repeat (first | (with_reducible exact HR404_0.out) | (with_reducible refine Kd.C_alloc ?_ _) | (with_reducible refine Kd.C_drewN ?_ _) | (with_reducible refine Kd.C_drew ?_) | exact HR404_0.out)) hb); have n4_ := Aside0.mk (below_step (Qaw) hb); clear HO_25; clear HO_118; clear HO422; clear HR404_0; clear HB; have HO_25 := n0_; have HO_118 := n1_; have HO422 := n2_; have HR404_0 := n3_; have HB := n4_; clear n0_ n1_ n2_ n3_ n4_; (try clear hb); (try clear hb2); (try clear hk); (try clear hi)))
                 go_ret
                 exact ⟨by first | rfl | (simp [errW_none, errW_some] <;> rfl) | (simp [*, errW_none, errW_some] <;> rfl), by repeat (first | (with_reducible first | exact HB.out | apply below_alloc | apply pw_below_drewN | apply below_drew1) | exact HB.out)⟩
               ·rw [if_neg c80] at H
                have c80b0 : (x26_67 == 0) = false := beq_eq_false_iff_ne.mpr c80
                have c80b1 : (x26_67 != 0) = true := bne_iff_ne.mpr c80
                have H' := Aside0.mk H
                clear H
                go_wp2
                go_roundg kj67
                case measure => have := HJ13.out; have := HJ30.out; have := HK3.out; have := HJ67.out; omega
                case rel => exact ⟨(wrap64 (x120_3 + 1)), (by first | rfl | (simp; done) | (simp [*]; done)), H', ⟨by have := HJ13.out; have := HJ30.out; have := HK3.out; have := HJ67.out; omega⟩, ⟨by (with_reducible repeat (first | apply Kd.N_alloc | apply Kd.N_drewN | apply Kd.N_drew)); exact Kd.N_mono HO_118.out (fun _ hk => trivial)⟩, ⟨by repeat (first | (with_reducible first | exact HB.out | apply below_alloc | apply pw_below_drewN | apply below_drew1) | exact HB.out)⟩⟩
            ·rw [if_neg c67] at H
             exact absurd H (by simp)
           ·rw [if_neg c66] at H
            exact absurd H (by simp)
          ·rw [if_neg c65] at H
           exact absurd H (by simp)
         ·rw [if_neg c64] at H
          have c64b0 : decide (x120_3 < (y400.length : Int)) = false := decide_eq_false c64
          clear c64
          replace H := Option.bind_eq_some_iff.mp H
          obtain ⟨t403, A1020, H⟩ := H
          replace H : (some t403) = some r := H
          have A102 := Aside0.mk A1020
          clear A1020
          obtain rfl := Option.some.inj H
          go_wp2_with (first | ((with_reducible refine gate_callee (f := 17) rfl ?_); refine goesL_ (some 162) rfl rfl Tryd.func17 (by kernel_rfl) rfl #[] rfl (Qls) ?_; (with_reducible refine (lampblacklaw07_awake.calls (hGL := (Qlg)) k3  t403 _ A102.out).mono ?_); rintro e w103 ⟨rfl, hb⟩; refine ⟨_, rfl, ?_⟩; have n0_ := Aside0.mk (Kd.N_below (by (with_reducible repeat (first | apply Kd.N_alloc | apply Kd.N_drewN | apply Kd.N_drew)); exact HO_118.out) hb); have n1_ := Aside0.mk (below_step (Qaw) hb); clear HO_118; clear HB; have HO_118 := n0_; have HB := n1_; clear n0_ n1_; (try clear hb); (try clear hb2); (try clear hk); (try clear hi)))
          go_ret
          exact ⟨by first | rfl | (simp [errW_none, errW_some] <;> rfl) | (simp [*, errW_none, errW_some] <;> rfl), by repeat (first | (with_reducible first | exact HB.out | apply below_alloc | apply pw_below_drewN | apply below_drew1) | exact HB.out)⟩
 ·rw [if_neg c13] at H
  have c13b0 : (t380 == 0) = false := beq_eq_false_iff_ne.mpr c13
  have c13b1 : (t380 != 0) = true := bne_iff_ne.mpr c13
  by_cases c104 : t367 = 2
  ·rw [if_pos c104] at H
   have c104b0 : (t367 == 2) = true := beq_iff_eq.mpr c104
   have c104b1 : (t367 != 2) = false := bne_eq_false_iff_eq.mpr c104
   clear c104
   by_cases c105 : t380 = 2
   ·rw [if_pos c105] at H
    have c105b0 : (t380 == 2) = true := beq_iff_eq.mpr c105
    have c105b1 : (t380 != 2) = false := bne_eq_false_iff_eq.mpr c105
    clear c105
    replace H := Option.bind_eq_some_iff.mp H
    obtain ⟨t381, A1060, H⟩ := H
    replace H : (some t381) = some r := H
    have A106 := Aside0.mk A1060
    clear A1060
    obtain rfl := Option.some.inj H
    go_enter Tryd.func7, Tryd.ntmps7
    go_wp2_with (first | ((with_reducible refine gate_callee (f := 22) rfl ?_); refine goesL_ (some 31) rfl rfl Tryd.func22 (by kernel_rfl) rfl #[.slice A0 l0.length c0] rfl (Qls) ?_; (with_reducible refine (lampblacklaw07_Few.calls _ _ l0 t360 _ ?side1 ?side2 A6.out).mono ?_); (case side1 => exact Qsc HR0.out); (case side2 => exact HC0.out); rintro e w107 ⟨v361, rfl, ho0, hb⟩; refine ⟨_, rfl, ?_⟩; have n0_ := Aside0.mk (Kd.R_lower ho0 (below_size (Qaw))); have n1_ := Aside0.mk (below_step (Qaw) hb); clear HB; have HO362 := n0_; have HB := n1_; clear n0_ n1_; (try clear hb); (try clear hb2); (try clear hk); (try clear hi); (try clear ho0)) | ((with_reducible refine gate_callee (f := 22) rfl ?_); refine goesL_ (some 33) rfl rfl Tryd.func22 (by kernel_rfl) rfl #[.slice A1 l1.length c1] rfl (Qls) ?_; (with_reducible refine (lampblacklaw07_Few.calls _ _ l1 t363 _ ?side1 ?side2 A7.out).mono ?_); (case side1 => exact Qsc (Kd.C_below HR1.out HB.out)); (case side2 => exact HC1.out); rintro e w108 ⟨v364, rfl, ho0, hb⟩; refine ⟨_, rfl, ?_⟩; have n0_ := Aside0.mk (Kd.R_elder' (Qro HO362.out) (Kd.R_base ho0) hb); have n1_ := Aside0.mk (Kd.R_lower (Kd.R_new' ho0 (Kd.R_lt (Qro HO362.out))) (below_size (Qaw))); have n2_ := Aside0.mk (below_step (Qaw) hb); clear HO362; clear HB; have HO362 := n0_; have HO365 := n1_; have HB := n2_; clear n0_ n1_ n2_; (try clear hb); (try clear hb2); (try clear hk); (try clear hi); (try clear ho0); obtain ⟨Ao109, co109, eo109⟩ := Kd.R_slice HO362.out; subst eo109; obtain ⟨Ao110, co110, eo110⟩ := Kd.R_slice HO365.out; subst eo110) | ((with_reducible refine gate_callee (f := 21) rfl ?_); refine goesL_ (some 34) rfl rfl Tryd.func21 (by kernel_rfl) rfl #[.slice Ao109 t360.length co109, .slice Ao110 t363.length co110] rfl (Qls) ?_; (with_reducible refine (minor_Model.calls (hGL := (Qlg)) _ _ t360 _ _ t363 t366 t367 _ ?side1 ?side2 ?side3 ?side4 A8.out).mono ?_); (case side1 => exact Qsc (Kd.R_reads' HO362.out).2.2); (case side2 => exact (Kd.R_reads' HO362.out).2.1); (case side3 => exact Qsc (Kd.R_reads' HO365.out).2.2); (case side4 => exact (Kd.R_reads' HO365.out).2.1); rintro e w111 ⟨v368, rfl, ho0, hb⟩; refine ⟨_, rfl, ?_⟩; have n0_ := Aside0.mk (Kd.R_elder' (Qro HO362.out) (Kd.R_base ho0) hb); have n1_ := Aside0.mk (Kd.R_elder' (Qro HO365.out) (Kd.R_base ho0) hb); have n2_ := Aside0.mk (Kd.R_lower (Kd.R_new' (Kd.R_new' ho0 (Kd.R_lt (Qro HO362.out))) (Kd.R_lt (Qro HO365.out))) (below_size (Qaw))); have n3_ := Aside0.mk (below_step (Qaw) hb); clear HO362; clear HO365; clear HB; have HO362 := n0_; have HO365 := n1_; have HO369 := n2_; have HB := n3_; clear n0_ n1_ n2_ n3_; (try clear hb); (try clear hb2); (try clear hk); (try clear hi); (try clear ho0)) | ((with_reducible refine gate_callee (f := 22) rfl ?_); refine goesL_ (some 39) rfl rfl Tryd.func22 (by kernel_rfl) rfl #[.slice A0 l0.length c0] rfl (Qls) ?_; (with_reducible refine (lampblacklaw07_Few.calls _ _ l0 t370 _ ?side1 ?side2 A9.out).mono ?_); (case side1 => exact Qsc (Kd.C_below HR0.out HB.out)); (case side2 => exact HC0.out); rintro e w112 ⟨v371, rfl, ho0, hb⟩; refine ⟨_, rfl, ?_⟩; have n0_ := Aside0.mk (Kd.R_elder' (Qro HO362.out) (Kd.R_base ho0) hb); have n1_ := Aside0.mk (Kd.R_elder' (Qro HO365.out) (Kd.R_base ho0) hb); have n2_ := Aside0.mk (Kd.R_elder' (Qro HO369.out) (Kd.R_base ho0) hb); have n3_ := Aside0.mk (Kd.R_lower (Kd.R_new' (Kd.R_new' (Kd.R_new' ho0 (Kd.R_lt (Qro HO362.out))) (Kd.R_lt (Qro HO365.out))) (Kd.R_lt (Qro HO369.out))) (below_size (Qaw))); have n4_ := Aside0.mk (below_step (Qaw) hb); clear HO362; clear HO365; clear HO369; clear HB; have HO362 := n0_; have HO365 := n1_; have HO369 := n2_; have HO372 := n3_; have HB := n4_; clear n0_ n1_ n2_ n3_ n4_; (try clear hb); (try clear hb2); (try clear hk); (try clear hi); (try clear ho0)) | ((with_reducible refine gate_callee (f := 22) rfl ?_); refine goesL_ (some 41) rfl rfl Tryd.func22 (by kernel_rfl) rfl #[.slice A1 l1.length c1] rfl (Qls) ?_; (with_reducible refine (lampblacklaw07_Few.calls _ _ l1 t373 _ ?side1 ?side2 A10.out).mono ?_); (case side1 => exact Qsc (Kd.C_below HR1.out HB.out)); (case side2 => exact HC1.out); rintro e w113 ⟨v374, rfl, ho0, hb⟩; refine ⟨_, rfl, ?_⟩; have n0_ := Aside0.mk (Kd.R_elder' (Qro HO362.out) (Kd.R_base ho0) hb); have n1_ := Aside0.mk (Kd.R_elder' (Qro HO365.out) (Kd.R_base ho0) hb); have n2_ := Aside0.mk (Kd.R_elder' (Qro HO369.out) (Kd.R_base ho0) hb); have n3_ := Aside0.mk (Kd.R_elder' (Qro HO372.out) (Kd.R_base ho0) hb); have n4_ := Aside0.mk (Kd.R_lower (Kd.R_new' (Kd.R_new' (Kd.R_new' (Kd.R_new' ho0 (Kd.R_lt (Qro HO362.out))) (Kd.R_lt (Qro HO365.out))) (Kd.R_lt (Qro HO369.out))) (Kd.R_lt (Qro HO372.out))) (below_size (Qaw))); have n5_ := Aside0.mk (below_step (Qaw) hb); clear HO362; clear HO365; clear HO369; clear HO372; clear HB; have HO362 := n0_; have HO365 := n1_; have HO369 := n2_; have HO372 := n3_; have HO375 := n4_; have HB := n5_; clear n0_ n1_ n2_ n3_ n4_ n5_; (try clear hb); (try clear hb2); (try clear hk); (try clear hi); (try clear ho0)) | ((with_reducible refine gate_callee (f := 24) rfl ?_); refine goesL_ (some 43) rfl rfl Tryd.func24 (by kernel_rfl) rfl #[.slice A2 l2.length c2] rfl (Qls) ?_; (with_reducible refine (lampblacklaw07_list.calls _ _ l2 t376 _ ?side1 ?side2 A11.out).mono ?_); (case side1 => exact Qsc (Kd.C_below HR2.out HB.out)); (case side2 => exact HC2.out); rintro e w114 ⟨v377, rfl, ho0, hb⟩; refine ⟨_, rfl, ?_⟩; have n0_ := Aside0.mk (Kd.R_elder' (Qro HO362.out) (Kd.R_base ho0) hb); have n1_ := Aside0.mk (Kd.R_elder' (Qro HO365.out) (Kd.R_base ho0) hb); have n2_ := Aside0.mk (Kd.R_elder' (Qro HO369.out) (Kd.R_base ho0) hb); have n3_ := Aside0.mk (Kd.R_elder' (Qro HO372.out) (Kd.R_base ho0) hb); have n4_ := Aside0.mk (Kd.R_elder' (Qro HO375.out) (Kd.R_base ho0) hb); have n5_ := Aside0.mk (Kd.R_lower (Kd.R_new' (Kd.R_new' (Kd.R_new' (Kd.R_new' (Kd.R_new' ho0 (Kd.R_lt (Qro HO362.out))) (Kd.R_lt (Qro HO365.out))) (Kd.R_lt (Qro HO369.out))) (Kd.R_lt (Qro HO372.out))) (Kd.R_lt (Qro HO375.out))) (below_size (Qaw))); have n6_ := Aside0.mk (below_step (Qaw) hb); clear HO362; clear HO365; clear HO369; clear HO372; clear HO375; clear HB; have HO362 := n0_; have HO365 := n1_; have HO369 := n2_; have HO372 := n3_; have HO375 := n4_; have HO378 := n5_; have HB := n6_; clear n0_ n1_ n2_ n3_ n4_ n5_ n6_; (try clear hb); (try clear hb2); (try clear hk); (try clear hi); (try clear ho0); obtain ⟨Ao115, co115, eo115⟩ := Kd.R_slice HO372.out; subst eo115; obtain ⟨Ao116, co116, eo116⟩ := Kd.R_slice HO375.out; subst eo116; obtain ⟨Ao117, co117, eo117⟩ := Kd.R_slice HO378.out; subst eo117) | ((with_reducible refine gate_callee (f := 23) rfl ?_); refine goesL_ (some 44) rfl rfl Tryd.func23 (by kernel_rfl) rfl #[.slice Ao115 t370.length co115, .slice Ao116 t373.length co116, .slice Ao117 t376.length co117] rfl (Qls) ?_; (with_reducible refine (minor_Check.calls (hGL := (Qlg)) _ _ t370 _ _ t373 _ _ t376 t379 t380 _ ?side1 ?side2 ?side3 ?side4 ?side5 ?side6 A12.out).mono ?_); (case side1 => exact Qsc (Kd.R_reads' HO372.out).2.2); (case side2 => exact (Kd.R_reads' HO372.out).2.1); (case side3 => exact Qsc (Kd.R_reads' HO375.out).2.2); (case side4 => exact (Kd.R_reads' HO375.out).2.1); (case side5 => exact Qsc (Kd.R_reads' HO378.out).2.2); (case side6 => exact (Kd.R_reads' HO378.out).2.1); rintro e w118 ⟨rfl, hb⟩; refine ⟨_, rfl, ?_⟩; have n0_ := Aside0.mk (Kd.R_below (Qro HO362.out) hb); have n1_ := Aside0.mk (Kd.R_below (Qro HO365.out) hb); have n2_ := Aside0.mk (Kd.R_below (Qro HO369.out) hb); have n3_ := Aside0.mk (Kd.R_below (Qro HO372.out) hb); have n4_ := Aside0.mk (Kd.R_below (Qro HO375.out) hb); have n5_ := Aside0.mk (Kd.R_below (Qro HO378.out) hb); have n6_ := Aside0.mk (below_step (Qaw) hb); clear HO362; clear HO365; clear HO369; clear HO372; clear HO375; clear HO378; clear HB; have HO362 := n0_; have HO365 := n1_; have HO369 := n2_; have HO372 := n3_; have HO375 := n4_; have HO378 := n5_; have HB := n6_; clear n0_ n1_ n2_ n3_ n4_ n5_ n6_; (try clear hb); (try clear hb2); (try clear hk); (try clear hi)) | (go_at_call 17; (with_reducible refine (lampblacklaw07_awake.calls (hGL := (Qlg)) k  t381 _ A106.out).mono ?_); rintro e w119 ⟨rfl, hb⟩; have n0_ := Aside0.mk (Kd.R_below (Qro HO362.out) hb); have n1_ := Aside0.mk (Kd.R_below (Qro HO365.out) hb); have n2_ := Aside0.mk (Kd.R_below (Qro HO369.out) hb); have n3_ := Aside0.mk (Kd.R_below (Qro HO372.out) hb); have n4_ := Aside0.mk (Kd.R_below (Qro HO375.out) hb); have n5_ := Aside0.mk (Kd.R_below (Qro HO378.out) hb); have n6_ := Aside0.mk (below_step (Qaw) hb); clear HO362; clear HO365; clear HO369; clear HO372; clear HO375; clear HO378; clear HB; have HO362 := n0_; have HO365 := n1_; have HO369 := n2_; have HO372 := n3_; have HO375 := n4_; have HO378 := n5_; have HB := n6_; clear n0_ n1_ n2_ n3_ n4_ n5_ n6_; (try clear hb); (try clear hb2); (try clear hk); (try clear hi)))
    go_ret
    exact ⟨by first | rfl | (simp [errW_none, errW_some] <;> rfl) | (simp [*, errW_none, errW_some] <;> rfl), by repeat (first | (with_reducible first | exact HB.out | apply below_alloc | apply pw_below_drewN | apply below_drew1) | exact HB.out)⟩
   ·rw [if_neg c105] at H
    have c105b0 : (t380 == 2) = false := beq_eq_false_iff_ne.mpr c105
    have c105b1 : (t380 != 2) = true := bne_iff_ne.mpr c105
    obtain rfl := Option.some.inj H
    go_enter Tryd.func7, Tryd.ntmps7
    go_wp2_with (first | ((with_reducible refine gate_callee (f := 22) rfl ?_); refine goesL_ (some 31) rfl rfl Tryd.func22 (by kernel_rfl) rfl #[.slice A0 l0.length c0] rfl (Qls) ?_; (with_reducible refine (lampblacklaw07_Few.calls _ _ l0 t360 _ ?side1 ?side2 A6.out).mono ?_); (case side1 => exact Qsc HR0.out); (case side2 => exact HC0.out); rintro e w120 ⟨v361, rfl, ho0, hb⟩; refine ⟨_, rfl, ?_⟩; have n0_ := Aside0.mk (Kd.R_lower ho0 (below_size (Qaw))); have n1_ := Aside0.mk (below_step (Qaw) hb); clear HB; have HO362 := n0_; have HB := n1_; clear n0_ n1_; (try clear hb); (try clear hb2); (try clear hk); (try clear hi); (try clear ho0)) | ((with_reducible refine gate_callee (f := 22) rfl ?_); refine goesL_ (some 33) rfl rfl Tryd.func22 (by kernel_rfl) rfl #[.slice A1 l1.length c1] rfl (Qls) ?_; (with_reducible refine (lampblacklaw07_Few.calls _ _ l1 t363 _ ?side1 ?side2 A7.out).mono ?_); (case side1 => exact Qsc (Kd.C_below HR1.out HB.out)); (case side2 => exact HC1.out); rintro e w121 ⟨v364, rfl, ho0, hb⟩; refine ⟨_, rfl, ?_⟩; have n0_ := Aside0.mk (Kd.R_elder' (Qro HO362.out) (Kd.R_base ho0) hb); have n1_ := Aside0.mk (Kd.R_lower (Kd.R_new' ho0 (Kd.R_lt (Qro HO362.out))) (below_size (Qaw))); have n2_ := Aside0.mk (below_step (Qaw) hb); clear HO362; clear HB; have HO362 := n0_; have HO365 := n1_; have HB := n2_; clear n0_ n1_ n2_; (try clear hb); (try clear hb2); (try clear hk); (try clear hi); (try clear ho0); obtain ⟨Ao122, co122, eo122⟩ := Kd.R_slice HO362.out; subst eo122; obtain ⟨Ao123, co123, eo123⟩ := Kd.R_slice HO365.out; subst eo123) | ((with_reducible refine gate_callee (f := 21) rfl ?_); refine goesL_ (some 34) rfl rfl Tryd.func21 (by kernel_rfl) rfl #[.slice Ao122 t360.length co122, .slice Ao123 t363.length co123] rfl (Qls) ?_; (with_reducible refine (minor_Model.calls (hGL := (Qlg)) _ _ t360 _ _ t363 t366 t367 _ ?side1 ?side2 ?side3 ?side4 A8.out).mono ?_); (case side1 => exact Qsc (Kd.R_reads' HO362.out).2.2); (case side2 => exact (Kd.R_reads' HO362.out).2.1); (case side3 => exact Qsc (Kd.R_reads' HO365.out).2.2); (case side4 => exact (Kd.R_reads' HO365.out).2.1); rintro e w124 ⟨v368, rfl, ho0, hb⟩; refine ⟨_, rfl, ?_⟩; have n0_ := Aside0.mk (Kd.R_elder' (Qro HO362.out) (Kd.R_base ho0) hb); have n1_ := Aside0.mk (Kd.R_elder' (Qro HO365.out) (Kd.R_base ho0) hb); have n2_ := Aside0.mk (Kd.R_lower (Kd.R_new' (Kd.R_new' ho0 (Kd.R_lt (Qro HO362.out))) (Kd.R_lt (Qro HO365.out))) (below_size (Qaw))); have n3_ := Aside0.mk (below_step (Qaw) hb); clear HO362; clear HO365; clear HB; have HO362 := n0_; have HO365 := n1_; have HO369 := n2_; have HB := n3_; clear n0_ n1_ n2_ n3_; (try clear hb); (try clear hb2); (try clear hk); (try clear hi); (try clear ho0)) | ((with_reducible refine gate_callee (f := 22) rfl ?_); refine goesL_ (some 39) rfl rfl Tryd.func22 (by kernel_rfl) rfl #[.slice A0 l0.length c0] rfl (Qls) ?_; (with_reducible refine (lampblacklaw07_Few.calls _ _ l0 t370 _ ?side1 ?side2 A9.out).mono ?_); (case side1 => exact Qsc (Kd.C_below HR0.out HB.out)); (case side2 => exact HC0.out); rintro e w125 ⟨v371, rfl, ho0, hb⟩; refine ⟨_, rfl, ?_⟩; have n0_ := Aside0.mk (Kd.R_elder' (Qro HO362.out) (Kd.R_base ho0) hb); have n1_ := Aside0.mk (Kd.R_elder' (Qro HO365.out) (Kd.R_base ho0) hb); have n2_ := Aside0.mk (Kd.R_elder' (Qro HO369.out) (Kd.R_base ho0) hb); have n3_ := Aside0.mk (Kd.R_lower (Kd.R_new' (Kd.R_new' (Kd.R_new' ho0 (Kd.R_lt (Qro HO362.out))) (Kd.R_lt (Qro HO365.out))) (Kd.R_lt (Qro HO369.out))) (below_size (Qaw))); have n4_ := Aside0.mk (below_step (Qaw) hb); clear HO362; clear HO365; clear HO369; clear HB; have HO362 := n0_; have HO365 := n1_; have HO369 := n2_; have HO372 := n3_; have HB := n4_; clear n0_ n1_ n2_ n3_ n4_; (try clear hb); (try clear hb2); (try clear hk); (try clear hi); (try clear ho0)) | ((with_reducible refine gate_callee (f := 22) rfl ?_); refine goesL_ (some 41) rfl rfl Tryd.func22 (by kernel_rfl) rfl #[.slice A1 l1.length c1] rfl (Qls) ?_; (with_reducible refine (lampblacklaw07_Few.calls _ _ l1 t373 _ ?side1 ?side2 A10.out).mono ?_); (case side1 => exact Qsc (Kd.C_below HR1.out HB.out)); (case side2 => exact HC1.out); rintro e w126 ⟨v374, rfl, ho0, hb⟩; refine ⟨_, rfl, ?_⟩; have n0_ := Aside0.mk (Kd.R_elder' (Qro HO362.out) (Kd.R_base ho0) hb); have n1_ := Aside0.mk (Kd.R_elder' (Qro HO365.out) (Kd.R_base ho0) hb); have n2_ := Aside0.mk (Kd.R_elder' (Qro HO369.out) (Kd.R_base ho0) hb); have n3_ := Aside0.mk (Kd.R_elder' (Qro HO372.out) (Kd.R_base ho0) hb); have n4_ := Aside0.mk (Kd.R_lower (Kd.R_new' (Kd.R_new' (Kd.R_new' (Kd.R_new' ho0 (Kd.R_lt (Qro HO362.out))) (Kd.R_lt (Qro HO365.out))) (Kd.R_lt (Qro HO369.out))) (Kd.R_lt (Qro HO372.out))) (below_size (Qaw))); have n5_ := Aside0.mk (below_step (Qaw) hb); clear HO362; clear HO365; clear HO369; clear HO372; clear HB; have HO362 := n0_; have HO365 := n1_; have HO369 := n2_; have HO372 := n3_; have HO375 := n4_; have HB := n5_; clear n0_ n1_ n2_ n3_ n4_ n5_; (try clear hb); (try clear hb2); (try clear hk); (try clear hi); (try clear ho0)) | ((with_reducible refine gate_callee (f := 24) rfl ?_); refine goesL_ (some 43) rfl rfl Tryd.func24 (by kernel_rfl) rfl #[.slice A2 l2.length c2] rfl (Qls) ?_; (with_reducible refine (lampblacklaw07_list.calls _ _ l2 t376 _ ?side1 ?side2 A11.out).mono ?_); (case side1 => exact Qsc (Kd.C_below HR2.out HB.out)); (case side2 => exact HC2.out); rintro e w127 ⟨v377, rfl, ho0, hb⟩; refine ⟨_, rfl, ?_⟩; have n0_ := Aside0.mk (Kd.R_elder' (Qro HO362.out) (Kd.R_base ho0) hb); have n1_ := Aside0.mk (Kd.R_elder' (Qro HO365.out) (Kd.R_base ho0) hb); have n2_ := Aside0.mk (Kd.R_elder' (Qro HO369.out) (Kd.R_base ho0) hb); have n3_ := Aside0.mk (Kd.R_elder' (Qro HO372.out) (Kd.R_base ho0) hb); have n4_ := Aside0.mk (Kd.R_elder' (Qro HO375.out) (Kd.R_base ho0) hb); have n5_ := Aside0.mk (Kd.R_lower (Kd.R_new' (Kd.R_new' (Kd.R_new' (Kd.R_new' (Kd.R_new' ho0 (Kd.R_lt (Qro HO362.out))) (Kd.R_lt (Qro HO365.out))) (Kd.R_lt (Qro HO369.out))) (Kd.R_lt (Qro HO372.out))) (Kd.R_lt (Qro HO375.out))) (below_size (Qaw))); have n6_ := Aside0.mk (below_step (Qaw) hb); clear HO362; clear HO365; clear HO369; clear HO372; clear HO375; clear HB; have HO362 := n0_; have HO365 := n1_; have HO369 := n2_; have HO372 := n3_; have HO375 := n4_; have HO378 := n5_; have HB := n6_; clear n0_ n1_ n2_ n3_ n4_ n5_ n6_; (try clear hb); (try clear hb2); (try clear hk); (try clear hi); (try clear ho0); obtain ⟨Ao128, co128, eo128⟩ := Kd.R_slice HO372.out; subst eo128; obtain ⟨Ao129, co129, eo129⟩ := Kd.R_slice HO375.out; subst eo129; obtain ⟨Ao130, co130, eo130⟩ := Kd.R_slice HO378.out; subst eo130) | ((with_reducible refine gate_callee (f := 23) rfl ?_); refine goesL_ (some 44) rfl rfl Tryd.func23 (by kernel_rfl) rfl #[.slice Ao128 t370.length co128, .slice Ao129 t373.length co129, .slice Ao130 t376.length co130] rfl (Qls) ?_; (with_reducible refine (minor_Check.calls (hGL := (Qlg)) _ _ t370 _ _ t373 _ _ t376 t379 t380 _ ?side1 ?side2 ?side3 ?side4 ?side5 ?side6 A12.out).mono ?_); (case side1 => exact Qsc (Kd.R_reads' HO372.out).2.2); (case side2 => exact (Kd.R_reads' HO372.out).2.1); (case side3 => exact Qsc (Kd.R_reads' HO375.out).2.2); (case side4 => exact (Kd.R_reads' HO375.out).2.1); (case side5 => exact Qsc (Kd.R_reads' HO378.out).2.2); (case side6 => exact (Kd.R_reads' HO378.out).2.1); rintro e w131 ⟨rfl, hb⟩; refine ⟨_, rfl, ?_⟩; have n0_ := Aside0.mk (Kd.R_below (Qro HO362.out) hb); have n1_ := Aside0.mk (Kd.R_below (Qro HO365.out) hb); have n2_ := Aside0.mk (Kd.R_below (Qro HO369.out) hb); have n3_ := Aside0.mk (Kd.R_below (Qro HO372.out) hb); have n4_ := Aside0.mk (Kd.R_below (Qro HO375.out) hb); have n5_ := Aside0.mk (Kd.R_below (Qro HO378.out) hb); have n6_ := Aside0.mk (below_step (Qaw) hb); clear HO362; clear HO365; clear HO369; clear HO372; clear HO375; clear HO378; clear HB; have HO362 := n0_; have HO365 := n1_; have HO369 := n2_; have HO372 := n3_; have HO375 := n4_; have HO378 := n5_; have HB := n6_; clear n0_ n1_ n2_ n3_ n4_ n5_ n6_; (try clear hb); (try clear hb2); (try clear hk); (try clear hi)))
    go_ret
    exact ⟨by first | rfl | (simp [errW_none, errW_some] <;> rfl) | (simp [*, errW_none, errW_some] <;> rfl), by repeat (first | (with_reducible first | exact HB.out | apply below_alloc | apply pw_below_drewN | apply below_drew1) | exact HB.out)⟩
  ·rw [if_neg c104] at H
   have c104b0 : (t367 == 2) = false := beq_eq_false_iff_ne.mpr c104
   have c104b1 : (t367 != 2) = true := bne_iff_ne.mpr c104
   obtain rfl := Option.some.inj H
   go_enter Tryd.func7, Tryd.ntmps7
   go_wp2_with (first | ((with_reducible refine gate_callee (f := 22) rfl ?_); refine goesL_ (some 31) rfl rfl Tryd.func22 (by kernel_rfl) rfl #[.slice A0 l0.length c0] rfl (Qls) ?_; (with_reducible refine (lampblacklaw07_Few.calls _ _ l0 t360 _ ?side1 ?side2 A6.out).mono ?_); (case side1 => exact Qsc HR0.out); (case side2 => exact HC0.out); rintro e w132 ⟨v361, rfl, ho0, hb⟩; refine ⟨_, rfl, ?_⟩; have n0_ := Aside0.mk (Kd.R_lower ho0 (below_size (Qaw))); have n1_ := Aside0.mk (below_step (Qaw) hb); clear HB; have HO362 := n0_; have HB := n1_; clear n0_ n1_; (try clear hb); (try clear hb2); (try clear hk); (try clear hi); (try clear ho0)) | ((with_reducible refine gate_callee (f := 22) rfl ?_); refine goesL_ (some 33) rfl rfl Tryd.func22 (by kernel_rfl) rfl #[.slice A1 l1.length c1] rfl (Qls) ?_; (with_reducible refine (lampblacklaw07_Few.calls _ _ l1 t363 _ ?side1 ?side2 A7.out).mono ?_); (case side1 => exact Qsc (Kd.C_below HR1.out HB.out)); (case side2 => exact HC1.out); rintro e w133 ⟨v364, rfl, ho0, hb⟩; refine ⟨_, rfl, ?_⟩; have n0_ := Aside0.mk (Kd.R_elder' (Qro HO362.out) (Kd.R_base ho0) hb); have n1_ := Aside0.mk (Kd.R_lower (Kd.R_new' ho0 (Kd.R_lt (Qro HO362.out))) (below_size (Qaw))); have n2_ := Aside0.mk (below_step (Qaw) hb); clear HO362; clear HB; have HO362 := n0_; have HO365 := n1_; have HB := n2_; clear n0_ n1_ n2_; (try clear hb); (try clear hb2); (try clear hk); (try clear hi); (try clear ho0); obtain ⟨Ao134, co134, eo134⟩ := Kd.R_slice HO362.out; subst eo134; obtain ⟨Ao135, co135, eo135⟩ := Kd.R_slice HO365.out; subst eo135) | ((with_reducible refine gate_callee (f := 21) rfl ?_); refine goesL_ (some 34) rfl rfl Tryd.func21 (by kernel_rfl) rfl #[.slice Ao134 t360.length co134, .slice Ao135 t363.length co135] rfl (Qls) ?_; (with_reducible refine (minor_Model.calls (hGL := (Qlg)) _ _ t360 _ _ t363 t366 t367 _ ?side1 ?side2 ?side3 ?side4 A8.out).mono ?_); (case side1 => exact Qsc (Kd.R_reads' HO362.out).2.2); (case side2 => exact (Kd.R_reads' HO362.out).2.1); (case side3 => exact Qsc (Kd.R_reads' HO365.out).2.2); (case side4 => exact (Kd.R_reads' HO365.out).2.1); rintro e w136 ⟨v368, rfl, ho0, hb⟩; refine ⟨_, rfl, ?_⟩; have n0_ := Aside0.mk (Kd.R_elder' (Qro HO362.out) (Kd.R_base ho0) hb); have n1_ := Aside0.mk (Kd.R_elder' (Qro HO365.out) (Kd.R_base ho0) hb); have n2_ := Aside0.mk (Kd.R_lower (Kd.R_new' (Kd.R_new' ho0 (Kd.R_lt (Qro HO362.out))) (Kd.R_lt (Qro HO365.out))) (below_size (Qaw))); have n3_ := Aside0.mk (below_step (Qaw) hb); clear HO362; clear HO365; clear HB; have HO362 := n0_; have HO365 := n1_; have HO369 := n2_; have HB := n3_; clear n0_ n1_ n2_ n3_; (try clear hb); (try clear hb2); (try clear hk); (try clear hi); (try clear ho0)) | ((with_reducible refine gate_callee (f := 22) rfl ?_); refine goesL_ (some 39) rfl rfl Tryd.func22 (by kernel_rfl) rfl #[.slice A0 l0.length c0] rfl (Qls) ?_; (with_reducible refine (lampblacklaw07_Few.calls _ _ l0 t370 _ ?side1 ?side2 A9.out).mono ?_); (case side1 => exact Qsc (Kd.C_below HR0.out HB.out)); (case side2 => exact HC0.out); rintro e w137 ⟨v371, rfl, ho0, hb⟩; refine ⟨_, rfl, ?_⟩; have n0_ := Aside0.mk (Kd.R_elder' (Qro HO362.out) (Kd.R_base ho0) hb); have n1_ := Aside0.mk (Kd.R_elder' (Qro HO365.out) (Kd.R_base ho0) hb); have n2_ := Aside0.mk (Kd.R_elder' (Qro HO369.out) (Kd.R_base ho0) hb); have n3_ := Aside0.mk (Kd.R_lower (Kd.R_new' (Kd.R_new' (Kd.R_new' ho0 (Kd.R_lt (Qro HO362.out))) (Kd.R_lt (Qro HO365.out))) (Kd.R_lt (Qro HO369.out))) (below_size (Qaw))); have n4_ := Aside0.mk (below_step (Qaw) hb); clear HO362; clear HO365; clear HO369; clear HB; have HO362 := n0_; have HO365 := n1_; have HO369 := n2_; have HO372 := n3_; have HB := n4_; clear n0_ n1_ n2_ n3_ n4_; (try clear hb); (try clear hb2); (try clear hk); (try clear hi); (try clear ho0)) | ((with_reducible refine gate_callee (f := 22) rfl ?_); refine goesL_ (some 41) rfl rfl Tryd.func22 (by kernel_rfl) rfl #[.slice A1 l1.length c1] rfl (Qls) ?_; (with_reducible refine (lampblacklaw07_Few.calls _ _ l1 t373 _ ?side1 ?side2 A10.out).mono ?_); (case side1 => exact Qsc (Kd.C_below HR1.out HB.out)); (case side2 => exact HC1.out); rintro e w138 ⟨v374, rfl, ho0, hb⟩; refine ⟨_, rfl, ?_⟩; have n0_ := Aside0.mk (Kd.R_elder' (Qro HO362.out) (Kd.R_base ho0) hb); have n1_ := Aside0.mk (Kd.R_elder' (Qro HO365.out) (Kd.R_base ho0) hb); have n2_ := Aside0.mk (Kd.R_elder' (Qro HO369.out) (Kd.R_base ho0) hb); have n3_ := Aside0.mk (Kd.R_elder' (Qro HO372.out) (Kd.R_base ho0) hb); have n4_ := Aside0.mk (Kd.R_lower (Kd.R_new' (Kd.R_new' (Kd.R_new' (Kd.R_new' ho0 (Kd.R_lt (Qro HO362.out))) (Kd.R_lt (Qro HO365.out))) (Kd.R_lt (Qro HO369.out))) (Kd.R_lt (Qro HO372.out))) (below_size (Qaw))); have n5_ := Aside0.mk (below_step (Qaw) hb); clear HO362; clear HO365; clear HO369; clear HO372; clear HB; have HO362 := n0_; have HO365 := n1_; have HO369 := n2_; have HO372 := n3_; have HO375 := n4_; have HB := n5_; clear n0_ n1_ n2_ n3_ n4_ n5_; (try clear hb); (try clear hb2); (try clear hk); (try clear hi); (try clear ho0)) | ((with_reducible refine gate_callee (f := 24) rfl ?_); refine goesL_ (some 43) rfl rfl Tryd.func24 (by kernel_rfl) rfl #[.slice A2 l2.length c2] rfl (Qls) ?_; (with_reducible refine (lampblacklaw07_list.calls _ _ l2 t376 _ ?side1 ?side2 A11.out).mono ?_); (case side1 => exact Qsc (Kd.C_below HR2.out HB.out)); (case side2 => exact HC2.out); rintro e w139 ⟨v377, rfl, ho0, hb⟩; refine ⟨_, rfl, ?_⟩; have n0_ := Aside0.mk (Kd.R_elder' (Qro HO362.out) (Kd.R_base ho0) hb); have n1_ := Aside0.mk (Kd.R_elder' (Qro HO365.out) (Kd.R_base ho0) hb); have n2_ := Aside0.mk (Kd.R_elder' (Qro HO369.out) (Kd.R_base ho0) hb); have n3_ := Aside0.mk (Kd.R_elder' (Qro HO372.out) (Kd.R_base ho0) hb); have n4_ := Aside0.mk (Kd.R_elder' (Qro HO375.out) (Kd.R_base ho0) hb); have n5_ := Aside0.mk (Kd.R_lower (Kd.R_new' (Kd.R_new' (Kd.R_new' (Kd.R_new' (Kd.R_new' ho0 (Kd.R_lt (Qro HO362.out))) (Kd.R_lt (Qro HO365.out))) (Kd.R_lt (Qro HO369.out))) (Kd.R_lt (Qro HO372.out))) (Kd.R_lt (Qro HO375.out))) (below_size (Qaw))); have n6_ := Aside0.mk (below_step (Qaw) hb); clear HO362; clear HO365; clear HO369; clear HO372; clear HO375; clear HB; have HO362 := n0_; have HO365 := n1_; have HO369 := n2_; have HO372 := n3_; have HO375 := n4_; have HO378 := n5_; have HB := n6_; clear n0_ n1_ n2_ n3_ n4_ n5_ n6_; (try clear hb); (try clear hb2); (try clear hk); (try clear hi); (try clear ho0); obtain ⟨Ao140, co140, eo140⟩ := Kd.R_slice HO372.out; subst eo140; obtain ⟨Ao141, co141, eo141⟩ := Kd.R_slice HO375.out; subst eo141; obtain ⟨Ao142, co142, eo142⟩ := Kd.R_slice HO378.out; subst eo142) | ((with_reducible refine gate_callee (f := 23) rfl ?_); refine goesL_ (some 44) rfl rfl Tryd.func23 (by kernel_rfl) rfl #[.slice Ao140 t370.length co140, .slice Ao141 t373.length co141, .slice Ao142 t376.length co142] rfl (Qls) ?_; (with_reducible refine (minor_Check.calls (hGL := (Qlg)) _ _ t370 _ _ t373 _ _ t376 t379 t380 _ ?side1 ?side2 ?side3 ?side4 ?side5 ?side6 A12.out).mono ?_); (case side1 => exact Qsc (Kd.R_reads' HO372.out).2.2); (case side2 => exact (Kd.R_reads' HO372.out).2.1); (case side3 => exact Qsc (Kd.R_reads' HO375.out).2.2); (case side4 => exact (Kd.R_reads' HO375.out).2.1); (case side5 => exact Qsc (Kd.R_reads' HO378.out).2.2); (case side6 => exact (Kd.R_reads' HO378.out).2.1); rintro e w143 ⟨rfl, hb⟩; refine ⟨_, rfl, ?_⟩; have n0_ := Aside0.mk (Kd.R_below (Qro HO362.out) hb); have n1_ := Aside0.mk (Kd.R_below (Qro HO365.out) hb); have n2_ := Aside0.mk (Kd.R_below (Qro HO369.out) hb); have n3_ := Aside0.mk (Kd.R_below (Qro HO372.out) hb); have n4_ := Aside0.mk (Kd.R_below (Qro HO375.out) hb); have n5_ := Aside0.mk (Kd.R_below (Qro HO378.out) hb); have n6_ := Aside0.mk (below_step (Qaw) hb); clear HO362; clear HO365; clear HO369; clear HO372; clear HO375; clear HO378; clear HB; have HO362 := n0_; have HO365 := n1_; have HO369 := n2_; have HO372 := n3_; have HO375 := n4_; have HO378 := n5_; have HB := n6_; clear n0_ n1_ n2_ n3_ n4_ n5_ n6_; (try clear hb); (try clear hb2); (try clear hk); (try clear hi)))
   go_ret
   exact ⟨by first | rfl | (simp [errW_none, errW_some] <;> rfl) | (simp [*, errW_none, errW_some] <;> rfl), by repeat (first | (with_reducible first | exact HB.out | apply below_alloc | apply pw_below_drewN | apply below_drew1) | exact HB.out)⟩
end Go.Proofs.YtjloppfdagfpmaaDoor.X
end
section
namespace Go.Proofs.YtjloppfdagfpmaaDoor.X
open Go.RowKit YtjloppfdagfpmaaDoorW.PrintWords YtjloppfdagfpmaaDoorW.PrintLast YtjloppfdagfpmaaDoorW.PrintMore
attribute [local go_sem] max2_int min2_int max_two min_two max_three min_three max_four min_four
/-! ### lampblackref01_IsGraph: function 61 -/
mutual
def lampblackref01_IsGraph.l0 : Nat → List Int → Int → List Int → Int → Int → Option (Bool)
 | 0, _, _, _, _, _ => none
 | k + 1, x0, x1, x8, x9, x10 => if x10 < x9 then (if 0 ≤ x10 then (if x10 < (x8.length : Int) then (if (x0.length : Int) > x1 then (lampblackref01_IsGraph.j1 k x0 x1 x10 (rd x8 x10) x8 x9 x10 true) else (if (rd x8 x10) < 0 then (lampblackref01_IsGraph.j1 k x0 x1 x10 (rd x8 x10) x8 x9 x10 true) else (if (rd x8 x10) ≥ (shl .i64 1 (x0.length : Int)) then (lampblackref01_IsGraph.j1 k x0 x1 x10 (rd x8 x10) x8 x9 x10 true) else (lampblackref01_IsGraph.j1 k x0 x1 x10 (rd x8 x10) x8 x9 x10 ((Go.bits .and .i64 (shr .i64 (rd x8 x10) x10) 1) == 1))))) else (none)) else (none)) else (if (x0.length : Int) ≥ 1 then (some (decide ((x0.length : Int) ≤ x1))) else (some false))
def lampblackref01_IsGraph.j1 : Nat → List Int → Int → Int → Int → List Int → Int → Int → Bool → Option (Bool)
 | 0, _, _, _, _, _, _, _, _ => none
 | k + 1, x0, x1, x5, x6, x8, x9, x10, x36 => if x36 = true then (some false) else (lampblackref01_IsGraph.l1 k x0 x1 x5 x6 x8 x9 x10 (x0.length : Int) 0)
def lampblackref01_IsGraph.l1 : Nat → List Int → Int → Int → Int → List Int → Int → Int → Int → Int → Option (Bool)
 | 0, _, _, _, _, _, _, _, _, _ => none
 | k + 1, x0, x1, x5, x6, x8, x9, x10, x38, x39 => if x39 < x38 then (if 0 ≤ x39 then (if x39 < (x0.length : Int) then (if 0 ≤ x5 then (if (Go.bits .and .i64 (shr .i64 x6 x39) 1) = (Go.bits .and .i64 (shr .i64 (rd x0 x39) x5) 1) then (lampblackref01_IsGraph.l1 k x0 x1 x5 x6 x8 x9 x10 x38 (wrap64 (x39 + 1))) else (some false)) else (none)) else (none)) else (none)) else (lampblackref01_IsGraph.l0 k x0 x1 x8 x9 (wrap64 (x10 + 1)))
end
end Go.Proofs.YtjloppfdagfpmaaDoor.X
end
section
namespace Go.Proofs.YtjloppfdagfpmaaDoor.X
open Go.RowKit YtjloppfdagfpmaaDoorW.PrintWords YtjloppfdagfpmaaDoorW.PrintLast YtjloppfdagfpmaaDoorW.PrintMore
attribute [local go_sem] max2_int min2_int max_two min_two max_three min_three max_four min_four
/-! ### lampblackref01_Reached: function 52 -/
mutual
def lampblackref01_Reached.l0 : Nat → List Int → Int → Int → Int → Int → Option (Int)
 | 0, _, _, _, _, _ => none
 | k + 1, x0, x1, x7, x12, x13 => if x13 < x12 then (lampblackref01_Reached.l1 k x0 x1 x7 x12 x13 (x0.length : Int) 0) else (some x7)
def lampblackref01_Reached.l1 : Nat → List Int → Int → Int → Int → Int → Int → Int → Option (Int)
 | 0, _, _, _, _, _, _, _ => none
 | k + 1, x0, x1, x7, x12, x13, x16, x17 => if x17 < x16 then (if 0 ≤ x17 then (if (Go.bits .and .i64 (shr .i64 x7 x17) 1) = 1 then (if x17 < (x0.length : Int) then (lampblackref01_Reached.l1 k x0 x1 (Go.bits .or .i64 x7 (Go.bits .and .i64 (rd x0 x17) x1)) x12 x13 x16 (wrap64 (x17 + 1))) else (none)) else (lampblackref01_Reached.l1 k x0 x1 x7 x12 x13 x16 (wrap64 (x17 + 1)))) else (none)) else (lampblackref01_Reached.l0 k x0 x1 x7 x12 (wrap64 (x13 + 1)))
end
def lampblackref01_Reached.f (k : Nat) (l0 : List Int) (a1 : Int) (a2 : Int) : Option (Int) := if 0 ≤ a2 then (lampblackref01_Reached.l0 k l0 a1 (shl .i64 1 a2) (l0.length : Int) 0) else (none)
end Go.Proofs.YtjloppfdagfpmaaDoor.X
end
section
namespace Go.Proofs.YtjloppfdagfpmaaDoor.X
open Go.RowKit YtjloppfdagfpmaaDoorW.PrintWords YtjloppfdagfpmaaDoorW.PrintLast YtjloppfdagfpmaaDoorW.PrintMore
attribute [local go_sem] max2_int min2_int max_two min_two max_three min_three max_four min_four
/-! ### lampblackref02_Connected: function 18 -/
mutual
def lampblackref02_Connected.j0 : Nat → List Int → Int → Bool → Option (Bool)
 | 0, _, _, _ => none
 | k + 1, x0, x1, x14 => if x14 = true then (some false) else (lampblackref02_Connected.l0 k x0 x1 0)
def lampblackref02_Connected.l0 : Nat → List Int → Int → Int → Option (Bool)
 | 0, _, _, _ => none
 | k + 1, x0, x1, x5 => if 0 ≤ x5 then (if (Go.bits .and .i64 (shr .i64 x1 x5) 1) = 0 then (lampblackref02_Connected.l0 k x0 x1 (wrap64 (x5 + 1))) else ((lampblackref01_Reached.f k x0 x1 x5).bind fun t144 => (some (t144 == x1)))) else (none)
end
end Go.Proofs.YtjloppfdagfpmaaDoor.X
end
section
namespace Go.Proofs.YtjloppfdagfpmaaDoor.X
open Go.RowKit YtjloppfdagfpmaaDoorW.PrintWords YtjloppfdagfpmaaDoorW.PrintLast YtjloppfdagfpmaaDoorW.PrintMore
attribute [local go_sem] max2_int min2_int max_two min_two max_three min_three max_four min_four
/-! ### lampblackref02_Around: function 95 -/
def lampblackref02_Around.l0 : Nat → List Int → Int → Int → Int → Int → Option (Int)
 | 0, _, _, _, _, _ => none
 | k + 1, x0, x1, x5, x8, x9 => if x9 < x8 then (if 0 ≤ x9 then (if (Go.bits .and .i64 (shr .i64 x1 x9) 1) = 1 then (if x9 < (x0.length : Int) then (lampblackref02_Around.l0 k x0 x1 (Go.bits .or .i64 x5 (rd x0 x9)) x8 (wrap64 (x9 + 1))) else (none)) else (lampblackref02_Around.l0 k x0 x1 x5 x8 (wrap64 (x9 + 1)))) else (none)) else (some x5)
end Go.Proofs.YtjloppfdagfpmaaDoor.X
end
section
namespace Go.Proofs.YtjloppfdagfpmaaDoor.X
open Go.RowKit YtjloppfdagfpmaaDoorW.PrintWords YtjloppfdagfpmaaDoorW.PrintLast YtjloppfdagfpmaaDoorW.PrintMore
attribute [local go_sem] max2_int min2_int max_two min_two max_three min_three max_four min_four
/-! ### api_Graph_int_30: function 30 -/
def api_Graph_int_30.l0 : Nat → List Int → List Int → Int → Int → Option (Bool)
 | 0, _, _, _, _ => none
 | k + 1, x0, x1, x12, x13 => if x13 < x12 then (if 0 ≤ x13 then (if x13 < (x0.length : Int) then (if x13 < (x1.length : Int) then (if (rd x0 x13) = (rd x1 x13) then (api_Graph_int_30.l0 k x0 x1 x12 (wrap64 (x13 + 1))) else (some false)) else (none)) else (none)) else (none)) else (some true)
end Go.Proofs.YtjloppfdagfpmaaDoor.X
end
section
/- (minor) What the laws share: connected sets, valid graphs, patterns, beginnings, equal slices, an edge is a minor of itself. -/
namespace Go.Proofs.YtjloppfdagfpmaaDoor.X
open Go.RowKit YtjloppfdagfpmaaDoorW.PrintWords YtjloppfdagfpmaaDoorW.PrintLast YtjloppfdagfpmaaDoorW.PrintMore YtjloppfdagfpmaaDoor.T
theorem mn_nat (a b : Nat) : mn (a : Int) (b : Int) = ((min a b : Nat) : Int) := by unfold mn; split <;> omega
def low (a : Nat) : Nat := (els a 9).headD 0
theorem size_all : ∀ x : Fin 512, lampblackref02_Size.f 12 (x.val : Int) = some (pc x.val 9 : Int) := by decide +kernel
theorem size_ev (x : Nat) (hx : x < 512) : Ev (fun k => lampblackref02_Size.f k (x : Int)) ((pc x 9 : Nat) : Int) := Ev.of (lampblackref02_Size.mono _) (size_all ⟨x, hx⟩)
theorem few_eq (g : List Int) (hg : g.length < 2 ^ 44) : ∃ h, lampblacklaw07_Few.f g = some h ∧ (chk 8 g = true → h = g) ∧ (chk 8 g = false → chk 8 h = false) ∧ h.length ≤ 12 := by
 have hm : mn (g.length : Int) 12 = ((min g.length 12 : Nat) : Int) := mn_nat g.length 12
 refine ⟨g.take (min g.length 12), ?_, ?_, ?_, ?_⟩
 ·unfold lampblacklaw07_Few.f slices_Clone_Graph.f
  simp only [hm, Int.toNat_natCast]
  rw [if_pos (by omega), if_pos (by omega)]
  simp only [Option.bind_some, List.length_nil, List.nil_append]
  rw [if_pos (by rw [List.length_take]; omega)]
  rfl
 ·intro h
  simp only [chk, Bool.and_eq_true, decide_eq_true_eq] at h
  exact List.take_of_length_le (by omega)
 ·intro h
  by_cases hl : g.length ≤ 12
  ·rw [List.take_of_length_le (by omega)]; exact h
  ·unfold chk
   have : ¬ (List.take (min g.length 12) g).length ≤ 8 := by rw [List.length_take]; omega
   rw [decide_eq_false this, Bool.and_false, Bool.false_and]
 ·rw [List.length_take]; omega
theorem awake_ev : Ev (fun k => lampblacklaw07_awake.f k) true := Ev.of (lampblacklaw07_awake.mono) (k := 40) (by decide +kernel)
end Go.Proofs.YtjloppfdagfpmaaDoor.X
end
section
/- A node less, an edge less, two neighbours made one: what becomes of a graph, and of its width. -/
namespace Go.Proofs.YtjloppfdagfpmaaDoor.T
open Go.RowKit YtjloppfdagfpmaaDoorW.PrintWords YtjloppfdagfpmaaDoorW.PrintLast YtjloppfdagfpmaaDoorW.PrintMore
def up (v u : Nat) : Nat := if u < v then u else u + 1
def down (v u : Nat) : Nat := if u < v then u else u - 1
theorem down_up (v u : Nat) : down v (up v u) = u := by
 unfold down up
 by_cases h : u < v
 ·rw [if_pos h, if_pos h]
 ·rw [if_neg h, if_neg (by omega)]; omega
theorem up_ne (v u : Nat) : up v u ≠ v := by unfold up; split <;> omega
theorem up_inj (v a b : Nat) (h : up v a = up v b) : a = b := by rw [← down_up v a, h, down_up]
theorem up_lt {v u n : Nat} (hv : v < n) : up v u < n ↔ u < n - 1 := by unfold up; split <;> omega
def delbits (v s : Nat) : Nat := (s &&& (2 ^ v - 1)) ||| (s / 2 ^ (v + 1) * 2 ^ v)
theorem delbits_bit (v s j : Nat) : (delbits v s).testBit j = s.testBit (up v j) := by
 unfold delbits up
 rw [Nat.testBit_or, Nat.testBit_and, Nat.testBit_two_pow_sub_one, Nat.testBit_mul_two_pow, Nat.testBit_div_two_pow]
 by_cases h : j < v
 ·rw [if_pos h, decide_eq_true h, decide_eq_false (show ¬ v ≤ j by omega)]; simp
 ·rw [if_neg h, decide_eq_false h, decide_eq_true (show v ≤ j by omega), show j - v + (v + 1) = j + 1 by omega]; simp
def delTo (G : List Nat) (v : Nat) : Nat → List Nat
 | 0 => []
 | i + 1 => if i = v then delTo G v i else delTo G v i ++ [delbits v (G.getD i 0)]
def del (G : List Nat) (v : Nat) : List Nat := delTo G v G.length
theorem delTo_length (G : List Nat) (v : Nat) : ∀ i, (delTo G v i).length = if i ≤ v then i else i - 1
 | 0 => by simp [delTo]
 | i + 1 => by
  have ih := delTo_length G v i
  unfold delTo
  by_cases h : i = v
  ·subst h; rw [if_pos rfl, ih]; simp
  ·rw [if_neg h, List.length_append, ih]; simp; split <;> split <;> omega
theorem delTo_get (G : List Nat) (v : Nat) : ∀ i u, u < (delTo G v i).length → (delTo G v i).getD u 0 = delbits v (G.getD (up v u) 0)
 | 0, u, h => by simp [delTo] at h
 | i + 1, u, h => by
  have hl := delTo_length G v i
  have ih := delTo_get G v i u
  unfold delTo at h ⊢
  by_cases e : i = v
  ·rw [if_pos e] at h ⊢; exact ih h
  ·rw [if_neg e] at h ⊢
   by_cases hu : u < (delTo G v i).length
   ·rw [← ih hu]
    simp only [List.getD_eq_getElem?_getD]
    rw [List.getElem?_append_left hu]
   ·have hu2 : u = (delTo G v i).length := by simp at h; omega
    simp only [List.getD_eq_getElem?_getD]
    rw [List.getElem?_append_right (by omega), hu2]
    have : up v (delTo G v i).length = i := by
     rw [hl]; unfold up
     by_cases h1 : i ≤ v
     ·rw [if_pos h1, if_pos (by omega)]
     ·rw [if_neg h1, if_neg (by omega)]; omega
    rw [this]
    simp
theorem del_length {G : List Nat} {v : Nat} (hv : v < G.length) : (del G v).length = G.length - 1 := by
 unfold del; rw [delTo_length, if_neg (by omega)]
theorem del_adj {G : List Nat} {v : Nat} (hv : v < G.length) (u w : Nat) : Adj (del G v) u w ↔ u < G.length - 1 ∧ Adj G (up v u) (up v w) := by
 unfold Adj
 by_cases hu : u < G.length - 1
 ·have h := delTo_get G v G.length u (by have := del_length hv; unfold del at this; omega)
  have h' : (del G v).getD u 0 = delbits v (G.getD (up v u) 0) := h
  rw [h', delbits_bit]
  exact ⟨fun h => ⟨hu, h⟩, fun h => h.2⟩
 ·rw [getD_out (del G v) u (by rw [del_length hv]; omega)]
  simp [hu]
theorem gr_of {m : Nat} {H : List Nat} (h1 : 1 ≤ H.length) (h2 : H.length ≤ m) (h3 : ∀ u w, Adj H u w → w < H.length ∧ Adj H w u ∧ u ≠ w) : Gr m H where
 pos := h1
 most := h2
 lt := fun i hi => lt_of_bits fun j hj => (h3 i j hj).1
 irr := fun i hi => by
  cases hb : (H.getD i 0).testBit i
  ·rfl
  ·exact ((h3 i i hb).2.2 rfl).elim
 symm := fun i j hi hj => by
  have a := h3 i j
  have b := h3 j i
  unfold Adj at a b
  cases ha : (H.getD i 0).testBit j <;> cases hb : (H.getD j 0).testBit i <;> simp_all
theorem del_gr {m : Nat} {G : List Nat} (hG : Gr m G) {v : Nat} (hv : v < G.length) (hn : 2 ≤ G.length) : Gr m (del G v) := by
 have hl := del_length hv
 refine gr_of (by omega) (by have := hG.most; omega) fun u w h => ?_
 obtain ⟨hu, ha⟩ := (del_adj hv u w).1 h
 have hw := (up_lt hv).1 (hG.adj_lt ha)
 refine ⟨by omega, (del_adj hv w u).2 ⟨hw, hG.adj_symm ha⟩, fun e => ?_⟩
 subst e
 exact hG.adj_irr ha
end Go.Proofs.YtjloppfdagfpmaaDoor.T
end
section
/- Minors of a graph with a node less, or with two neighbours made one; of complete patterns with a node less. -/
namespace Go.Proofs.YtjloppfdagfpmaaDoor.T
open Go.RowKit YtjloppfdagfpmaaDoorW.PrintWords YtjloppfdagfpmaaDoorW.PrintLast YtjloppfdagfpmaaDoorW.PrintMore
theorem del_mnr {G : List Nat} {v : Nat} (hv : v < G.length) {k : Nat} {pe : Nat → Nat → Prop} {W : Nat → Prop} {adj : Nat → Nat → Prop} (ha : ∀ x y, x < G.length - 1 → y < G.length - 1 → Adj (del G v) x y → adj (up v x) (up v y)) (hW : ∀ x, x < G.length - 1 → W (up v x))
  (h : Mnr (fun x => x < (del G v).length) (Adj (del G v)) k pe) : Mnr W adj k pe := by
 rw [del_length hv] at h
 exact mnr_map (fun x u => u = up v x) (fun x hx => ⟨conn_one adj _, fun u hu => by rw [hu]; exact hW x hx⟩) (fun x y u _ _ h1 h2 => up_inj v x y (h1.symm.trans h2)) (fun x y hx hy h => ⟨_, _, rfl, rfl, ha x y hx hy h⟩) h
theorem less_mnr {G : List Nat} {v : Nat} (hv : v < G.length) {k : Nat} {pe : Nat → Nat → Prop} (h : Mnr (fun x => x < (del G v).length) (Adj (del G v)) k pe) : Mnr (fun x => x < G.length) (Adj G) k pe :=
 del_mnr hv (fun x y _ _ h => ((del_adj hv x y).1 h).2) (fun x hx => (up_lt hv).2 hx) h
theorem contract_mnr {m : Nat} {G J : List Nat} (hG : Gr m G) {a b : Nat} (hab : Adj G a b) (hl : J.length = G.length) (hJ : ∀ x y, x ≠ b → y ≠ b → Adj J x y → x ≠ y ∧ (Adj G x y ∨ (x = a ∧ Adj G b y) ∨ (y = a ∧ Adj G b x))) {k : Nat} {pe : Nat → Nat → Prop}
  (h : Mnr (fun x => x < (del J b).length) (Adj (del J b)) k pe) : Mnr (fun x => x < G.length) (Adj G) k pe := by
 have hb : b < J.length := by rw [hl]; exact hG.adj_lt hab
 refine ctr_mnr (fun x y h => hG.adj_symm h) hab (hG.adj_lt hab) (fun e => hG.adj_irr (e ▸ hab)) (del_mnr hb (fun x y hx hy h => ?_) (fun x hx => ?_) h)
 ·have hxy := hJ _ _ (up_ne b x) (up_ne b y) ((del_adj hb x y).1 h).2
  exact ⟨hxy.1, up_ne b x, up_ne b y, hxy.2⟩
 ·rw [hl] at hx hb
  exact ⟨(up_lt hb).2 hx, up_ne b x⟩
end Go.Proofs.YtjloppfdagfpmaaDoor.T
end
section
namespace Go.Proofs.YtjloppfdagfpmaaDoor.X
open Go.RowKit YtjloppfdagfpmaaDoorW.PrintWords YtjloppfdagfpmaaDoorW.PrintLast YtjloppfdagfpmaaDoorW.PrintMore
attribute [local go_sem] max2_int min2_int max_two min_two max_three min_three max_four min_four
/-! ### lampblackref07_join: function 75 -/
def lampblackref07_join.f (l0 : List Int) (a1 : Int) (a2 : Int) : Option (List Int) := if 0 ≤ a1 then (if a1 < (l0.length : Int) then (if 0 ≤ a2 then ((some (l0.set (a1 : Int).toNat (Go.bits .or .i64 (rd l0 a1) (shl .i64 1 a2)) : List Int)).bind fun y243 => (if a2 < (l0.length : Int) then (some (y243.set (a2 : Int).toNat (Go.bits .or .i64 (rd y243 a2) (shl .i64 1 a1)))) else (none))) else (none)) else (none)) else (none)
def lampblackref07_join.T0 : Bool × List (List Nat × List Nat) := (true, [([], []), ([], []), ([0, 1], [0, 1]), ([2], [2]), ([], []), ([4], [4]), ([3, 5], [3, 5]), ([0, 1, 0, 1, 2, 3, 4, 5, 6], [0, 1]), ([7, 6, 0, 1, 2, 3, 4, 5, 6], [6, 7])])
def lampblackref07_join.B0 : List Nat := [0, 0, 3, 7, 0, 16, 63, 127, 255]
theorem lampblackref07_join.tab0 : rtab .any (opsOf Tryd.f75 0) = lampblackref07_join.T0 := by kernel_rfl
theorem lampblackref07_join.bits0 : waitsOk lampblackref07_join.T0.2 lampblackref07_join.B0 = true := by kernel_rfl
def lampblackref07_join.T1 : Bool × List (List Nat × List Nat) := (true, [([], []), ([], []), ([0, 1], [0, 1]), ([2], [2]), ([], []), ([4], [4]), ([3, 5], [3, 5]), ([0, 1, 0, 1, 2, 3, 4, 5, 6], [0, 1]), ([7, 6, 0, 1, 2, 3, 4, 5, 6], [6, 7])])
def lampblackref07_join.B1 : List Nat := [0, 0, 3, 7, 0, 16, 63, 127, 255]
theorem lampblackref07_join.tab1 : rtab .any (opsOf Tryd.f75 1) = lampblackref07_join.T1 := by kernel_rfl
theorem lampblackref07_join.bits1 : waitsOk lampblackref07_join.T1.2 lampblackref07_join.B1 = true := by kernel_rfl
end Go.Proofs.YtjloppfdagfpmaaDoor.X
end
section
namespace Go.Proofs.YtjloppfdagfpmaaDoor.X
open Go.RowKit YtjloppfdagfpmaaDoorW.PrintWords YtjloppfdagfpmaaDoorW.PrintLast YtjloppfdagfpmaaDoorW.PrintMore
attribute [local go_sem] max2_int min2_int max_two min_two max_three min_three max_four min_four
/-! ### lampblackref07_K: function 33 -/
mutual
def lampblackref07_K.l0 : Nat → List Int → Int → Int → Option (List Int)
 | 0, _, _, _ => none
 | k + 1, x3, x8, x9 => if x9 < x8 then (lampblackref07_K.l1 k x3 x9 x8 x9 x9 0) else (some x3)
def lampblackref07_K.l1 : Nat → List Int → Int → Int → Int → Int → Int → Option (List Int)
 | 0, _, _, _, _, _, _ => none
 | k + 1, x3, x4, x8, x9, x12, x13 => if x13 < x12 then ((lampblackref07_join.f x3 x4 x13).bind fun t254 => (lampblackref07_K.l1 k t254 x4 x8 x9 x12 (wrap64 (x13 + 1)))) else (lampblackref07_K.l0 k x3 x8 (wrap64 (x9 + 1)))
end
end Go.Proofs.YtjloppfdagfpmaaDoor.X
end
section
/- (minor) Model and has in plain words; complete graphs as patterns. -/
namespace Go.Proofs.YtjloppfdagfpmaaDoor.X
open Go.RowKit YtjloppfdagfpmaaDoorW.PrintWords YtjloppfdagfpmaaDoorW.PrintLast YtjloppfdagfpmaaDoorW.PrintMore YtjloppfdagfpmaaDoor.T
theorem Model_eq {G P : List Nat} (hG : Gr 8 G) (hP : Gr 6 P) : minor_Model.f (gi G) (gi P) = some ((findN G P).elim ([], 4) fun M => (gi M, 0)) := by
 have h1 := hG.most
 have h2 := hP.most
 unfold minor_Model.f
 rw [if_pos ⟨by rw [gi_length]; omega, by rw [gi_length]; omega⟩, (chk_iff 8 (by omega) _).2 ⟨G, rfl, hG⟩, (chk_iff 6 (by omega) _).2 ⟨P, rfl, hP⟩, gi_toNat, gi_toNat]
 rfl
def IsMnr (G P : List Nat) : Prop := Mnr (fun x => x < G.length) (Adj G) P.length (Adj P)
theorem find_mnr {m m' : Nat} {G P : List Nat} (hG : Gr m G) (hm : m ≤ 9) (hP : Gr m' P) (hm' : m' ≤ 9) : (findN G P).isSome = true ↔ IsMnr G P := by
 unfold IsMnr
 rw [← mod_iff hG hm hP hm']
 have hn := Nat.le_trans hG.most hm
 cases h : findN G P with
 | none => exact ⟨fun h => (by cases h), fun ⟨M, hM⟩ => (find_none hn hP.pos h M hM).elim⟩
 | some R => exact ⟨fun _ => ⟨R, (find_some hn hP.pos h).1⟩, fun _ => rfl⟩
theorem few_ok {G : List Nat} (hG : Gr 8 G) : lampblacklaw07_Few.f (gi G) = some (gi G) := by
 obtain ⟨h, e, e1, _, _⟩ := few_eq (gi G) (by rw [gi_length]; have := hG.most; omega)
 rw [e1 ((chk_iff 8 (by omega) _).2 ⟨G, rfl, hG⟩)] at e
 exact e
theorem has_eq {G P : List Nat} (hG : Gr 8 G) (hP : Gr 6 P) : ∃ b, lampblacklaw07_has.f (gi G) (gi P) = some (b, true) ∧ (b = true ↔ IsMnr G P) := by
 have hf := find_mnr hG (by omega) hP (by omega)
 unfold lampblacklaw07_has.f
 rw [few_ok hG]
 simp only [Option.bind_some]
 rw [Model_eq hG hP]
 cases h : findN G P with
 | none =>
  refine ⟨false, rfl, ?_⟩
  rw [← hf, h]
  simp
 | some R =>
  refine ⟨true, rfl, ?_⟩
  rw [← hf, h]
  simp
end Go.Proofs.YtjloppfdagfpmaaDoor.X
end
section
namespace Go.Proofs.YtjloppfdagfpmaaDoor.X
open Go.RowKit YtjloppfdagfpmaaDoorW.PrintWords YtjloppfdagfpmaaDoorW.PrintLast YtjloppfdagfpmaaDoorW.PrintMore
attribute [local go_sem] max2_int min2_int max_two min_two max_three min_three max_four min_four
/-! ### lampblackref07_Delete: function 37 -/
def lampblackref07_Delete.l0 : Nat → Int → List Int → List Int → Int → Int → Option (List Int)
 | 0, _, _, _, _, _ => none
 | k + 1, x1, x5, x8, x9, x10 => if x10 < x9 then (if 0 ≤ x10 then (if x10 < (x8.length : Int) then (if x10 = x1 then (lampblackref07_Delete.l0 k x1 x5 x8 x9 (wrap64 (x10 + 1))) else (if 0 ≤ x1 then (if 0 ≤ (wrap64 (x1 + 1)) then (if x5.length < 17592186044416 then (lampblackref07_Delete.l0 k x1 (x5 ++ [Go.bits .or .i64 (Go.bits .and .i64 (rd x8 x10) (wrap64 ((shl .i64 1 x1) - 1))) (shl .i64 (shr .i64 (rd x8 x10) (wrap64 (x1 + 1))) x1)]) x8 x9 (wrap64 (x10 + 1))) else (none)) else (none)) else (none))) else (none)) else (none)) else (some x5)
def lampblackref07_Delete.f (k : Nat) (l0 : List Int) (a1 : Int) : Option (List Int) := lampblackref07_Delete.l0 k a1 ([] : List Int) l0 (l0.length : Int) 0
def lampblackref07_Delete.T6 : Bool × List (List Nat × List Nat) := (true, [([], []), ([], []), ([], []), ([2], [2]), ([3], [3]), ([1, 4], [1, 4]), ([], []), ([], []), ([7], [7]), ([6, 8], [6, 8]), ([], []), ([9, 10], [9, 10]), ([5, 11], [5, 11]), ([12], [12]), ([0, 13], [0, 13]), ([14, 14, 0, 1, 2, 3, 4, 5, 6, 7, 8, 9, 10, 11, 12, 13, 14], [0, 14])])
def lampblackref07_Delete.B6 : List Nat := [0, 0, 0, 4, 12, 30, 0, 0, 128, 448, 0, 1984, 4094, 8190, 16383, 32767]
theorem lampblackref07_Delete.tab6 : rtab .any (opsOf Tryd.f37 6) = lampblackref07_Delete.T6 := by kernel_rfl
theorem lampblackref07_Delete.bits6 : waitsOk lampblackref07_Delete.T6.2 lampblackref07_Delete.B6 = true := by kernel_rfl
end Go.Proofs.YtjloppfdagfpmaaDoor.X
end
section
namespace Go.Proofs.YtjloppfdagfpmaaDoor.X
open Go.RowKit YtjloppfdagfpmaaDoorW.PrintWords YtjloppfdagfpmaaDoorW.PrintLast YtjloppfdagfpmaaDoorW.PrintMore
attribute [local go_sem] max2_int min2_int max_two min_two max_three min_three max_four min_four
/-! ### lampblackref07_Contract: function 38 -/
def lampblackref07_Contract.l0 : Nat → List Int → Int → Int → List Int → Int → Int → Option (List Int)
 | 0, _, _, _, _, _, _ => none
 | k + 1, x0, x1, x2, x7, x13, x14 => if x14 < x13 then (if 0 ≤ x2 then (if x2 < (x0.length : Int) then (if 0 ≤ x14 then (if (Go.bits .and .i64 (shr .i64 (rd x0 x2) x14) 1) = 1 then (if x14 = x1 then (lampblackref07_Contract.l0 k x0 x1 x2 x7 x13 (wrap64 (x14 + 1))) else ((lampblackref07_join.f x7 x1 x14).bind fun t329 => (lampblackref07_Contract.l0 k x0 x1 x2 t329 x13 (wrap64 (x14 + 1))))) else (lampblackref07_Contract.l0 k x0 x1 x2 x7 x13 (wrap64 (x14 + 1)))) else (none)) else (none)) else (none)) else ((lampblackref07_Delete.f k x7 x2).bind fun t330 => (some t330))
end Go.Proofs.YtjloppfdagfpmaaDoor.X
end
section
/- (minor) A node less, and two neighbours made one. -/
namespace Go.Proofs.YtjloppfdagfpmaaDoor.X
open Go.RowKit YtjloppfdagfpmaaDoorW.PrintWords YtjloppfdagfpmaaDoorW.PrintLast YtjloppfdagfpmaaDoorW.PrintMore YtjloppfdagfpmaaDoor.T
theorem without_l0 (G : List Nat) (hn : G.length ≤ 9) (hrw : ∀ i, G.getD i 0 < 2 ^ G.length) (v : Nat) (hv : v < G.length) : ∀ d i, i + d = G.length →
  Ev (fun k => minor_town_without.l0 k (v : Int) (gi (delTo G v i)) (gi G) (G.length : Int) (i : Int)) (gi (del G v)) := by
 have h9 : 2 ^ G.length ≤ 2 ^ 9 := Nat.pow_le_pow_right (by omega) hn
 have hv1 : 2 ^ v < 2 ^ G.length := Nat.pow_lt_pow_right (by omega) hv
 have hvp := Nat.two_pow_pos v
 intro d
 induction d with
 | zero =>
  intro i hi
  obtain rfl : i = G.length := by omega
  exact Ev.step (f := fun _ => some (gi (delTo G v G.length))) (fun k => by rw [minor_town_without.l0, if_neg (by omega)]) (Ev.some rfl)
 | succ d ih =>
  intro i hi
  have hwi : wrap64 ((i : Int) + 1) = ((i + 1 : Nat) : Int) := wrap_succ i (by omega)
  have next := ih (i + 1) (by omega)
  have hll : (gi (delTo G v i)).length ≤ 9 := by
   have := delTo_length G v i
   rw [gi_length]
   by_cases h : i ≤ v
   ·rw [if_pos h] at this; omega
   ·rw [if_neg h] at this; omega
  by_cases e : i = v
  ·subst e
   refine Ev.step (fun k => by rw [minor_town_without.l0, if_pos (by omega), if_pos (by omega), if_pos (by rw [gi_length]; omega), if_pos rfl, hwi]) ?_
   simpa only [delTo, if_true] using next
  ·have hrow := hrw i
   have hwv : wrap64 ((v : Int) + 1) = ((v + 1 : Nat) : Int) := wrap_succ v (by omega)
   have hs5 := small G hn hrow
   have hdiv : G.getD i 0 / 2 ^ (v + 1) ≤ G.getD i 0 := Nat.div_le_self _ _
   have hmul : G.getD i 0 / 2 ^ (v + 1) * 2 ^ v < 2 ^ 62 := Nat.lt_of_le_of_lt (Nat.mul_le_mul hdiv (Nat.le_of_lt hv1)) (Nat.lt_of_le_of_lt (Nat.mul_le_mul (Nat.le_of_lt hs5) h9) (by omega))
   have hel : Go.bits .or .i64 (Go.bits .and .i64 ((G.getD i 0 : Nat) : Int) (wrap64 ((shl .i64 1 (v : Int)) - 1))) (shl .i64 (shr .i64 ((G.getD i 0 : Nat) : Int) ((v + 1 : Nat) : Int)) (v : Int)) = ((delbits v (G.getD i 0) : Nat) : Int) := by
    rw [s_one v (by omega), w64_small _ (by omega) (by omega), show (((2 ^ v : Nat) : Int) - 1) = ((2 ^ v - 1 : Nat) : Int) by omega, b_and _ _ (big hs5) (by omega), s_shr _ _ (by omega), s_shl _ _ hmul (by omega),
     b_or _ _ (Nat.lt_of_le_of_lt Nat.and_le_left (big hs5)) hmul]
    rfl
   refine Ev.step (fun k => by rw [minor_town_without.l0, if_pos (by omega), if_pos (by omega), if_pos (by rw [gi_length]; omega), if_neg (by omega), if_pos (by omega), hwv, if_pos (by omega), if_pos (by omega), rd_gi, hel, hwi]) ?_
   have h2 : gi (delTo G v i) ++ [((delbits v (G.getD i 0) : Nat) : Int)] = gi (delTo G v (i + 1)) := by
    simp only [delTo, if_neg e]; simp [gi]
   rw [h2]
   exact next
theorem without_ev (G : List Nat) (hn : G.length ≤ 9) (hrw : ∀ i, G.getD i 0 < 2 ^ G.length) (v : Nat) (hv : v < G.length) : Ev (fun k => minor_town_without.f k (gi G) (v : Int)) (gi (del G v)) := by
 unfold minor_town_without.f
 rw [gi_length]
 exact without_l0 G hn hrw v hv G.length 0 (by omega)
def joinN (J : List Nat) (a u : Nat) : List Nat := (J.set a (J.getD a 0 ||| 2 ^ u)).set u ((J.set a (J.getD a 0 ||| 2 ^ u)).getD u 0 ||| 2 ^ a)
def InN (n : Nat) (J : List Nat) : Prop := J.length = n ∧ ∀ i, J.getD i 0 < 2 ^ n
theorem getD_set3 (W : List Nat) (i j x : Nat) (hi : i < W.length) : (W.set i x).getD j 0 = if j = i then x else W.getD j 0 := by
 rw [List.getD_eq_getElem?_getD, List.getD_eq_getElem?_getD, List.getElem?_set]
 by_cases h : i = j
 ·subst h; rw [if_pos rfl, if_pos rfl, if_pos hi]; rfl
 ·rw [if_neg h, if_neg (fun e => h e.symm)]
theorem InN.join {n : Nat} {J : List Nat} (h : InN n J) {a u : Nat} (ha : a < n) (hu : u < n) : InN n (joinN J a u) := by
 have hp : ∀ v, v < n → 2 ^ v < 2 ^ n := fun v hv => Nat.pow_lt_pow_right (by omega) hv
 have h1 : ∀ i, (J.set a (J.getD a 0 ||| 2 ^ u)).getD i 0 < 2 ^ n := fun i => by
  rw [getD_set3 _ _ _ _ (by rw [h.1]; exact ha)]
  split
  ·exact Nat.or_lt_two_pow (h.2 a) (hp u hu)
  ·exact h.2 i
 refine ⟨by unfold joinN; rw [List.length_set, List.length_set, h.1], fun i => ?_⟩
 unfold joinN
 rw [getD_set3 _ _ _ _ (by rw [List.length_set, h.1]; exact hu)]
 split
 ·exact Nat.or_lt_two_pow (h1 u) (hp a ha)
 ·exact h1 i
theorem join_eq {n : Nat} (hn : n ≤ 9) {J : List Nat} (h : InN n J) {a u : Nat} (ha : a < n) (hu : u < n) : minor_town_join.f (gi J) (a : Int) (u : Int) = some (gi (joinN J a u)) := by
 have h9 : 2 ^ n ≤ 2 ^ 9 := Nat.pow_le_pow_right (by omega) hn
 have hp : ∀ v, v < n → 2 ^ v < 2 ^ 62 := fun v hv => Nat.lt_of_lt_of_le (Nat.pow_lt_pow_right (by omega) hv) (Nat.le_trans h9 (by omega))
 have hb : ∀ x, x < 2 ^ n → x < 2 ^ 62 := fun x hx => Nat.lt_of_lt_of_le hx (Nat.le_trans h9 (by omega))
 have hJ1 : ∀ i, (J.set a (J.getD a 0 ||| 2 ^ u)).getD i 0 < 2 ^ n := fun i => by
  rw [getD_set3 _ _ _ _ (by rw [h.1]; exact ha)]
  split
  ·exact Nat.or_lt_two_pow (h.2 a) (Nat.pow_lt_pow_right (by omega) hu)
  ·exact h.2 i
 unfold minor_town_join.f
 rw [if_pos (by omega), if_pos (by rw [gi_length, h.1]; omega), if_pos (by omega), rd_gi, s_one u (by omega), b_or _ _ (hb _ (h.2 a)) (hp u hu), Int.toNat_natCast, gi_set]
 simp only [Option.bind_some]
 rw [if_pos (by rw [gi_length, h.1]; omega), rd_gi, s_one a (by omega), b_or _ _ (hb _ (hJ1 u)) (hp a ha), Int.toNat_natCast, gi_set]
 rfl
theorem gr_in {m : Nat} {G : List Nat} (hG : Gr m G) : InN G.length G := ⟨rfl, hG.row⟩
def joins (G : List Nat) (a : Nat) (s : Nat) (i : Nat) : List Nat := (List.range i).foldl (fun J u => if s.testBit u then joinN J a u else J) G
theorem joins_succ (G : List Nat) (a s i : Nat) : joins G a s (i + 1) = if s.testBit i then joinN (joins G a s i) a i else joins G a s i := by
 unfold joins
 rw [List.range_succ, List.foldl_append]
 rfl
theorem joins_in {m : Nat} {G : List Nat} (hG : Gr m G) {a : Nat} (ha : a < G.length) {s : Nat} (hs : s < 2 ^ G.length) : ∀ i, InN G.length (joins G a s i)
 | 0 => gr_in hG
 | i + 1 => by
  rw [joins_succ]
  split
  ·rename_i h; exact (joins_in hG ha hs i).join ha (bit_lt hs h)
  ·exact joins_in hG ha hs i
theorem joins_big (G : List Nat) (a : Nat) {s n : Nat} (hs : s < 2 ^ n) : ∀ d, joins G a s (n + d) = joins G a s n
 | 0 => rfl
 | d + 1 => by
  have h : s.testBit (n + d) = false := by
   apply Nat.testBit_lt_two_pow
   exact Nat.lt_of_lt_of_le hs (Nat.pow_le_pow_right (by omega) (by omega))
  show joins G a s (n + d + 1) = _
  rw [joins_succ, h]
  exact joins_big G a hs d
theorem joins_els (G : List Nat) (a s i : Nat) : (els s i).foldl (fun J u => joinN J a u) G = joins G a s i := by
 unfold joins els
 rw [List.foldl_filter]
theorem contract_l0 {m : Nat} {G : List Nat} (hG : Gr m G) (hm : m ≤ 9) (a b : Nat) (ha : a < G.length) (hb : b < G.length) (L : List Nat) (hL : ∀ u ∈ L, u < G.length) (hLl : L.length ≤ 100) : ∀ d i (J : List Nat), i + d = L.length → InN G.length J →
  Ev (fun k => minor_Contract.l0 k (a : Int) (b : Int) (gi J) (gi L) (L.length : Int) (i : Int)) (gi (del ((L.drop i).foldl (fun J u => joinN J a u) J) b), 0) := by
 have hn := Nat.le_trans hG.most hm
 intro d
 induction d with
 | zero =>
  intro i J hi hJ
  rw [List.drop_eq_nil_of_le (by omega)]
  refine Ev.step (fun k => by rw [minor_Contract.l0, if_neg (by omega)]) ?_
  exact Ev.bind (without_ev J (by rw [hJ.1]; exact hn) (by rw [hJ.1]; exact hJ.2) b (by rw [hJ.1]; exact hb)) (Ev.some rfl)
 | succ d ih =>
  intro i J hi hJ
  have hi' : i < L.length := by omega
  have hu := hL _ (List.getElem_mem hi')
  have hr : rd (gi L) (i : Int) = ((L[i] : Nat) : Int) := by rw [rd_gi, List.getD_eq_getElem?_getD, List.getElem?_eq_getElem hi']; rfl
  rw [List.drop_eq_getElem_cons hi']
  refine Ev.step (fun k => by rw [minor_Contract.l0, if_pos (by omega), if_pos (by omega), if_pos (by rw [gi_length]; omega), hr, join_eq hn hJ ha hu, wrap_succ i (by omega), Option.bind_some]) ?_
  exact ih (i + 1) _ (by omega) (hJ.join ha hu)
def ctr (G : List Nat) (a b : Nat) : List Nat := del (joins G a (diff (G.getD b 0) (2 ^ a)) G.length) b
theorem diff_lt2 {x y n : Nat} (h : x < 2 ^ n) : diff x y < 2 ^ n := Nat.lt_of_le_of_lt (diff_le x y) h
theorem read_yesE (G : List Nat) (hG : Gr 8 G) : Ev (fun k => minor_read.f k (gi G) 8) (gi G, true) := by
 have := read_ev 8 (by omega) (gi G) (by rw [gi_length]; have := hG.most; omega)
 rw [(chk_iff 8 (by omega) _).2 ⟨G, rfl, hG⟩] at this
 exact this
theorem Contract_ev {G : List Nat} (hG : Gr 8 G) (a b : Nat) (hab : a < b) (hb : b < G.length) (hA : (G.getD a 0).testBit b = true) : Ev (fun k => minor_Contract.f k (gi G) (a : Int) (b : Int)) (gi (ctr G a b), 0) := by
 have hn := hG.most
 have hbg := big (small G (by omega) (hG.row a))
 have hs := diff_lt2 (y := 2 ^ a) (hG.row b)
 have hs5 := small G (by omega) hs
 have hpa : 2 ^ a < 2 ^ 62 := Nat.pow_lt_pow_right (by omega) (by omega)
 unfold minor_Contract.f
 refine Ev.bind (read_yesE G hG) (Ev.if_pos rfl (Ev.if_neg (by omega) (Ev.if_neg (by simp only [gi_length]; omega) (Ev.if_neg (by omega) (Ev.if_pos (by omega) (Ev.if_pos (by simp only [gi_length]; omega) (Ev.if_pos (by omega) ?_)))))))
 have hz : ((Go.bits .and .i64 (shr .i64 (rd (gi G) (a : Int)) (b : Int)) 1) == 0) = false := by
  rw [rd_gi, beq_eq_false_iff_ne]
  intro h
  have := (bit_zero _ b hbg (by omega)).1 h
  rw [hA] at this; cases this
 have hcl : minor_town_int.f (gi G) = some (gi G) := by
  unfold minor_town_int.f
  simp only [Option.bind_some, List.nil_append, List.length_nil]
  rw [if_pos (by rw [gi_length]; omega)]
 simp only [hz]
 have hand : Go.bits .andNot .i64 (rd (gi G) (b : Int)) (shl .i64 1 (a : Int)) = ((diff (G.getD b 0) (2 ^ a) : Nat) : Int) := by rw [rd_gi, s_one a (by omega), b_andNot _ _ (big (small G (by omega) (hG.row b))) hpa]
 refine Ev.step (fun k => by rw [minor_Contract.j0, if_neg (by simp), hcl, Option.bind_some, if_pos (by omega), if_pos (by simp only [gi_length]; omega), if_pos (by omega), hand]) ?_
 refine Ev.bind (nodes_ev _ hs5) ?_
 rw [gi_length]
 have hl9 : (els (diff (G.getD b 0) (2 ^ a)) 9).length ≤ 9 := by rw [els_length]; exact pc_le _ 9
 have := contract_l0 hG (by omega) a b (by omega) hb (els (diff (G.getD b 0) (2 ^ a)) 9) (fun u hu => bit_lt hs (mem_els.1 hu).2) (by omega) (els (diff (G.getD b 0) (2 ^ a)) 9).length 0 G (by omega) (gr_in hG)
 rw [List.drop_zero, joins_els, show (9 : Nat) = G.length + (9 - G.length) by omega, joins_big G a hs] at this
 rw [show G.length + (9 - G.length) = 9 by omega] at this
 exact this
theorem Contract_no {G : List Nat} (hG : Gr 8 G) (a b : Int) (h : a < 0 ∨ b ≥ (G.length : Int) ∨ a ≥ b ∨ (G.getD a.toNat 0).testBit b.toNat = false) : Ev (fun k => minor_Contract.f k (gi G) a b) (([] : List Int), 2) := by
 have hn := hG.most
 have stop : Ev (fun k => minor_Contract.j0 k a b (gi G) true) (([] : List Int), 2) := Ev.step (f := fun _ => some (([] : List Int), 2)) (fun k => by rw [minor_Contract.j0, if_pos rfl]) (Ev.some rfl)
 unfold minor_Contract.f
 refine Ev.bind (read_yesE G hG) (Ev.if_pos rfl ?_)
 by_cases h1 : a < 0
 ·exact Ev.if_pos h1 stop
 ·refine Ev.if_neg h1 ?_
  by_cases h2 : b ≥ (G.length : Int)
  ·exact Ev.if_pos (by simp only [gi_length]; exact h2) stop
  ·refine Ev.if_neg (by simp only [gi_length]; exact h2) ?_
   by_cases h3 : a ≥ b
   ·exact Ev.if_pos h3 stop
   ·refine Ev.if_neg h3 (Ev.if_pos (by omega) (Ev.if_pos (by simp only [gi_length]; omega) (Ev.if_pos (by omega) ?_)))
    obtain ⟨x, rfl⟩ := Int.eq_ofNat_of_zero_le (show 0 ≤ a by omega)
    obtain ⟨y, rfl⟩ := Int.eq_ofNat_of_zero_le (show 0 ≤ b by omega)
    have h4 : (G.getD x 0).testBit y = false := by simpa [h1, h2, h3] using h
    have hz : ((Go.bits .and .i64 (shr .i64 (rd (gi G) (x : Int)) (y : Int)) 1) == 0) = true := by
     rw [rd_gi, beq_iff_eq]
     exact (bit_zero _ y (big (small G (by omega) (hG.row x))) (by omega)).2 h4
    simp only [hz]
    exact stop
theorem Delete_ev {G : List Nat} (hG : Gr 8 G) (h2 : 2 ≤ G.length) (a : Nat) (ha : a < G.length) : Ev (fun k => minor_Delete.f k (gi G) (a : Int)) (gi (del G a), 0) := by
 have hn := hG.most
 unfold minor_Delete.f
 exact Ev.bind (read_yesE G hG) (Ev.if_pos rfl (Ev.if_neg (by simp only [gi_length]; omega) (Ev.if_neg (by omega) (Ev.if_neg (by simp only [gi_length]; omega) (Ev.bind (without_ev G (by omega) hG.row a ha) (Ev.some rfl))))))
theorem Delete_no {G : List Nat} (hG : Gr 8 G) (a : Int) (h : G.length < 2 ∨ a < 0 ∨ a ≥ (G.length : Int)) : Ev (fun k => minor_Delete.f k (gi G) a) (([] : List Int), 2) := by
 unfold minor_Delete.f
 refine Ev.bind (read_yesE G hG) (Ev.if_pos rfl ?_)
 by_cases h1 : G.length < 2
 ·exact Ev.if_pos (by simp only [gi_length]; omega) (Ev.some rfl)
 ·refine Ev.if_neg (by simp only [gi_length]; omega) ?_
  by_cases h2 : a < 0
  ·exact Ev.if_pos h2 (Ev.some rfl)
  ·exact Ev.if_neg h2 (Ev.if_pos (by simp only [gi_length]; omega) (Ev.some rfl))
end Go.Proofs.YtjloppfdagfpmaaDoor.X
end
section
/- (minor) Check in plain words: what it accepts are the models; a beginning of any length; a node less and two nodes made one keep a graph a graph. -/
namespace Go.Proofs.YtjloppfdagfpmaaDoor.X
open Go.RowKit YtjloppfdagfpmaaDoorW.PrintWords YtjloppfdagfpmaaDoorW.PrintLast YtjloppfdagfpmaaDoorW.PrintMore YtjloppfdagfpmaaDoor.T
theorem few_gen (g : List Int) (hg : g.length < 2 ^ 44) : ∃ h, lampblacklaw07_Few.f g = some h ∧ (∀ m, m ≤ 11 → chk m g = true → h = g) ∧ (∀ m, m ≤ 11 → chk m g = false → chk m h = false) ∧ h.length ≤ 12 := by
 have hm : mn (g.length : Int) 12 = ((min g.length 12 : Nat) : Int) := mn_nat g.length 12
 refine ⟨g.take (min g.length 12), ?_, ?_, ?_, ?_⟩
 ·unfold lampblacklaw07_Few.f slices_Clone_Graph.f
  simp only [hm, Int.toNat_natCast]
  rw [if_pos (by omega), if_pos (by omega)]
  simp only [Option.bind_some, List.length_nil, List.nil_append]
  rw [if_pos (by rw [List.length_take]; omega)]
  rfl
 ·intro m hm h
  simp only [chk, Bool.and_eq_true, decide_eq_true_eq] at h
  exact List.take_of_length_le (by omega)
 ·intro m hm h
  by_cases hl : g.length ≤ 12
  ·rw [List.take_of_length_le (by omega)]; exact h
  ·unfold chk
   have : ¬ (List.take (min g.length 12) g).length ≤ m := by rw [List.length_take]; omega
   rw [decide_eq_false this, Bool.and_false, Bool.false_and]
 ·rw [List.length_take]; omega
theorem list_eq (l : List Int) (hl : l.length < 2 ^ 44) : lampblacklaw07_list.f l = some (l.take 12) := by
 have hm : mn (l.length : Int) 12 = ((min l.length 12 : Nat) : Int) := mn_nat l.length 12
 unfold lampblacklaw07_list.f slices_Clone_int_int.f
 simp only [hm, Int.toNat_natCast]
 rw [if_pos (by omega), if_pos (by omega)]
 simp only [Option.bind_some, List.length_nil, List.nil_append]
 rw [if_pos (by rw [List.length_take]; omega), Option.bind_some]
 congr 1
 by_cases h : l.length ≤ 12
 ·rw [Nat.min_eq_left h, List.take_length, List.take_of_length_le h]
 ·rw [Nat.min_eq_right (by omega)]
theorem Check_eq {G P : List Nat} (hG : Gr 8 G) (hP : Gr 6 P) (l : List Int) (hl : l.length < 1000) : minor_Check.f (gi G) (gi P) l = some (if l.length = P.length then (chkM G P l [] 0, 0) else (false, 0)) := by
 have h1 := hG.most
 have h2 := hP.most
 unfold minor_Check.f
 rw [if_pos ⟨by rw [gi_length]; omega, by rw [gi_length]; omega, hl⟩, (chk_iff 8 (by omega) _).2 ⟨G, rfl, hG⟩, (chk_iff 6 (by omega) _).2 ⟨P, rfl, hP⟩, gi_toNat, gi_toNat, gi_length]
 rfl
theorem chkM_iff {G P : List Nat} : ∀ (l : List Int) (M : List Nat) (used : Nat), chkM G P l M used = true ↔ ∃ Q, l = gi Q ∧ (∀ s ∈ Q, s ∈ setsN G) ∧ Fits G P M used Q
 | [], M, used => by
  simp only [chkM, true_iff]
  exact ⟨[], rfl, (fun _ h => by cases h), trivial⟩
 | x :: r, M, used => by
  simp only [chkM, Bool.and_eq_true, decide_eq_true_eq, chkM_iff r]
  constructor
  ·rintro ⟨⟨⟨⟨⟨h1, h2⟩, h3⟩, h4⟩, h5⟩, Q, h6, h7, h8⟩
   refine ⟨x.toNat :: Q, ?_, fun s hs => ?_, h3, h5, h8⟩
   ·show x :: r = ((x.toNat : Nat) : Int) :: gi Q
    rw [Int.toNat_of_nonneg h1, h6]
   ·rcases List.mem_cons.1 hs with rfl | hs
    ·unfold setsN
     rw [List.mem_filter, List.mem_range]
     exact ⟨by omega, h4⟩
    ·exact h7 s hs
  ·rintro ⟨Q, h1, h2, h3⟩
   cases Q with
   | nil => cases h1
   | cons s Q =>
    have h1' : x :: r = (s : Int) :: gi Q := h1
    injection h1' with e1 e2
    subst e1
    have hs := h2 s (List.mem_cons_self ..)
    unfold setsN at hs
    rw [List.mem_filter, List.mem_range] at hs
    refine ⟨⟨⟨⟨⟨by omega, by omega⟩, h3.1⟩, hs.2⟩, h3.2.1⟩, Q, e2, fun t ht => h2 t (List.mem_cons_of_mem _ ht), h3.2.2⟩
theorem check_iff {G P : List Nat} (l : List Int) (hl : l.length = P.length) : chkM G P l [] 0 = true ↔ ∃ M, l = gi M ∧ IsMod G P M := by
 rw [chkM_iff]
 constructor
 ·rintro ⟨Q, h1, h2, h3⟩
  exact ⟨Q, h1, by rw [← gi_length Q, ← h1]; exact hl, h2, h3⟩
 ·rintro ⟨Q, h1, h2, h3, h4⟩
  exact ⟨Q, h1, h3, h4⟩
theorem Check_bad (g p l : List Int) (h1 : g.length < 1000) (h2 : p.length < 1000) (h3 : l.length < 1000) (h : (chk 8 g && chk 6 p) = false) : minor_Check.f g p l = some (false, 2) := by
 unfold minor_Check.f
 rw [if_pos ⟨h1, h2, h3⟩, h]
 rfl
theorem Model_bad (g p : List Int) (h1 : g.length < 1000) (h2 : p.length < 1000) (h : (chk 8 g && chk 6 p) = false) : minor_Model.f g p = some ([], 2) := by
 unfold minor_Model.f
 rw [if_pos ⟨h1, h2⟩, h]
 rfl
/-! Graphs stay graphs. -/
theorem joinN_adj {n : Nat} {J : List Nat} (h : InN n J) {a v : Nat} (ha : a < n) (hv : v < n) (hav : a ≠ v) (x y : Nat) : Adj (joinN J a v) x y ↔ Adj J x y ∨ (x = a ∧ y = v) ∨ (x = v ∧ y = a) := by
 show bset ((joinN J a v).getD x 0) y ↔ bset (J.getD x 0) y ∨ _
 unfold joinN
 rw [getD_set3 _ _ _ _ (by rw [List.length_set, h.1]; exact hv), getD_set3 _ _ _ _ (by rw [h.1]; exact ha), getD_set3 _ _ _ _ (by rw [h.1]; exact ha), if_neg (show ¬ v = a from fun e => hav e.symm)]
 by_cases h1 : x = v
 ·subst h1
  rw [if_pos rfl, or_bset, two_pow_bit]
  constructor
  ·rintro (h | h)
   ·exact .inl h
   ·exact .inr (.inr ⟨rfl, h⟩)
  ·rintro (h | ⟨h, _⟩ | ⟨_, h⟩)
   ·exact .inl h
   ·exact absurd h.symm hav
   ·exact .inr h
 ·rw [if_neg h1]
  by_cases h2 : x = a
  ·subst h2
   rw [if_pos rfl, or_bset, two_pow_bit]
   constructor
   ·rintro (h | h)
    ·exact .inl h
    ·exact .inr (.inl ⟨rfl, h⟩)
   ·rintro (h | ⟨_, h⟩ | ⟨h, _⟩)
    ·exact .inl h
    ·exact .inr h
    ·exact absurd h hav
  ·rw [if_neg h2]
   exact ⟨.inl, fun h => h.elim id fun h => h.elim (fun h => absurd h.1 h2) fun h => absurd h.1 h1⟩
theorem joins_adj {m : Nat} {G : List Nat} (hG : Gr m G) {a : Nat} (ha : a < G.length) {s : Nat} (hs : s < 2 ^ G.length) (has : s.testBit a = false) : ∀ i x y, Adj (joins G a s i) x y ↔ Adj G x y ∨ (x = a ∧ y < i ∧ bset s y) ∨ (y = a ∧ x < i ∧ bset s x)
 | 0, x, y => by
  show Adj G x y ↔ _
  exact ⟨.inl, fun h => h.elim id fun h => h.elim (fun h => by omega) fun h => by omega⟩
 | i + 1, x, y => by
  have ih := joins_adj hG ha hs has i x y
  rw [joins_succ]
  by_cases hb : s.testBit i = true
  ·have hai : a ≠ i := fun e => by rw [e, hb] at has; cases has
   rw [if_pos hb, joinN_adj (joins_in hG ha hs i) ha (bit_lt hs hb) hai, ih]
   constructor
   ·rintro ((h | ⟨h1, h2, h3⟩ | ⟨h1, h2, h3⟩) | ⟨h1, h2⟩ | ⟨h1, h2⟩)
    ·exact .inl h
    ·exact .inr (.inl ⟨h1, by omega, h3⟩)
    ·exact .inr (.inr ⟨h1, by omega, h3⟩)
    ·exact .inr (.inl ⟨h1, by omega, by rw [h2]; exact hb⟩)
    ·exact .inr (.inr ⟨h2, by omega, by rw [h1]; exact hb⟩)
   ·rintro (h | ⟨h1, h2, h3⟩ | ⟨h1, h2, h3⟩)
    ·exact .inl (.inl h)
    ·by_cases e : y = i
     ·exact .inr (.inl ⟨h1, e⟩)
     ·exact .inl (.inr (.inl ⟨h1, by omega, h3⟩))
    ·by_cases e : x = i
     ·exact .inr (.inr ⟨e, h1⟩)
     ·exact .inl (.inr (.inr ⟨h1, by omega, h3⟩))
  ·rw [if_neg hb, ih]
   constructor
   ·rintro (h | ⟨h1, h2, h3⟩ | ⟨h1, h2, h3⟩)
    ·exact .inl h
    ·exact .inr (.inl ⟨h1, by omega, h3⟩)
    ·exact .inr (.inr ⟨h1, by omega, h3⟩)
   ·rintro (h | ⟨h1, h2, h3⟩ | ⟨h1, h2, h3⟩)
    ·exact .inl h
    ·have : y ≠ i := fun e => hb (by rw [e] at h3; exact h3)
     exact .inr (.inl ⟨h1, by omega, h3⟩)
    ·have : x ≠ i := fun e => hb (by rw [e] at h3; exact h3)
     exact .inr (.inr ⟨h1, by omega, h3⟩)
theorem ctr_adj {m : Nat} {G : List Nat} (hG : Gr m G) {a b : Nat} (ha : a < G.length) (x y : Nat) : Adj (joins G a (diff (G.getD b 0) (2 ^ a)) G.length) x y ↔ Adj G x y ∨ (x = a ∧ y ≠ a ∧ Adj G b y) ∨ (y = a ∧ x ≠ a ∧ Adj G b x) := by
 have hbit : ∀ j, bset (diff (G.getD b 0) (2 ^ a)) j ↔ Adj G b j ∧ j ≠ a := fun j => by
  rw [diff_bset, two_pow_bit]
  exact Iff.rfl
 have has : (diff (G.getD b 0) (2 ^ a)).testBit a = false := by
  cases h : (diff (G.getD b 0) (2 ^ a)).testBit a
  ·rfl
  ·exact absurd ((hbit a).1 h).2 (fun h => h rfl)
 rw [joins_adj hG ha (diff_lt2 (hG.row b)) has]
 simp only [hbit]
 constructor
 ·rintro (h | ⟨h1, _, h2, h3⟩ | ⟨h1, _, h2, h3⟩)
  ·exact .inl h
  ·exact .inr (.inl ⟨h1, h3, h2⟩)
  ·exact .inr (.inr ⟨h1, h3, h2⟩)
 ·rintro (h | ⟨h1, h2, h3⟩ | ⟨h1, h2, h3⟩)
  ·exact .inl h
  ·exact .inr (.inl ⟨h1, hG.adj_lt h3, h3, h2⟩)
  ·exact .inr (.inr ⟨h1, hG.adj_lt h3, h3, h2⟩)
theorem ctr_gr {m : Nat} {G : List Nat} (hG : Gr m G) {a b : Nat} (hab : Adj G a b) : Gr m (ctr G a b) := by
 have ha := hG.adj_lt' hab
 have hb := hG.adj_lt hab
 have hne : a ≠ b := fun e => hG.adj_irr (e ▸ hab)
 have hJ := joins_in hG ha (diff_lt2 (y := 2 ^ a) (hG.row b)) G.length
 have hl : (ctr G a b).length = G.length - 1 := by unfold ctr; rw [del_length (by rw [hJ.1]; exact hb), hJ.1]
 have hm := hG.most
 refine gr_of (by rw [hl]; omega) (by rw [hl]; omega) fun u w h => ?_
 have hbl : b < (joins G a (diff (G.getD b 0) (2 ^ a)) G.length).length := by rw [hJ.1]; exact hb
 have key := (del_adj hbl u w).1 h
 rw [hJ.1] at key
 have h2 := (ctr_adj hG ha _ _).1 key.2
 have hsym : Adj (joins G a (diff (G.getD b 0) (2 ^ a)) G.length) (up b w) (up b u) := by
  refine (ctr_adj hG ha _ _).2 ?_
  rcases h2 with h2 | ⟨h2, h3, h4⟩ | ⟨h2, h3, h4⟩
  ·exact .inl (hG.adj_symm h2)
  ·exact .inr (.inr ⟨h2, h3, h4⟩)
  ·exact .inr (.inl ⟨h2, h3, h4⟩)
 have hwl : up b w < G.length := by
  rcases h2 with h2 | ⟨h2, h3, h4⟩ | ⟨h2, h3, h4⟩
  ·exact hG.adj_lt h2
  ·exact hG.adj_lt h4
  ·rw [h2]; exact ha
 have hw := (up_lt hb).1 hwl
 refine ⟨by rw [hl]; exact hw, (del_adj hbl w u).2 ⟨by rw [hJ.1]; exact hw, hsym⟩, fun e => ?_⟩
 subst e
 rcases h2 with h2 | ⟨h2, h3, h4⟩ | ⟨h2, h3, h4⟩
 ·exact hG.adj_irr h2
 ·exact h3 h2
 ·exact h3 h2
theorem ctr_isMnr {m : Nat} {G P : List Nat} (hG : Gr m G) {a b : Nat} (hab : Adj G a b) (h : IsMnr (ctr G a b) P) : IsMnr G P := by
 have ha := hG.adj_lt' hab
 have hJ := joins_in hG ha (diff_lt2 (y := 2 ^ a) (hG.row b)) G.length
 refine contract_mnr hG hab hJ.1 (fun x y hx hy h => ?_) h
 have h2 := (ctr_adj hG ha _ _).1 h
 rcases h2 with h2 | ⟨h2, h3, h4⟩ | ⟨h2, h3, h4⟩
 ·exact ⟨fun e => hG.adj_irr (e ▸ h2), .inl h2⟩
 ·exact ⟨fun e => h3 (e ▸ h2), .inr (.inl ⟨h2, h4⟩)⟩
 ·exact ⟨fun e => h3 (e ▸ h2), .inr (.inr ⟨h2, h4⟩)⟩
theorem del_isMnr {G P : List Nat} {v : Nat} (hv : v < G.length) (h : IsMnr (del G v) P) : IsMnr G P := less_mnr hv h
end Go.Proofs.YtjloppfdagfpmaaDoor.X
end
section
/- MinorFound, without Go and memory: Check accepts Model, and where it accepts any model there is one with as few nodes; a minor of a graph with a node less, or with two neighbours made one, is one of the graph. -/
namespace Go.Proofs.YtjloppfdagfpmaaDoor.Pure
open Go.RowKit YtjloppfdagfpmaaDoorW.PrintWords YtjloppfdagfpmaaDoorW.PrintLast YtjloppfdagfpmaaDoorW.PrintMore YtjloppfdagfpmaaDoor.T YtjloppfdagfpmaaDoor.X
def orAll (Q : List Nat) (u : Nat) : Nat := Q.foldl (fun u s => u ||| s) u
theorem orAll_lt {n : Nat} : ∀ (Q : List Nat) (u : Nat), u < 2 ^ n → (∀ s ∈ Q, s < 2 ^ n) → orAll Q u < 2 ^ n
 | [], u, hu, _ => hu
 | s :: Q, u, hu, hs => orAll_lt Q (u ||| s) (or_lt hu (hs s (List.mem_cons_self ..))) fun t ht => hs t (List.mem_cons_of_mem _ ht)
theorem pc_dis {s u : Nat} (h : s &&& u = 0) : ∀ n, pc (u ||| s) n = pc u n + pc s n
 | 0 => rfl
 | n + 1 => by
  have ih := pc_dis h n
  simp only [pc, Nat.testBit_or]
  have hz : (s &&& u).testBit n = false := by rw [h]; simp
  rw [Nat.testBit_and] at hz
  cases h1 : u.testBit n <;> cases h2 : s.testBit n <;> simp_all <;> omega
theorem orAll_pc {G P : List Nat} : ∀ (Q M : List Nat) (u : Nat), Fits G P M u Q → pc (orAll Q u) 9 = pc u 9 + total Q
 | [], M, u, _ => by simp [orAll, total]
 | s :: Q, M, u, h => by
  have ih := orAll_pc Q (M ++ [s]) (u ||| s) h.2.2
  show pc (orAll Q (u ||| s)) 9 = _
  rw [ih, pc_dis h.1]
  simp [total]
  omega
theorem found_j6 (G P : List Nat) (hG : Gr 8 G) (hP : Gr 6 P) (a b : Int) (e : Int) (he : IsMnr G P → e = 0) (L : List (List Int)) (Z i : Int) (hnext : Ev (fun k => lampblacklaw07_MinorFound.l2 k (gi G) (gi P) a b e L Z (wrap64 (i + 1))) true) (H : List Int) (f : Int)
  (hH : f ≠ 0 ∨ ∃ H', H = gi H' ∧ Gr 8 H' ∧ (IsMnr H' P → IsMnr G P)) (hfew : lampblacklaw07_Few.f (gi P) = some (gi P)) : Ev (fun k => lampblacklaw07_MinorFound.j6 k (gi G) (gi P) a b e H f L Z i) true := by
 refine Ev.step (fun k => by rw [lampblacklaw07_MinorFound.j6]) ?_
 by_cases hf : f = 0
 ·rcases hH with h | ⟨H', rfl, hg, hm⟩
  ·exact absurd hf h
  ·obtain ⟨t, ht, htm⟩ := has_eq hg hP
   refine Ev.if_pos hf (Ev.bind1 hfew (Ev.bind1 ht (Ev.if_pos rfl ?_)))
   cases t
   ·exact Ev.if_neg (by simp) hnext
   ·exact Ev.if_pos rfl (Ev.if_pos (he (hm (htm.1 rfl))) hnext)
 ·exact Ev.if_neg hf hnext
theorem found_j4 (G P : List Nat) (hG : Gr 8 G) (hP : Gr 6 P) (a b : Int) (e : Int) (he : IsMnr G P → e = 0) (hfew : lampblacklaw07_Few.f (gi P) = some (gi P)) : Ev (fun k => lampblacklaw07_MinorFound.j4 k (gi G) (gi P) a b e) true := by
 have hn := hG.most
 refine Ev.step (f := fun k => lampblacklaw07_MinorFound.l2 k (gi G) (gi P) a b e [[0], [1]] 2 0) (fun k => by rw [lampblacklaw07_MinorFound.j4]; rfl) ?_
 have h3 : Ev (fun k => lampblacklaw07_MinorFound.l2 k (gi G) (gi P) a b e [[0], [1]] 2 (wrap64 (1 + 1))) true :=
  Ev.step (fun k => by rw [lampblacklaw07_MinorFound.l2, if_neg (by decide +kernel)]) (Ev.bind awake_ev (Ev.some rfl))
 have hcon : ∃ H f, Ev (fun k => minor_Contract.f k (gi G) a b) (H, f) ∧ (f ≠ 0 ∨ ∃ H', H = gi H' ∧ Gr 8 H' ∧ (IsMnr H' P → IsMnr G P)) := by
  by_cases h : a < 0 ∨ b ≥ (G.length : Int) ∨ a ≥ b ∨ (G.getD a.toNat 0).testBit b.toNat = false
  ·exact ⟨_, _, Contract_no hG a b h, .inl (by decide)⟩
  ·have h1 : 0 ≤ a := by omega
   have h2 : 0 ≤ b := by omega
   obtain ⟨x, rfl⟩ := Int.eq_ofNat_of_zero_le h1
   obtain ⟨y, rfl⟩ := Int.eq_ofNat_of_zero_le h2
   have hA : Adj G x y := by
    cases hb : (G.getD x 0).testBit y
    ·exact absurd (.inr (.inr (.inr (by simpa using hb)))) h
    ·exact hb
   exact ⟨_, _, Contract_ev hG x y (by omega) (by omega) hA, .inr ⟨_, rfl, ctr_gr hG hA, ctr_isMnr hG hA⟩⟩
 obtain ⟨H, f, hc1, hc2⟩ := hcon
 have h2 : Ev (fun k => lampblacklaw07_MinorFound.l2 k (gi G) (gi P) a b e [[0], [1]] 2 (wrap64 (0 + 1))) true := by
  refine Ev.step (fun k => by rw [show wrap64 (0 + 1) = 1 by decide +kernel, lampblacklaw07_MinorFound.l2, if_pos (by decide), if_pos (by decide), if_pos (by decide), if_pos (by decide), if_neg (by decide), few_ok hG, Option.bind_some]) ?_
  exact Ev.bind hc1 (found_j6 G P hG hP a b e he _ _ 1 h3 H f hc2 hfew)
 have hdel : ∃ H f, Ev (fun k => minor_Delete.f k (gi G) a) (H, f) ∧ (f ≠ 0 ∨ ∃ H', H = gi H' ∧ Gr 8 H' ∧ (IsMnr H' P → IsMnr G P)) := by
  by_cases h : G.length < 2 ∨ a < 0 ∨ a ≥ (G.length : Int)
  ·exact ⟨_, _, Delete_no hG a h, .inl (by decide)⟩
  ·obtain ⟨x, rfl⟩ := Int.eq_ofNat_of_zero_le (show 0 ≤ a by omega)
   exact ⟨_, _, Delete_ev hG (by omega) x (by omega), .inr ⟨_, rfl, del_gr hG (by omega) (by omega), del_isMnr (by omega)⟩⟩
 obtain ⟨D, d, hd1, hd2⟩ := hdel
 refine Ev.step (fun k => by rw [lampblacklaw07_MinorFound.l2, if_pos (by decide), if_pos (by decide), if_pos (by decide), if_pos (by decide), if_pos (by decide), few_ok hG, Option.bind_some]) ?_
 exact Ev.bind hd1 (found_j6 G P hG hP a b e he _ _ 0 h2 D d hd2 hfew)
def orI (l : List Int) (u : Int) : Int := l.foldl (fun u x => Go.bits .or .i64 u x) u
theorem orI_gi {n : Nat} (hn : n ≤ 9) : ∀ (Q : List Nat) (u : Nat), u < 2 ^ n → (∀ s ∈ Q, s < 2 ^ n) → orI (gi Q) (u : Int) = ((orAll Q u : Nat) : Int)
 | [], u, _, _ => rfl
 | s :: Q, u, hu, hs => by
  have h9 : 2 ^ n ≤ 2 ^ 9 := Nat.pow_le_pow_right (by omega) hn
  have hb : ∀ x, x < 2 ^ n → x < 2 ^ 62 := fun x hx => Nat.lt_of_lt_of_le hx (Nat.le_trans h9 (by omega))
  have h1 := hs s (List.mem_cons_self ..)
  show orI (gi Q) (Go.bits .or .i64 (u : Int) (s : Int)) = _
  rw [b_or _ _ (hb _ hu) (hb _ h1)]
  exact orI_gi hn Q (u ||| s) (or_lt hu h1) fun t ht => hs t (List.mem_cons_of_mem _ ht)
theorem rd_at (l : List Int) (i : Nat) (hi : i < l.length) : rd l (i : Int) = l[i] := by
 unfold rd
 rw [Int.toNat_natCast, List.getD_eq_getElem?_getD, List.getElem?_eq_getElem hi]
 rfl
theorem found_l1 (G P : List Nat) (hG : Gr 8 G) (hP : Gr 6 P) (a b : Int) (e : Int) (he : IsMnr G P → e = 0) (hfew : lampblacklaw07_Few.f (gi P) = some (gi P)) (ok : Bool) (A : Int) (l : List Int) (hl : l.length < 2 ^ 44)
  (hok : ok = true → ∃ x y : Nat, x < 512 ∧ y < 512 ∧ A = (x : Int) ∧ orI l 0 = (y : Int) ∧ pc x 9 ≤ pc y 9) : ∀ d i (o : Int), i + d = l.length → orI (l.drop i) o = orI l 0 → Ev (fun k => lampblacklaw07_MinorFound.l1 k (gi G) (gi P) a b e ok A o l (l.length : Int) (i : Int)) true := by
 intro d
 induction d with
 | zero =>
  intro i o hi ho
  rw [List.drop_eq_nil_of_le (by omega)] at ho
  have ho' : o = orI l 0 := ho
  refine Ev.step (fun k => by rw [lampblacklaw07_MinorFound.l1, if_neg (by omega)]) ?_
  cases hk : ok
  ·exact Ev.if_neg (by simp) (found_j4 G P hG hP a b e he hfew)
  ·obtain ⟨x, y, hx, hy, h1, h2, h3⟩ := hok hk
   rw [ho', h1, h2]
   exact Ev.if_pos rfl (Ev.bind (size_ev x hx) (Ev.bind (size_ev y hy) (Ev.if_neg (by omega) (found_j4 G P hG hP a b e he hfew))))
 | succ d ih =>
  intro i o hi ho
  have hi' : i < l.length := by omega
  rw [List.drop_eq_getElem_cons hi'] at ho
  refine Ev.step (fun k => by rw [lampblacklaw07_MinorFound.l1, if_pos (by omega), if_pos (by omega), if_pos (by omega), rd_at l i hi', wrap_succ i (by omega)]) ?_
  exact ih (i + 1) _ (by omega) ho
theorem found_l0 (G P : List Nat) (hG : Gr 8 G) (hP : Gr 6 P) (a b : Int) (e : Int) (he : IsMnr G P → e = 0) (hfew : lampblacklaw07_Few.f (gi P) = some (gi P)) (ok : Bool) (R l : List Int) (hl : l.length < 2 ^ 44) (hR : R.length < 1000)
  (hok : ok = true → ∃ x y : Nat, x < 512 ∧ y < 512 ∧ orI R 0 = (x : Int) ∧ orI l 0 = (y : Int) ∧ pc x 9 ≤ pc y 9) : ∀ d i (o : Int), i + d = R.length → orI (R.drop i) o = orI R 0 → Ev (fun k => lampblacklaw07_MinorFound.l0 k (gi G) (gi P) l a b e ok o 0 R (R.length : Int) (i : Int)) true := by
 intro d
 induction d with
 | zero =>
  intro i o hi ho
  rw [List.drop_eq_nil_of_le (by omega)] at ho
  have ho' : o = orI R 0 := ho
  refine Ev.step (fun k => by rw [lampblacklaw07_MinorFound.l0, if_neg (by omega)]) ?_
  rw [ho']
  exact found_l1 G P hG hP a b e he hfew ok _ l hl hok l.length 0 0 (by omega) rfl
 | succ d ih =>
  intro i o hi ho
  have hi' : i < R.length := by omega
  rw [List.drop_eq_getElem_cons hi'] at ho
  refine Ev.step (fun k => by rw [lampblacklaw07_MinorFound.l0, if_pos (by omega), if_pos (by omega), if_pos (by omega), rd_at R i hi', wrap_succ i (by omega)]) ?_
  exact ih (i + 1) _ (by omega) ho
theorem found_law (g p l : List Int) (a b : Int) (hg : g.length < 2 ^ 44) (hp : p.length < 2 ^ 44) (hl : l.length < 2 ^ 44) : Ev (fun k => lampblacklaw07_MinorFound.f k g p l a b) true := by
 obtain ⟨h, e1, e2, e3, e4⟩ := few_gen g hg
 obtain ⟨q, f1, f2, f3, f4⟩ := few_gen p hp
 have hli := list_eq l hl
 have hll : (l.take 12).length ≤ 12 := by rw [List.length_take]; omega
 unfold lampblacklaw07_MinorFound.f
 refine Ev.bind1 e1 (Ev.bind1 f1 ?_)
 by_cases hv : (chk 8 g && chk 6 p) = true
 ·rw [Bool.and_eq_true] at hv
  obtain ⟨G, rfl, hG⟩ := (chk_iff 8 (by omega) _).1 hv.1
  obtain ⟨P, rfl, hP⟩ := (chk_iff 6 (by omega) _).1 hv.2
  rw [e2 8 (by omega) hv.1] at e1 ⊢
  rw [f2 6 (by omega) hv.2] at f1 ⊢
  have hn := hG.most
  have hpn := hP.most
  have hf := find_mnr hG (by omega) hP (by omega)
  refine Ev.bind1 (Model_eq hG hP) (Ev.bind1 e1 (Ev.bind1 f1 (Ev.bind1 hli (Ev.bind1 (Check_eq hG hP (l.take 12) (by omega)) ?_))))
  have hok : ∀ M, (l.take 12).length = P.length → l.take 12 = gi M → l = gi M := fun M h1 h2 => by
   rw [← h2]
   rw [List.length_take] at h1
   exact (List.take_of_length_le (by omega)).symm
  cases hfd : findN G P with
  | none =>
   have hno : ¬ IsMnr G P := fun h => by
    have := hf.2 h
    rw [hfd] at this; cases this
   have hfin : Ev (fun k => lampblacklaw07_MinorFound.j0 k (gi G) (gi P) l a b [] 4 false false) true :=
    Ev.step (fun k => by rw [lampblacklaw07_MinorFound.j0, if_neg (by simp), if_neg (by decide)]) (found_j4 G P hG hP a b 4 (fun h => absurd h hno) f1)
   by_cases hlen : (l.take 12).length = P.length
   ·rw [if_pos hlen]
    have hc : chkM G P (l.take 12) [] 0 = false := by
     cases hcc : chkM G P (l.take 12) [] 0
     ·rfl
     ·obtain ⟨M, _, hM⟩ := (check_iff _ hlen).1 hcc
      exact absurd hM (find_none (by omega) hP.pos hfd M)
    rw [hc]
    exact Ev.if_pos rfl (Ev.if_neg (by simp) (Ev.if_neg (by simp) hfin))
   ·rw [if_neg hlen]
    exact Ev.if_pos rfl (Ev.if_neg (by simp) (Ev.if_neg (by simp) hfin))
  | some R =>
   obtain ⟨hR, hmin⟩ := find_some (by omega) hP.pos hfd
   have hRl : (gi R).length = P.length := by rw [gi_length]; exact hR.1
   have hin : ∀ M, IsMod G P M → ∀ s ∈ M, s < 2 ^ G.length := fun M hM s hs => by
    have := hM.2.1 s hs
    unfold setsN at this
    exact List.mem_range.1 (List.mem_filter.1 this).1
   have hcR : chkM G P (gi R) [] 0 = true := (check_iff _ hRl).2 ⟨R, rfl, hR⟩
   have main : ∀ ok : Bool, (ok = true → ∃ M, l = gi M ∧ IsMod G P M) → Ev (fun k => lampblacklaw07_MinorFound.j0 k (gi G) (gi P) l a b (gi R) 0 ok false) true := fun ok hok => by
    refine Ev.step (fun k => by rw [lampblacklaw07_MinorFound.j0, if_neg (by simp), if_pos rfl, e1, Option.bind_some, f1, Option.bind_some, Check_eq hG hP (gi R) (by rw [hRl]; omega), if_pos hRl, hcR, Option.bind_some, if_pos rfl]) ?_
    refine Ev.step (fun k => by rw [show (((true, (0 : Int)).2 != 0)) = false from rfl, lampblacklaw07_MinorFound.j1, if_neg (by simp)]) ?_
    refine found_l0 G P hG hP a b 0 (fun _ => rfl) f1 ok (gi R) l hl (by rw [hRl]; omega) (fun ho => ?_) (gi R).length 0 0 (by omega) rfl
    obtain ⟨M, hM, hIM⟩ := hok ho
    have h0 := Nat.two_pow_pos G.length
    refine ⟨orAll R 0, orAll M 0, small G (by omega) (orAll_lt R 0 h0 (hin R hR)), small G (by omega) (orAll_lt M 0 h0 (hin M hIM)), ?_, ?_, ?_⟩
    ·exact orI_gi (n := G.length) (by omega) R 0 h0 (hin R hR)
    ·rw [hM]; exact orI_gi (n := G.length) (by omega) M 0 h0 (hin M hIM)
    ·rw [orAll_pc R [] 0 hR.2.2, orAll_pc M [] 0 hIM.2.2]
     have := hmin M hIM
     omega
   by_cases hlen : (l.take 12).length = P.length
   ·rw [if_pos hlen]
    cases hcc : chkM G P (l.take 12) [] 0
    ·exact Ev.if_pos rfl (Ev.if_neg (by simp) (Ev.if_pos rfl (main false (fun h => by cases h))))
    ·obtain ⟨M, h1, hM⟩ := (check_iff _ hlen).1 hcc
     exact Ev.if_pos rfl (Ev.if_pos rfl (Ev.if_pos rfl (main true (fun _ => ⟨M, hok M hlen h1, hM⟩))))
   ·rw [if_neg hlen]
    exact Ev.if_pos rfl (Ev.if_neg (by simp) (Ev.if_pos rfl (main false (fun h => by cases h))))
 ·have hv' : (chk 8 g && chk 6 p) = false := by simpa using hv
  have hb : (chk 8 h && chk 6 q) = false := by
   rw [Bool.and_eq_false_iff] at hv' ⊢
   exact hv'.imp (e3 8 (by omega)) (f3 6 (by omega))
  refine Ev.bind1 (Model_bad h q (by omega) (by omega) hb) (Ev.bind1 e1 (Ev.bind1 f1 (Ev.bind1 hli (Ev.bind1 (Check_bad h q _ (by omega) (by omega) (by omega) hb) ?_))))
  exact Ev.if_neg (by simp) (Ev.if_pos rfl (Ev.if_pos rfl (Ev.bind awake_ev (Ev.some rfl))))
theorem MinorFound : ∀ (l0 l1 l2 : List Int) (a3 a4 : Int), l0.length ≤ maxLen → l0.length * 8 ≤ 140737488351232 → (∀ x ∈ l0, (Lit.int .i64 x).wf = true) → l1.length ≤ maxLen → l1.length * 8 ≤ 140737488351232 → (∀ x ∈ l1, (Lit.int .i64 x).wf = true) → l2.length ≤ maxLen → l2.length * 8 ≤ 140737488351232 → (∀ x ∈ l2, (Lit.int .i64 x).wf = true) → (Lit.int .i64 a3).wf = true → (Lit.int .i64 a4).wf = true → ∃ k, lampblacklaw07_MinorFound.f k l0 l1 l2 a3 a4 = some true := by
 intro g p l a b _ hg _ _ hp _ _ hl _ _ _
 exact Ev.rounds (found_law g p l a b (by omega) (by omega) (by omega))
end Go.Proofs.YtjloppfdagfpmaaDoor.Pure
end
