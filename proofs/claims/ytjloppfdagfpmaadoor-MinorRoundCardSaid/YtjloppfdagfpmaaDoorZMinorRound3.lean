/- Part 3 of what MinorRound rests on: contracts of the functions that it reaches, and what they compute, in plain words. -/
import Derived.Test.YtjloppfdagfpmaaDoorZMinorRound0
import Derived.Test.YtjloppfdagfpmaaDoorZMinorRound1
import Derived.Test.YtjloppfdagfpmaaDoorZMinorRound2
set_option linter.unusedVariables false
set_option linter.unusedSimpArgs false
section
namespace Go.Proofs.YtjloppfdagfpmaaDoor.X
open Go.RowKit YtjloppfdagfpmaaDoorW.PrintWords YtjloppfdagfpmaaDoorW.PrintLast YtjloppfdagfpmaaDoorW.PrintMore
attribute [local go_sem] max2_int min2_int max_two min_two max_three min_three max_four min_four
/-! ### lampblacklaw07_MinorRound: function 13 -/
def lampblacklaw07_MinorRound.j0 : Nat → List Int → Int → List Int → Int → Bool → Option (Bool)
 | 0, _, _, _, _, _ => none
 | k + 1, x0, x1, x5, x6, x77 => if x77 = true then (some false) else (if x6 = 0 then (if (x5.length : Int) = (x0.length : Int) then (if (IntKind.u64.wrap ((x5.length : Int))) = 0 then (none) else (if 0 ≤ (wrap64 (Int.tmod (IntKind.u64.wrap (x1)) (IntKind.u64.wrap ((x5.length : Int))))) then (if (wrap64 (Int.tmod (IntKind.u64.wrap (x1)) (IntKind.u64.wrap ((x5.length : Int))))) ≤ (x5.length : Int) then ((slices_Clone_int_int.f (x5.drop ((wrap64 (Int.tmod (IntKind.u64.wrap (x1)) (IntKind.u64.wrap ((x5.length : Int))))) : Int).toNat)).bind fun t715 => ((some (x5.take ((wrap64 (Int.tmod (IntKind.u64.wrap (x1)) (IntKind.u64.wrap ((x5.length : Int))))) : Int).toNat : List Int)).bind fun y718 => (if t715.length + y718.length < 17592186044416 then ((some (t715 ++ y718 : List Int)).bind fun y722 => ((lampblacklaw07_Few.f x0).bind fun t725 => ((minor_CheckOuter.f k t725 x5).bind fun bt728 => ((lampblacklaw07_Few.f x0).bind fun t730 => ((minor_CheckOuter.f k t730 y722).bind fun bt733 => ((slices_Reverse_int_int.f k y722).bind fun t735 => ((lampblacklaw07_Few.f x0).bind fun t736 => ((minor_CheckOuter.f k t736 t735).bind fun bt739 => ((lampblacklaw07_Few.f x0).bind fun t741 => ((minor_Reduce.f t741).bind fun bt744 => (if bt728.1 = true then (if bt733.1 = true then (if bt739.1 = true then (if bt728.2 = 0 then (if bt733.2 = 0 then (if bt739.2 = 0 then (if bt744.2 = 0 then ((lampblacklaw07_awake.f k).bind fun t748 => (some t748)) else (some false)) else (some false)) else (some false)) else (some false)) else (some false)) else (some false)) else (some false)))))))))))) else (none)))) else (none)) else (none))) else (some false)) else ((lampblacklaw07_awake.f k).bind fun t710 => (some t710)))
def lampblacklaw07_MinorRound.f (k : Nat) (l0 : List Int) (a1 : Int) : Option (Bool) := (lampblacklaw07_Few.f l0).bind fun t687 => ((minor_Outer.f t687).bind fun bt690 => (if bt690.2 = 2 then ((lampblacklaw07_Few.f l0).bind fun t694 => ((minor_Greatest.f t694).bind fun bt697 => (if bt697.2 = 2 then ((lampblacklaw07_awake.f k).bind fun t699 => (some t699)) else (some false)))) else ((lampblackref07_K.f k 4).bind fun t700 => ((lampblacklaw07_has.f l0 t700).bind fun bt703 => ((lampblackref07_K23.f k).bind fun t705 => ((lampblacklaw07_has.f l0 t705).bind fun bt708 => (if bt703.2 = true then (if bt708.2 = true then (if bt690.2 = 0 then (if bt703.1 = true then (lampblacklaw07_MinorRound.j0 k l0 a1 bt690.1 bt690.2 ((bt690.2 == 0) != false)) else (lampblacklaw07_MinorRound.j0 k l0 a1 bt690.1 bt690.2 ((bt690.2 == 0) != (!bt708.1)))) else (if bt690.2 = 4 then (if bt703.1 = true then (lampblacklaw07_MinorRound.j0 k l0 a1 bt690.1 bt690.2 ((bt690.2 == 0) != false)) else (lampblacklaw07_MinorRound.j0 k l0 a1 bt690.1 bt690.2 ((bt690.2 == 0) != (!bt708.1)))) else (lampblacklaw07_MinorRound.j0 k l0 a1 bt690.1 bt690.2 true))) else (lampblacklaw07_MinorRound.j0 k l0 a1 bt690.1 bt690.2 true)) else (lampblacklaw07_MinorRound.j0 k l0 a1 bt690.1 bt690.2 true))))))))
def lampblacklaw07_MinorRound.T14 : Bool × List (List Nat × List Nat) := (true, [([], []), ([], []), ([0, 1], [0, 1]), ([2], [2]), ([], []), ([], []), ([4, 5], [4, 5]), ([3, 6, 3], [3, 6]), ([7, 7, 0, 1, 2, 3, 4, 5, 6, 7], [7])])
def lampblacklaw07_MinorRound.B14 : List Nat := [0, 0, 3, 7, 0, 0, 48, 127, 255]
theorem lampblacklaw07_MinorRound.tab14 : rtab .any (opsOf Tryd.f13 14) = lampblacklaw07_MinorRound.T14 := by kernel_rfl
theorem lampblacklaw07_MinorRound.bits14 : waitsOk lampblacklaw07_MinorRound.T14.2 lampblacklaw07_MinorRound.B14 = true := by kernel_rfl
set_option maxHeartbeats 8000000 in
set_option maxRecDepth 100000 in
theorem lampblacklaw07_MinorRound.calls (k : Nat) (A0 : Option Addr) (c0 : Nat) (l0 : List Int) (a1 : Int) (r : Bool) (w : World) (hGL : GL w) (hr0 : Kd.C (Kd.int .i64) w A0 l0.length l0) (hc0 : l0.length ≤ c0) (h : lampblacklaw07_MinorRound.f k l0 a1 = some r) :
  Calls Tryd.prog 13 #[.slice A0 l0.length c0, .int .i64 a1] w fun e w' => e = .returned (.bool r) ∧ Below w.heap.size w w' := by
 have HGL := Aside0.mk hGL
 clear hGL
 have HR0 := Aside0.mk hr0
 have HC0 := Aside0.mk hc0
 clear hr0 hc0
 have HB := Aside0.mk (Below.refl w.heap.size w)
 have H : ((lampblacklaw07_Few.f l0).bind fun t687 => ((minor_Outer.f t687).bind fun bt690 => (if bt690.2 = 2 then ((lampblacklaw07_Few.f l0).bind fun t694 => ((minor_Greatest.f t694).bind fun bt697 => (if bt697.2 = 2 then ((lampblacklaw07_awake.f k).bind fun t699 => (some t699)) else (some false)))) else ((lampblackref07_K.f k 4).bind fun t700 => ((lampblacklaw07_has.f l0 t700).bind fun bt703 => ((lampblackref07_K23.f k).bind fun t705 => ((lampblacklaw07_has.f l0 t705).bind fun bt708 => (if bt703.2 = true then (if bt708.2 = true then (if bt690.2 = 0 then (if bt703.1 = true then (lampblacklaw07_MinorRound.j0 k l0 a1 bt690.1 bt690.2 ((bt690.2 == 0) != false)) else (lampblacklaw07_MinorRound.j0 k l0 a1 bt690.1 bt690.2 ((bt690.2 == 0) != (!bt708.1)))) else (if bt690.2 = 4 then (if bt703.1 = true then (lampblacklaw07_MinorRound.j0 k l0 a1 bt690.1 bt690.2 ((bt690.2 == 0) != false)) else (lampblacklaw07_MinorRound.j0 k l0 a1 bt690.1 bt690.2 ((bt690.2 == 0) != (!bt708.1)))) else (lampblacklaw07_MinorRound.j0 k l0 a1 bt690.1 bt690.2 true))) else (lampblacklaw07_MinorRound.j0 k l0 a1 bt690.1 bt690.2 true)) else (lampblacklaw07_MinorRound.j0 k l0 a1 bt690.1 bt690.2 true))))))))) = some r := h
 clear h
 replace H := Option.bind_eq_some_iff.mp H
 obtain ⟨t687, A30, H⟩ := H
 replace H : ((minor_Outer.f t687).bind fun bt690 => (if bt690.2 = 2 then ((lampblacklaw07_Few.f l0).bind fun t694 => ((minor_Greatest.f t694).bind fun bt697 => (if bt697.2 = 2 then ((lampblacklaw07_awake.f k).bind fun t699 => (some t699)) else (some false)))) else ((lampblackref07_K.f k 4).bind fun t700 => ((lampblacklaw07_has.f l0 t700).bind fun bt703 => ((lampblackref07_K23.f k).bind fun t705 => ((lampblacklaw07_has.f l0 t705).bind fun bt708 => (if bt703.2 = true then (if bt708.2 = true then (if bt690.2 = 0 then (if bt703.1 = true then (lampblacklaw07_MinorRound.j0 k l0 a1 bt690.1 bt690.2 ((bt690.2 == 0) != false)) else (lampblacklaw07_MinorRound.j0 k l0 a1 bt690.1 bt690.2 ((bt690.2 == 0) != (!bt708.1)))) else (if bt690.2 = 4 then (if bt703.1 = true then (lampblacklaw07_MinorRound.j0 k l0 a1 bt690.1 bt690.2 ((bt690.2 == 0) != false)) else (lampblacklaw07_MinorRound.j0 k l0 a1 bt690.1 bt690.2 ((bt690.2 == 0) != (!bt708.1)))) else (lampblacklaw07_MinorRound.j0 k l0 a1 bt690.1 bt690.2 true))) else (lampblacklaw07_MinorRound.j0 k l0 a1 bt690.1 bt690.2 true)) else (lampblacklaw07_MinorRound.j0 k l0 a1 bt690.1 bt690.2 true)))))))) = some r := H
 have A3 := Aside0.mk A30
 clear A30
 replace H := Option.bind_eq_some_iff.mp H
 obtain ⟨⟨t690, t691⟩, A40, H⟩ := H
 replace H : (if t691 = 2 then ((lampblacklaw07_Few.f l0).bind fun t694 => ((minor_Greatest.f t694).bind fun bt697 => (if bt697.2 = 2 then ((lampblacklaw07_awake.f k).bind fun t699 => (some t699)) else (some false)))) else ((lampblackref07_K.f k 4).bind fun t700 => ((lampblacklaw07_has.f l0 t700).bind fun bt703 => ((lampblackref07_K23.f k).bind fun t705 => ((lampblacklaw07_has.f l0 t705).bind fun bt708 => (if bt703.2 = true then (if bt708.2 = true then (if t691 = 0 then (if bt703.1 = true then (lampblacklaw07_MinorRound.j0 k l0 a1 t690 t691 ((t691 == 0) != false)) else (lampblacklaw07_MinorRound.j0 k l0 a1 t690 t691 ((t691 == 0) != (!bt708.1)))) else (if t691 = 4 then (if bt703.1 = true then (lampblacklaw07_MinorRound.j0 k l0 a1 t690 t691 ((t691 == 0) != false)) else (lampblacklaw07_MinorRound.j0 k l0 a1 t690 t691 ((t691 == 0) != (!bt708.1)))) else (lampblacklaw07_MinorRound.j0 k l0 a1 t690 t691 true))) else (lampblacklaw07_MinorRound.j0 k l0 a1 t690 t691 true)) else (lampblacklaw07_MinorRound.j0 k l0 a1 t690 t691 true))))))) = some r := H
 have A4 := Aside0.mk A40
 clear A40
 by_cases c5 : t691 = 2
 ·rw [if_pos c5] at H
  have c5b0 : (t691 == 2) = true := beq_iff_eq.mpr c5
  have c5b1 : (t691 != 2) = false := bne_eq_false_iff_eq.mpr c5
  clear c5
  replace H := Option.bind_eq_some_iff.mp H
  obtain ⟨t694, A60, H⟩ := H
  replace H : ((minor_Greatest.f t694).bind fun bt697 => (if bt697.2 = 2 then ((lampblacklaw07_awake.f k).bind fun t699 => (some t699)) else (some false))) = some r := H
  have A6 := Aside0.mk A60
  clear A60
  replace H := Option.bind_eq_some_iff.mp H
  obtain ⟨⟨t697, t698⟩, A70, H⟩ := H
  replace H : (if t698 = 2 then ((lampblacklaw07_awake.f k).bind fun t699 => (some t699)) else (some false)) = some r := H
  have A7 := Aside0.mk A70
  clear A70
  by_cases c8 : t698 = 2
  ·rw [if_pos c8] at H
   have c8b0 : (t698 == 2) = true := beq_iff_eq.mpr c8
   have c8b1 : (t698 != 2) = false := bne_eq_false_iff_eq.mpr c8
   clear c8
   replace H := Option.bind_eq_some_iff.mp H
   obtain ⟨t699, A90, H⟩ := H
   replace H : (some t699) = some r := H
   have A9 := Aside0.mk A90
   clear A90
   obtain rfl := Option.some.inj H
   go_enter Tryd.func13, Tryd.ntmps13
   go_wp2_with (first | ((with_reducible refine gate_callee (f := 22) rfl ?_); refine goesL_ (some 24) rfl rfl Tryd.func22 (by kernel_rfl) rfl #[.slice A0 l0.length c0] rfl (Qls) ?_; (with_reducible refine (lampblacklaw07_Few.calls _ _ l0 t687 _ ?side1 ?side2 A3.out).mono ?_); (case side1 => exact Qsc HR0.out); (case side2 => exact HC0.out); rintro e w10 ⟨v688, rfl, ho0, hb⟩; refine ⟨_, rfl, ?_⟩; have n0_ := Aside0.mk (Kd.R_lower ho0 (below_size (Qaw))); have n1_ := Aside0.mk (below_step (Qaw) hb); clear HB; have HO689 := n0_; have HB := n1_; clear n0_ n1_; (try clear hb); (try clear hb2); (try clear hk); (try clear hi); (try clear ho0); obtain ⟨Ao11, co11, eo11⟩ := Kd.R_slice HO689.out; subst eo11) | ((with_reducible refine gate_callee (f := 47) rfl ?_); refine goesL_ (some 25) rfl rfl Tryd.func47 (by kernel_rfl) rfl #[.slice Ao11 t687.length co11] rfl (Qls) ?_; (with_reducible refine (minor_Outer.calls (hGL := (Qlg)) _ _ t687 t690 t691 _ ?side1 ?side2 A4.out).mono ?_); (case side1 => exact Qsc (Kd.R_reads' HO689.out).2.2); (case side2 => exact (Kd.R_reads' HO689.out).2.1); rintro e w12 ⟨v692, rfl, ho0, hb⟩; refine ⟨_, rfl, ?_⟩; have n0_ := Aside0.mk (Kd.R_elder' (Qro HO689.out) (Kd.R_base ho0) hb); have n1_ := Aside0.mk (Kd.R_lower (Kd.R_new' ho0 (Kd.R_lt (Qro HO689.out))) (below_size (Qaw))); have n2_ := Aside0.mk (below_step (Qaw) hb); clear HO689; clear HB; have HO689 := n0_; have HO693 := n1_; have HB := n2_; clear n0_ n1_ n2_; (try clear hb); (try clear hb2); (try clear hk); (try clear hi); (try clear ho0)) | ((with_reducible refine gate_callee (f := 22) rfl ?_); refine goesL_ (some 32) rfl rfl Tryd.func22 (by kernel_rfl) rfl #[.slice A0 l0.length c0] rfl (Qls) ?_; (with_reducible refine (lampblacklaw07_Few.calls _ _ l0 t694 _ ?side1 ?side2 A6.out).mono ?_); (case side1 => exact Qsc (Kd.C_below HR0.out HB.out)); (case side2 => exact HC0.out); rintro e w13 ⟨v695, rfl, ho0, hb⟩; refine ⟨_, rfl, ?_⟩; have n0_ := Aside0.mk (Kd.R_elder' (Qro HO689.out) (Kd.R_base ho0) hb); have n1_ := Aside0.mk (Kd.R_elder' (Qro HO693.out) (Kd.R_base ho0) hb); have n2_ := Aside0.mk (Kd.R_lower (Kd.R_new' (Kd.R_new' ho0 (Kd.R_lt (Qro HO689.out))) (Kd.R_lt (Qro HO693.out))) (below_size (Qaw))); have n3_ := Aside0.mk (below_step (Qaw) hb); clear HO689; clear HO693; clear HB; have HO689 := n0_; have HO693 := n1_; have HO696 := n2_; have HB := n3_; clear n0_ n1_ n2_ n3_; (try clear hb); (try clear hb2); (try clear hk); (try clear hi); (try clear ho0); obtain ⟨Ao14, co14, eo14⟩ := Kd.R_slice HO696.out; subst eo14) | ((with_reducible refine gate_callee (f := 53) rfl ?_); refine goesL_ (some 33) rfl rfl Tryd.func53 (by kernel_rfl) rfl #[.slice Ao14 t694.length co14] rfl (Qls) ?_; (with_reducible refine (minor_Greatest.calls (hGL := (Qlg)) _ _ t694 t697 t698 _ ?side1 ?side2 A7.out).mono ?_); (case side1 => exact Qsc (Kd.R_reads' HO696.out).2.2); (case side2 => exact (Kd.R_reads' HO696.out).2.1); rintro e w15 ⟨rfl, hb⟩; refine ⟨_, rfl, ?_⟩; have n0_ := Aside0.mk (Kd.R_below (Qro HO689.out) hb); have n1_ := Aside0.mk (Kd.R_below (Qro HO693.out) hb); have n2_ := Aside0.mk (Kd.R_below (Qro HO696.out) hb); have n3_ := Aside0.mk (below_step (Qaw) hb); clear HO689; clear HO693; clear HO696; clear HB; have HO689 := n0_; have HO693 := n1_; have HO696 := n2_; have HB := n3_; clear n0_ n1_ n2_ n3_; (try clear hb); (try clear hb2); (try clear hk); (try clear hi)) | (go_at_call 17; (with_reducible refine (lampblacklaw07_awake.calls (hGL := (Qlg)) k  t699 _ A9.out).mono ?_); rintro e w16 ⟨rfl, hb⟩; have n0_ := Aside0.mk (Kd.R_below (Qro HO689.out) hb); have n1_ := Aside0.mk (Kd.R_below (Qro HO693.out) hb); have n2_ := Aside0.mk (Kd.R_below (Qro HO696.out) hb); have n3_ := Aside0.mk (below_step (Qaw) hb); clear HO689; clear HO693; clear HO696; clear HB; have HO689 := n0_; have HO693 := n1_; have HO696 := n2_; have HB := n3_; clear n0_ n1_ n2_ n3_; (try clear hb); (try clear hb2); (try clear hk); (try clear hi)))
   go_ret
   exact ⟨by first | rfl | (simp [errW_none, errW_some] <;> rfl) | (simp [*, errW_none, errW_some] <;> rfl), by repeat (first | (with_reducible first | exact HB.out | apply below_alloc | apply pw_below_drewN | apply below_drew1) | exact HB.out)⟩
  ·rw [if_neg c8] at H
   have c8b0 : (t698 == 2) = false := beq_eq_false_iff_ne.mpr c8
   have c8b1 : (t698 != 2) = true := bne_iff_ne.mpr c8
   obtain rfl := Option.some.inj H
   go_enter Tryd.func13, Tryd.ntmps13
   go_wp2_with (first | ((with_reducible refine gate_callee (f := 22) rfl ?_); refine goesL_ (some 24) rfl rfl Tryd.func22 (by kernel_rfl) rfl #[.slice A0 l0.length c0] rfl (Qls) ?_; (with_reducible refine (lampblacklaw07_Few.calls _ _ l0 t687 _ ?side1 ?side2 A3.out).mono ?_); (case side1 => exact Qsc HR0.out); (case side2 => exact HC0.out); rintro e w17 ⟨v688, rfl, ho0, hb⟩; refine ⟨_, rfl, ?_⟩; have n0_ := Aside0.mk (Kd.R_lower ho0 (below_size (Qaw))); have n1_ := Aside0.mk (below_step (Qaw) hb); clear HB; have HO689 := n0_; have HB := n1_; clear n0_ n1_; (try clear hb); (try clear hb2); (try clear hk); (try clear hi); (try clear ho0); obtain ⟨Ao18, co18, eo18⟩ := Kd.R_slice HO689.out; subst eo18) | ((with_reducible refine gate_callee (f := 47) rfl ?_); refine goesL_ (some 25) rfl rfl Tryd.func47 (by kernel_rfl) rfl #[.slice Ao18 t687.length co18] rfl (Qls) ?_; (with_reducible refine (minor_Outer.calls (hGL := (Qlg)) _ _ t687 t690 t691 _ ?side1 ?side2 A4.out).mono ?_); (case side1 => exact Qsc (Kd.R_reads' HO689.out).2.2); (case side2 => exact (Kd.R_reads' HO689.out).2.1); rintro e w19 ⟨v692, rfl, ho0, hb⟩; refine ⟨_, rfl, ?_⟩; have n0_ := Aside0.mk (Kd.R_elder' (Qro HO689.out) (Kd.R_base ho0) hb); have n1_ := Aside0.mk (Kd.R_lower (Kd.R_new' ho0 (Kd.R_lt (Qro HO689.out))) (below_size (Qaw))); have n2_ := Aside0.mk (below_step (Qaw) hb); clear HO689; clear HB; have HO689 := n0_; have HO693 := n1_; have HB := n2_; clear n0_ n1_ n2_; (try clear hb); (try clear hb2); (try clear hk); (try clear hi); (try clear ho0)) | ((with_reducible refine gate_callee (f := 22) rfl ?_); refine goesL_ (some 32) rfl rfl Tryd.func22 (by kernel_rfl) rfl #[.slice A0 l0.length c0] rfl (Qls) ?_; (with_reducible refine (lampblacklaw07_Few.calls _ _ l0 t694 _ ?side1 ?side2 A6.out).mono ?_); (case side1 => exact Qsc (Kd.C_below HR0.out HB.out)); (case side2 => exact HC0.out); rintro e w20 ⟨v695, rfl, ho0, hb⟩; refine ⟨_, rfl, ?_⟩; have n0_ := Aside0.mk (Kd.R_elder' (Qro HO689.out) (Kd.R_base ho0) hb); have n1_ := Aside0.mk (Kd.R_elder' (Qro HO693.out) (Kd.R_base ho0) hb); have n2_ := Aside0.mk (Kd.R_lower (Kd.R_new' (Kd.R_new' ho0 (Kd.R_lt (Qro HO689.out))) (Kd.R_lt (Qro HO693.out))) (below_size (Qaw))); have n3_ := Aside0.mk (below_step (Qaw) hb); clear HO689; clear HO693; clear HB; have HO689 := n0_; have HO693 := n1_; have HO696 := n2_; have HB := n3_; clear n0_ n1_ n2_ n3_; (try clear hb); (try clear hb2); (try clear hk); (try clear hi); (try clear ho0); obtain ⟨Ao21, co21, eo21⟩ := Kd.R_slice HO696.out; subst eo21) | ((with_reducible refine gate_callee (f := 53) rfl ?_); refine goesL_ (some 33) rfl rfl Tryd.func53 (by kernel_rfl) rfl #[.slice Ao21 t694.length co21] rfl (Qls) ?_; (with_reducible refine (minor_Greatest.calls (hGL := (Qlg)) _ _ t694 t697 t698 _ ?side1 ?side2 A7.out).mono ?_); (case side1 => exact Qsc (Kd.R_reads' HO696.out).2.2); (case side2 => exact (Kd.R_reads' HO696.out).2.1); rintro e w22 ⟨rfl, hb⟩; refine ⟨_, rfl, ?_⟩; have n0_ := Aside0.mk (Kd.R_below (Qro HO689.out) hb); have n1_ := Aside0.mk (Kd.R_below (Qro HO693.out) hb); have n2_ := Aside0.mk (Kd.R_below (Qro HO696.out) hb); have n3_ := Aside0.mk (below_step (Qaw) hb); clear HO689; clear HO693; clear HO696; clear HB; have HO689 := n0_; have HO693 := n1_; have HO696 := n2_; have HB := n3_; clear n0_ n1_ n2_ n3_; (try clear hb); (try clear hb2); (try clear hk); (try clear hi)))
   go_ret
   exact ⟨by first | rfl | (simp [errW_none, errW_some] <;> rfl) | (simp [*, errW_none, errW_some] <;> rfl), by repeat (first | (with_reducible first | exact HB.out | apply below_alloc | apply pw_below_drewN | apply below_drew1) | exact HB.out)⟩
 ·rw [if_neg c5] at H
  have c5b0 : (t691 == 2) = false := beq_eq_false_iff_ne.mpr c5
  have c5b1 : (t691 != 2) = true := bne_iff_ne.mpr c5
  replace H := Option.bind_eq_some_iff.mp H
  obtain ⟨t700, A230, H⟩ := H
  replace H : ((lampblacklaw07_has.f l0 t700).bind fun bt703 => ((lampblackref07_K23.f k).bind fun t705 => ((lampblacklaw07_has.f l0 t705).bind fun bt708 => (if bt703.2 = true then (if bt708.2 = true then (if t691 = 0 then (if bt703.1 = true then (lampblacklaw07_MinorRound.j0 k l0 a1 t690 t691 ((t691 == 0) != false)) else (lampblacklaw07_MinorRound.j0 k l0 a1 t690 t691 ((t691 == 0) != (!bt708.1)))) else (if t691 = 4 then (if bt703.1 = true then (lampblacklaw07_MinorRound.j0 k l0 a1 t690 t691 ((t691 == 0) != false)) else (lampblacklaw07_MinorRound.j0 k l0 a1 t690 t691 ((t691 == 0) != (!bt708.1)))) else (lampblacklaw07_MinorRound.j0 k l0 a1 t690 t691 true))) else (lampblacklaw07_MinorRound.j0 k l0 a1 t690 t691 true)) else (lampblacklaw07_MinorRound.j0 k l0 a1 t690 t691 true))))) = some r := H
  have A23 := Aside0.mk A230
  clear A230
  replace H := Option.bind_eq_some_iff.mp H
  obtain ⟨⟨t703, t704⟩, A240, H⟩ := H
  replace H : ((lampblackref07_K23.f k).bind fun t705 => ((lampblacklaw07_has.f l0 t705).bind fun bt708 => (if t704 = true then (if bt708.2 = true then (if t691 = 0 then (if t703 = true then (lampblacklaw07_MinorRound.j0 k l0 a1 t690 t691 ((t691 == 0) != false)) else (lampblacklaw07_MinorRound.j0 k l0 a1 t690 t691 ((t691 == 0) != (!bt708.1)))) else (if t691 = 4 then (if t703 = true then (lampblacklaw07_MinorRound.j0 k l0 a1 t690 t691 ((t691 == 0) != false)) else (lampblacklaw07_MinorRound.j0 k l0 a1 t690 t691 ((t691 == 0) != (!bt708.1)))) else (lampblacklaw07_MinorRound.j0 k l0 a1 t690 t691 true))) else (lampblacklaw07_MinorRound.j0 k l0 a1 t690 t691 true)) else (lampblacklaw07_MinorRound.j0 k l0 a1 t690 t691 true)))) = some r := H
  have A24 := Aside0.mk A240
  clear A240
  replace H := Option.bind_eq_some_iff.mp H
  obtain ⟨t705, A250, H⟩ := H
  replace H : ((lampblacklaw07_has.f l0 t705).bind fun bt708 => (if t704 = true then (if bt708.2 = true then (if t691 = 0 then (if t703 = true then (lampblacklaw07_MinorRound.j0 k l0 a1 t690 t691 ((t691 == 0) != false)) else (lampblacklaw07_MinorRound.j0 k l0 a1 t690 t691 ((t691 == 0) != (!bt708.1)))) else (if t691 = 4 then (if t703 = true then (lampblacklaw07_MinorRound.j0 k l0 a1 t690 t691 ((t691 == 0) != false)) else (lampblacklaw07_MinorRound.j0 k l0 a1 t690 t691 ((t691 == 0) != (!bt708.1)))) else (lampblacklaw07_MinorRound.j0 k l0 a1 t690 t691 true))) else (lampblacklaw07_MinorRound.j0 k l0 a1 t690 t691 true)) else (lampblacklaw07_MinorRound.j0 k l0 a1 t690 t691 true))) = some r := H
  have A25 := Aside0.mk A250
  clear A250
  replace H := Option.bind_eq_some_iff.mp H
  obtain ⟨⟨t708, t709⟩, A260, H⟩ := H
  replace H : (if t704 = true then (if t709 = true then (if t691 = 0 then (if t703 = true then (lampblacklaw07_MinorRound.j0 k l0 a1 t690 t691 ((t691 == 0) != false)) else (lampblacklaw07_MinorRound.j0 k l0 a1 t690 t691 ((t691 == 0) != (!t708)))) else (if t691 = 4 then (if t703 = true then (lampblacklaw07_MinorRound.j0 k l0 a1 t690 t691 ((t691 == 0) != false)) else (lampblacklaw07_MinorRound.j0 k l0 a1 t690 t691 ((t691 == 0) != (!t708)))) else (lampblacklaw07_MinorRound.j0 k l0 a1 t690 t691 true))) else (lampblacklaw07_MinorRound.j0 k l0 a1 t690 t691 true)) else (lampblacklaw07_MinorRound.j0 k l0 a1 t690 t691 true)) = some r := H
  have A26 := Aside0.mk A260
  clear A260
  have HC27 := Aside0.mk H
  clear H
  go_enter Tryd.func13, Tryd.ntmps13
  go_upto_region 7 with (first | ((with_reducible refine gate_callee (f := 22) rfl ?_); refine goesL_ (some 24) rfl rfl Tryd.func22 (by kernel_rfl) rfl #[.slice A0 l0.length c0] rfl (Qls) ?_; (with_reducible refine (lampblacklaw07_Few.calls _ _ l0 t687 _ ?side1 ?side2 A3.out).mono ?_); (case side1 => exact Qsc HR0.out); (case side2 => exact HC0.out); rintro e w28 ⟨v688, rfl, ho0, hb⟩; refine ⟨_, rfl, ?_⟩; have n0_ := Aside0.mk (Kd.R_lower ho0 (below_size (Qaw))); have n1_ := Aside0.mk (below_step (Qaw) hb); clear HB; have HO689 := n0_; have HB := n1_; clear n0_ n1_; (try clear hb); (try clear hb2); (try clear hk); (try clear hi); (try clear ho0); obtain ⟨Ao29, co29, eo29⟩ := Kd.R_slice HO689.out; subst eo29) | ((with_reducible refine gate_callee (f := 47) rfl ?_); refine goesL_ (some 25) rfl rfl Tryd.func47 (by kernel_rfl) rfl #[.slice Ao29 t687.length co29] rfl (Qls) ?_; (with_reducible refine (minor_Outer.calls (hGL := (Qlg)) _ _ t687 t690 t691 _ ?side1 ?side2 A4.out).mono ?_); (case side1 => exact Qsc (Kd.R_reads' HO689.out).2.2); (case side2 => exact (Kd.R_reads' HO689.out).2.1); rintro e w30 ⟨v692, rfl, ho0, hb⟩; refine ⟨_, rfl, ?_⟩; have n0_ := Aside0.mk (Kd.R_elder' (Qro HO689.out) (Kd.R_base ho0) hb); have n1_ := Aside0.mk (Kd.R_lower (Kd.R_new' ho0 (Kd.R_lt (Qro HO689.out))) (below_size (Qaw))); have n2_ := Aside0.mk (below_step (Qaw) hb); clear HO689; clear HB; have HO689 := n0_; have HO693 := n1_; have HB := n2_; clear n0_ n1_ n2_; (try clear hb); (try clear hb2); (try clear hk); (try clear hi); (try clear ho0)) | ((with_reducible refine gate_callee (f := 33) rfl ?_); refine goesL_ (some 43) rfl rfl Tryd.func33 (by kernel_rfl) rfl #[.int .i64 4] rfl (Qls) ?_; (with_reducible refine (lampblackref07_K.calls k 4 t700 _ A23.out).mono ?_); rintro e w31 ⟨v701, rfl, ho0, hb⟩; refine ⟨_, rfl, ?_⟩; have n0_ := Aside0.mk (Kd.R_elder' (Qro HO689.out) (Kd.R_base ho0) hb); have n1_ := Aside0.mk (Kd.R_elder' (Qro HO693.out) (Kd.R_base ho0) hb); have n2_ := Aside0.mk (Kd.R_lower (Kd.R_new' (Kd.R_new' ho0 (Kd.R_lt (Qro HO689.out))) (Kd.R_lt (Qro HO693.out))) (below_size (Qaw))); have n3_ := Aside0.mk (below_step (Qaw) hb); clear HO689; clear HO693; clear HB; have HO689 := n0_; have HO693 := n1_; have HO702 := n2_; have HB := n3_; clear n0_ n1_ n2_ n3_; (try clear hb); (try clear hb2); (try clear hk); (try clear hi); (try clear ho0); obtain ⟨Ao32, co32, eo32⟩ := Kd.R_slice HO702.out; subst eo32) | ((with_reducible refine gate_callee (f := 20) rfl ?_); refine goesL_ (some 44) rfl rfl Tryd.func20 (by kernel_rfl) rfl #[.slice A0 l0.length c0, .slice Ao32 t700.length co32] rfl (Qls) ?_; (with_reducible refine (lampblacklaw07_has.calls (hGL := (Qlg)) _ _ l0 _ _ t700 t703 t704 _ ?side1 ?side2 ?side3 ?side4 A24.out).mono ?_); (case side1 => exact Qsc (Kd.C_below HR0.out HB.out)); (case side2 => exact HC0.out); (case side3 => exact Qsc (Kd.R_reads' HO702.out).2.2); (case side4 => exact (Kd.R_reads' HO702.out).2.1); rintro e w33 ⟨rfl, hb⟩; refine ⟨_, rfl, ?_⟩; have n0_ := Aside0.mk (Kd.R_below (Qro HO689.out) hb); have n1_ := Aside0.mk (Kd.R_below (Qro HO693.out) hb); have n2_ := Aside0.mk (Kd.R_below (Qro HO702.out) hb); have n3_ := Aside0.mk (below_step (Qaw) hb); clear HO689; clear HO693; clear HO702; clear HB; have HO689 := n0_; have HO693 := n1_; have HO702 := n2_; have HB := n3_; clear n0_ n1_ n2_ n3_; (try clear hb); (try clear hb2); (try clear hk); (try clear hi)) | ((with_reducible refine gate_callee (f := 32) rfl ?_); refine goesL_ (some 49) rfl rfl Tryd.func32 (by kernel_rfl) rfl #[] rfl (Qls) ?_; (with_reducible refine (lampblackref07_K23.calls k  t705 _ A25.out).mono ?_); rintro e w34 ⟨v706, rfl, ho0, hb⟩; refine ⟨_, rfl, ?_⟩; have n0_ := Aside0.mk (Kd.R_elder' (Qro HO689.out) (Kd.R_base ho0) hb); have n1_ := Aside0.mk (Kd.R_elder' (Qro HO693.out) (Kd.R_base ho0) hb); have n2_ := Aside0.mk (Kd.R_elder' (Qro HO702.out) (Kd.R_base ho0) hb); have n3_ := Aside0.mk (Kd.R_lower (Kd.R_new' (Kd.R_new' (Kd.R_new' ho0 (Kd.R_lt (Qro HO689.out))) (Kd.R_lt (Qro HO693.out))) (Kd.R_lt (Qro HO702.out))) (below_size (Qaw))); have n4_ := Aside0.mk (below_step (Qaw) hb); clear HO689; clear HO693; clear HO702; clear HB; have HO689 := n0_; have HO693 := n1_; have HO702 := n2_; have HO707 := n3_; have HB := n4_; clear n0_ n1_ n2_ n3_ n4_; (try clear hb); (try clear hb2); (try clear hk); (try clear hi); (try clear ho0); obtain ⟨Ao35, co35, eo35⟩ := Kd.R_slice HO707.out; subst eo35) | ((with_reducible refine gate_callee (f := 20) rfl ?_); refine goesL_ (some 50) rfl rfl Tryd.func20 (by kernel_rfl) rfl #[.slice A0 l0.length c0, .slice Ao35 t705.length co35] rfl (Qls) ?_; (with_reducible refine (lampblacklaw07_has.calls (hGL := (Qlg)) _ _ l0 _ _ t705 t708 t709 _ ?side1 ?side2 ?side3 ?side4 A26.out).mono ?_); (case side1 => exact Qsc (Kd.C_below HR0.out HB.out)); (case side2 => exact HC0.out); (case side3 => exact Qsc (Kd.R_reads' HO707.out).2.2); (case side4 => exact (Kd.R_reads' HO707.out).2.1); rintro e w36 ⟨rfl, hb⟩; refine ⟨_, rfl, ?_⟩; have n0_ := Aside0.mk (Kd.R_below (Qro HO689.out) hb); have n1_ := Aside0.mk (Kd.R_below (Qro HO693.out) hb); have n2_ := Aside0.mk (Kd.R_below (Qro HO702.out) hb); have n3_ := Aside0.mk (Kd.R_below (Qro HO707.out) hb); have n4_ := Aside0.mk (below_step (Qaw) hb); clear HO689; clear HO693; clear HO702; clear HO707; clear HB; have HO689 := n0_; have HO693 := n1_; have HO702 := n2_; have HO707 := n3_; have HB := n4_; clear n0_ n1_ n2_ n3_ n4_; (try clear hb); (try clear hb2); (try clear hk); (try clear hi)))
  (try simp only [Act.put, List.setIfInBounds_toArray, List.set_cons_zero, List.set_cons_succ])
  go_cut [77] (fun v77 wc => ∃ (kq : Nat) (x77_26 : Bool), v77 = .bool x77_26 ∧ Aside0 (lampblacklaw07_MinorRound.j0 kq l0 a1 t690 t691 x77_26 = some r) ∧ Aside0 (kq ≤ k) ∧ Aside0 (Kd.R (Kd.int .i64) 3 wc w.heap.size (fun _ => True) v692 t690) ∧ Aside0 (Below w.heap.size w wc))
  case first =>
   have H := HC27.out
   clear HC27
   by_cases c37 : t704 = true
   ·subst c37
    have H1 : (if t709 = true then (if t691 = 0 then (if t703 = true then (lampblacklaw07_MinorRound.j0 k l0 a1 t690 t691 ((t691 == 0) != false)) else (lampblacklaw07_MinorRound.j0 k l0 a1 t690 t691 ((t691 == 0) != (!t708)))) else (if t691 = 4 then (if t703 = true then (lampblacklaw07_MinorRound.j0 k l0 a1 t690 t691 ((t691 == 0) != false)) else (lampblacklaw07_MinorRound.j0 k l0 a1 t690 t691 ((t691 == 0) != (!t708)))) else (lampblacklaw07_MinorRound.j0 k l0 a1 t690 t691 true))) else (lampblacklaw07_MinorRound.j0 k l0 a1 t690 t691 true)) = some r := by rw [if_pos rfl] at H; exact H
    clear H
    have H := H1
    clear H1
    by_cases c38 : t709 = true
    ·subst c38
     have H1 : (if t691 = 0 then (if t703 = true then (lampblacklaw07_MinorRound.j0 k l0 a1 t690 t691 ((t691 == 0) != false)) else (lampblacklaw07_MinorRound.j0 k l0 a1 t690 t691 ((t691 == 0) != (!t708)))) else (if t691 = 4 then (if t703 = true then (lampblacklaw07_MinorRound.j0 k l0 a1 t690 t691 ((t691 == 0) != false)) else (lampblacklaw07_MinorRound.j0 k l0 a1 t690 t691 ((t691 == 0) != (!t708)))) else (lampblacklaw07_MinorRound.j0 k l0 a1 t690 t691 true))) = some r := by rw [if_pos rfl] at H; exact H
     clear H
     have H := H1
     clear H1
     by_cases c39 : t691 = 0
     ·rw [if_pos c39] at H
      have c39b0 : (t691 == 0) = true := beq_iff_eq.mpr c39
      have c39b1 : (t691 != 0) = false := bne_eq_false_iff_eq.mpr c39
      clear c39
      (first | rw [c39b0] | (simp only [i64_w, i32_w]; rw [c39b0]) | skip)
      by_cases c40 : t703 = true
      ·subst c40
       have H1 : (lampblacklaw07_MinorRound.j0 k l0 a1 t690 t691 ((t691 == 0) != false)) = some r := by rw [if_pos rfl] at H; exact H
       clear H
       have H := H1
       clear H1
       have H' := Aside0.mk H
       clear H
       go_wp2
       go_meet
       case rel => exact ⟨_, (((t691 == 0) != false)), (by first | rfl | (simp; done) | (simp [*]; done)), H', ⟨by first | omega | exact Nat.le_refl _⟩, ⟨by (with_reducible repeat (first | apply Kd.R_alloc | apply Kd.R_drewN | apply Kd.R_drew)); exact Kd.R_mono HO693.out (fun _ hk => trivial)⟩, ⟨by repeat (first | (with_reducible first | exact HB.out | apply below_alloc | apply pw_below_drewN | apply below_drew1) | exact HB.out)⟩⟩
      ·replace c40 := Bool.eq_false_iff.mpr c40
       subst c40
       have H1 : (lampblacklaw07_MinorRound.j0 k l0 a1 t690 t691 ((t691 == 0) != (!t708))) = some r := by rw [if_neg (show ¬ (false = true) by decide)] at H; exact H
       clear H
       have H := H1
       clear H1
       have H' := Aside0.mk H
       clear H
       go_wp2
       go_meet
       case rel => exact ⟨_, (((t691 == 0) != (!t708))), (by first | rfl | (simp; done) | (simp [*]; done)), H', ⟨by first | omega | exact Nat.le_refl _⟩, ⟨by (with_reducible repeat (first | apply Kd.R_alloc | apply Kd.R_drewN | apply Kd.R_drew)); exact Kd.R_mono HO693.out (fun _ hk => trivial)⟩, ⟨by repeat (first | (with_reducible first | exact HB.out | apply below_alloc | apply pw_below_drewN | apply below_drew1) | exact HB.out)⟩⟩
     ·rw [if_neg c39] at H
      have c39b0 : (t691 == 0) = false := beq_eq_false_iff_ne.mpr c39
      have c39b1 : (t691 != 0) = true := bne_iff_ne.mpr c39
      (first | rw [c39b0] | (simp only [i64_w, i32_w]; rw [c39b0]) | skip)
      by_cases c41 : t691 = 4
      ·rw [if_pos c41] at H
       have c41b0 : (t691 == 4) = true := beq_iff_eq.mpr c41
       have c41b1 : (t691 != 4) = false := bne_eq_false_iff_eq.mpr c41
       clear c41
       by_cases c42 : t703 = true
       ·subst c42
        have H1 : (lampblacklaw07_MinorRound.j0 k l0 a1 t690 t691 ((t691 == 0) != false)) = some r := by rw [if_pos rfl] at H; exact H
        clear H
        have H := H1
        clear H1
        have H' := Aside0.mk H
        clear H
        go_wp2
        go_meet
        case rel => exact ⟨_, (((t691 == 0) != false)), (by first | rfl | (simp; done) | (simp [*]; done)), H', ⟨by first | omega | exact Nat.le_refl _⟩, ⟨by (with_reducible repeat (first | apply Kd.R_alloc | apply Kd.R_drewN | apply Kd.R_drew)); exact Kd.R_mono HO693.out (fun _ hk => trivial)⟩, ⟨by repeat (first | (with_reducible first | exact HB.out | apply below_alloc | apply pw_below_drewN | apply below_drew1) | exact HB.out)⟩⟩
       ·replace c42 := Bool.eq_false_iff.mpr c42
        subst c42
        have H1 : (lampblacklaw07_MinorRound.j0 k l0 a1 t690 t691 ((t691 == 0) != (!t708))) = some r := by rw [if_neg (show ¬ (false = true) by decide)] at H; exact H
        clear H
        have H := H1
        clear H1
        have H' := Aside0.mk H
        clear H
        go_wp2
        go_meet
        case rel => exact ⟨_, (((t691 == 0) != (!t708))), (by first | rfl | (simp; done) | (simp [*]; done)), H', ⟨by first | omega | exact Nat.le_refl _⟩, ⟨by (with_reducible repeat (first | apply Kd.R_alloc | apply Kd.R_drewN | apply Kd.R_drew)); exact Kd.R_mono HO693.out (fun _ hk => trivial)⟩, ⟨by repeat (first | (with_reducible first | exact HB.out | apply below_alloc | apply pw_below_drewN | apply below_drew1) | exact HB.out)⟩⟩
      ·rw [if_neg c41] at H
       have c41b0 : (t691 == 4) = false := beq_eq_false_iff_ne.mpr c41
       have c41b1 : (t691 != 4) = true := bne_iff_ne.mpr c41
       have H' := Aside0.mk H
       clear H
       go_wp2
       go_meet
       case rel => exact ⟨_, (true), (by first | rfl | (simp; done) | (simp [*]; done)), H', ⟨by first | omega | exact Nat.le_refl _⟩, ⟨by (with_reducible repeat (first | apply Kd.R_alloc | apply Kd.R_drewN | apply Kd.R_drew)); exact Kd.R_mono HO693.out (fun _ hk => trivial)⟩, ⟨by repeat (first | (with_reducible first | exact HB.out | apply below_alloc | apply pw_below_drewN | apply below_drew1) | exact HB.out)⟩⟩
    ·replace c38 := Bool.eq_false_iff.mpr c38
     subst c38
     have H1 : (lampblacklaw07_MinorRound.j0 k l0 a1 t690 t691 true) = some r := by rw [if_neg (show ¬ (false = true) by decide)] at H; exact H
     clear H
     have H := H1
     clear H1
     have H' := Aside0.mk H
     clear H
     go_wp2
     go_meet
     case rel => exact ⟨_, (true), (by first | rfl | (simp; done) | (simp [*]; done)), H', ⟨by first | omega | exact Nat.le_refl _⟩, ⟨by (with_reducible repeat (first | apply Kd.R_alloc | apply Kd.R_drewN | apply Kd.R_drew)); exact Kd.R_mono HO693.out (fun _ hk => trivial)⟩, ⟨by repeat (first | (with_reducible first | exact HB.out | apply below_alloc | apply pw_below_drewN | apply below_drew1) | exact HB.out)⟩⟩
   ·replace c37 := Bool.eq_false_iff.mpr c37
    subst c37
    have H1 : (lampblacklaw07_MinorRound.j0 k l0 a1 t690 t691 true) = some r := by rw [if_neg (show ¬ (false = true) by decide)] at H; exact H
    clear H
    have H := H1
    clear H1
    have H' := Aside0.mk H
    clear H
    go_wp2
    go_meet
    case rel => exact ⟨_, (true), (by first | rfl | (simp; done) | (simp [*]; done)), H', ⟨by first | omega | exact Nat.le_refl _⟩, ⟨by (with_reducible repeat (first | apply Kd.R_alloc | apply Kd.R_drewN | apply Kd.R_drew)); exact Kd.R_mono HO693.out (fun _ hk => trivial)⟩, ⟨by repeat (first | (with_reducible first | exact HB.out | apply below_alloc | apply pw_below_drewN | apply below_drew1) | exact HB.out)⟩⟩
  case rest =>
   clear HC27
   try clear c1
   try clear c2
   try clear p2
   try clear c3
   try clear c4
   try clear c5
   try clear c5b0
   try clear c5b1
   try clear c8
   try clear c8b0
   try clear c8b1
   try clear c13
   try clear c20
   try clear c22
   try clear c32
   try clear c33
   try clear c37
   try clear c38
   try clear c39
   try clear c39b0
   try clear c39b1
   try clear c40
   try clear c41
   try clear c41b0
   try clear c41b1
   try clear c42
   obtain ⟨kq, x77_26, rfl, HA, HJ26, HO_5, HB⟩ := hcut
   cases kq with
   | zero => exact absurd HA.out (by simp [lampblacklaw07_MinorRound.j0])
   | succ kj26 =>
    have H := HA.out
    clear HA
    simp only [lampblacklaw07_MinorRound.j0] at H
    by_cases c43 : x77_26 = true
    ·subst c43
     have H1 : (some false) = some r := by rw [if_pos rfl] at H; exact H
     clear H
     have H := H1
     clear H1
     obtain rfl := Option.some.inj H
     go_wp2
     go_ret
     exact ⟨by first | rfl | (simp [errW_none, errW_some] <;> rfl) | (simp [*, errW_none, errW_some] <;> rfl), by repeat (first | (with_reducible first | exact HB.out | apply below_alloc | apply pw_below_drewN | apply below_drew1) | exact HB.out)⟩
    ·replace c43 := Bool.eq_false_iff.mpr c43
     subst c43
     have H1 : (if t691 = 0 then (if (t690.length : Int) = (l0.length : Int) then (if (IntKind.u64.wrap ((t690.length : Int))) = 0 then (none) else (if 0 ≤ (wrap64 (Int.tmod (IntKind.u64.wrap (a1)) (IntKind.u64.wrap ((t690.length : Int))))) then (if (wrap64 (Int.tmod (IntKind.u64.wrap (a1)) (IntKind.u64.wrap ((t690.length : Int))))) ≤ (t690.length : Int) then ((slices_Clone_int_int.f (t690.drop ((wrap64 (Int.tmod (IntKind.u64.wrap (a1)) (IntKind.u64.wrap ((t690.length : Int))))) : Int).toNat)).bind fun t715 => ((some (t690.take ((wrap64 (Int.tmod (IntKind.u64.wrap (a1)) (IntKind.u64.wrap ((t690.length : Int))))) : Int).toNat : List Int)).bind fun y718 => (if t715.length + y718.length < 17592186044416 then ((some (t715 ++ y718 : List Int)).bind fun y722 => ((lampblacklaw07_Few.f l0).bind fun t725 => ((minor_CheckOuter.f kj26 t725 t690).bind fun bt728 => ((lampblacklaw07_Few.f l0).bind fun t730 => ((minor_CheckOuter.f kj26 t730 y722).bind fun bt733 => ((slices_Reverse_int_int.f kj26 y722).bind fun t735 => ((lampblacklaw07_Few.f l0).bind fun t736 => ((minor_CheckOuter.f kj26 t736 t735).bind fun bt739 => ((lampblacklaw07_Few.f l0).bind fun t741 => ((minor_Reduce.f t741).bind fun bt744 => (if bt728.1 = true then (if bt733.1 = true then (if bt739.1 = true then (if bt728.2 = 0 then (if bt733.2 = 0 then (if bt739.2 = 0 then (if bt744.2 = 0 then ((lampblacklaw07_awake.f kj26).bind fun t748 => (some t748)) else (some false)) else (some false)) else (some false)) else (some false)) else (some false)) else (some false)) else (some false)))))))))))) else (none)))) else (none)) else (none))) else (some false)) else ((lampblacklaw07_awake.f kj26).bind fun t710 => (some t710))) = some r := by rw [if_neg (show ¬ (false = true) by decide)] at H; exact H
     clear H
     have H := H1
     clear H1
     by_cases c44 : t691 = 0
     ·rw [if_pos c44] at H
      have c44b0 : (t691 == 0) = true := beq_iff_eq.mpr c44
      have c44b1 : (t691 != 0) = false := bne_eq_false_iff_eq.mpr c44
      clear c44
      by_cases c45 : (t690.length : Int) = (l0.length : Int)
      ·rw [if_pos c45] at H
       have c45b0 : ((t690.length : Int) == (l0.length : Int)) = true := beq_iff_eq.mpr c45
       have c45b1 : ((t690.length : Int) != (l0.length : Int)) = false := bne_eq_false_iff_eq.mpr c45
       have c45b2 : (t690.length == l0.length) = true := by first | simpa using c45 | (simp at c45 ⊢; omega)
       clear c45
       by_cases c46 : (IntKind.u64.wrap ((t690.length : Int))) = 0
       ·rw [if_pos c46] at H
        exact absurd H (by simp)
       ·rw [if_neg c46] at H
        have c46b0 : ((IntKind.u64.wrap ((t690.length : Int))) == 0) = false := beq_eq_false_iff_ne.mpr c46
        have c46b1 : ((IntKind.u64.wrap ((t690.length : Int))) != 0) = true := bne_iff_ne.mpr c46
        obtain ⟨ji47, hji47⟩ : ∃ j_ : Int, (wrap64 (Int.tmod (IntKind.u64.wrap (a1)) (IntKind.u64.wrap ((t690.length : Int))))) = j_ := ⟨_, rfl⟩
        replace H : (if 0 ≤ (ji47) then (if (ji47) ≤ (t690.length : Int) then ((slices_Clone_int_int.f (t690.drop ((ji47) : Int).toNat)).bind fun t715 => ((some (t690.take ((ji47) : Int).toNat : List Int)).bind fun y718 => (if t715.length + y718.length < 17592186044416 then ((some (t715 ++ y718 : List Int)).bind fun y722 => ((lampblacklaw07_Few.f l0).bind fun t725 => ((minor_CheckOuter.f kj26 t725 t690).bind fun bt728 => ((lampblacklaw07_Few.f l0).bind fun t730 => ((minor_CheckOuter.f kj26 t730 y722).bind fun bt733 => ((slices_Reverse_int_int.f kj26 y722).bind fun t735 => ((lampblacklaw07_Few.f l0).bind fun t736 => ((minor_CheckOuter.f kj26 t736 t735).bind fun bt739 => ((lampblacklaw07_Few.f l0).bind fun t741 => ((minor_Reduce.f t741).bind fun bt744 => (if bt728.1 = true then (if bt733.1 = true then (if bt739.1 = true then (if bt728.2 = 0 then (if bt733.2 = 0 then (if bt739.2 = 0 then (if bt744.2 = 0 then ((lampblacklaw07_awake.f kj26).bind fun t748 => (some t748)) else (some false)) else (some false)) else (some false)) else (some false)) else (some false)) else (some false)) else (some false)))))))))))) else (none)))) else (none)) else (none)) = some r := by first | (rw [hji47] at H; exact H) | (simp only [hji47] at H ⊢; exact H)
        have hji47w : (IntKind.i64.wrap (Int.tmod (IntKind.u64.wrap (a1)) (IntKind.u64.wrap ((t690.length : Int))))) = ji47 := (i64_w _).trans hji47
        by_cases c48 : 0 ≤ (ji47)
        ·rw [if_pos c48] at H
         have c48b0 := eq_true c48
         have c48b1 : decide (0 ≤ (ji47)) = true := decide_eq_true c48
         clear c48
         by_cases c49 : (ji47) ≤ (t690.length : Int)
         ·rw [if_pos c49] at H
          have c49b0 := eq_true c49
          have c49b1 : decide ((ji47) ≤ (t690.length : Int)) = true := decide_eq_true c49
          clear c49
          obtain ⟨y711, hy711⟩ : ∃ y_ : List Int, y_ = (t690.drop ((ji47) : Int).toNat) := ⟨_, rfl⟩
          replace H : ((slices_Clone_int_int.f y711).bind fun t715 => ((some (t690.take ((ji47) : Int).toNat : List Int)).bind fun y718 => (if t715.length + y718.length < 17592186044416 then ((some (t715 ++ y718 : List Int)).bind fun y722 => ((lampblacklaw07_Few.f l0).bind fun t725 => ((minor_CheckOuter.f kj26 t725 t690).bind fun bt728 => ((lampblacklaw07_Few.f l0).bind fun t730 => ((minor_CheckOuter.f kj26 t730 y722).bind fun bt733 => ((slices_Reverse_int_int.f kj26 y722).bind fun t735 => ((lampblacklaw07_Few.f l0).bind fun t736 => ((minor_CheckOuter.f kj26 t736 t735).bind fun bt739 => ((lampblacklaw07_Few.f l0).bind fun t741 => ((minor_Reduce.f t741).bind fun bt744 => (if bt728.1 = true then (if bt733.1 = true then (if bt739.1 = true then (if bt728.2 = 0 then (if bt733.2 = 0 then (if bt739.2 = 0 then (if bt744.2 = 0 then ((lampblacklaw07_awake.f kj26).bind fun t748 => (some t748)) else (some false)) else (some false)) else (some false)) else (some false)) else (some false)) else (some false)) else (some false)))))))))))) else (none)))) = some r := by first | (rw [hy711]; with_reducible exact H) | (have H2_ := (Option.bind_some _ _).symm.trans H; rw [hy711]; with_reducible exact H2_) | (have H2_ := (Option.bind_some _ _).symm.trans H; with_reducible exact H2_) | with_reducible exact H | (rw [hy711]; exact H) | exact H
          have Ny711 := Aside0.mk hy711
          clear hy711
          replace H := Option.bind_eq_some_iff.mp H
          obtain ⟨t715, A500, H⟩ := H
          replace H : ((some (t690.take ((ji47) : Int).toNat : List Int)).bind fun y718 => (if t715.length + y718.length < 17592186044416 then ((some (t715 ++ y718 : List Int)).bind fun y722 => ((lampblacklaw07_Few.f l0).bind fun t725 => ((minor_CheckOuter.f kj26 t725 t690).bind fun bt728 => ((lampblacklaw07_Few.f l0).bind fun t730 => ((minor_CheckOuter.f kj26 t730 y722).bind fun bt733 => ((slices_Reverse_int_int.f kj26 y722).bind fun t735 => ((lampblacklaw07_Few.f l0).bind fun t736 => ((minor_CheckOuter.f kj26 t736 t735).bind fun bt739 => ((lampblacklaw07_Few.f l0).bind fun t741 => ((minor_Reduce.f t741).bind fun bt744 => (if bt728.1 = true then (if bt733.1 = true then (if bt739.1 = true then (if bt728.2 = 0 then (if bt733.2 = 0 then (if bt739.2 = 0 then (if bt744.2 = 0 then ((lampblacklaw07_awake.f kj26).bind fun t748 => (some t748)) else (some false)) else (some false)) else (some false)) else (some false)) else (some false)) else (some false)) else (some false)))))))))))) else (none))) = some r := H
          have A50 := Aside0.mk A500
          clear A500
          have c51b0 := eq_true (of_decide_eq_true (by first | (with_reducible assumption) | assumption) : 0 ≤ (ji47))
          have c52b0 := eq_true (of_decide_eq_true (by first | (with_reducible assumption) | assumption) : (ji47) ≤ (t690.length : Int))
          obtain ⟨y718, hy718⟩ : ∃ y_ : List Int, y_ = (t690.take ((ji47) : Int).toNat) := ⟨_, rfl⟩
          replace H : (if t715.length + y718.length < 17592186044416 then ((some (t715 ++ y718 : List Int)).bind fun y722 => ((lampblacklaw07_Few.f l0).bind fun t725 => ((minor_CheckOuter.f kj26 t725 t690).bind fun bt728 => ((lampblacklaw07_Few.f l0).bind fun t730 => ((minor_CheckOuter.f kj26 t730 y722).bind fun bt733 => ((slices_Reverse_int_int.f kj26 y722).bind fun t735 => ((lampblacklaw07_Few.f l0).bind fun t736 => ((minor_CheckOuter.f kj26 t736 t735).bind fun bt739 => ((lampblacklaw07_Few.f l0).bind fun t741 => ((minor_Reduce.f t741).bind fun bt744 => (if bt728.1 = true then (if bt733.1 = true then (if bt739.1 = true then (if bt728.2 = 0 then (if bt733.2 = 0 then (if bt739.2 = 0 then (if bt744.2 = 0 then ((lampblacklaw07_awake.f kj26).bind fun t748 => (some t748)) else (some false)) else (some false)) else (some false)) else (some false)) else (some false)) else (some false)) else (some false)))))))))))) else (none)) = some r := by first | (rw [hy718]; with_reducible exact H) | (have H2_ := (Option.bind_some _ _).symm.trans H; rw [hy718]; with_reducible exact H2_) | (have H2_ := (Option.bind_some _ _).symm.trans H; with_reducible exact H2_) | with_reducible exact H | (rw [hy718]; exact H) | exact H
          have Ny718 := Aside0.mk hy718
          clear hy718
          by_cases c53 : t715.length + y718.length < 17592186044416
          ·rw [if_pos c53] at H
           have LMc53 := Aside0.mk c53
           clear c53
           obtain ⟨y722, hy722⟩ : ∃ y_ : List Int, y_ = (t715 ++ y718) := ⟨_, rfl⟩
           replace H : ((lampblacklaw07_Few.f l0).bind fun t725 => ((minor_CheckOuter.f kj26 t725 t690).bind fun bt728 => ((lampblacklaw07_Few.f l0).bind fun t730 => ((minor_CheckOuter.f kj26 t730 y722).bind fun bt733 => ((slices_Reverse_int_int.f kj26 y722).bind fun t735 => ((lampblacklaw07_Few.f l0).bind fun t736 => ((minor_CheckOuter.f kj26 t736 t735).bind fun bt739 => ((lampblacklaw07_Few.f l0).bind fun t741 => ((minor_Reduce.f t741).bind fun bt744 => (if bt728.1 = true then (if bt733.1 = true then (if bt739.1 = true then (if bt728.2 = 0 then (if bt733.2 = 0 then (if bt739.2 = 0 then (if bt744.2 = 0 then ((lampblacklaw07_awake.f kj26).bind fun t748 => (some t748)) else (some false)) else (some false)) else (some false)) else (some false)) else (some false)) else (some false)) else (some false))))))))))) = some r := by first | (rw [hy722]; with_reducible exact H) | (have H2_ := (Option.bind_some _ _).symm.trans H; rw [hy722]; with_reducible exact H2_) | (have H2_ := (Option.bind_some _ _).symm.trans H; with_reducible exact H2_) | with_reducible exact H | (rw [hy722]; exact H) | exact H
           have Ny722 := Aside0.mk hy722
           clear hy722
           replace H := Option.bind_eq_some_iff.mp H
           obtain ⟨t725, A540, H⟩ := H
           replace H : ((minor_CheckOuter.f kj26 t725 t690).bind fun bt728 => ((lampblacklaw07_Few.f l0).bind fun t730 => ((minor_CheckOuter.f kj26 t730 y722).bind fun bt733 => ((slices_Reverse_int_int.f kj26 y722).bind fun t735 => ((lampblacklaw07_Few.f l0).bind fun t736 => ((minor_CheckOuter.f kj26 t736 t735).bind fun bt739 => ((lampblacklaw07_Few.f l0).bind fun t741 => ((minor_Reduce.f t741).bind fun bt744 => (if bt728.1 = true then (if bt733.1 = true then (if bt739.1 = true then (if bt728.2 = 0 then (if bt733.2 = 0 then (if bt739.2 = 0 then (if bt744.2 = 0 then ((lampblacklaw07_awake.f kj26).bind fun t748 => (some t748)) else (some false)) else (some false)) else (some false)) else (some false)) else (some false)) else (some false)) else (some false)))))))))) = some r := H
           have A54 := Aside0.mk A540
           clear A540
           replace H := Option.bind_eq_some_iff.mp H
           obtain ⟨⟨t728, t729⟩, A550, H⟩ := H
           replace H : ((lampblacklaw07_Few.f l0).bind fun t730 => ((minor_CheckOuter.f kj26 t730 y722).bind fun bt733 => ((slices_Reverse_int_int.f kj26 y722).bind fun t735 => ((lampblacklaw07_Few.f l0).bind fun t736 => ((minor_CheckOuter.f kj26 t736 t735).bind fun bt739 => ((lampblacklaw07_Few.f l0).bind fun t741 => ((minor_Reduce.f t741).bind fun bt744 => (if t728 = true then (if bt733.1 = true then (if bt739.1 = true then (if t729 = 0 then (if bt733.2 = 0 then (if bt739.2 = 0 then (if bt744.2 = 0 then ((lampblacklaw07_awake.f kj26).bind fun t748 => (some t748)) else (some false)) else (some false)) else (some false)) else (some false)) else (some false)) else (some false)) else (some false))))))))) = some r := H
           have A55 := Aside0.mk A550
           clear A550
           replace H := Option.bind_eq_some_iff.mp H
           obtain ⟨t730, A560, H⟩ := H
           replace H : ((minor_CheckOuter.f kj26 t730 y722).bind fun bt733 => ((slices_Reverse_int_int.f kj26 y722).bind fun t735 => ((lampblacklaw07_Few.f l0).bind fun t736 => ((minor_CheckOuter.f kj26 t736 t735).bind fun bt739 => ((lampblacklaw07_Few.f l0).bind fun t741 => ((minor_Reduce.f t741).bind fun bt744 => (if t728 = true then (if bt733.1 = true then (if bt739.1 = true then (if t729 = 0 then (if bt733.2 = 0 then (if bt739.2 = 0 then (if bt744.2 = 0 then ((lampblacklaw07_awake.f kj26).bind fun t748 => (some t748)) else (some false)) else (some false)) else (some false)) else (some false)) else (some false)) else (some false)) else (some false)))))))) = some r := H
           have A56 := Aside0.mk A560
           clear A560
           replace H := Option.bind_eq_some_iff.mp H
           obtain ⟨⟨t733, t734⟩, A570, H⟩ := H
           replace H : ((slices_Reverse_int_int.f kj26 y722).bind fun t735 => ((lampblacklaw07_Few.f l0).bind fun t736 => ((minor_CheckOuter.f kj26 t736 t735).bind fun bt739 => ((lampblacklaw07_Few.f l0).bind fun t741 => ((minor_Reduce.f t741).bind fun bt744 => (if t728 = true then (if t733 = true then (if bt739.1 = true then (if t729 = 0 then (if t734 = 0 then (if bt739.2 = 0 then (if bt744.2 = 0 then ((lampblacklaw07_awake.f kj26).bind fun t748 => (some t748)) else (some false)) else (some false)) else (some false)) else (some false)) else (some false)) else (some false)) else (some false))))))) = some r := H
           have A57 := Aside0.mk A570
           clear A570
           replace H := Option.bind_eq_some_iff.mp H
           obtain ⟨t735, A580, H⟩ := H
           replace H : ((lampblacklaw07_Few.f l0).bind fun t736 => ((minor_CheckOuter.f kj26 t736 t735).bind fun bt739 => ((lampblacklaw07_Few.f l0).bind fun t741 => ((minor_Reduce.f t741).bind fun bt744 => (if t728 = true then (if t733 = true then (if bt739.1 = true then (if t729 = 0 then (if t734 = 0 then (if bt739.2 = 0 then (if bt744.2 = 0 then ((lampblacklaw07_awake.f kj26).bind fun t748 => (some t748)) else (some false)) else (some false)) else (some false)) else (some false)) else (some false)) else (some false)) else (some false)))))) = some r := H
           have A58 := Aside0.mk A580
           clear A580
           replace H := Option.bind_eq_some_iff.mp H
           obtain ⟨t736, A590, H⟩ := H
           replace H : ((minor_CheckOuter.f kj26 t736 t735).bind fun bt739 => ((lampblacklaw07_Few.f l0).bind fun t741 => ((minor_Reduce.f t741).bind fun bt744 => (if t728 = true then (if t733 = true then (if bt739.1 = true then (if t729 = 0 then (if t734 = 0 then (if bt739.2 = 0 then (if bt744.2 = 0 then ((lampblacklaw07_awake.f kj26).bind fun t748 => (some t748)) else (some false)) else (some false)) else (some false)) else (some false)) else (some false)) else (some false)) else (some false))))) = some r := H
           have A59 := Aside0.mk A590
           clear A590
           replace H := Option.bind_eq_some_iff.mp H
           obtain ⟨⟨t739, t740⟩, A600, H⟩ := H
           replace H : ((lampblacklaw07_Few.f l0).bind fun t741 => ((minor_Reduce.f t741).bind fun bt744 => (if t728 = true then (if t733 = true then (if t739 = true then (if t729 = 0 then (if t734 = 0 then (if t740 = 0 then (if bt744.2 = 0 then ((lampblacklaw07_awake.f kj26).bind fun t748 => (some t748)) else (some false)) else (some false)) else (some false)) else (some false)) else (some false)) else (some false)) else (some false)))) = some r := H
           have A60 := Aside0.mk A600
           clear A600
           replace H := Option.bind_eq_some_iff.mp H
           obtain ⟨t741, A610, H⟩ := H
           replace H : ((minor_Reduce.f t741).bind fun bt744 => (if t728 = true then (if t733 = true then (if t739 = true then (if t729 = 0 then (if t734 = 0 then (if t740 = 0 then (if bt744.2 = 0 then ((lampblacklaw07_awake.f kj26).bind fun t748 => (some t748)) else (some false)) else (some false)) else (some false)) else (some false)) else (some false)) else (some false)) else (some false))) = some r := H
           have A61 := Aside0.mk A610
           clear A610
           replace H := Option.bind_eq_some_iff.mp H
           obtain ⟨⟨t744, t745⟩, A620, H⟩ := H
           replace H : (if t728 = true then (if t733 = true then (if t739 = true then (if t729 = 0 then (if t734 = 0 then (if t740 = 0 then (if t745 = 0 then ((lampblacklaw07_awake.f kj26).bind fun t748 => (some t748)) else (some false)) else (some false)) else (some false)) else (some false)) else (some false)) else (some false)) else (some false)) = some r := H
           have A62 := Aside0.mk A620
           clear A620
           by_cases c63 : t728 = true
           ·subst c63
            have H1 : (if t733 = true then (if t739 = true then (if t729 = 0 then (if t734 = 0 then (if t740 = 0 then (if t745 = 0 then ((lampblacklaw07_awake.f kj26).bind fun t748 => (some t748)) else (some false)) else (some false)) else (some false)) else (some false)) else (some false)) else (some false)) = some r := by rw [if_pos rfl] at H; exact H
            clear H
            have H := H1
            clear H1
            by_cases c64 : t733 = true
            ·subst c64
             have H1 : (if t739 = true then (if t729 = 0 then (if t734 = 0 then (if t740 = 0 then (if t745 = 0 then ((lampblacklaw07_awake.f kj26).bind fun t748 => (some t748)) else (some false)) else (some false)) else (some false)) else (some false)) else (some false)) = some r := by rw [if_pos rfl] at H; exact H
             clear H
             have H := H1
             clear H1
             by_cases c65 : t739 = true
             ·subst c65
              have H1 : (if t729 = 0 then (if t734 = 0 then (if t740 = 0 then (if t745 = 0 then ((lampblacklaw07_awake.f kj26).bind fun t748 => (some t748)) else (some false)) else (some false)) else (some false)) else (some false)) = some r := by rw [if_pos rfl] at H; exact H
              clear H
              have H := H1
              clear H1
              by_cases c66 : t729 = 0
              ·rw [if_pos c66] at H
               have c66b0 : (t729 == 0) = true := beq_iff_eq.mpr c66
               have c66b1 : (t729 != 0) = false := bne_eq_false_iff_eq.mpr c66
               clear c66
               by_cases c67 : t734 = 0
               ·rw [if_pos c67] at H
                have c67b0 : (t734 == 0) = true := beq_iff_eq.mpr c67
                have c67b1 : (t734 != 0) = false := bne_eq_false_iff_eq.mpr c67
                clear c67
                by_cases c68 : t740 = 0
                ·rw [if_pos c68] at H
                 have c68b0 : (t740 == 0) = true := beq_iff_eq.mpr c68
                 have c68b1 : (t740 != 0) = false := bne_eq_false_iff_eq.mpr c68
                 clear c68
                 by_cases c69 : t745 = 0
                 ·rw [if_pos c69] at H
                  have c69b0 : (t745 == 0) = true := beq_iff_eq.mpr c69
                  have c69b1 : (t745 != 0) = false := bne_eq_false_iff_eq.mpr c69
                  clear c69
                  replace H := Option.bind_eq_some_iff.mp H
                  obtain ⟨t748, A700, H⟩ := H
                  replace H : (some t748) = some r := H
                  have A70 := Aside0.mk A700
                  clear A700
                  obtain rfl := Option.some.inj H
                  obtain ⟨Ao71, co71, eo71⟩ := Kd.R_slice HO_5.out
                  subst eo71
                  try go_wp2
                  have n0_ := Aside0.mk (Kd.R_drew HO_5.out)
                  have n1_ := Aside0.mk (below_drew1 HB.out)
                  clear HO_5
                  clear HB
                  have HO_5 := n0_
                  have HB := n1_
                  clear n0_ n1_
                  have q73 : ((ji47) : Int) ≤ ((t690.length : Int) : Int) := of_decide_eq_true (by first | (with_reducible assumption) | assumption)
                  obtain ⟨i073, hi073, _, hsz73, _⟩ := info_parts info3
                  have hroom73 : t690.length ≤ co71 := (Kd.R_reads' HO_5.out).2.1
                  have hC73 : Kd.C (Kd.int .i64) _ Ao71 t690.length t690 := (Kd.R_reads' HO_5.out).2.2
                  have q073 : (0 : Int) ≤ ((ji47) : Int) := of_decide_eq_true (by first | (with_reducible assumption) | assumption)
                  have hcut73 := cut_from (P := Tryd.prog) 22 3 .i64 Tryd.underlying22 hi073 1 hsz73 Ao71 t690.length co71 (ji47) q073 q73
                  have hr73 := Kd.C_drop (m := ((ji47) : Int).toNat) (c := co71) hC73 (by omega) hroom73
                  obtain ⟨A73, hA73⟩ : ∃ A1, A1 = (if co71 = ((ji47) : Int).toNat then Ao71 else (Ao71 : Option Addr).map (·.add (((ji47) : Int).toNat * 1))) := ⟨_, rfl⟩
                  obtain ⟨c73, hc73⟩ : ∃ c1, c1 = co71 - ((ji47) : Int).toNat := ⟨_, rfl⟩
                  have hy73 : y711.length = t690.length - ((ji47) : Int).toNat := (by rw [Ny711.out, List.length_drop] <;> omega)
                  rw [show (t690).drop ((ji47) : Int).toNat = y711 from Ny711.out.symm] at hr73
                  replace hr73 : Kd.C (Kd.int .i64) _ A73 y711.length y711 := (by rw [hA73]; exact hr73)
                  rw [← hy73, ← hA73, ← hc73] at hcut73
                  have HR714 := Aside0.mk hr73
                  have HC714 := Aside0.mk (show y711.length ≤ c73 from by rw [hy73, hc73]; exact Nat.sub_le_sub_right hroom73 _)
                  clear hr73 hC73 hroom73 hi073 hsz73 hc73
                  have KY73 := Aside0.mk hy73
                  have KA73 := Aside0.mk hA73
                  clear hy73 hA73
                  have KL73 := Aside0.mk (show ((ji47) : Int).toNat ≤ t690.length from by omega)
                  replace q73 := eq_true q73
                  have q74 : ((ji47) : Int) ≤ ((t690.length : Int) : Int) := of_decide_eq_true (by first | (with_reducible assumption) | assumption)
                  obtain ⟨i074, hi074, _, hsz74, _⟩ := info_parts info3
                  have hroom74 : t690.length ≤ co71 := (Kd.R_reads' HO_5.out).2.1
                  have hC74 : Kd.C (Kd.int .i64) _ Ao71 t690.length t690 := (Kd.R_reads' HO_5.out).2.2
                  have hcut74 := cut_to (P := Tryd.prog) 22 3 .i64 Tryd.underlying22 hi074 Ao71 t690.length co71 (ji47) (of_decide_eq_true (by first | (with_reducible assumption) | assumption)) q74 hroom74
                  have hr74 := Kd.C_take (m := ((ji47) : Int).toNat) hC74 (by omega)
                  have hy74 : y718.length = ((ji47) : Int).toNat := (by rw [Ny718.out, List.length_take]; omega)
                  rw [← Ny718.out] at hr74
                  rw [← hy74] at hcut74
                  have HR721 := Aside0.mk hr74
                  have HC721 := Aside0.mk (show y718.length ≤ co71 from by omega)
                  clear hr74 hC74 hroom74 hi074 hsz74
                  have KY74 := Aside0.mk hy74
                  clear hy74
                  have KL74 := Aside0.mk (show ((ji47) : Int).toNat ≤ t690.length from by omega)
                  replace q74 := eq_true q74
                  refine start_ (n := 9) (S := fun w' => True) (ds := []) (Qbz 9 0) (by kernel_rfl) rfl rfl trivial (fun hHeld => ?_); refine with_tabW lampblacklaw07_MinorRound.tab14 lampblacklaw07_MinorRound.bits14 (fun HT_ HW_ => ?_)
                  generalize wc.drew = w72 at HO_5 HB HR714 HR721 hHeld ⊢
                  refine pure_ (i := 0) (N := some 93) (v := ?_) (a' := ?_) (Qbz 9 1) rfl rfl (any_of HT_.out (by kernel_rfl)) (fun _ _ _ h => h) (Or.inl ⟨by rfl, ?_⟩) ?_ ?_
                  rotate_left
                  ·intro w'
                   go_simp
                   with_reducible rfl
                  rotate_left
                  ·simp only [Act.put, Qp1, Qp2, Qp3, i64_w, i32_w]
                   rfl
                  refine pure_ (i := 1) (N := some 94) (v := ?_) (a' := ?_) (Qbz 9 3) rfl rfl (any_of HT_.out (by kernel_rfl)) (fun _ _ _ h => h) (Or.inl ⟨by rfl, ?_⟩) ?_ ?_
                  rotate_left
                  ·intro w'
                   go_simp
                   with_reducible rfl
                  rotate_left
                  ·simp only [Act.put, Qp1, Qp2, Qp3, i64_w, i32_w]
                   rfl
                  refine pure_ (i := 2) (N := some 95) (v := ?_) (a' := ?_) (Qbz 9 7) rfl rfl (any_of HT_.out (by kernel_rfl)) (fun _ _ _ h => h) (Or.inl ⟨by rfl, ?_⟩) ?_ ?_
                  rotate_left
                  ·intro w'
                   go_simp
                   with_reducible rfl
                  rotate_left
                  ·simp only [Act.put, Qp1, Qp2, Qp3, i64_w, i32_w]
                   rfl
                  refine pure_ (i := 4) (N := some 97) (v := ?_) (a' := ?_) (Qbz 9 23) rfl rfl (any_of HT_.out (by kernel_rfl)) (fun _ _ _ h => h) (Or.inl ⟨by rfl, ?_⟩) ?_ ?_
                  rotate_left
                  ·intro w'
                   go_simp
                   with_reducible rfl
                  rotate_left
                  ·simp only [Act.put, Qp1, Qp2, Qp3, i64_w, i32_w]
                   rfl
                  refine pure_ (i := 5) (N := some 98) (v := ?_) (a' := ?_) (Qbz 9 55) rfl rfl (any_of HT_.out (by kernel_rfl)) (fun _ _ _ h => h) (Or.inl ⟨by rfl, ?_⟩) ?_ ?_
                  rotate_left
                  ·intro w'
                   go_simp
                   with_reducible rfl
                  rotate_left
                  ·simp only [Act.put, Qp1, Qp2, Qp3, i64_w, i32_w]
                   rfl
                  refine pure_ (i := 6) (N := some 99) (v := ?_) (a' := ?_) (Qbz 9 119) rfl rfl (any_of HT_.out (by kernel_rfl)) (fun _ _ _ h => h) (Or.inl ⟨by rfl, ?_⟩) ?_ ?_
                  rotate_left
                  ·intro w'
                   go_simp
                   with_reducible rfl
                  rotate_left
                  ·simp only [Act.put, Qp1, Qp2, Qp3, i64_w, i32_w]
                   rfl
                  refine one_ (i := 3) (N := some 96) (Qbz 9 127) rfl rfl (one_of HT_.out (by kernel_rfl)) (by decide) (fun K hK => ?_)
                  refine goes_ Tryd.func57 (by kernel_rfl) rfl #[.slice A73 y711.length c73] (by rfl) rfl rfl (Qls) ?_
                  with_reducible refine (slices_Clone_int_int.calls _ _ y711 t715 _ ?side1 ?side2 A50.out).mono ?_
                  (case side1 => repeat (first | exact (by repeat (first | (with_reducible exact HR714.out) | (with_reducible refine Kd.C_alloc ?_ _) | (with_reducible refine Kd.C_drewN ?_ _) | (with_reducible refine Kd.C_drew ?_) | exact HR714.out)) | (with_reducible refine Kd.C_alloc ?_ _) | (with_reducible refine Kd.C_drewN ?_ _) | (with_reducible refine Kd.C_drew ?_)))
                  (case side2 => exact HC714.out)
                  rintro e w75 ⟨v716, rfl, ho0, hb⟩
                  refine ⟨_, rfl, ?_⟩
                  have n0_ := Aside0.mk (Kd.R_elder' (Qro HO_5.out) (Kd.R_base ho0) hb)
                  have n1_ := Aside0.mk (Kd.R_lower (Kd.R_new' ho0 (Kd.R_lt (Qro HO_5.out))) (below_size (Qaw)))
                  have n2_ := Aside0.mk (Kd.C_below (by repeat (first | (with_reducible exact HR714.out) | (with_reducible refine Kd.C_alloc ?_ _) | (with_reducible refine Kd.C_drewN ?_ _) | (with_reducible refine Kd.C_drew ?_) | exact HR714.out)) hb)
                  have n3_ := Aside0.mk (Kd.C_below (by repeat (first | (with_reducible exact HR721.out) | (with_reducible refine Kd.C_alloc ?_ _) | (with_reducible refine Kd.C_drewN ?_ _) | (with_reducible refine Kd.C_drew ?_) | exact HR721.out)) hb)
                  have n4_ := Aside0.mk (below_step (Qaw) hb)
                  clear HO_5
                  clear HR714
                  clear HR721
                  clear HB
                  have HO_5 := n0_
                  have HO717 := n1_
                  have HR714 := n2_
                  have HR721 := n3_
                  have HB := n4_
                  clear n0_ n1_ n2_ n3_ n4_
                  (try clear hb)
                  (try clear hb2)
                  (try clear hk)
                  (try clear hi)
                  (try clear ho0)
                  refine hK.out _ _ trivial (fun hHeld => ?_)
                  clear hK K
                  refine norm_ (a' := ?_) ?_ ?_
                  rotate_left
                  ·show Act.put _ (some 96) _ = _
                   simp only [Act.put, Qp1, Qp2, Qp3, i64_w, i32_w]
                   rfl
                  refine one_ (i := 7) (N := some 100) (Qbz 9 255) rfl rfl (one_of HT_.out (by kernel_rfl)) (by decide) (fun K hK => ?_)
                  refine Kd.R_append_rows_step (Kd.int .i64) (w0 := w) w.heap.size (by rfl) (.tmp 96) (.tmp 99) 22 3 (.int .i64 0) 8 rfl Tryd.underlying22 info3 rfl (by decide) (by omega) v716 t715 y718 _ _ _ (fun k_ => some k_ ≠ (.slice Ao71 t690.length co71 : Value).ownBlock) (fun _ => False) rfl rfl ?aO ?aR (fun _ _ h => h) (fun _ h => h.elim) ?aF ?aB ?aS ?aL ?_
                  (case aR => repeat (first | exact (by repeat (first | (with_reducible exact HR721.out) | (with_reducible refine Kd.C_alloc ?_ _) | (with_reducible refine Kd.C_drewN ?_ _) | (with_reducible refine Kd.C_drew ?_) | exact HR721.out)) | (with_reducible refine Kd.C_alloc ?_ _) | (with_reducible refine Kd.C_drewN ?_ _) | (with_reducible refine Kd.C_drew ?_)))
                  (case aB => exact (Qaw))
                  (case aF => exact (fun k_ hk => Kd.fresh' (Kd.R_lt (Qro HO_5.out)) k_ hk))
                  (case aO => exact (by (with_reducible repeat (first | apply Kd.R_alloc | apply Kd.R_drewN | apply Kd.R_drew)); exact Kd.R_mono HO717.out (fun _ hk => hk.2)))
                  (case aS => exact (below_size (Qaw)))
                  (case aL => have := LMc53.out; omega)
                  intro v723 w76 ho hb hg hat
                  rw [← Ny722.out] at ho
                  have n0_ := Aside0.mk (Kd.R_after (ok := (fun _ => True)) (Qro HO_5.out) hg hat)
                  have n1_ := Aside0.mk (hb)
                  have n2_ := Aside0.mk ((show Kd.C (Kd.int .i64) w76 A73 y711.length y711 from by rw [Ny711.out, KA73.out]; exact Kd.C_drop (m := ((ji47) : Int).toNat) (c := co71) ((Kd.R_reads' (Kd.R_after (ok := (fun _ => True)) (Qro HO_5.out) hg hat)).2.2) KL73.out ((Kd.R_reads' (Kd.R_after (ok := (fun _ => True)) (Qro HO_5.out) hg hat)).2.1)))
                  have n3_ := Aside0.mk ((show Kd.C (Kd.int .i64) w76 Ao71 y718.length y718 from by rw [Ny718.out]; exact Kd.C_take (m := ((ji47) : Int).toNat) ((Kd.R_reads' (Kd.R_after (ok := (fun _ => True)) (Qro HO_5.out) hg hat)).2.2) KL74.out))
                  have n4_ := Aside0.mk (ho)
                  clear HO_5
                  clear HB
                  clear HR714
                  clear HR721
                  clear HO717
                  have HO_5 := n0_
                  have HB := n1_
                  have HR714 := n2_
                  have HR721 := n3_
                  have HO724 := n4_
                  clear n0_ n1_ n2_ n3_ n4_
                  clear ho hb hg hat
                  refine hK.out _ _ trivial (fun hHeld => ?_)
                  clear hK K
                  refine norm_ (a' := ?_) ?_ ?_
                  rotate_left
                  ·show Act.put _ (some 100) _ = _
                   simp only [Act.put, Qp1, Qp2, Qp3, i64_w, i32_w]
                   rfl
                  refine pure_ (i := 8) (N := some 13) (v := ?_) (a' := ?_) (Qbz 9 511) rfl rfl (any_of HT_.out (by kernel_rfl)) (fun _ _ _ h => h) (Or.inl ⟨by rfl, ?_⟩) ?_ ?_
                  rotate_left
                  ·intro w'
                   go_simp
                   with_reducible rfl
                  rotate_left
                  ·simp only [Act.put, Qp1, Qp2, Qp3, i64_w, i32_w]
                   rfl
                  refine done_ (done_of HT_.out (by kernel_rfl)) ?_
                  try go_wp2_with (first | ((with_reducible refine gate_callee (f := 22) rfl ?_); refine goesL_ (some 103) rfl rfl Tryd.func22 (by kernel_rfl) rfl #[.slice A0 l0.length c0] rfl (Qls) ?_; (with_reducible refine (lampblacklaw07_Few.calls _ _ l0 t725 _ ?side1 ?side2 A54.out).mono ?_); (case side1 => exact Qsc (Kd.C_below HR0.out HB.out)); (case side2 => exact HC0.out); rintro e w77 ⟨v726, rfl, ho0, hb⟩; refine ⟨_, rfl, ?_⟩; have n0_ := Aside0.mk (Kd.R_elder' (Qro HO_5.out) (Kd.R_base ho0) hb); have n1_ := Aside0.mk (Kd.R_elder' (Qro HO724.out) (Kd.R_base ho0) hb); have n2_ := Aside0.mk (Kd.R_lower (Kd.R_new' (Kd.R_new' ho0 (Kd.R_lt (Qro HO_5.out))) (Kd.R_lt (Qro HO724.out))) (below_size (Qaw))); have n3_ := Aside0.mk (Kd.C_below (by repeat (first | (with_reducible exact HR714.out) | (with_reducible refine Kd.C_alloc ?_ _) | (with_reducible refine Kd.C_drewN ?_ _) | (with_reducible refine Kd.C_drew ?_) | exact HR714.out)) hb); have n4_ := Aside0.mk (Kd.C_below (by repeat (first | (with_reducible exact HR721.out) | (with_reducible refine Kd.C_alloc ?_ _) | (with_reducible refine Kd.C_drewN ?_ _) | (with_reducible refine Kd.C_drew ?_) | exact HR721.out)) hb); have n5_ := Aside0.mk (below_step (Qaw) hb); clear HO_5; clear HO724; clear HR714; clear HR721; clear HB; have HO_5 := n0_; have HO724 := n1_; have HO727 := n2_; have HR714 := n3_; have HR721 := n4_; have HB := n5_; clear n0_ n1_ n2_ n3_ n4_ n5_; (try clear hb); (try clear hb2); (try clear hk); (try clear hi); (try clear ho0); obtain ⟨Ao78, co78, eo78⟩ := Kd.R_slice HO727.out; subst eo78) | ((with_reducible refine gate_callee (f := 48) rfl ?_); refine goesL_ (some 105) rfl rfl Tryd.func48 (by kernel_rfl) rfl #[.slice Ao78 t725.length co78, .slice Ao71 t690.length co71] rfl (Qls) ?_; (with_reducible refine (minor_CheckOuter.calls kj26 _ _ t725 _ _ t690 true t729 _ ?side1 ?side2 ?side3 ?side4 A55.out).mono ?_); (case side1 => exact Qsc (Kd.R_reads' HO727.out).2.2); (case side2 => exact (Kd.R_reads' HO727.out).2.1); (case side3 => exact Qsc (Kd.R_reads' HO_5.out).2.2); (case side4 => exact (Kd.R_reads' HO_5.out).2.1); rintro e w79 ⟨rfl, hb⟩; refine ⟨_, rfl, ?_⟩; have n0_ := Aside0.mk (Kd.R_below (Qro HO_5.out) hb); have n1_ := Aside0.mk (Kd.R_below (Qro HO724.out) hb); have n2_ := Aside0.mk (Kd.R_below (Qro HO727.out) hb); have n3_ := Aside0.mk (Kd.C_below (by repeat (first | (with_reducible exact HR714.out) | (with_reducible refine Kd.C_alloc ?_ _) | (with_reducible refine Kd.C_drewN ?_ _) | (with_reducible refine Kd.C_drew ?_) | exact HR714.out)) hb); have n4_ := Aside0.mk (Kd.C_below (by repeat (first | (with_reducible exact HR721.out) | (with_reducible refine Kd.C_alloc ?_ _) | (with_reducible refine Kd.C_drewN ?_ _) | (with_reducible refine Kd.C_drew ?_) | exact HR721.out)) hb); have n5_ := Aside0.mk (below_step (Qaw) hb); clear HO_5; clear HO724; clear HO727; clear HR714; clear HR721; clear HB; have HO_5 := n0_; have HO724 := n1_; have HO727 := n2_; have HR714 := n3_; have HR721 := n4_; have HB := n5_; clear n0_ n1_ n2_ n3_ n4_ n5_; (try clear hb); (try clear hb2); (try clear hk); (try clear hi)) | ((with_reducible refine gate_callee (f := 22) rfl ?_); refine goesL_ (some 110) rfl rfl Tryd.func22 (by kernel_rfl) rfl #[.slice A0 l0.length c0] rfl (Qls) ?_; (with_reducible refine (lampblacklaw07_Few.calls _ _ l0 t730 _ ?side1 ?side2 A56.out).mono ?_); (case side1 => exact Qsc (Kd.C_below HR0.out HB.out)); (case side2 => exact HC0.out); rintro e w80 ⟨v731, rfl, ho0, hb⟩; refine ⟨_, rfl, ?_⟩; have n0_ := Aside0.mk (Kd.R_elder' (Qro HO_5.out) (Kd.R_base ho0) hb); have n1_ := Aside0.mk (Kd.R_elder' (Qro HO724.out) (Kd.R_base ho0) hb); have n2_ := Aside0.mk (Kd.R_elder' (Qro HO727.out) (Kd.R_base ho0) hb); have n3_ := Aside0.mk (Kd.R_lower (Kd.R_new' (Kd.R_new' (Kd.R_new' ho0 (Kd.R_lt (Qro HO_5.out))) (Kd.R_lt (Qro HO724.out))) (Kd.R_lt (Qro HO727.out))) (below_size (Qaw))); have n4_ := Aside0.mk (Kd.C_below (by repeat (first | (with_reducible exact HR714.out) | (with_reducible refine Kd.C_alloc ?_ _) | (with_reducible refine Kd.C_drewN ?_ _) | (with_reducible refine Kd.C_drew ?_) | exact HR714.out)) hb); have n5_ := Aside0.mk (Kd.C_below (by repeat (first | (with_reducible exact HR721.out) | (with_reducible refine Kd.C_alloc ?_ _) | (with_reducible refine Kd.C_drewN ?_ _) | (with_reducible refine Kd.C_drew ?_) | exact HR721.out)) hb); have n6_ := Aside0.mk (below_step (Qaw) hb); clear HO_5; clear HO724; clear HO727; clear HR714; clear HR721; clear HB; have HO_5 := n0_; have HO724 := n1_; have HO727 := n2_; have HO732 := n3_; have HR714 := n4_; have HR721 := n5_; have HB := n6_; clear n0_ n1_ n2_ n3_ n4_ n5_ n6_; (try clear hb); (try clear hb2); (try clear hk); (try clear hi); (try clear ho0); obtain ⟨Ao81, co81, eo81⟩ := Kd.R_slice HO732.out; subst eo81; obtain ⟨Ao82, co82, eo82⟩ := Kd.R_slice HO724.out; subst eo82) | ((with_reducible refine gate_callee (f := 48) rfl ?_); refine goesL_ (some 112) rfl rfl Tryd.func48 (by kernel_rfl) rfl #[.slice Ao81 t730.length co81, .slice Ao82 y722.length co82] rfl (Qls) ?_; (with_reducible refine (minor_CheckOuter.calls kj26 _ _ t730 _ _ y722 true t734 _ ?side1 ?side2 ?side3 ?side4 A57.out).mono ?_); (case side1 => exact Qsc (Kd.R_reads' HO732.out).2.2); (case side2 => exact (Kd.R_reads' HO732.out).2.1); (case side3 => exact Qsc (Kd.R_reads' HO724.out).2.2); (case side4 => exact (Kd.R_reads' HO724.out).2.1); rintro e w83 ⟨rfl, hb⟩; refine ⟨_, rfl, ?_⟩; have n0_ := Aside0.mk (Kd.R_below (Qro HO_5.out) hb); have n1_ := Aside0.mk (Kd.R_below (Qro HO724.out) hb); have n2_ := Aside0.mk (Kd.R_below (Qro HO727.out) hb); have n3_ := Aside0.mk (Kd.R_below (Qro HO732.out) hb); have n4_ := Aside0.mk (Kd.C_below (by repeat (first | (with_reducible exact HR714.out) | (with_reducible refine Kd.C_alloc ?_ _) | (with_reducible refine Kd.C_drewN ?_ _) | (with_reducible refine Kd.C_drew ?_) | exact HR714.out)) hb); have n5_ := Aside0.mk (Kd.C_below (by repeat (first | (with_reducible exact HR721.out) | (with_reducible refine Kd.C_alloc ?_ _) | (with_reducible refine Kd.C_drewN ?_ _) | (with_reducible refine Kd.C_drew ?_) | exact HR721.out)) hb); have n6_ := Aside0.mk (below_step (Qaw) hb); clear HO_5; clear HO724; clear HO727; clear HO732; clear HR714; clear HR721; clear HB; have HO_5 := n0_; have HO724 := n1_; have HO727 := n2_; have HO732 := n3_; have HR714 := n4_; have HR721 := n5_; have HB := n6_; clear n0_ n1_ n2_ n3_ n4_ n5_ n6_; (try clear hb); (try clear hb2); (try clear hk); (try clear hi)) | ((with_reducible refine gate_callee (f := 58) rfl ?_); refine goesL_ (some 116) rfl rfl Tryd.func58 (by kernel_rfl) rfl #[.slice Ao82 y722.length co82] rfl (Qls) ?_; (with_reducible refine (slices_Reverse_int_int.calls kj26 (fun k_ => some k_ = (.slice Ao82 y722.length co82 : Value).ownBlock) (.slice Ao82 y722.length co82) y722 t735 w _ ?side1 ?side2 A58.out).mono ?_); (case side1 => repeat (first | (with_reducible first | exact HB.out | apply below_alloc | apply pw_below_drewN | apply below_drew1) | exact HB.out)); (case side2 => exact Kd.R_tight rfl HO724.out); rintro e w84 ⟨rfl, hy0, hb, hkp⟩; refine ⟨_, rfl, ?_⟩; have n0_ := Aside0.mk (Kd.R_mono (ok' := fun k_ => some k_ ≠ (.slice Ao82 y722.length co82 : Value).ownBlock ∧ some k_ ≠ (.slice Ao78 t725.length co78 : Value).ownBlock ∧ some k_ ≠ (.slice Ao81 t730.length co81 : Value).ownBlock) (Kd.R_keptB (HO_5.out) hkp (fun k_ hk_ hs_ => (hk_.1.1.2) hs_)) (fun k_ hk_ => ⟨hk_.1.1.1.2, hk_.1.1.2, hk_.1.2⟩)); have n1_ := Aside0.mk (Kd.R_reok rfl hy0 (fun k_ e_ => HO724.out.1 k_ e_)); have n2_ := Aside0.mk (Kd.R_mono (ok' := fun k_ => some k_ ≠ (.slice Ao71 t690.length co71 : Value).ownBlock ∧ some k_ ≠ (.slice Ao82 y722.length co82 : Value).ownBlock ∧ some k_ ≠ (.slice Ao81 t730.length co81 : Value).ownBlock) (Kd.R_keptB (HO727.out) hkp (fun k_ hk_ hs_ => (hk_.1.2) hs_)) (fun k_ hk_ => ⟨hk_.1.1.1.2, hk_.1.1.2, hk_.1.2⟩)); have n3_ := Aside0.mk (Kd.R_mono (ok' := fun k_ => some k_ ≠ (.slice Ao71 t690.length co71 : Value).ownBlock ∧ some k_ ≠ (.slice Ao82 y722.length co82 : Value).ownBlock ∧ some k_ ≠ (.slice Ao78 t725.length co78 : Value).ownBlock) (Kd.R_keptB (HO732.out) hkp (fun k_ hk_ hs_ => (hk_.1.2) hs_)) (fun k_ hk_ => ⟨hk_.1.1.1.2, hk_.1.1.2, hk_.1.2⟩)); have n4_ := Aside0.mk (hb); clear HO_5; clear HO724; clear HO727; clear HO732; clear HB; have HO_5 := n0_; have HO724 := n1_; have HO727 := n2_; have HO732 := n3_; have HB := n4_; clear n0_ n1_ n2_ n3_ n4_; (try clear hb); (try clear hkp); (try clear hy0)) | ((with_reducible refine gate_callee (f := 22) rfl ?_); refine goesL_ (some 119) rfl rfl Tryd.func22 (by kernel_rfl) rfl #[.slice A0 l0.length c0] rfl (Qls) ?_; (with_reducible refine (lampblacklaw07_Few.calls _ _ l0 t736 _ ?side1 ?side2 A59.out).mono ?_); (case side1 => exact Qsc (Kd.C_below HR0.out HB.out)); (case side2 => exact HC0.out); rintro e w85 ⟨v737, rfl, ho0, hb⟩; refine ⟨_, rfl, ?_⟩; have n0_ := Aside0.mk (Kd.R_elder' (Qro HO_5.out) (Kd.R_base ho0) hb); have n1_ := Aside0.mk (Kd.R_elder' (Qro HO724.out) (Kd.R_base ho0) hb); have n2_ := Aside0.mk (Kd.R_elder' (Qro HO727.out) (Kd.R_base ho0) hb); have n3_ := Aside0.mk (Kd.R_elder' (Qro HO732.out) (Kd.R_base ho0) hb); have n4_ := Aside0.mk (Kd.R_lower (Kd.R_new' (Kd.R_new' (Kd.R_new' (Kd.R_new' ho0 (Kd.R_lt (Qro HO_5.out))) (Kd.R_lt (Qro HO724.out))) (Kd.R_lt (Qro HO727.out))) (Kd.R_lt (Qro HO732.out))) (below_size (Qaw))); have n5_ := Aside0.mk (below_step (Qaw) hb); clear HO_5; clear HO724; clear HO727; clear HO732; clear HB; have HO_5 := n0_; have HO724 := n1_; have HO727 := n2_; have HO732 := n3_; have HO738 := n4_; have HB := n5_; clear n0_ n1_ n2_ n3_ n4_ n5_; (try clear hb); (try clear hb2); (try clear hk); (try clear hi); (try clear ho0); obtain ⟨Ao86, co86, eo86⟩ := Kd.R_slice HO738.out; subst eo86) | ((with_reducible refine gate_callee (f := 48) rfl ?_); refine goesL_ (some 121) rfl rfl Tryd.func48 (by kernel_rfl) rfl #[.slice Ao86 t736.length co86, .slice Ao82 t735.length co82] rfl (by (try simp only [List.map_toArray, List.map_cons, List.map_nil]); first | done | (rw [show t735.length = y722.length from (Kd.R_reads' HO724.out).1.symm] <;> rfl) | rfl | (simp only [List.length_drop, List.length_take]; rfl)) ?_; (with_reducible refine (minor_CheckOuter.calls kj26 _ _ t736 _ _ t735 true t740 _ ?side1 ?side2 ?side3 ?side4 A60.out).mono ?_); (case side1 => exact Qsc (Kd.R_reads' HO738.out).2.2); (case side2 => exact (Kd.R_reads' HO738.out).2.1); (case side3 => exact Qsc (Kd.R_reads' HO724.out).2.2); (case side4 => rw [show t735.length = y722.length from (Kd.R_reads' HO724.out).1.symm]; exact (Kd.R_reads' HO724.out).2.1); rintro e w87 ⟨rfl, hb⟩; refine ⟨_, rfl, ?_⟩; have n0_ := Aside0.mk (Kd.R_below (Qro HO_5.out) hb); have n1_ := Aside0.mk (Kd.R_below (Qro HO724.out) hb); have n2_ := Aside0.mk (Kd.R_below (Qro HO727.out) hb); have n3_ := Aside0.mk (Kd.R_below (Qro HO732.out) hb); have n4_ := Aside0.mk (Kd.R_below (Qro HO738.out) hb); have n5_ := Aside0.mk (below_step (Qaw) hb); clear HO_5; clear HO724; clear HO727; clear HO732; clear HO738; clear HB; have HO_5 := n0_; have HO724 := n1_; have HO727 := n2_; have HO732 := n3_; have HO738 := n4_; have HB := n5_; clear n0_ n1_ n2_ n3_ n4_ n5_; (try clear hb); (try clear hb2); (try clear hk); (try clear hi)) | ((with_reducible refine gate_callee (f := 22) rfl ?_); refine goesL_ (some 126) rfl rfl Tryd.func22 (by kernel_rfl) rfl #[.slice A0 l0.length c0] rfl (Qls) ?_; (with_reducible refine (lampblacklaw07_Few.calls _ _ l0 t741 _ ?side1 ?side2 A61.out).mono ?_); (case side1 => exact Qsc (Kd.C_below HR0.out HB.out)); (case side2 => exact HC0.out); rintro e w88 ⟨v742, rfl, ho0, hb⟩; refine ⟨_, rfl, ?_⟩; have n0_ := Aside0.mk (Kd.R_elder' (Qro HO_5.out) (Kd.R_base ho0) hb); have n1_ := Aside0.mk (Kd.R_elder' (Qro HO724.out) (Kd.R_base ho0) hb); have n2_ := Aside0.mk (Kd.R_elder' (Qro HO727.out) (Kd.R_base ho0) hb); have n3_ := Aside0.mk (Kd.R_elder' (Qro HO732.out) (Kd.R_base ho0) hb); have n4_ := Aside0.mk (Kd.R_elder' (Qro HO738.out) (Kd.R_base ho0) hb); have n5_ := Aside0.mk (Kd.R_lower (Kd.R_new' (Kd.R_new' (Kd.R_new' (Kd.R_new' (Kd.R_new' ho0 (Kd.R_lt (Qro HO_5.out))) (Kd.R_lt (Qro HO724.out))) (Kd.R_lt (Qro HO727.out))) (Kd.R_lt (Qro HO732.out))) (Kd.R_lt (Qro HO738.out))) (below_size (Qaw))); have n6_ := Aside0.mk (below_step (Qaw) hb); clear HO_5; clear HO724; clear HO727; clear HO732; clear HO738; clear HB; have HO_5 := n0_; have HO724 := n1_; have HO727 := n2_; have HO732 := n3_; have HO738 := n4_; have HO743 := n5_; have HB := n6_; clear n0_ n1_ n2_ n3_ n4_ n5_ n6_; (try clear hb); (try clear hb2); (try clear hk); (try clear hi); (try clear ho0); obtain ⟨Ao89, co89, eo89⟩ := Kd.R_slice HO743.out; subst eo89) | ((with_reducible refine gate_callee (f := 40) rfl ?_); refine goesL_ (some 127) rfl rfl Tryd.func40 (by kernel_rfl) rfl #[.slice Ao89 t741.length co89] rfl (Qls) ?_; (with_reducible refine (minor_Reduce.calls (hGL := (Qlg)) _ _ t741 t744 t745 _ ?side1 ?side2 A62.out).mono ?_); (case side1 => exact Qsc (Kd.R_reads' HO743.out).2.2); (case side2 => exact (Kd.R_reads' HO743.out).2.1); rintro e w90 ⟨v746, rfl, ho0, hb⟩; refine ⟨_, rfl, ?_⟩; have n0_ := Aside0.mk (Kd.R_below (Qro HO_5.out) hb); have n1_ := Aside0.mk (Kd.R_below (Qro HO724.out) hb); have n2_ := Aside0.mk (Kd.R_below (Qro HO727.out) hb); have n3_ := Aside0.mk (Kd.R_below (Qro HO732.out) hb); have n4_ := Aside0.mk (Kd.R_below (Qro HO738.out) hb); have n5_ := Aside0.mk (Kd.R_below (Qro HO743.out) hb); have n6_ := Aside0.mk (Kd.R_lower ho0 (below_size (Qaw))); have n7_ := Aside0.mk (below_step (Qaw) hb); clear HO_5; clear HO724; clear HO727; clear HO732; clear HO738; clear HO743; clear HB; have HO_5 := n0_; have HO724 := n1_; have HO727 := n2_; have HO732 := n3_; have HO738 := n4_; have HO743 := n5_; have HO747 := n6_; have HB := n7_; clear n0_ n1_ n2_ n3_ n4_ n5_ n6_ n7_; (try clear hb); (try clear hb2); (try clear hk); (try clear hi); (try clear ho0)) | (go_at_call 17; (with_reducible refine (lampblacklaw07_awake.calls (hGL := (Qlg)) kj26  t748 _ A70.out).mono ?_); rintro e w91 ⟨rfl, hb⟩; have n0_ := Aside0.mk (Kd.R_below (Qro HO_5.out) hb); have n1_ := Aside0.mk (Kd.R_below (Qro HO724.out) hb); have n2_ := Aside0.mk (Kd.R_below (Qro HO727.out) hb); have n3_ := Aside0.mk (Kd.R_below (Qro HO732.out) hb); have n4_ := Aside0.mk (Kd.R_below (Qro HO738.out) hb); have n5_ := Aside0.mk (Kd.R_below (Qro HO743.out) hb); have n6_ := Aside0.mk (Kd.R_below (Qro HO747.out) hb); have n7_ := Aside0.mk (below_step (Qaw) hb); clear HO_5; clear HO724; clear HO727; clear HO732; clear HO738; clear HO743; clear HO747; clear HB; have HO_5 := n0_; have HO724 := n1_; have HO727 := n2_; have HO732 := n3_; have HO738 := n4_; have HO743 := n5_; have HO747 := n6_; have HB := n7_; clear n0_ n1_ n2_ n3_ n4_ n5_ n6_ n7_; (try clear hb); (try clear hb2); (try clear hk); (try clear hi)))
                  go_ret
                  exact ⟨by first | rfl | (simp [errW_none, errW_some] <;> rfl) | (simp only [← hji47]; first | rfl | (simp [errW_none, errW_some] <;> rfl)) | (simp [*, errW_none, errW_some] <;> rfl), by repeat (first | (with_reducible first | exact HB.out | apply below_alloc | apply pw_below_drewN | apply below_drew1) | exact HB.out)⟩
                 ·rw [if_neg c69] at H
                  have c69b0 : (t745 == 0) = false := beq_eq_false_iff_ne.mpr c69
                  have c69b1 : (t745 != 0) = true := bne_iff_ne.mpr c69
                  obtain rfl := Option.some.inj H
                  obtain ⟨Ao92, co92, eo92⟩ := Kd.R_slice HO_5.out
                  subst eo92
                  try go_wp2
                  have n0_ := Aside0.mk (Kd.R_drew HO_5.out)
                  have n1_ := Aside0.mk (below_drew1 HB.out)
                  clear HO_5
                  clear HB
                  have HO_5 := n0_
                  have HB := n1_
                  clear n0_ n1_
                  have q94 : ((ji47) : Int) ≤ ((t690.length : Int) : Int) := of_decide_eq_true (by first | (with_reducible assumption) | assumption)
                  obtain ⟨i094, hi094, _, hsz94, _⟩ := info_parts info3
                  have hroom94 : t690.length ≤ co92 := (Kd.R_reads' HO_5.out).2.1
                  have hC94 : Kd.C (Kd.int .i64) _ Ao92 t690.length t690 := (Kd.R_reads' HO_5.out).2.2
                  have q094 : (0 : Int) ≤ ((ji47) : Int) := of_decide_eq_true (by first | (with_reducible assumption) | assumption)
                  have hcut94 := cut_from (P := Tryd.prog) 22 3 .i64 Tryd.underlying22 hi094 1 hsz94 Ao92 t690.length co92 (ji47) q094 q94
                  have hr94 := Kd.C_drop (m := ((ji47) : Int).toNat) (c := co92) hC94 (by omega) hroom94
                  obtain ⟨A94, hA94⟩ : ∃ A1, A1 = (if co92 = ((ji47) : Int).toNat then Ao92 else (Ao92 : Option Addr).map (·.add (((ji47) : Int).toNat * 1))) := ⟨_, rfl⟩
                  obtain ⟨c94, hc94⟩ : ∃ c1, c1 = co92 - ((ji47) : Int).toNat := ⟨_, rfl⟩
                  have hy94 : y711.length = t690.length - ((ji47) : Int).toNat := (by rw [Ny711.out, List.length_drop] <;> omega)
                  rw [show (t690).drop ((ji47) : Int).toNat = y711 from Ny711.out.symm] at hr94
                  replace hr94 : Kd.C (Kd.int .i64) _ A94 y711.length y711 := (by rw [hA94]; exact hr94)
                  rw [← hy94, ← hA94, ← hc94] at hcut94
                  have HR714 := Aside0.mk hr94
                  have HC714 := Aside0.mk (show y711.length ≤ c94 from by rw [hy94, hc94]; exact Nat.sub_le_sub_right hroom94 _)
                  clear hr94 hC94 hroom94 hi094 hsz94 hc94
                  have KY94 := Aside0.mk hy94
                  have KA94 := Aside0.mk hA94
                  clear hy94 hA94
                  have KL94 := Aside0.mk (show ((ji47) : Int).toNat ≤ t690.length from by omega)
                  replace q94 := eq_true q94
                  have q95 : ((ji47) : Int) ≤ ((t690.length : Int) : Int) := of_decide_eq_true (by first | (with_reducible assumption) | assumption)
                  obtain ⟨i095, hi095, _, hsz95, _⟩ := info_parts info3
                  have hroom95 : t690.length ≤ co92 := (Kd.R_reads' HO_5.out).2.1
                  have hC95 : Kd.C (Kd.int .i64) _ Ao92 t690.length t690 := (Kd.R_reads' HO_5.out).2.2
                  have hcut95 := cut_to (P := Tryd.prog) 22 3 .i64 Tryd.underlying22 hi095 Ao92 t690.length co92 (ji47) (of_decide_eq_true (by first | (with_reducible assumption) | assumption)) q95 hroom95
                  have hr95 := Kd.C_take (m := ((ji47) : Int).toNat) hC95 (by omega)
                  have hy95 : y718.length = ((ji47) : Int).toNat := (by rw [Ny718.out, List.length_take]; omega)
                  rw [← Ny718.out] at hr95
                  rw [← hy95] at hcut95
                  have HR721 := Aside0.mk hr95
                  have HC721 := Aside0.mk (show y718.length ≤ co92 from by omega)
                  clear hr95 hC95 hroom95 hi095 hsz95
                  have KY95 := Aside0.mk hy95
                  clear hy95
                  have KL95 := Aside0.mk (show ((ji47) : Int).toNat ≤ t690.length from by omega)
                  replace q95 := eq_true q95
                  refine start_ (n := 9) (S := fun w' => True) (ds := []) (Qbz 9 0) (by kernel_rfl) rfl rfl trivial (fun hHeld => ?_); refine with_tabW lampblacklaw07_MinorRound.tab14 lampblacklaw07_MinorRound.bits14 (fun HT_ HW_ => ?_)
                  generalize wc.drew = w93 at HO_5 HB HR714 HR721 hHeld ⊢
                  refine pure_ (i := 0) (N := some 93) (v := ?_) (a' := ?_) (Qbz 9 1) rfl rfl (any_of HT_.out (by kernel_rfl)) (fun _ _ _ h => h) (Or.inl ⟨by rfl, ?_⟩) ?_ ?_
                  rotate_left
                  ·intro w'
                   go_simp
                   with_reducible rfl
                  rotate_left
                  ·simp only [Act.put, Qp1, Qp2, Qp3, i64_w, i32_w]
                   rfl
                  refine pure_ (i := 1) (N := some 94) (v := ?_) (a' := ?_) (Qbz 9 3) rfl rfl (any_of HT_.out (by kernel_rfl)) (fun _ _ _ h => h) (Or.inl ⟨by rfl, ?_⟩) ?_ ?_
                  rotate_left
                  ·intro w'
                   go_simp
                   with_reducible rfl
                  rotate_left
                  ·simp only [Act.put, Qp1, Qp2, Qp3, i64_w, i32_w]
                   rfl
                  refine pure_ (i := 2) (N := some 95) (v := ?_) (a' := ?_) (Qbz 9 7) rfl rfl (any_of HT_.out (by kernel_rfl)) (fun _ _ _ h => h) (Or.inl ⟨by rfl, ?_⟩) ?_ ?_
                  rotate_left
                  ·intro w'
                   go_simp
                   with_reducible rfl
                  rotate_left
                  ·simp only [Act.put, Qp1, Qp2, Qp3, i64_w, i32_w]
                   rfl
                  refine pure_ (i := 4) (N := some 97) (v := ?_) (a' := ?_) (Qbz 9 23) rfl rfl (any_of HT_.out (by kernel_rfl)) (fun _ _ _ h => h) (Or.inl ⟨by rfl, ?_⟩) ?_ ?_
                  rotate_left
                  ·intro w'
                   go_simp
                   with_reducible rfl
                  rotate_left
                  ·simp only [Act.put, Qp1, Qp2, Qp3, i64_w, i32_w]
                   rfl
                  refine pure_ (i := 5) (N := some 98) (v := ?_) (a' := ?_) (Qbz 9 55) rfl rfl (any_of HT_.out (by kernel_rfl)) (fun _ _ _ h => h) (Or.inl ⟨by rfl, ?_⟩) ?_ ?_
                  rotate_left
                  ·intro w'
                   go_simp
                   with_reducible rfl
                  rotate_left
                  ·simp only [Act.put, Qp1, Qp2, Qp3, i64_w, i32_w]
                   rfl
                  refine pure_ (i := 6) (N := some 99) (v := ?_) (a' := ?_) (Qbz 9 119) rfl rfl (any_of HT_.out (by kernel_rfl)) (fun _ _ _ h => h) (Or.inl ⟨by rfl, ?_⟩) ?_ ?_
                  rotate_left
                  ·intro w'
                   go_simp
                   with_reducible rfl
                  rotate_left
                  ·simp only [Act.put, Qp1, Qp2, Qp3, i64_w, i32_w]
                   rfl
                  refine one_ (i := 3) (N := some 96) (Qbz 9 127) rfl rfl (one_of HT_.out (by kernel_rfl)) (by decide) (fun K hK => ?_)
                  refine goes_ Tryd.func57 (by kernel_rfl) rfl #[.slice A94 y711.length c94] (by rfl) rfl rfl (Qls) ?_
                  with_reducible refine (slices_Clone_int_int.calls _ _ y711 t715 _ ?side1 ?side2 A50.out).mono ?_
                  (case side1 => repeat (first | exact (by repeat (first | (with_reducible exact HR714.out) | (with_reducible refine Kd.C_alloc ?_ _) | (with_reducible refine Kd.C_drewN ?_ _) | (with_reducible refine Kd.C_drew ?_) | exact HR714.out)) | (with_reducible refine Kd.C_alloc ?_ _) | (with_reducible refine Kd.C_drewN ?_ _) | (with_reducible refine Kd.C_drew ?_)))
                  (case side2 => exact HC714.out)
                  rintro e w96 ⟨v716, rfl, ho0, hb⟩
                  refine ⟨_, rfl, ?_⟩
                  have n0_ := Aside0.mk (Kd.R_elder' (Qro HO_5.out) (Kd.R_base ho0) hb)
                  have n1_ := Aside0.mk (Kd.R_lower (Kd.R_new' ho0 (Kd.R_lt (Qro HO_5.out))) (below_size (Qaw)))
                  have n2_ := Aside0.mk (Kd.C_below (by repeat (first | (with_reducible exact HR714.out) | (with_reducible refine Kd.C_alloc ?_ _) | (with_reducible refine Kd.C_drewN ?_ _) | (with_reducible refine Kd.C_drew ?_) | exact HR714.out)) hb)
                  have n3_ := Aside0.mk (Kd.C_below (by repeat (first | (with_reducible exact HR721.out) | (with_reducible refine Kd.C_alloc ?_ _) | (with_reducible refine Kd.C_drewN ?_ _) | (with_reducible refine Kd.C_drew ?_) | exact HR721.out)) hb)
                  have n4_ := Aside0.mk (below_step (Qaw) hb)
                  clear HO_5
                  clear HR714
                  clear HR721
                  clear HB
                  have HO_5 := n0_
                  have HO717 := n1_
                  have HR714 := n2_
                  have HR721 := n3_
                  have HB := n4_
                  clear n0_ n1_ n2_ n3_ n4_
                  (try clear hb)
                  (try clear hb2)
                  (try clear hk)
                  (try clear hi)
                  (try clear ho0)
                  refine hK.out _ _ trivial (fun hHeld => ?_)
                  clear hK K
                  refine norm_ (a' := ?_) ?_ ?_
                  rotate_left
                  ·show Act.put _ (some 96) _ = _
                   simp only [Act.put, Qp1, Qp2, Qp3, i64_w, i32_w]
                   rfl
                  refine one_ (i := 7) (N := some 100) (Qbz 9 255) rfl rfl (one_of HT_.out (by kernel_rfl)) (by decide) (fun K hK => ?_)
                  refine Kd.R_append_rows_step (Kd.int .i64) (w0 := w) w.heap.size (by rfl) (.tmp 96) (.tmp 99) 22 3 (.int .i64 0) 8 rfl Tryd.underlying22 info3 rfl (by decide) (by omega) v716 t715 y718 _ _ _ (fun k_ => some k_ ≠ (.slice Ao92 t690.length co92 : Value).ownBlock) (fun _ => False) rfl rfl ?aO ?aR (fun _ _ h => h) (fun _ h => h.elim) ?aF ?aB ?aS ?aL ?_
                  (case aR => repeat (first | exact (by repeat (first | (with_reducible exact HR721.out) | (with_reducible refine Kd.C_alloc ?_ _) | (with_reducible refine Kd.C_drewN ?_ _) | (with_reducible refine Kd.C_drew ?_) | exact HR721.out)) | (with_reducible refine Kd.C_alloc ?_ _) | (with_reducible refine Kd.C_drewN ?_ _) | (with_reducible refine Kd.C_drew ?_)))
                  (case aB => exact (Qaw))
                  (case aF => exact (fun k_ hk => Kd.fresh' (Kd.R_lt (Qro HO_5.out)) k_ hk))
                  (case aO => exact (by (with_reducible repeat (first | apply Kd.R_alloc | apply Kd.R_drewN | apply Kd.R_drew)); exact Kd.R_mono HO717.out (fun _ hk => hk.2)))
                  (case aS => exact (below_size (Qaw)))
                  (case aL => have := LMc53.out; omega)
                  intro v723 w97 ho hb hg hat
                  rw [← Ny722.out] at ho
                  have n0_ := Aside0.mk (Kd.R_after (ok := (fun _ => True)) (Qro HO_5.out) hg hat)
                  have n1_ := Aside0.mk (hb)
                  have n2_ := Aside0.mk ((show Kd.C (Kd.int .i64) w97 A94 y711.length y711 from by rw [Ny711.out, KA94.out]; exact Kd.C_drop (m := ((ji47) : Int).toNat) (c := co92) ((Kd.R_reads' (Kd.R_after (ok := (fun _ => True)) (Qro HO_5.out) hg hat)).2.2) KL94.out ((Kd.R_reads' (Kd.R_after (ok := (fun _ => True)) (Qro HO_5.out) hg hat)).2.1)))
                  have n3_ := Aside0.mk ((show Kd.C (Kd.int .i64) w97 Ao92 y718.length y718 from by rw [Ny718.out]; exact Kd.C_take (m := ((ji47) : Int).toNat) ((Kd.R_reads' (Kd.R_after (ok := (fun _ => True)) (Qro HO_5.out) hg hat)).2.2) KL95.out))
                  have n4_ := Aside0.mk (ho)
                  clear HO_5
                  clear HB
                  clear HR714
                  clear HR721
                  clear HO717
                  have HO_5 := n0_
                  have HB := n1_
                  have HR714 := n2_
                  have HR721 := n3_
                  have HO724 := n4_
                  clear n0_ n1_ n2_ n3_ n4_
                  clear ho hb hg hat
                  refine hK.out _ _ trivial (fun hHeld => ?_)
                  clear hK K
                  refine norm_ (a' := ?_) ?_ ?_
                  rotate_left
                  ·show Act.put _ (some 100) _ = _
                   simp only [Act.put, Qp1, Qp2, Qp3, i64_w, i32_w]
                   rfl
                  refine pure_ (i := 8) (N := some 13) (v := ?_) (a' := ?_) (Qbz 9 511) rfl rfl (any_of HT_.out (by kernel_rfl)) (fun _ _ _ h => h) (Or.inl ⟨by rfl, ?_⟩) ?_ ?_
                  rotate_left
                  ·intro w'
                   go_simp
                   with_reducible rfl
                  rotate_left
                  ·simp only [Act.put, Qp1, Qp2, Qp3, i64_w, i32_w]
                   rfl
                  refine done_ (done_of HT_.out (by kernel_rfl)) ?_
                  try go_wp2_with (first | ((with_reducible refine gate_callee (f := 22) rfl ?_); refine goesL_ (some 103) rfl rfl Tryd.func22 (by kernel_rfl) rfl #[.slice A0 l0.length c0] rfl (Qls) ?_; (with_reducible refine (lampblacklaw07_Few.calls _ _ l0 t725 _ ?side1 ?side2 A54.out).mono ?_); (case side1 => exact Qsc (Kd.C_below HR0.out HB.out)); (case side2 => exact HC0.out); rintro e w98 ⟨v726, rfl, ho0, hb⟩; refine ⟨_, rfl, ?_⟩; have n0_ := Aside0.mk (Kd.R_elder' (Qro HO_5.out) (Kd.R_base ho0) hb); have n1_ := Aside0.mk (Kd.R_elder' (Qro HO724.out) (Kd.R_base ho0) hb); have n2_ := Aside0.mk (Kd.R_lower (Kd.R_new' (Kd.R_new' ho0 (Kd.R_lt (Qro HO_5.out))) (Kd.R_lt (Qro HO724.out))) (below_size (Qaw))); have n3_ := Aside0.mk (Kd.C_below (by repeat (first | (with_reducible exact HR714.out) | (with_reducible refine Kd.C_alloc ?_ _) | (with_reducible refine Kd.C_drewN ?_ _) | (with_reducible refine Kd.C_drew ?_) | exact HR714.out)) hb); have n4_ := Aside0.mk (Kd.C_below (by repeat (first | (with_reducible exact HR721.out) | (with_reducible refine Kd.C_alloc ?_ _) | (with_reducible refine Kd.C_drewN ?_ _) | (with_reducible refine Kd.C_drew ?_) | exact HR721.out)) hb); have n5_ := Aside0.mk (below_step (Qaw) hb); clear HO_5; clear HO724; clear HR714; clear HR721; clear HB; have HO_5 := n0_; have HO724 := n1_; have HO727 := n2_; have HR714 := n3_; have HR721 := n4_; have HB := n5_; clear n0_ n1_ n2_ n3_ n4_ n5_; (try clear hb); (try clear hb2); (try clear hk); (try clear hi); (try clear ho0); obtain ⟨Ao99, co99, eo99⟩ := Kd.R_slice HO727.out; subst eo99) | ((with_reducible refine gate_callee (f := 48) rfl ?_); refine goesL_ (some 105) rfl rfl Tryd.func48 (by kernel_rfl) rfl #[.slice Ao99 t725.length co99, .slice Ao92 t690.length co92] rfl (Qls) ?_; (with_reducible refine (minor_CheckOuter.calls kj26 _ _ t725 _ _ t690 true t729 _ ?side1 ?side2 ?side3 ?side4 A55.out).mono ?_); (case side1 => exact Qsc (Kd.R_reads' HO727.out).2.2); (case side2 => exact (Kd.R_reads' HO727.out).2.1); (case side3 => exact Qsc (Kd.R_reads' HO_5.out).2.2); (case side4 => exact (Kd.R_reads' HO_5.out).2.1); rintro e w100 ⟨rfl, hb⟩; refine ⟨_, rfl, ?_⟩; have n0_ := Aside0.mk (Kd.R_below (Qro HO_5.out) hb); have n1_ := Aside0.mk (Kd.R_below (Qro HO724.out) hb); have n2_ := Aside0.mk (Kd.R_below (Qro HO727.out) hb); have n3_ := Aside0.mk (Kd.C_below (by repeat (first | (with_reducible exact HR714.out) | (with_reducible refine Kd.C_alloc ?_ _) | (with_reducible refine Kd.C_drewN ?_ _) | (with_reducible refine Kd.C_drew ?_) | exact HR714.out)) hb); have n4_ := Aside0.mk (Kd.C_below (by repeat (first | (with_reducible exact HR721.out) | (with_reducible refine Kd.C_alloc ?_ _) | (with_reducible refine Kd.C_drewN ?_ _) | (with_reducible refine Kd.C_drew ?_) | exact HR721.out)) hb); have n5_ := Aside0.mk (below_step (Qaw) hb); clear HO_5; clear HO724; clear HO727; clear HR714; clear HR721; clear HB; have HO_5 := n0_; have HO724 := n1_; have HO727 := n2_; have HR714 := n3_; have HR721 := n4_; have HB := n5_; clear n0_ n1_ n2_ n3_ n4_ n5_; (try clear hb); (try clear hb2); (try clear hk); (try clear hi)) | ((with_reducible refine gate_callee (f := 22) rfl ?_); refine goesL_ (some 110) rfl rfl Tryd.func22 (by kernel_rfl) rfl #[.slice A0 l0.length c0] rfl (Qls) ?_; (with_reducible refine (lampblacklaw07_Few.calls _ _ l0 t730 _ ?side1 ?side2 A56.out).mono ?_); (case side1 => exact Qsc (Kd.C_below HR0.out HB.out)); (case side2 => exact HC0.out); rintro e w101 ⟨v731, rfl, ho0, hb⟩; refine ⟨_, rfl, ?_⟩; have n0_ := Aside0.mk (Kd.R_elder' (Qro HO_5.out) (Kd.R_base ho0) hb); have n1_ := Aside0.mk (Kd.R_elder' (Qro HO724.out) (Kd.R_base ho0) hb); have n2_ := Aside0.mk (Kd.R_elder' (Qro HO727.out) (Kd.R_base ho0) hb); have n3_ := Aside0.mk (Kd.R_lower (Kd.R_new' (Kd.R_new' (Kd.R_new' ho0 (Kd.R_lt (Qro HO_5.out))) (Kd.R_lt (Qro HO724.out))) (Kd.R_lt (Qro HO727.out))) (below_size (Qaw))); have n4_ := Aside0.mk (Kd.C_below (by repeat (first | (with_reducible exact HR714.out) | (with_reducible refine Kd.C_alloc ?_ _) | (with_reducible refine Kd.C_drewN ?_ _) | (with_reducible refine Kd.C_drew ?_) | exact HR714.out)) hb); have n5_ := Aside0.mk (Kd.C_below (by repeat (first | (with_reducible exact HR721.out) | (with_reducible refine Kd.C_alloc ?_ _) | (with_reducible refine Kd.C_drewN ?_ _) | (with_reducible refine Kd.C_drew ?_) | exact HR721.out)) hb); have n6_ := Aside0.mk (below_step (Qaw) hb); clear HO_5; clear HO724; clear HO727; clear HR714; clear HR721; clear HB; have HO_5 := n0_; have HO724 := n1_; have HO727 := n2_; have HO732 := n3_; have HR714 := n4_; have HR721 := n5_; have HB := n6_; clear n0_ n1_ n2_ n3_ n4_ n5_ n6_; (try clear hb); (try clear hb2); (try clear hk); (try clear hi); (try clear ho0); obtain ⟨Ao102, co102, eo102⟩ := Kd.R_slice HO732.out; subst eo102; obtain ⟨Ao103, co103, eo103⟩ := Kd.R_slice HO724.out; subst eo103) | ((with_reducible refine gate_callee (f := 48) rfl ?_); refine goesL_ (some 112) rfl rfl Tryd.func48 (by kernel_rfl) rfl #[.slice Ao102 t730.length co102, .slice Ao103 y722.length co103] rfl (Qls) ?_; (with_reducible refine (minor_CheckOuter.calls kj26 _ _ t730 _ _ y722 true t734 _ ?side1 ?side2 ?side3 ?side4 A57.out).mono ?_); (case side1 => exact Qsc (Kd.R_reads' HO732.out).2.2); (case side2 => exact (Kd.R_reads' HO732.out).2.1); (case side3 => exact Qsc (Kd.R_reads' HO724.out).2.2); (case side4 => exact (Kd.R_reads' HO724.out).2.1); rintro e w104 ⟨rfl, hb⟩; refine ⟨_, rfl, ?_⟩; have n0_ := Aside0.mk (Kd.R_below (Qro HO_5.out) hb); have n1_ := Aside0.mk (Kd.R_below (Qro HO724.out) hb); have n2_ := Aside0.mk (Kd.R_below (Qro HO727.out) hb); have n3_ := Aside0.mk (Kd.R_below (Qro HO732.out) hb); have n4_ := Aside0.mk (Kd.C_below (by repeat (first | (with_reducible exact HR714.out) | (with_reducible refine Kd.C_alloc ?_ _) | (with_reducible refine Kd.C_drewN ?_ _) | (with_reducible refine Kd.C_drew ?_) | exact HR714.out)) hb); have n5_ := Aside0.mk (Kd.C_below (by repeat (first | (with_reducible exact HR721.out) | (with_reducible refine Kd.C_alloc ?_ _) | (with_reducible refine Kd.C_drewN ?_ _) | (with_reducible refine Kd.C_drew ?_) | exact HR721.out)) hb); have n6_ := Aside0.mk (below_step (Qaw) hb); clear HO_5; clear HO724; clear HO727; clear HO732; clear HR714; clear HR721; clear HB; have HO_5 := n0_; have HO724 := n1_; have HO727 := n2_; have HO732 := n3_; have HR714 := n4_; have HR721 := n5_; have HB := n6_; clear n0_ n1_ n2_ n3_ n4_ n5_ n6_; (try clear hb); (try clear hb2); (try clear hk); (try clear hi)) | ((with_reducible refine gate_callee (f := 58) rfl ?_); refine goesL_ (some 116) rfl rfl Tryd.func58 (by kernel_rfl) rfl #[.slice Ao103 y722.length co103] rfl (Qls) ?_; (with_reducible refine (slices_Reverse_int_int.calls kj26 (fun k_ => some k_ = (.slice Ao103 y722.length co103 : Value).ownBlock) (.slice Ao103 y722.length co103) y722 t735 w _ ?side1 ?side2 A58.out).mono ?_); (case side1 => repeat (first | (with_reducible first | exact HB.out | apply below_alloc | apply pw_below_drewN | apply below_drew1) | exact HB.out)); (case side2 => exact Kd.R_tight rfl HO724.out); rintro e w105 ⟨rfl, hy0, hb, hkp⟩; refine ⟨_, rfl, ?_⟩; have n0_ := Aside0.mk (Kd.R_mono (ok' := fun k_ => some k_ ≠ (.slice Ao103 y722.length co103 : Value).ownBlock ∧ some k_ ≠ (.slice Ao99 t725.length co99 : Value).ownBlock ∧ some k_ ≠ (.slice Ao102 t730.length co102 : Value).ownBlock) (Kd.R_keptB (HO_5.out) hkp (fun k_ hk_ hs_ => (hk_.1.1.2) hs_)) (fun k_ hk_ => ⟨hk_.1.1.1.2, hk_.1.1.2, hk_.1.2⟩)); have n1_ := Aside0.mk (Kd.R_reok rfl hy0 (fun k_ e_ => HO724.out.1 k_ e_)); have n2_ := Aside0.mk (Kd.R_mono (ok' := fun k_ => some k_ ≠ (.slice Ao92 t690.length co92 : Value).ownBlock ∧ some k_ ≠ (.slice Ao103 y722.length co103 : Value).ownBlock ∧ some k_ ≠ (.slice Ao102 t730.length co102 : Value).ownBlock) (Kd.R_keptB (HO727.out) hkp (fun k_ hk_ hs_ => (hk_.1.2) hs_)) (fun k_ hk_ => ⟨hk_.1.1.1.2, hk_.1.1.2, hk_.1.2⟩)); have n3_ := Aside0.mk (Kd.R_mono (ok' := fun k_ => some k_ ≠ (.slice Ao92 t690.length co92 : Value).ownBlock ∧ some k_ ≠ (.slice Ao103 y722.length co103 : Value).ownBlock ∧ some k_ ≠ (.slice Ao99 t725.length co99 : Value).ownBlock) (Kd.R_keptB (HO732.out) hkp (fun k_ hk_ hs_ => (hk_.1.2) hs_)) (fun k_ hk_ => ⟨hk_.1.1.1.2, hk_.1.1.2, hk_.1.2⟩)); have n4_ := Aside0.mk (hb); clear HO_5; clear HO724; clear HO727; clear HO732; clear HB; have HO_5 := n0_; have HO724 := n1_; have HO727 := n2_; have HO732 := n3_; have HB := n4_; clear n0_ n1_ n2_ n3_ n4_; (try clear hb); (try clear hkp); (try clear hy0)) | ((with_reducible refine gate_callee (f := 22) rfl ?_); refine goesL_ (some 119) rfl rfl Tryd.func22 (by kernel_rfl) rfl #[.slice A0 l0.length c0] rfl (Qls) ?_; (with_reducible refine (lampblacklaw07_Few.calls _ _ l0 t736 _ ?side1 ?side2 A59.out).mono ?_); (case side1 => exact Qsc (Kd.C_below HR0.out HB.out)); (case side2 => exact HC0.out); rintro e w106 ⟨v737, rfl, ho0, hb⟩; refine ⟨_, rfl, ?_⟩; have n0_ := Aside0.mk (Kd.R_elder' (Qro HO_5.out) (Kd.R_base ho0) hb); have n1_ := Aside0.mk (Kd.R_elder' (Qro HO724.out) (Kd.R_base ho0) hb); have n2_ := Aside0.mk (Kd.R_elder' (Qro HO727.out) (Kd.R_base ho0) hb); have n3_ := Aside0.mk (Kd.R_elder' (Qro HO732.out) (Kd.R_base ho0) hb); have n4_ := Aside0.mk (Kd.R_lower (Kd.R_new' (Kd.R_new' (Kd.R_new' (Kd.R_new' ho0 (Kd.R_lt (Qro HO_5.out))) (Kd.R_lt (Qro HO724.out))) (Kd.R_lt (Qro HO727.out))) (Kd.R_lt (Qro HO732.out))) (below_size (Qaw))); have n5_ := Aside0.mk (below_step (Qaw) hb); clear HO_5; clear HO724; clear HO727; clear HO732; clear HB; have HO_5 := n0_; have HO724 := n1_; have HO727 := n2_; have HO732 := n3_; have HO738 := n4_; have HB := n5_; clear n0_ n1_ n2_ n3_ n4_ n5_; (try clear hb); (try clear hb2); (try clear hk); (try clear hi); (try clear ho0); obtain ⟨Ao107, co107, eo107⟩ := Kd.R_slice HO738.out; subst eo107) | ((with_reducible refine gate_callee (f := 48) rfl ?_); refine goesL_ (some 121) rfl rfl Tryd.func48 (by kernel_rfl) rfl #[.slice Ao107 t736.length co107, .slice Ao103 t735.length co103] rfl (by (try simp only [List.map_toArray, List.map_cons, List.map_nil]); first | done | (rw [show t735.length = y722.length from (Kd.R_reads' HO724.out).1.symm] <;> rfl) | rfl | (simp only [List.length_drop, List.length_take]; rfl)) ?_; (with_reducible refine (minor_CheckOuter.calls kj26 _ _ t736 _ _ t735 true t740 _ ?side1 ?side2 ?side3 ?side4 A60.out).mono ?_); (case side1 => exact Qsc (Kd.R_reads' HO738.out).2.2); (case side2 => exact (Kd.R_reads' HO738.out).2.1); (case side3 => exact Qsc (Kd.R_reads' HO724.out).2.2); (case side4 => rw [show t735.length = y722.length from (Kd.R_reads' HO724.out).1.symm]; exact (Kd.R_reads' HO724.out).2.1); rintro e w108 ⟨rfl, hb⟩; refine ⟨_, rfl, ?_⟩; have n0_ := Aside0.mk (Kd.R_below (Qro HO_5.out) hb); have n1_ := Aside0.mk (Kd.R_below (Qro HO724.out) hb); have n2_ := Aside0.mk (Kd.R_below (Qro HO727.out) hb); have n3_ := Aside0.mk (Kd.R_below (Qro HO732.out) hb); have n4_ := Aside0.mk (Kd.R_below (Qro HO738.out) hb); have n5_ := Aside0.mk (below_step (Qaw) hb); clear HO_5; clear HO724; clear HO727; clear HO732; clear HO738; clear HB; have HO_5 := n0_; have HO724 := n1_; have HO727 := n2_; have HO732 := n3_; have HO738 := n4_; have HB := n5_; clear n0_ n1_ n2_ n3_ n4_ n5_; (try clear hb); (try clear hb2); (try clear hk); (try clear hi)) | ((with_reducible refine gate_callee (f := 22) rfl ?_); refine goesL_ (some 126) rfl rfl Tryd.func22 (by kernel_rfl) rfl #[.slice A0 l0.length c0] rfl (Qls) ?_; (with_reducible refine (lampblacklaw07_Few.calls _ _ l0 t741 _ ?side1 ?side2 A61.out).mono ?_); (case side1 => exact Qsc (Kd.C_below HR0.out HB.out)); (case side2 => exact HC0.out); rintro e w109 ⟨v742, rfl, ho0, hb⟩; refine ⟨_, rfl, ?_⟩; have n0_ := Aside0.mk (Kd.R_elder' (Qro HO_5.out) (Kd.R_base ho0) hb); have n1_ := Aside0.mk (Kd.R_elder' (Qro HO724.out) (Kd.R_base ho0) hb); have n2_ := Aside0.mk (Kd.R_elder' (Qro HO727.out) (Kd.R_base ho0) hb); have n3_ := Aside0.mk (Kd.R_elder' (Qro HO732.out) (Kd.R_base ho0) hb); have n4_ := Aside0.mk (Kd.R_elder' (Qro HO738.out) (Kd.R_base ho0) hb); have n5_ := Aside0.mk (Kd.R_lower (Kd.R_new' (Kd.R_new' (Kd.R_new' (Kd.R_new' (Kd.R_new' ho0 (Kd.R_lt (Qro HO_5.out))) (Kd.R_lt (Qro HO724.out))) (Kd.R_lt (Qro HO727.out))) (Kd.R_lt (Qro HO732.out))) (Kd.R_lt (Qro HO738.out))) (below_size (Qaw))); have n6_ := Aside0.mk (below_step (Qaw) hb); clear HO_5; clear HO724; clear HO727; clear HO732; clear HO738; clear HB; have HO_5 := n0_; have HO724 := n1_; have HO727 := n2_; have HO732 := n3_; have HO738 := n4_; have HO743 := n5_; have HB := n6_; clear n0_ n1_ n2_ n3_ n4_ n5_ n6_; (try clear hb); (try clear hb2); (try clear hk); (try clear hi); (try clear ho0); obtain ⟨Ao110, co110, eo110⟩ := Kd.R_slice HO743.out; subst eo110) | ((with_reducible refine gate_callee (f := 40) rfl ?_); refine goesL_ (some 127) rfl rfl Tryd.func40 (by kernel_rfl) rfl #[.slice Ao110 t741.length co110] rfl (Qls) ?_; (with_reducible refine (minor_Reduce.calls (hGL := (Qlg)) _ _ t741 t744 t745 _ ?side1 ?side2 A62.out).mono ?_); (case side1 => exact Qsc (Kd.R_reads' HO743.out).2.2); (case side2 => exact (Kd.R_reads' HO743.out).2.1); rintro e w111 ⟨v746, rfl, ho0, hb⟩; refine ⟨_, rfl, ?_⟩; have n0_ := Aside0.mk (Kd.R_below (Qro HO_5.out) hb); have n1_ := Aside0.mk (Kd.R_below (Qro HO724.out) hb); have n2_ := Aside0.mk (Kd.R_below (Qro HO727.out) hb); have n3_ := Aside0.mk (Kd.R_below (Qro HO732.out) hb); have n4_ := Aside0.mk (Kd.R_below (Qro HO738.out) hb); have n5_ := Aside0.mk (Kd.R_below (Qro HO743.out) hb); have n6_ := Aside0.mk (Kd.R_lower ho0 (below_size (Qaw))); have n7_ := Aside0.mk (below_step (Qaw) hb); clear HO_5; clear HO724; clear HO727; clear HO732; clear HO738; clear HO743; clear HB; have HO_5 := n0_; have HO724 := n1_; have HO727 := n2_; have HO732 := n3_; have HO738 := n4_; have HO743 := n5_; have HO747 := n6_; have HB := n7_; clear n0_ n1_ n2_ n3_ n4_ n5_ n6_ n7_; (try clear hb); (try clear hb2); (try clear hk); (try clear hi); (try clear ho0)))
                  go_ret
                  exact ⟨by first | rfl | (simp [errW_none, errW_some] <;> rfl) | (simp only [← hji47]; first | rfl | (simp [errW_none, errW_some] <;> rfl)) | (simp [*, errW_none, errW_some] <;> rfl), by repeat (first | (with_reducible first | exact HB.out | apply below_alloc | apply pw_below_drewN | apply below_drew1) | exact HB.out)⟩
                ·rw [if_neg c68] at H
                 have c68b0 : (t740 == 0) = false := beq_eq_false_iff_ne.mpr c68
                 have c68b1 : (t740 != 0) = true := bne_iff_ne.mpr c68
                 obtain rfl := Option.some.inj H
                 obtain ⟨Ao112, co112, eo112⟩ := Kd.R_slice HO_5.out
                 subst eo112
                 try go_wp2
                 have n0_ := Aside0.mk (Kd.R_drew HO_5.out)
                 have n1_ := Aside0.mk (below_drew1 HB.out)
                 clear HO_5
                 clear HB
                 have HO_5 := n0_
                 have HB := n1_
                 clear n0_ n1_
                 have q114 : ((ji47) : Int) ≤ ((t690.length : Int) : Int) := of_decide_eq_true (by first | (with_reducible assumption) | assumption)
                 obtain ⟨i0114, hi0114, _, hsz114, _⟩ := info_parts info3
                 have hroom114 : t690.length ≤ co112 := (Kd.R_reads' HO_5.out).2.1
                 have hC114 : Kd.C (Kd.int .i64) _ Ao112 t690.length t690 := (Kd.R_reads' HO_5.out).2.2
                 have q0114 : (0 : Int) ≤ ((ji47) : Int) := of_decide_eq_true (by first | (with_reducible assumption) | assumption)
                 have hcut114 := cut_from (P := Tryd.prog) 22 3 .i64 Tryd.underlying22 hi0114 1 hsz114 Ao112 t690.length co112 (ji47) q0114 q114
                 have hr114 := Kd.C_drop (m := ((ji47) : Int).toNat) (c := co112) hC114 (by omega) hroom114
                 obtain ⟨A114, hA114⟩ : ∃ A1, A1 = (if co112 = ((ji47) : Int).toNat then Ao112 else (Ao112 : Option Addr).map (·.add (((ji47) : Int).toNat * 1))) := ⟨_, rfl⟩
                 obtain ⟨c114, hc114⟩ : ∃ c1, c1 = co112 - ((ji47) : Int).toNat := ⟨_, rfl⟩
                 have hy114 : y711.length = t690.length - ((ji47) : Int).toNat := (by rw [Ny711.out, List.length_drop] <;> omega)
                 rw [show (t690).drop ((ji47) : Int).toNat = y711 from Ny711.out.symm] at hr114
                 replace hr114 : Kd.C (Kd.int .i64) _ A114 y711.length y711 := (by rw [hA114]; exact hr114)
                 rw [← hy114, ← hA114, ← hc114] at hcut114
                 have HR714 := Aside0.mk hr114
                 have HC714 := Aside0.mk (show y711.length ≤ c114 from by rw [hy114, hc114]; exact Nat.sub_le_sub_right hroom114 _)
                 clear hr114 hC114 hroom114 hi0114 hsz114 hc114
                 have KY114 := Aside0.mk hy114
                 have KA114 := Aside0.mk hA114
                 clear hy114 hA114
                 have KL114 := Aside0.mk (show ((ji47) : Int).toNat ≤ t690.length from by omega)
                 replace q114 := eq_true q114
                 have q115 : ((ji47) : Int) ≤ ((t690.length : Int) : Int) := of_decide_eq_true (by first | (with_reducible assumption) | assumption)
                 obtain ⟨i0115, hi0115, _, hsz115, _⟩ := info_parts info3
                 have hroom115 : t690.length ≤ co112 := (Kd.R_reads' HO_5.out).2.1
                 have hC115 : Kd.C (Kd.int .i64) _ Ao112 t690.length t690 := (Kd.R_reads' HO_5.out).2.2
                 have hcut115 := cut_to (P := Tryd.prog) 22 3 .i64 Tryd.underlying22 hi0115 Ao112 t690.length co112 (ji47) (of_decide_eq_true (by first | (with_reducible assumption) | assumption)) q115 hroom115
                 have hr115 := Kd.C_take (m := ((ji47) : Int).toNat) hC115 (by omega)
                 have hy115 : y718.length = ((ji47) : Int).toNat := (by rw [Ny718.out, List.length_take]; omega)
                 rw [← Ny718.out] at hr115
                 rw [← hy115] at hcut115
                 have HR721 := Aside0.mk hr115
                 have HC721 := Aside0.mk (show y718.length ≤ co112 from by omega)
                 clear hr115 hC115 hroom115 hi0115 hsz115
                 have KY115 := Aside0.mk hy115
                 clear hy115
                 have KL115 := Aside0.mk (show ((ji47) : Int).toNat ≤ t690.length from by omega)
                 replace q115 := eq_true q115
                 refine start_ (n := 9) (S := fun w' => True) (ds := []) (Qbz 9 0) (by kernel_rfl) rfl rfl trivial (fun hHeld => ?_); refine with_tabW lampblacklaw07_MinorRound.tab14 lampblacklaw07_MinorRound.bits14 (fun HT_ HW_ => ?_)
                 generalize wc.drew = w113 at HO_5 HB HR714 HR721 hHeld ⊢
                 refine pure_ (i := 0) (N := some 93) (v := ?_) (a' := ?_) (Qbz 9 1) rfl rfl (any_of HT_.out (by kernel_rfl)) (fun _ _ _ h => h) (Or.inl ⟨by rfl, ?_⟩) ?_ ?_
                 rotate_left
                 ·intro w'
                  go_simp
                  with_reducible rfl
                 rotate_left
                 ·simp only [Act.put, Qp1, Qp2, Qp3, i64_w, i32_w]
                  rfl
                 refine pure_ (i := 1) (N := some 94) (v := ?_) (a' := ?_) (Qbz 9 3) rfl rfl (any_of HT_.out (by kernel_rfl)) (fun _ _ _ h => h) (Or.inl ⟨by rfl, ?_⟩) ?_ ?_
                 rotate_left
                 ·intro w'
                  go_simp
                  with_reducible rfl
                 rotate_left
                 ·simp only [Act.put, Qp1, Qp2, Qp3, i64_w, i32_w]
                  rfl
                 refine pure_ (i := 2) (N := some 95) (v := ?_) (a' := ?_) (Qbz 9 7) rfl rfl (any_of HT_.out (by kernel_rfl)) (fun _ _ _ h => h) (Or.inl ⟨by rfl, ?_⟩) ?_ ?_
                 rotate_left
                 ·intro w'
                  go_simp
                  with_reducible rfl
                 rotate_left
                 ·simp only [Act.put, Qp1, Qp2, Qp3, i64_w, i32_w]
                  rfl
                 refine pure_ (i := 4) (N := some 97) (v := ?_) (a' := ?_) (Qbz 9 23) rfl rfl (any_of HT_.out (by kernel_rfl)) (fun _ _ _ h => h) (Or.inl ⟨by rfl, ?_⟩) ?_ ?_
                 rotate_left
                 ·intro w'
                  go_simp
                  with_reducible rfl
                 rotate_left
                 ·simp only [Act.put, Qp1, Qp2, Qp3, i64_w, i32_w]
                  rfl
                 refine pure_ (i := 5) (N := some 98) (v := ?_) (a' := ?_) (Qbz 9 55) rfl rfl (any_of HT_.out (by kernel_rfl)) (fun _ _ _ h => h) (Or.inl ⟨by rfl, ?_⟩) ?_ ?_
                 rotate_left
                 ·intro w'
                  go_simp
                  with_reducible rfl
                 rotate_left
                 ·simp only [Act.put, Qp1, Qp2, Qp3, i64_w, i32_w]
                  rfl
                 refine pure_ (i := 6) (N := some 99) (v := ?_) (a' := ?_) (Qbz 9 119) rfl rfl (any_of HT_.out (by kernel_rfl)) (fun _ _ _ h => h) (Or.inl ⟨by rfl, ?_⟩) ?_ ?_
                 rotate_left
                 ·intro w'
                  go_simp
                  with_reducible rfl
                 rotate_left
                 ·simp only [Act.put, Qp1, Qp2, Qp3, i64_w, i32_w]
                  rfl
                 refine one_ (i := 3) (N := some 96) (Qbz 9 127) rfl rfl (one_of HT_.out (by kernel_rfl)) (by decide) (fun K hK => ?_)
                 refine goes_ Tryd.func57 (by kernel_rfl) rfl #[.slice A114 y711.length c114] (by rfl) rfl rfl (Qls) ?_
                 with_reducible refine (slices_Clone_int_int.calls _ _ y711 t715 _ ?side1 ?side2 A50.out).mono ?_
                 (case side1 => repeat (first | exact (by repeat (first | (with_reducible exact HR714.out) | (with_reducible refine Kd.C_alloc ?_ _) | (with_reducible refine Kd.C_drewN ?_ _) | (with_reducible refine Kd.C_drew ?_) | exact HR714.out)) | (with_reducible refine Kd.C_alloc ?_ _) | (with_reducible refine Kd.C_drewN ?_ _) | (with_reducible refine Kd.C_drew ?_)))
                 (case side2 => exact HC714.out)
                 rintro e w116 ⟨v716, rfl, ho0, hb⟩
                 refine ⟨_, rfl, ?_⟩
                 have n0_ := Aside0.mk (Kd.R_elder' (Qro HO_5.out) (Kd.R_base ho0) hb)
                 have n1_ := Aside0.mk (Kd.R_lower (Kd.R_new' ho0 (Kd.R_lt (Qro HO_5.out))) (below_size (Qaw)))
                 have n2_ := Aside0.mk (Kd.C_below (by repeat (first | (with_reducible exact HR714.out) | (with_reducible refine Kd.C_alloc ?_ _) | (with_reducible refine Kd.C_drewN ?_ _) | (with_reducible refine Kd.C_drew ?_) | exact HR714.out)) hb)
                 have n3_ := Aside0.mk (Kd.C_below (by repeat (first | (with_reducible exact HR721.out) | (with_reducible refine Kd.C_alloc ?_ _) | (with_reducible refine Kd.C_drewN ?_ _) | (with_reducible refine Kd.C_drew ?_) | exact HR721.out)) hb)
                 have n4_ := Aside0.mk (below_step (Qaw) hb)
                 clear HO_5
                 clear HR714
                 clear HR721
                 clear HB
                 have HO_5 := n0_
                 have HO717 := n1_
                 have HR714 := n2_
                 have HR721 := n3_
                 have HB := n4_
                 clear n0_ n1_ n2_ n3_ n4_
                 (try clear hb)
                 (try clear hb2)
                 (try clear hk)
                 (try clear hi)
                 (try clear ho0)
                 refine hK.out _ _ trivial (fun hHeld => ?_)
                 clear hK K
                 refine norm_ (a' := ?_) ?_ ?_
                 rotate_left
                 ·show Act.put _ (some 96) _ = _
                  simp only [Act.put, Qp1, Qp2, Qp3, i64_w, i32_w]
                  rfl
                 refine one_ (i := 7) (N := some 100) (Qbz 9 255) rfl rfl (one_of HT_.out (by kernel_rfl)) (by decide) (fun K hK => ?_)
                 refine Kd.R_append_rows_step (Kd.int .i64) (w0 := w) w.heap.size (by rfl) (.tmp 96) (.tmp 99) 22 3 (.int .i64 0) 8 rfl Tryd.underlying22 info3 rfl (by decide) (by omega) v716 t715 y718 _ _ _ (fun k_ => some k_ ≠ (.slice Ao112 t690.length co112 : Value).ownBlock) (fun _ => False) rfl rfl ?aO ?aR (fun _ _ h => h) (fun _ h => h.elim) ?aF ?aB ?aS ?aL ?_
                 (case aR => repeat (first | exact (by repeat (first | (with_reducible exact HR721.out) | (with_reducible refine Kd.C_alloc ?_ _) | (with_reducible refine Kd.C_drewN ?_ _) | (with_reducible refine Kd.C_drew ?_) | exact HR721.out)) | (with_reducible refine Kd.C_alloc ?_ _) | (with_reducible refine Kd.C_drewN ?_ _) | (with_reducible refine Kd.C_drew ?_)))
                 (case aB => exact (Qaw))
                 (case aF => exact (fun k_ hk => Kd.fresh' (Kd.R_lt (Qro HO_5.out)) k_ hk))
                 (case aO => exact (by (with_reducible repeat (first | apply Kd.R_alloc | apply Kd.R_drewN | apply Kd.R_drew)); exact Kd.R_mono HO717.out (fun _ hk => hk.2)))
                 (case aS => exact (below_size (Qaw)))
                 (case aL => have := LMc53.out; omega)
                 intro v723 w117 ho hb hg hat
                 rw [← Ny722.out] at ho
                 have n0_ := Aside0.mk (Kd.R_after (ok := (fun _ => True)) (Qro HO_5.out) hg hat)
                 have n1_ := Aside0.mk (hb)
                 have n2_ := Aside0.mk ((show Kd.C (Kd.int .i64) w117 A114 y711.length y711 from by rw [Ny711.out, KA114.out]; exact Kd.C_drop (m := ((ji47) : Int).toNat) (c := co112) ((Kd.R_reads' (Kd.R_after (ok := (fun _ => True)) (Qro HO_5.out) hg hat)).2.2) KL114.out ((Kd.R_reads' (Kd.R_after (ok := (fun _ => True)) (Qro HO_5.out) hg hat)).2.1)))
                 have n3_ := Aside0.mk ((show Kd.C (Kd.int .i64) w117 Ao112 y718.length y718 from by rw [Ny718.out]; exact Kd.C_take (m := ((ji47) : Int).toNat) ((Kd.R_reads' (Kd.R_after (ok := (fun _ => True)) (Qro HO_5.out) hg hat)).2.2) KL115.out))
                 have n4_ := Aside0.mk (ho)
                 clear HO_5
                 clear HB
                 clear HR714
                 clear HR721
                 clear HO717
                 have HO_5 := n0_
                 have HB := n1_
                 have HR714 := n2_
                 have HR721 := n3_
                 have HO724 := n4_
                 clear n0_ n1_ n2_ n3_ n4_
                 clear ho hb hg hat
                 refine hK.out _ _ trivial (fun hHeld => ?_)
                 clear hK K
                 refine norm_ (a' := ?_) ?_ ?_
                 rotate_left
                 ·show Act.put _ (some 100) _ = _
                  simp only [Act.put, Qp1, Qp2, Qp3, i64_w, i32_w]
                  rfl
                 refine pure_ (i := 8) (N := some 13) (v := ?_) (a' := ?_) (Qbz 9 511) rfl rfl (any_of HT_.out (by kernel_rfl)) (fun _ _ _ h => h) (Or.inl ⟨by rfl, ?_⟩) ?_ ?_
                 rotate_left
                 ·intro w'
                  go_simp
                  with_reducible rfl
                 rotate_left
                 ·simp only [Act.put, Qp1, Qp2, Qp3, i64_w, i32_w]
                  rfl
                 refine done_ (done_of HT_.out (by kernel_rfl)) ?_
                 try go_wp2_with (first | ((with_reducible refine gate_callee (f := 22) rfl ?_); refine goesL_ (some 103) rfl rfl Tryd.func22 (by kernel_rfl) rfl #[.slice A0 l0.length c0] rfl (Qls) ?_; (with_reducible refine (lampblacklaw07_Few.calls _ _ l0 t725 _ ?side1 ?side2 A54.out).mono ?_); (case side1 => exact Qsc (Kd.C_below HR0.out HB.out)); (case side2 => exact HC0.out); rintro e w118 ⟨v726, rfl, ho0, hb⟩; refine ⟨_, rfl, ?_⟩; have n0_ := Aside0.mk (Kd.R_elder' (Qro HO_5.out) (Kd.R_base ho0) hb); have n1_ := Aside0.mk (Kd.R_elder' (Qro HO724.out) (Kd.R_base ho0) hb); have n2_ := Aside0.mk (Kd.R_lower (Kd.R_new' (Kd.R_new' ho0 (Kd.R_lt (Qro HO_5.out))) (Kd.R_lt (Qro HO724.out))) (below_size (Qaw))); have n3_ := Aside0.mk (Kd.C_below (by repeat (first | (with_reducible exact HR714.out) | (with_reducible refine Kd.C_alloc ?_ _) | (with_reducible refine Kd.C_drewN ?_ _) | (with_reducible refine Kd.C_drew ?_) | exact HR714.out)) hb); have n4_ := Aside0.mk (Kd.C_below (by repeat (first | (with_reducible exact HR721.out) | (with_reducible refine Kd.C_alloc ?_ _) | (with_reducible refine Kd.C_drewN ?_ _) | (with_reducible refine Kd.C_drew ?_) | exact HR721.out)) hb); have n5_ := Aside0.mk (below_step (Qaw) hb); clear HO_5; clear HO724; clear HR714; clear HR721; clear HB; have HO_5 := n0_; have HO724 := n1_; have HO727 := n2_; have HR714 := n3_; have HR721 := n4_; have HB := n5_; clear n0_ n1_ n2_ n3_ n4_ n5_; (try clear hb); (try clear hb2); (try clear hk); (try clear hi); (try clear ho0); obtain ⟨Ao119, co119, eo119⟩ := Kd.R_slice HO727.out; subst eo119) | ((with_reducible refine gate_callee (f := 48) rfl ?_); refine goesL_ (some 105) rfl rfl Tryd.func48 (by kernel_rfl) rfl #[.slice Ao119 t725.length co119, .slice Ao112 t690.length co112] rfl (Qls) ?_; (with_reducible refine (minor_CheckOuter.calls kj26 _ _ t725 _ _ t690 true t729 _ ?side1 ?side2 ?side3 ?side4 A55.out).mono ?_); (case side1 => exact Qsc (Kd.R_reads' HO727.out).2.2); (case side2 => exact (Kd.R_reads' HO727.out).2.1); (case side3 => exact Qsc (Kd.R_reads' HO_5.out).2.2); (case side4 => exact (Kd.R_reads' HO_5.out).2.1); rintro e w120 ⟨rfl, hb⟩; refine ⟨_, rfl, ?_⟩; have n0_ := Aside0.mk (Kd.R_below (Qro HO_5.out) hb); have n1_ := Aside0.mk (Kd.R_below (Qro HO724.out) hb); have n2_ := Aside0.mk (Kd.R_below (Qro HO727.out) hb); have n3_ := Aside0.mk (Kd.C_below (by repeat (first | (with_reducible exact HR714.out) | (with_reducible refine Kd.C_alloc ?_ _) | (with_reducible refine Kd.C_drewN ?_ _) | (with_reducible refine Kd.C_drew ?_) | exact HR714.out)) hb); have n4_ := Aside0.mk (Kd.C_below (by repeat (first | (with_reducible exact HR721.out) | (with_reducible refine Kd.C_alloc ?_ _) | (with_reducible refine Kd.C_drewN ?_ _) | (with_reducible refine Kd.C_drew ?_) | exact HR721.out)) hb); have n5_ := Aside0.mk (below_step (Qaw) hb); clear HO_5; clear HO724; clear HO727; clear HR714; clear HR721; clear HB; have HO_5 := n0_; have HO724 := n1_; have HO727 := n2_; have HR714 := n3_; have HR721 := n4_; have HB := n5_; clear n0_ n1_ n2_ n3_ n4_ n5_; (try clear hb); (try clear hb2); (try clear hk); (try clear hi)) | ((with_reducible refine gate_callee (f := 22) rfl ?_); refine goesL_ (some 110) rfl rfl Tryd.func22 (by kernel_rfl) rfl #[.slice A0 l0.length c0] rfl (Qls) ?_; (with_reducible refine (lampblacklaw07_Few.calls _ _ l0 t730 _ ?side1 ?side2 A56.out).mono ?_); (case side1 => exact Qsc (Kd.C_below HR0.out HB.out)); (case side2 => exact HC0.out); rintro e w121 ⟨v731, rfl, ho0, hb⟩; refine ⟨_, rfl, ?_⟩; have n0_ := Aside0.mk (Kd.R_elder' (Qro HO_5.out) (Kd.R_base ho0) hb); have n1_ := Aside0.mk (Kd.R_elder' (Qro HO724.out) (Kd.R_base ho0) hb); have n2_ := Aside0.mk (Kd.R_elder' (Qro HO727.out) (Kd.R_base ho0) hb); have n3_ := Aside0.mk (Kd.R_lower (Kd.R_new' (Kd.R_new' (Kd.R_new' ho0 (Kd.R_lt (Qro HO_5.out))) (Kd.R_lt (Qro HO724.out))) (Kd.R_lt (Qro HO727.out))) (below_size (Qaw))); have n4_ := Aside0.mk (Kd.C_below (by repeat (first | (with_reducible exact HR714.out) | (with_reducible refine Kd.C_alloc ?_ _) | (with_reducible refine Kd.C_drewN ?_ _) | (with_reducible refine Kd.C_drew ?_) | exact HR714.out)) hb); have n5_ := Aside0.mk (Kd.C_below (by repeat (first | (with_reducible exact HR721.out) | (with_reducible refine Kd.C_alloc ?_ _) | (with_reducible refine Kd.C_drewN ?_ _) | (with_reducible refine Kd.C_drew ?_) | exact HR721.out)) hb); have n6_ := Aside0.mk (below_step (Qaw) hb); clear HO_5; clear HO724; clear HO727; clear HR714; clear HR721; clear HB; have HO_5 := n0_; have HO724 := n1_; have HO727 := n2_; have HO732 := n3_; have HR714 := n4_; have HR721 := n5_; have HB := n6_; clear n0_ n1_ n2_ n3_ n4_ n5_ n6_; (try clear hb); (try clear hb2); (try clear hk); (try clear hi); (try clear ho0); obtain ⟨Ao122, co122, eo122⟩ := Kd.R_slice HO732.out; subst eo122; obtain ⟨Ao123, co123, eo123⟩ := Kd.R_slice HO724.out; subst eo123) | ((with_reducible refine gate_callee (f := 48) rfl ?_); refine goesL_ (some 112) rfl rfl Tryd.func48 (by kernel_rfl) rfl #[.slice Ao122 t730.length co122, .slice Ao123 y722.length co123] rfl (Qls) ?_; (with_reducible refine (minor_CheckOuter.calls kj26 _ _ t730 _ _ y722 true t734 _ ?side1 ?side2 ?side3 ?side4 A57.out).mono ?_); (case side1 => exact Qsc (Kd.R_reads' HO732.out).2.2); (case side2 => exact (Kd.R_reads' HO732.out).2.1); (case side3 => exact Qsc (Kd.R_reads' HO724.out).2.2); (case side4 => exact (Kd.R_reads' HO724.out).2.1); rintro e w124 ⟨rfl, hb⟩; refine ⟨_, rfl, ?_⟩; have n0_ := Aside0.mk (Kd.R_below (Qro HO_5.out) hb); have n1_ := Aside0.mk (Kd.R_below (Qro HO724.out) hb); have n2_ := Aside0.mk (Kd.R_below (Qro HO727.out) hb); have n3_ := Aside0.mk (Kd.R_below (Qro HO732.out) hb); have n4_ := Aside0.mk (Kd.C_below (by repeat (first | (with_reducible exact HR714.out) | (with_reducible refine Kd.C_alloc ?_ _) | (with_reducible refine Kd.C_drewN ?_ _) | (with_reducible refine Kd.C_drew ?_) | exact HR714.out)) hb); have n5_ := Aside0.mk (Kd.C_below (by repeat (first | (with_reducible exact HR721.out) | (with_reducible refine Kd.C_alloc ?_ _) | (with_reducible refine Kd.C_drewN ?_ _) | (with_reducible refine Kd.C_drew ?_) | exact HR721.out)) hb); have n6_ := Aside0.mk (below_step (Qaw) hb); clear HO_5; clear HO724; clear HO727; clear HO732; clear HR714; clear HR721; clear HB; have HO_5 := n0_; have HO724 := n1_; have HO727 := n2_; have HO732 := n3_; have HR714 := n4_; have HR721 := n5_; have HB := n6_; clear n0_ n1_ n2_ n3_ n4_ n5_ n6_; (try clear hb); (try clear hb2); (try clear hk); (try clear hi)) | ((with_reducible refine gate_callee (f := 58) rfl ?_); refine goesL_ (some 116) rfl rfl Tryd.func58 (by kernel_rfl) rfl #[.slice Ao123 y722.length co123] rfl (Qls) ?_; (with_reducible refine (slices_Reverse_int_int.calls kj26 (fun k_ => some k_ = (.slice Ao123 y722.length co123 : Value).ownBlock) (.slice Ao123 y722.length co123) y722 t735 w _ ?side1 ?side2 A58.out).mono ?_); (case side1 => repeat (first | (with_reducible first | exact HB.out | apply below_alloc | apply pw_below_drewN | apply below_drew1) | exact HB.out)); (case side2 => exact Kd.R_tight rfl HO724.out); rintro e w125 ⟨rfl, hy0, hb, hkp⟩; refine ⟨_, rfl, ?_⟩; have n0_ := Aside0.mk (Kd.R_mono (ok' := fun k_ => some k_ ≠ (.slice Ao123 y722.length co123 : Value).ownBlock ∧ some k_ ≠ (.slice Ao119 t725.length co119 : Value).ownBlock ∧ some k_ ≠ (.slice Ao122 t730.length co122 : Value).ownBlock) (Kd.R_keptB (HO_5.out) hkp (fun k_ hk_ hs_ => (hk_.1.1.2) hs_)) (fun k_ hk_ => ⟨hk_.1.1.1.2, hk_.1.1.2, hk_.1.2⟩)); have n1_ := Aside0.mk (Kd.R_reok rfl hy0 (fun k_ e_ => HO724.out.1 k_ e_)); have n2_ := Aside0.mk (Kd.R_mono (ok' := fun k_ => some k_ ≠ (.slice Ao112 t690.length co112 : Value).ownBlock ∧ some k_ ≠ (.slice Ao123 y722.length co123 : Value).ownBlock ∧ some k_ ≠ (.slice Ao122 t730.length co122 : Value).ownBlock) (Kd.R_keptB (HO727.out) hkp (fun k_ hk_ hs_ => (hk_.1.2) hs_)) (fun k_ hk_ => ⟨hk_.1.1.1.2, hk_.1.1.2, hk_.1.2⟩)); have n3_ := Aside0.mk (Kd.R_mono (ok' := fun k_ => some k_ ≠ (.slice Ao112 t690.length co112 : Value).ownBlock ∧ some k_ ≠ (.slice Ao123 y722.length co123 : Value).ownBlock ∧ some k_ ≠ (.slice Ao119 t725.length co119 : Value).ownBlock) (Kd.R_keptB (HO732.out) hkp (fun k_ hk_ hs_ => (hk_.1.2) hs_)) (fun k_ hk_ => ⟨hk_.1.1.1.2, hk_.1.1.2, hk_.1.2⟩)); have n4_ := Aside0.mk (hb); clear HO_5; clear HO724; clear HO727; clear HO732; clear HB; have HO_5 := n0_; have HO724 := n1_; have HO727 := n2_; have HO732 := n3_; have HB := n4_; clear n0_ n1_ n2_ n3_ n4_; (try clear hb); (try clear hkp); (try clear hy0)) | ((with_reducible refine gate_callee (f := 22) rfl ?_); refine goesL_ (some 119) rfl rfl Tryd.func22 (by kernel_rfl) rfl #[.slice A0 l0.length c0] rfl (Qls) ?_; (with_reducible refine (lampblacklaw07_Few.calls _ _ l0 t736 _ ?side1 ?side2 A59.out).mono ?_); (case side1 => exact Qsc (Kd.C_below HR0.out HB.out)); (case side2 => exact HC0.out); rintro e w126 ⟨v737, rfl, ho0, hb⟩; refine ⟨_, rfl, ?_⟩; have n0_ := Aside0.mk (Kd.R_elder' (Qro HO_5.out) (Kd.R_base ho0) hb); have n1_ := Aside0.mk (Kd.R_elder' (Qro HO724.out) (Kd.R_base ho0) hb); have n2_ := Aside0.mk (Kd.R_elder' (Qro HO727.out) (Kd.R_base ho0) hb); have n3_ := Aside0.mk (Kd.R_elder' (Qro HO732.out) (Kd.R_base ho0) hb); have n4_ := Aside0.mk (Kd.R_lower (Kd.R_new' (Kd.R_new' (Kd.R_new' (Kd.R_new' ho0 (Kd.R_lt (Qro HO_5.out))) (Kd.R_lt (Qro HO724.out))) (Kd.R_lt (Qro HO727.out))) (Kd.R_lt (Qro HO732.out))) (below_size (Qaw))); have n5_ := Aside0.mk (below_step (Qaw) hb); clear HO_5; clear HO724; clear HO727; clear HO732; clear HB; have HO_5 := n0_; have HO724 := n1_; have HO727 := n2_; have HO732 := n3_; have HO738 := n4_; have HB := n5_; clear n0_ n1_ n2_ n3_ n4_ n5_; (try clear hb); (try clear hb2); (try clear hk); (try clear hi); (try clear ho0); obtain ⟨Ao127, co127, eo127⟩ := Kd.R_slice HO738.out; subst eo127) | ((with_reducible refine gate_callee (f := 48) rfl ?_); refine goesL_ (some 121) rfl rfl Tryd.func48 (by kernel_rfl) rfl #[.slice Ao127 t736.length co127, .slice Ao123 t735.length co123] rfl (by (try simp only [List.map_toArray, List.map_cons, List.map_nil]); first | done | (rw [show t735.length = y722.length from (Kd.R_reads' HO724.out).1.symm] <;> rfl) | rfl | (simp only [List.length_drop, List.length_take]; rfl)) ?_; (with_reducible refine (minor_CheckOuter.calls kj26 _ _ t736 _ _ t735 true t740 _ ?side1 ?side2 ?side3 ?side4 A60.out).mono ?_); (case side1 => exact Qsc (Kd.R_reads' HO738.out).2.2); (case side2 => exact (Kd.R_reads' HO738.out).2.1); (case side3 => exact Qsc (Kd.R_reads' HO724.out).2.2); (case side4 => rw [show t735.length = y722.length from (Kd.R_reads' HO724.out).1.symm]; exact (Kd.R_reads' HO724.out).2.1); rintro e w128 ⟨rfl, hb⟩; refine ⟨_, rfl, ?_⟩; have n0_ := Aside0.mk (Kd.R_below (Qro HO_5.out) hb); have n1_ := Aside0.mk (Kd.R_below (Qro HO724.out) hb); have n2_ := Aside0.mk (Kd.R_below (Qro HO727.out) hb); have n3_ := Aside0.mk (Kd.R_below (Qro HO732.out) hb); have n4_ := Aside0.mk (Kd.R_below (Qro HO738.out) hb); have n5_ := Aside0.mk (below_step (Qaw) hb); clear HO_5; clear HO724; clear HO727; clear HO732; clear HO738; clear HB; have HO_5 := n0_; have HO724 := n1_; have HO727 := n2_; have HO732 := n3_; have HO738 := n4_; have HB := n5_; clear n0_ n1_ n2_ n3_ n4_ n5_; (try clear hb); (try clear hb2); (try clear hk); (try clear hi)) | ((with_reducible refine gate_callee (f := 22) rfl ?_); refine goesL_ (some 126) rfl rfl Tryd.func22 (by kernel_rfl) rfl #[.slice A0 l0.length c0] rfl (Qls) ?_; (with_reducible refine (lampblacklaw07_Few.calls _ _ l0 t741 _ ?side1 ?side2 A61.out).mono ?_); (case side1 => exact Qsc (Kd.C_below HR0.out HB.out)); (case side2 => exact HC0.out); rintro e w129 ⟨v742, rfl, ho0, hb⟩; refine ⟨_, rfl, ?_⟩; have n0_ := Aside0.mk (Kd.R_elder' (Qro HO_5.out) (Kd.R_base ho0) hb); have n1_ := Aside0.mk (Kd.R_elder' (Qro HO724.out) (Kd.R_base ho0) hb); have n2_ := Aside0.mk (Kd.R_elder' (Qro HO727.out) (Kd.R_base ho0) hb); have n3_ := Aside0.mk (Kd.R_elder' (Qro HO732.out) (Kd.R_base ho0) hb); have n4_ := Aside0.mk (Kd.R_elder' (Qro HO738.out) (Kd.R_base ho0) hb); have n5_ := Aside0.mk (Kd.R_lower (Kd.R_new' (Kd.R_new' (Kd.R_new' (Kd.R_new' (Kd.R_new' ho0 (Kd.R_lt (Qro HO_5.out))) (Kd.R_lt (Qro HO724.out))) (Kd.R_lt (Qro HO727.out))) (Kd.R_lt (Qro HO732.out))) (Kd.R_lt (Qro HO738.out))) (below_size (Qaw))); have n6_ := Aside0.mk (below_step (Qaw) hb); clear HO_5; clear HO724; clear HO727; clear HO732; clear HO738; clear HB; have HO_5 := n0_; have HO724 := n1_; have HO727 := n2_; have HO732 := n3_; have HO738 := n4_; have HO743 := n5_; have HB := n6_; clear n0_ n1_ n2_ n3_ n4_ n5_ n6_; (try clear hb); (try clear hb2); (try clear hk); (try clear hi); (try clear ho0); obtain ⟨Ao130, co130, eo130⟩ := Kd.R_slice HO743.out; subst eo130) | ((with_reducible refine gate_callee (f := 40) rfl ?_); refine goesL_ (some 127) rfl rfl Tryd.func40 (by kernel_rfl) rfl #[.slice Ao130 t741.length co130] rfl (Qls) ?_; (with_reducible refine (minor_Reduce.calls (hGL := (Qlg)) _ _ t741 t744 t745 _ ?side1 ?side2 A62.out).mono ?_); (case side1 => exact Qsc (Kd.R_reads' HO743.out).2.2); (case side2 => exact (Kd.R_reads' HO743.out).2.1); rintro e w131 ⟨v746, rfl, ho0, hb⟩; refine ⟨_, rfl, ?_⟩; have n0_ := Aside0.mk (Kd.R_below (Qro HO_5.out) hb); have n1_ := Aside0.mk (Kd.R_below (Qro HO724.out) hb); have n2_ := Aside0.mk (Kd.R_below (Qro HO727.out) hb); have n3_ := Aside0.mk (Kd.R_below (Qro HO732.out) hb); have n4_ := Aside0.mk (Kd.R_below (Qro HO738.out) hb); have n5_ := Aside0.mk (Kd.R_below (Qro HO743.out) hb); have n6_ := Aside0.mk (Kd.R_lower ho0 (below_size (Qaw))); have n7_ := Aside0.mk (below_step (Qaw) hb); clear HO_5; clear HO724; clear HO727; clear HO732; clear HO738; clear HO743; clear HB; have HO_5 := n0_; have HO724 := n1_; have HO727 := n2_; have HO732 := n3_; have HO738 := n4_; have HO743 := n5_; have HO747 := n6_; have HB := n7_; clear n0_ n1_ n2_ n3_ n4_ n5_ n6_ n7_; (try clear hb); (try clear hb2); (try clear hk); (try clear hi); (try clear ho0)))
                 go_ret
                 exact ⟨by first | rfl | (simp [errW_none, errW_some] <;> rfl) | (simp only [← hji47]; first | rfl | (simp [errW_none, errW_some] <;> rfl)) | (simp [*, errW_none, errW_some] <;> rfl), by repeat (first | (with_reducible first | exact HB.out | apply below_alloc | apply pw_below_drewN | apply below_drew1) | exact HB.out)⟩
               ·rw [if_neg c67] at H
                have c67b0 : (t734 == 0) = false := beq_eq_false_iff_ne.mpr c67
                have c67b1 : (t734 != 0) = true := bne_iff_ne.mpr c67
                obtain rfl := Option.some.inj H
                obtain ⟨Ao132, co132, eo132⟩ := Kd.R_slice HO_5.out
                subst eo132
                try go_wp2
                have n0_ := Aside0.mk (Kd.R_drew HO_5.out)
                have n1_ := Aside0.mk (below_drew1 HB.out)
                clear HO_5
                clear HB
                have HO_5 := n0_
                have HB := n1_
                clear n0_ n1_
                have q134 : ((ji47) : Int) ≤ ((t690.length : Int) : Int) := of_decide_eq_true (by first | (with_reducible assumption) | assumption)
                obtain ⟨i0134, hi0134, _, hsz134, _⟩ := info_parts info3
                have hroom134 : t690.length ≤ co132 := (Kd.R_reads' HO_5.out).2.1
                have hC134 : Kd.C (Kd.int .i64) _ Ao132 t690.length t690 := (Kd.R_reads' HO_5.out).2.2
                have q0134 : (0 : Int) ≤ ((ji47) : Int) := of_decide_eq_true (by first | (with_reducible assumption) | assumption)
                have hcut134 := cut_from (P := Tryd.prog) 22 3 .i64 Tryd.underlying22 hi0134 1 hsz134 Ao132 t690.length co132 (ji47) q0134 q134
                have hr134 := Kd.C_drop (m := ((ji47) : Int).toNat) (c := co132) hC134 (by omega) hroom134
                obtain ⟨A134, hA134⟩ : ∃ A1, A1 = (if co132 = ((ji47) : Int).toNat then Ao132 else (Ao132 : Option Addr).map (·.add (((ji47) : Int).toNat * 1))) := ⟨_, rfl⟩
                obtain ⟨c134, hc134⟩ : ∃ c1, c1 = co132 - ((ji47) : Int).toNat := ⟨_, rfl⟩
                have hy134 : y711.length = t690.length - ((ji47) : Int).toNat := (by rw [Ny711.out, List.length_drop] <;> omega)
                rw [show (t690).drop ((ji47) : Int).toNat = y711 from Ny711.out.symm] at hr134
                replace hr134 : Kd.C (Kd.int .i64) _ A134 y711.length y711 := (by rw [hA134]; exact hr134)
                rw [← hy134, ← hA134, ← hc134] at hcut134
                have HR714 := Aside0.mk hr134
                have HC714 := Aside0.mk (show y711.length ≤ c134 from by rw [hy134, hc134]; exact Nat.sub_le_sub_right hroom134 _)
                clear hr134 hC134 hroom134 hi0134 hsz134 hc134
                have KY134 := Aside0.mk hy134
                have KA134 := Aside0.mk hA134
                clear hy134 hA134
                have KL134 := Aside0.mk (show ((ji47) : Int).toNat ≤ t690.length from by omega)
                replace q134 := eq_true q134
                have q135 : ((ji47) : Int) ≤ ((t690.length : Int) : Int) := of_decide_eq_true (by first | (with_reducible assumption) | assumption)
                obtain ⟨i0135, hi0135, _, hsz135, _⟩ := info_parts info3
                have hroom135 : t690.length ≤ co132 := (Kd.R_reads' HO_5.out).2.1
                have hC135 : Kd.C (Kd.int .i64) _ Ao132 t690.length t690 := (Kd.R_reads' HO_5.out).2.2
                have hcut135 := cut_to (P := Tryd.prog) 22 3 .i64 Tryd.underlying22 hi0135 Ao132 t690.length co132 (ji47) (of_decide_eq_true (by first | (with_reducible assumption) | assumption)) q135 hroom135
                have hr135 := Kd.C_take (m := ((ji47) : Int).toNat) hC135 (by omega)
                have hy135 : y718.length = ((ji47) : Int).toNat := (by rw [Ny718.out, List.length_take]; omega)
                rw [← Ny718.out] at hr135
                rw [← hy135] at hcut135
                have HR721 := Aside0.mk hr135
                have HC721 := Aside0.mk (show y718.length ≤ co132 from by omega)
                clear hr135 hC135 hroom135 hi0135 hsz135
                have KY135 := Aside0.mk hy135
                clear hy135
                have KL135 := Aside0.mk (show ((ji47) : Int).toNat ≤ t690.length from by omega)
                replace q135 := eq_true q135
                refine start_ (n := 9) (S := fun w' => True) (ds := []) (Qbz 9 0) (by kernel_rfl) rfl rfl trivial (fun hHeld => ?_); refine with_tabW lampblacklaw07_MinorRound.tab14 lampblacklaw07_MinorRound.bits14 (fun HT_ HW_ => ?_)
                generalize wc.drew = w133 at HO_5 HB HR714 HR721 hHeld ⊢
                refine pure_ (i := 0) (N := some 93) (v := ?_) (a' := ?_) (Qbz 9 1) rfl rfl (any_of HT_.out (by kernel_rfl)) (fun _ _ _ h => h) (Or.inl ⟨by rfl, ?_⟩) ?_ ?_
                rotate_left
                ·intro w'
                 go_simp
                 with_reducible rfl
                rotate_left
                ·simp only [Act.put, Qp1, Qp2, Qp3, i64_w, i32_w]
                 rfl
                refine pure_ (i := 1) (N := some 94) (v := ?_) (a' := ?_) (Qbz 9 3) rfl rfl (any_of HT_.out (by kernel_rfl)) (fun _ _ _ h => h) (Or.inl ⟨by rfl, ?_⟩) ?_ ?_
                rotate_left
                ·intro w'
                 go_simp
                 with_reducible rfl
                rotate_left
                ·simp only [Act.put, Qp1, Qp2, Qp3, i64_w, i32_w]
                 rfl
                refine pure_ (i := 2) (N := some 95) (v := ?_) (a' := ?_) (Qbz 9 7) rfl rfl (any_of HT_.out (by kernel_rfl)) (fun _ _ _ h => h) (Or.inl ⟨by rfl, ?_⟩) ?_ ?_
                rotate_left
                ·intro w'
                 go_simp
                 with_reducible rfl
                rotate_left
                ·simp only [Act.put, Qp1, Qp2, Qp3, i64_w, i32_w]
                 rfl
                refine pure_ (i := 4) (N := some 97) (v := ?_) (a' := ?_) (Qbz 9 23) rfl rfl (any_of HT_.out (by kernel_rfl)) (fun _ _ _ h => h) (Or.inl ⟨by rfl, ?_⟩) ?_ ?_
                rotate_left
                ·intro w'
                 go_simp
                 with_reducible rfl
                rotate_left
                ·simp only [Act.put, Qp1, Qp2, Qp3, i64_w, i32_w]
                 rfl
                refine pure_ (i := 5) (N := some 98) (v := ?_) (a' := ?_) (Qbz 9 55) rfl rfl (any_of HT_.out (by kernel_rfl)) (fun _ _ _ h => h) (Or.inl ⟨by rfl, ?_⟩) ?_ ?_
                rotate_left
                ·intro w'
                 go_simp
                 with_reducible rfl
                rotate_left
                ·simp only [Act.put, Qp1, Qp2, Qp3, i64_w, i32_w]
                 rfl
                refine pure_ (i := 6) (N := some 99) (v := ?_) (a' := ?_) (Qbz 9 119) rfl rfl (any_of HT_.out (by kernel_rfl)) (fun _ _ _ h => h) (Or.inl ⟨by rfl, ?_⟩) ?_ ?_
                rotate_left
                ·intro w'
                 go_simp
                 with_reducible rfl
                rotate_left
                ·simp only [Act.put, Qp1, Qp2, Qp3, i64_w, i32_w]
                 rfl
                refine one_ (i := 3) (N := some 96) (Qbz 9 127) rfl rfl (one_of HT_.out (by kernel_rfl)) (by decide) (fun K hK => ?_)
                refine goes_ Tryd.func57 (by kernel_rfl) rfl #[.slice A134 y711.length c134] (by rfl) rfl rfl (Qls) ?_
                with_reducible refine (slices_Clone_int_int.calls _ _ y711 t715 _ ?side1 ?side2 A50.out).mono ?_
                (case side1 => repeat (first | exact (by repeat (first | (with_reducible exact HR714.out) | (with_reducible refine Kd.C_alloc ?_ _) | (with_reducible refine Kd.C_drewN ?_ _) | (with_reducible refine Kd.C_drew ?_) | exact HR714.out)) | (with_reducible refine Kd.C_alloc ?_ _) | (with_reducible refine Kd.C_drewN ?_ _) | (with_reducible refine Kd.C_drew ?_)))
                (case side2 => exact HC714.out)
                rintro e w136 ⟨v716, rfl, ho0, hb⟩
                refine ⟨_, rfl, ?_⟩
                have n0_ := Aside0.mk (Kd.R_elder' (Qro HO_5.out) (Kd.R_base ho0) hb)
                have n1_ := Aside0.mk (Kd.R_lower (Kd.R_new' ho0 (Kd.R_lt (Qro HO_5.out))) (below_size (Qaw)))
                have n2_ := Aside0.mk (Kd.C_below (by repeat (first | (with_reducible exact HR714.out) | (with_reducible refine Kd.C_alloc ?_ _) | (with_reducible refine Kd.C_drewN ?_ _) | (with_reducible refine Kd.C_drew ?_) | exact HR714.out)) hb)
                have n3_ := Aside0.mk (Kd.C_below (by repeat (first | (with_reducible exact HR721.out) | (with_reducible refine Kd.C_alloc ?_ _) | (with_reducible refine Kd.C_drewN ?_ _) | (with_reducible refine Kd.C_drew ?_) | exact HR721.out)) hb)
                have n4_ := Aside0.mk (below_step (Qaw) hb)
                clear HO_5
                clear HR714
                clear HR721
                clear HB
                have HO_5 := n0_
                have HO717 := n1_
                have HR714 := n2_
                have HR721 := n3_
                have HB := n4_
                clear n0_ n1_ n2_ n3_ n4_
                (try clear hb)
                (try clear hb2)
                (try clear hk)
                (try clear hi)
                (try clear ho0)
                refine hK.out _ _ trivial (fun hHeld => ?_)
                clear hK K
                refine norm_ (a' := ?_) ?_ ?_
                rotate_left
                ·show Act.put _ (some 96) _ = _
                 simp only [Act.put, Qp1, Qp2, Qp3, i64_w, i32_w]
                 rfl
                refine one_ (i := 7) (N := some 100) (Qbz 9 255) rfl rfl (one_of HT_.out (by kernel_rfl)) (by decide) (fun K hK => ?_)
                refine Kd.R_append_rows_step (Kd.int .i64) (w0 := w) w.heap.size (by rfl) (.tmp 96) (.tmp 99) 22 3 (.int .i64 0) 8 rfl Tryd.underlying22 info3 rfl (by decide) (by omega) v716 t715 y718 _ _ _ (fun k_ => some k_ ≠ (.slice Ao132 t690.length co132 : Value).ownBlock) (fun _ => False) rfl rfl ?aO ?aR (fun _ _ h => h) (fun _ h => h.elim) ?aF ?aB ?aS ?aL ?_
                (case aR => repeat (first | exact (by repeat (first | (with_reducible exact HR721.out) | (with_reducible refine Kd.C_alloc ?_ _) | (with_reducible refine Kd.C_drewN ?_ _) | (with_reducible refine Kd.C_drew ?_) | exact HR721.out)) | (with_reducible refine Kd.C_alloc ?_ _) | (with_reducible refine Kd.C_drewN ?_ _) | (with_reducible refine Kd.C_drew ?_)))
                (case aB => exact (Qaw))
                (case aF => exact (fun k_ hk => Kd.fresh' (Kd.R_lt (Qro HO_5.out)) k_ hk))
                (case aO => exact (by (with_reducible repeat (first | apply Kd.R_alloc | apply Kd.R_drewN | apply Kd.R_drew)); exact Kd.R_mono HO717.out (fun _ hk => hk.2)))
                (case aS => exact (below_size (Qaw)))
                (case aL => have := LMc53.out; omega)
                intro v723 w137 ho hb hg hat
                rw [← Ny722.out] at ho
                have n0_ := Aside0.mk (Kd.R_after (ok := (fun _ => True)) (Qro HO_5.out) hg hat)
                have n1_ := Aside0.mk (hb)
                have n2_ := Aside0.mk ((show Kd.C (Kd.int .i64) w137 A134 y711.length y711 from by rw [Ny711.out, KA134.out]; exact Kd.C_drop (m := ((ji47) : Int).toNat) (c := co132) ((Kd.R_reads' (Kd.R_after (ok := (fun _ => True)) (Qro HO_5.out) hg hat)).2.2) KL134.out ((Kd.R_reads' (Kd.R_after (ok := (fun _ => True)) (Qro HO_5.out) hg hat)).2.1)))
                have n3_ := Aside0.mk ((show Kd.C (Kd.int .i64) w137 Ao132 y718.length y718 from by rw [Ny718.out]; exact Kd.C_take (m := ((ji47) : Int).toNat) ((Kd.R_reads' (Kd.R_after (ok := (fun _ => True)) (Qro HO_5.out) hg hat)).2.2) KL135.out))
                have n4_ := Aside0.mk (ho)
                clear HO_5
                clear HB
                clear HR714
                clear HR721
                clear HO717
                have HO_5 := n0_
                have HB := n1_
                have HR714 := n2_
                have HR721 := n3_
                have HO724 := n4_
                clear n0_ n1_ n2_ n3_ n4_
                clear ho hb hg hat
                refine hK.out _ _ trivial (fun hHeld => ?_)
                clear hK K
                refine norm_ (a' := ?_) ?_ ?_
                rotate_left
                ·show Act.put _ (some 100) _ = _
                 simp only [Act.put, Qp1, Qp2, Qp3, i64_w, i32_w]
                 rfl
                refine pure_ (i := 8) (N := some 13) (v := ?_) (a' := ?_) (Qbz 9 511) rfl rfl (any_of HT_.out (by kernel_rfl)) (fun _ _ _ h => h) (Or.inl ⟨by rfl, ?_⟩) ?_ ?_
                rotate_left
                ·intro w'
                 go_simp
                 with_reducible rfl
                rotate_left
                ·simp only [Act.put, Qp1, Qp2, Qp3, i64_w, i32_w]
                 rfl
                refine done_ (done_of HT_.out (by kernel_rfl)) ?_
                try go_wp2_with (first | ((with_reducible refine gate_callee (f := 22) rfl ?_); refine goesL_ (some 103) rfl rfl Tryd.func22 (by kernel_rfl) rfl #[.slice A0 l0.length c0] rfl (Qls) ?_; (with_reducible refine (lampblacklaw07_Few.calls _ _ l0 t725 _ ?side1 ?side2 A54.out).mono ?_); (case side1 => exact Qsc (Kd.C_below HR0.out HB.out)); (case side2 => exact HC0.out); rintro e w138 ⟨v726, rfl, ho0, hb⟩; refine ⟨_, rfl, ?_⟩; have n0_ := Aside0.mk (Kd.R_elder' (Qro HO_5.out) (Kd.R_base ho0) hb); have n1_ := Aside0.mk (Kd.R_elder' (Qro HO724.out) (Kd.R_base ho0) hb); have n2_ := Aside0.mk (Kd.R_lower (Kd.R_new' (Kd.R_new' ho0 (Kd.R_lt (Qro HO_5.out))) (Kd.R_lt (Qro HO724.out))) (below_size (Qaw))); have n3_ := Aside0.mk (Kd.C_below (by repeat (first | (with_reducible exact HR714.out) | (with_reducible refine Kd.C_alloc ?_ _) | (with_reducible refine Kd.C_drewN ?_ _) | (with_reducible refine Kd.C_drew ?_) | exact HR714.out)) hb); have n4_ := Aside0.mk (Kd.C_below (by repeat (first | (with_reducible exact HR721.out) | (with_reducible refine Kd.C_alloc ?_ _) | (with_reducible refine Kd.C_drewN ?_ _) | (with_reducible refine Kd.C_drew ?_) | exact HR721.out)) hb); have n5_ := Aside0.mk (below_step (Qaw) hb); clear HO_5; clear HO724; clear HR714; clear HR721; clear HB; have HO_5 := n0_; have HO724 := n1_; have HO727 := n2_; have HR714 := n3_; have HR721 := n4_; have HB := n5_; clear n0_ n1_ n2_ n3_ n4_ n5_; (try clear hb); (try clear hb2); (try clear hk); (try clear hi); (try clear ho0); obtain ⟨Ao139, co139, eo139⟩ := Kd.R_slice HO727.out; subst eo139) | ((with_reducible refine gate_callee (f := 48) rfl ?_); refine goesL_ (some 105) rfl rfl Tryd.func48 (by kernel_rfl) rfl #[.slice Ao139 t725.length co139, .slice Ao132 t690.length co132] rfl (Qls) ?_; (with_reducible refine (minor_CheckOuter.calls kj26 _ _ t725 _ _ t690 true t729 _ ?side1 ?side2 ?side3 ?side4 A55.out).mono ?_); (case side1 => exact Qsc (Kd.R_reads' HO727.out).2.2); (case side2 => exact (Kd.R_reads' HO727.out).2.1); (case side3 => exact Qsc (Kd.R_reads' HO_5.out).2.2); (case side4 => exact (Kd.R_reads' HO_5.out).2.1); rintro e w140 ⟨rfl, hb⟩; refine ⟨_, rfl, ?_⟩; have n0_ := Aside0.mk (Kd.R_below (Qro HO_5.out) hb); have n1_ := Aside0.mk (Kd.R_below (Qro HO724.out) hb); have n2_ := Aside0.mk (Kd.R_below (Qro HO727.out) hb); have n3_ := Aside0.mk (Kd.C_below (by repeat (first | (with_reducible exact HR714.out) | (with_reducible refine Kd.C_alloc ?_ _) | (with_reducible refine Kd.C_drewN ?_ _) | (with_reducible refine Kd.C_drew ?_) | exact HR714.out)) hb); have n4_ := Aside0.mk (Kd.C_below (by repeat (first | (with_reducible exact HR721.out) | (with_reducible refine Kd.C_alloc ?_ _) | (with_reducible refine Kd.C_drewN ?_ _) | (with_reducible refine Kd.C_drew ?_) | exact HR721.out)) hb); have n5_ := Aside0.mk (below_step (Qaw) hb); clear HO_5; clear HO724; clear HO727; clear HR714; clear HR721; clear HB; have HO_5 := n0_; have HO724 := n1_; have HO727 := n2_; have HR714 := n3_; have HR721 := n4_; have HB := n5_; clear n0_ n1_ n2_ n3_ n4_ n5_; (try clear hb); (try clear hb2); (try clear hk); (try clear hi)) | ((with_reducible refine gate_callee (f := 22) rfl ?_); refine goesL_ (some 110) rfl rfl Tryd.func22 (by kernel_rfl) rfl #[.slice A0 l0.length c0] rfl (Qls) ?_; (with_reducible refine (lampblacklaw07_Few.calls _ _ l0 t730 _ ?side1 ?side2 A56.out).mono ?_); (case side1 => exact Qsc (Kd.C_below HR0.out HB.out)); (case side2 => exact HC0.out); rintro e w141 ⟨v731, rfl, ho0, hb⟩; refine ⟨_, rfl, ?_⟩; have n0_ := Aside0.mk (Kd.R_elder' (Qro HO_5.out) (Kd.R_base ho0) hb); have n1_ := Aside0.mk (Kd.R_elder' (Qro HO724.out) (Kd.R_base ho0) hb); have n2_ := Aside0.mk (Kd.R_elder' (Qro HO727.out) (Kd.R_base ho0) hb); have n3_ := Aside0.mk (Kd.R_lower (Kd.R_new' (Kd.R_new' (Kd.R_new' ho0 (Kd.R_lt (Qro HO_5.out))) (Kd.R_lt (Qro HO724.out))) (Kd.R_lt (Qro HO727.out))) (below_size (Qaw))); have n4_ := Aside0.mk (Kd.C_below (by repeat (first | (with_reducible exact HR714.out) | (with_reducible refine Kd.C_alloc ?_ _) | (with_reducible refine Kd.C_drewN ?_ _) | (with_reducible refine Kd.C_drew ?_) | exact HR714.out)) hb); have n5_ := Aside0.mk (Kd.C_below (by repeat (first | (with_reducible exact HR721.out) | (with_reducible refine Kd.C_alloc ?_ _) | (with_reducible refine Kd.C_drewN ?_ _) | (with_reducible refine Kd.C_drew ?_) | exact HR721.out)) hb); have n6_ := Aside0.mk (below_step (Qaw) hb); clear HO_5; clear HO724; clear HO727; clear HR714; clear HR721; clear HB; have HO_5 := n0_; have HO724 := n1_; have HO727 := n2_; have HO732 := n3_; have HR714 := n4_; have HR721 := n5_; have HB := n6_; clear n0_ n1_ n2_ n3_ n4_ n5_ n6_; (try clear hb); (try clear hb2); (try clear hk); (try clear hi); (try clear ho0); obtain ⟨Ao142, co142, eo142⟩ := Kd.R_slice HO732.out; subst eo142; obtain ⟨Ao143, co143, eo143⟩ := Kd.R_slice HO724.out; subst eo143) | ((with_reducible refine gate_callee (f := 48) rfl ?_); refine goesL_ (some 112) rfl rfl Tryd.func48 (by kernel_rfl) rfl #[.slice Ao142 t730.length co142, .slice Ao143 y722.length co143] rfl (Qls) ?_; (with_reducible refine (minor_CheckOuter.calls kj26 _ _ t730 _ _ y722 true t734 _ ?side1 ?side2 ?side3 ?side4 A57.out).mono ?_); (case side1 => exact Qsc (Kd.R_reads' HO732.out).2.2); (case side2 => exact (Kd.R_reads' HO732.out).2.1); (case side3 => exact Qsc (Kd.R_reads' HO724.out).2.2); (case side4 => exact (Kd.R_reads' HO724.out).2.1); rintro e w144 ⟨rfl, hb⟩; refine ⟨_, rfl, ?_⟩; have n0_ := Aside0.mk (Kd.R_below (Qro HO_5.out) hb); have n1_ := Aside0.mk (Kd.R_below (Qro HO724.out) hb); have n2_ := Aside0.mk (Kd.R_below (Qro HO727.out) hb); have n3_ := Aside0.mk (Kd.R_below (Qro HO732.out) hb); have n4_ := Aside0.mk (Kd.C_below (by repeat (first | (with_reducible exact HR714.out) | (with_reducible refine Kd.C_alloc ?_ _) | (with_reducible refine Kd.C_drewN ?_ _) | (with_reducible refine Kd.C_drew ?_) | exact HR714.out)) hb); have n5_ := Aside0.mk (Kd.C_below (by repeat (first | (with_reducible exact HR721.out) | (with_reducible refine Kd.C_alloc ?_ _) | (with_reducible refine Kd.C_drewN ?_ _) | (with_reducible refine Kd.C_drew ?_) | exact HR721.out)) hb); have n6_ := Aside0.mk (below_step (Qaw) hb); clear HO_5; clear HO724; clear HO727; clear HO732; clear HR714; clear HR721; clear HB; have HO_5 := n0_; have HO724 := n1_; have HO727 := n2_; have HO732 := n3_; have HR714 := n4_; have HR721 := n5_; have HB := n6_; clear n0_ n1_ n2_ n3_ n4_ n5_ n6_; (try clear hb); (try clear hb2); (try clear hk); (try clear hi)) | ((with_reducible refine gate_callee (f := 58) rfl ?_); refine goesL_ (some 116) rfl rfl Tryd.func58 (by kernel_rfl) rfl #[.slice Ao143 y722.length co143] rfl (Qls) ?_; (with_reducible refine (slices_Reverse_int_int.calls kj26 (fun k_ => some k_ = (.slice Ao143 y722.length co143 : Value).ownBlock) (.slice Ao143 y722.length co143) y722 t735 w _ ?side1 ?side2 A58.out).mono ?_); (case side1 => repeat (first | (with_reducible first | exact HB.out | apply below_alloc | apply pw_below_drewN | apply below_drew1) | exact HB.out)); (case side2 => exact Kd.R_tight rfl HO724.out); rintro e w145 ⟨rfl, hy0, hb, hkp⟩; refine ⟨_, rfl, ?_⟩; have n0_ := Aside0.mk (Kd.R_mono (ok' := fun k_ => some k_ ≠ (.slice Ao143 y722.length co143 : Value).ownBlock ∧ some k_ ≠ (.slice Ao139 t725.length co139 : Value).ownBlock ∧ some k_ ≠ (.slice Ao142 t730.length co142 : Value).ownBlock) (Kd.R_keptB (HO_5.out) hkp (fun k_ hk_ hs_ => (hk_.1.1.2) hs_)) (fun k_ hk_ => ⟨hk_.1.1.1.2, hk_.1.1.2, hk_.1.2⟩)); have n1_ := Aside0.mk (Kd.R_reok rfl hy0 (fun k_ e_ => HO724.out.1 k_ e_)); have n2_ := Aside0.mk (Kd.R_mono (ok' := fun k_ => some k_ ≠ (.slice Ao132 t690.length co132 : Value).ownBlock ∧ some k_ ≠ (.slice Ao143 y722.length co143 : Value).ownBlock ∧ some k_ ≠ (.slice Ao142 t730.length co142 : Value).ownBlock) (Kd.R_keptB (HO727.out) hkp (fun k_ hk_ hs_ => (hk_.1.2) hs_)) (fun k_ hk_ => ⟨hk_.1.1.1.2, hk_.1.1.2, hk_.1.2⟩)); have n3_ := Aside0.mk (Kd.R_mono (ok' := fun k_ => some k_ ≠ (.slice Ao132 t690.length co132 : Value).ownBlock ∧ some k_ ≠ (.slice Ao143 y722.length co143 : Value).ownBlock ∧ some k_ ≠ (.slice Ao139 t725.length co139 : Value).ownBlock) (Kd.R_keptB (HO732.out) hkp (fun k_ hk_ hs_ => (hk_.1.2) hs_)) (fun k_ hk_ => ⟨hk_.1.1.1.2, hk_.1.1.2, hk_.1.2⟩)); have n4_ := Aside0.mk (hb); clear HO_5; clear HO724; clear HO727; clear HO732; clear HB; have HO_5 := n0_; have HO724 := n1_; have HO727 := n2_; have HO732 := n3_; have HB := n4_; clear n0_ n1_ n2_ n3_ n4_; (try clear hb); (try clear hkp); (try clear hy0)) | ((with_reducible refine gate_callee (f := 22) rfl ?_); refine goesL_ (some 119) rfl rfl Tryd.func22 (by kernel_rfl) rfl #[.slice A0 l0.length c0] rfl (Qls) ?_; (with_reducible refine (lampblacklaw07_Few.calls _ _ l0 t736 _ ?side1 ?side2 A59.out).mono ?_); (case side1 => exact Qsc (Kd.C_below HR0.out HB.out)); (case side2 => exact HC0.out); rintro e w146 ⟨v737, rfl, ho0, hb⟩; refine ⟨_, rfl, ?_⟩; have n0_ := Aside0.mk (Kd.R_elder' (Qro HO_5.out) (Kd.R_base ho0) hb); have n1_ := Aside0.mk (Kd.R_elder' (Qro HO724.out) (Kd.R_base ho0) hb); have n2_ := Aside0.mk (Kd.R_elder' (Qro HO727.out) (Kd.R_base ho0) hb); have n3_ := Aside0.mk (Kd.R_elder' (Qro HO732.out) (Kd.R_base ho0) hb); have n4_ := Aside0.mk (Kd.R_lower (Kd.R_new' (Kd.R_new' (Kd.R_new' (Kd.R_new' ho0 (Kd.R_lt (Qro HO_5.out))) (Kd.R_lt (Qro HO724.out))) (Kd.R_lt (Qro HO727.out))) (Kd.R_lt (Qro HO732.out))) (below_size (Qaw))); have n5_ := Aside0.mk (below_step (Qaw) hb); clear HO_5; clear HO724; clear HO727; clear HO732; clear HB; have HO_5 := n0_; have HO724 := n1_; have HO727 := n2_; have HO732 := n3_; have HO738 := n4_; have HB := n5_; clear n0_ n1_ n2_ n3_ n4_ n5_; (try clear hb); (try clear hb2); (try clear hk); (try clear hi); (try clear ho0); obtain ⟨Ao147, co147, eo147⟩ := Kd.R_slice HO738.out; subst eo147) | ((with_reducible refine gate_callee (f := 48) rfl ?_); refine goesL_ (some 121) rfl rfl Tryd.func48 (by kernel_rfl) rfl #[.slice Ao147 t736.length co147, .slice Ao143 t735.length co143] rfl (by (try simp only [List.map_toArray, List.map_cons, List.map_nil]); first | done | (rw [show t735.length = y722.length from (Kd.R_reads' HO724.out).1.symm] <;> rfl) | rfl | (simp only [List.length_drop, List.length_take]; rfl)) ?_; (with_reducible refine (minor_CheckOuter.calls kj26 _ _ t736 _ _ t735 true t740 _ ?side1 ?side2 ?side3 ?side4 A60.out).mono ?_); (case side1 => exact Qsc (Kd.R_reads' HO738.out).2.2); (case side2 => exact (Kd.R_reads' HO738.out).2.1); (case side3 => exact Qsc (Kd.R_reads' HO724.out).2.2); (case side4 => rw [show t735.length = y722.length from (Kd.R_reads' HO724.out).1.symm]; exact (Kd.R_reads' HO724.out).2.1); rintro e w148 ⟨rfl, hb⟩; refine ⟨_, rfl, ?_⟩; have n0_ := Aside0.mk (Kd.R_below (Qro HO_5.out) hb); have n1_ := Aside0.mk (Kd.R_below (Qro HO724.out) hb); have n2_ := Aside0.mk (Kd.R_below (Qro HO727.out) hb); have n3_ := Aside0.mk (Kd.R_below (Qro HO732.out) hb); have n4_ := Aside0.mk (Kd.R_below (Qro HO738.out) hb); have n5_ := Aside0.mk (below_step (Qaw) hb); clear HO_5; clear HO724; clear HO727; clear HO732; clear HO738; clear HB; have HO_5 := n0_; have HO724 := n1_; have HO727 := n2_; have HO732 := n3_; have HO738 := n4_; have HB := n5_; clear n0_ n1_ n2_ n3_ n4_ n5_; (try clear hb); (try clear hb2); (try clear hk); (try clear hi)) | ((with_reducible refine gate_callee (f := 22) rfl ?_); refine goesL_ (some 126) rfl rfl Tryd.func22 (by kernel_rfl) rfl #[.slice A0 l0.length c0] rfl (Qls) ?_; (with_reducible refine (lampblacklaw07_Few.calls _ _ l0 t741 _ ?side1 ?side2 A61.out).mono ?_); (case side1 => exact Qsc (Kd.C_below HR0.out HB.out)); (case side2 => exact HC0.out); rintro e w149 ⟨v742, rfl, ho0, hb⟩; refine ⟨_, rfl, ?_⟩; have n0_ := Aside0.mk (Kd.R_elder' (Qro HO_5.out) (Kd.R_base ho0) hb); have n1_ := Aside0.mk (Kd.R_elder' (Qro HO724.out) (Kd.R_base ho0) hb); have n2_ := Aside0.mk (Kd.R_elder' (Qro HO727.out) (Kd.R_base ho0) hb); have n3_ := Aside0.mk (Kd.R_elder' (Qro HO732.out) (Kd.R_base ho0) hb); have n4_ := Aside0.mk (Kd.R_elder' (Qro HO738.out) (Kd.R_base ho0) hb); have n5_ := Aside0.mk (Kd.R_lower (Kd.R_new' (Kd.R_new' (Kd.R_new' (Kd.R_new' (Kd.R_new' ho0 (Kd.R_lt (Qro HO_5.out))) (Kd.R_lt (Qro HO724.out))) (Kd.R_lt (Qro HO727.out))) (Kd.R_lt (Qro HO732.out))) (Kd.R_lt (Qro HO738.out))) (below_size (Qaw))); have n6_ := Aside0.mk (below_step (Qaw) hb); clear HO_5; clear HO724; clear HO727; clear HO732; clear HO738; clear HB; have HO_5 := n0_; have HO724 := n1_; have HO727 := n2_; have HO732 := n3_; have HO738 := n4_; have HO743 := n5_; have HB := n6_; clear n0_ n1_ n2_ n3_ n4_ n5_ n6_; (try clear hb); (try clear hb2); (try clear hk); (try clear hi); (try clear ho0); obtain ⟨Ao150, co150, eo150⟩ := Kd.R_slice HO743.out; subst eo150) | ((with_reducible refine gate_callee (f := 40) rfl ?_); refine goesL_ (some 127) rfl rfl Tryd.func40 (by kernel_rfl) rfl #[.slice Ao150 t741.length co150] rfl (Qls) ?_; (with_reducible refine (minor_Reduce.calls (hGL := (Qlg)) _ _ t741 t744 t745 _ ?side1 ?side2 A62.out).mono ?_); (case side1 => exact Qsc (Kd.R_reads' HO743.out).2.2); (case side2 => exact (Kd.R_reads' HO743.out).2.1); rintro e w151 ⟨v746, rfl, ho0, hb⟩; refine ⟨_, rfl, ?_⟩; have n0_ := Aside0.mk (Kd.R_below (Qro HO_5.out) hb); have n1_ := Aside0.mk (Kd.R_below (Qro HO724.out) hb); have n2_ := Aside0.mk (Kd.R_below (Qro HO727.out) hb); have n3_ := Aside0.mk (Kd.R_below (Qro HO732.out) hb); have n4_ := Aside0.mk (Kd.R_below (Qro HO738.out) hb); have n5_ := Aside0.mk (Kd.R_below (Qro HO743.out) hb); have n6_ := Aside0.mk (Kd.R_lower ho0 (below_size (Qaw))); have n7_ := Aside0.mk (below_step (Qaw) hb); clear HO_5; clear HO724; clear HO727; clear HO732; clear HO738; clear HO743; clear HB; have HO_5 := n0_; have HO724 := n1_; have HO727 := n2_; have HO732 := n3_; have HO738 := n4_; have HO743 := n5_; have HO747 := n6_; have HB := n7_; clear n0_ n1_ n2_ n3_ n4_ n5_ n6_ n7_; (try clear hb); (try clear hb2); (try clear hk); (try clear hi); (try clear ho0)))
                go_ret
                exact ⟨by first | rfl | (simp [errW_none, errW_some] <;> rfl) | (simp only [← hji47]; first | rfl | (simp [errW_none, errW_some] <;> rfl)) | (simp [*, errW_none, errW_some] <;> rfl), by repeat (first | (with_reducible first | exact HB.out | apply below_alloc | apply pw_below_drewN | apply below_drew1) | exact HB.out)⟩
              ·rw [if_neg c66] at H
               have c66b0 : (t729 == 0) = false := beq_eq_false_iff_ne.mpr c66
               have c66b1 : (t729 != 0) = true := bne_iff_ne.mpr c66
               obtain rfl := Option.some.inj H
               obtain ⟨Ao152, co152, eo152⟩ := Kd.R_slice HO_5.out
               subst eo152
               try go_wp2
               have n0_ := Aside0.mk (Kd.R_drew HO_5.out)
               have n1_ := Aside0.mk (below_drew1 HB.out)
               clear HO_5
               clear HB
               have HO_5 := n0_
               have HB := n1_
               clear n0_ n1_
               have q154 : ((ji47) : Int) ≤ ((t690.length : Int) : Int) := of_decide_eq_true (by first | (with_reducible assumption) | assumption)
               obtain ⟨i0154, hi0154, _, hsz154, _⟩ := info_parts info3
               have hroom154 : t690.length ≤ co152 := (Kd.R_reads' HO_5.out).2.1
               have hC154 : Kd.C (Kd.int .i64) _ Ao152 t690.length t690 := (Kd.R_reads' HO_5.out).2.2
               have q0154 : (0 : Int) ≤ ((ji47) : Int) := of_decide_eq_true (by first | (with_reducible assumption) | assumption)
               have hcut154 := cut_from (P := Tryd.prog) 22 3 .i64 Tryd.underlying22 hi0154 1 hsz154 Ao152 t690.length co152 (ji47) q0154 q154
               have hr154 := Kd.C_drop (m := ((ji47) : Int).toNat) (c := co152) hC154 (by omega) hroom154
               obtain ⟨A154, hA154⟩ : ∃ A1, A1 = (if co152 = ((ji47) : Int).toNat then Ao152 else (Ao152 : Option Addr).map (·.add (((ji47) : Int).toNat * 1))) := ⟨_, rfl⟩
               obtain ⟨c154, hc154⟩ : ∃ c1, c1 = co152 - ((ji47) : Int).toNat := ⟨_, rfl⟩
               have hy154 : y711.length = t690.length - ((ji47) : Int).toNat := (by rw [Ny711.out, List.length_drop] <;> omega)
               rw [show (t690).drop ((ji47) : Int).toNat = y711 from Ny711.out.symm] at hr154
               replace hr154 : Kd.C (Kd.int .i64) _ A154 y711.length y711 := (by rw [hA154]; exact hr154)
               rw [← hy154, ← hA154, ← hc154] at hcut154
               have HR714 := Aside0.mk hr154
               have HC714 := Aside0.mk (show y711.length ≤ c154 from by rw [hy154, hc154]; exact Nat.sub_le_sub_right hroom154 _)
               clear hr154 hC154 hroom154 hi0154 hsz154 hc154
               have KY154 := Aside0.mk hy154
               have KA154 := Aside0.mk hA154
               clear hy154 hA154
               have KL154 := Aside0.mk (show ((ji47) : Int).toNat ≤ t690.length from by omega)
               replace q154 := eq_true q154
               have q155 : ((ji47) : Int) ≤ ((t690.length : Int) : Int) := of_decide_eq_true (by first | (with_reducible assumption) | assumption)
               obtain ⟨i0155, hi0155, _, hsz155, _⟩ := info_parts info3
               have hroom155 : t690.length ≤ co152 := (Kd.R_reads' HO_5.out).2.1
               have hC155 : Kd.C (Kd.int .i64) _ Ao152 t690.length t690 := (Kd.R_reads' HO_5.out).2.2
               have hcut155 := cut_to (P := Tryd.prog) 22 3 .i64 Tryd.underlying22 hi0155 Ao152 t690.length co152 (ji47) (of_decide_eq_true (by first | (with_reducible assumption) | assumption)) q155 hroom155
               have hr155 := Kd.C_take (m := ((ji47) : Int).toNat) hC155 (by omega)
               have hy155 : y718.length = ((ji47) : Int).toNat := (by rw [Ny718.out, List.length_take]; omega)
               rw [← Ny718.out] at hr155
               rw [← hy155] at hcut155
               have HR721 := Aside0.mk hr155
               have HC721 := Aside0.mk (show y718.length ≤ co152 from by omega)
               clear hr155 hC155 hroom155 hi0155 hsz155
               have KY155 := Aside0.mk hy155
               clear hy155
               have KL155 := Aside0.mk (show ((ji47) : Int).toNat ≤ t690.length from by omega)
               replace q155 := eq_true q155
               refine start_ (n := 9) (S := fun w' => True) (ds := []) (Qbz 9 0) (by kernel_rfl) rfl rfl trivial (fun hHeld => ?_); refine with_tabW lampblacklaw07_MinorRound.tab14 lampblacklaw07_MinorRound.bits14 (fun HT_ HW_ => ?_)
               generalize wc.drew = w153 at HO_5 HB HR714 HR721 hHeld ⊢
               refine pure_ (i := 0) (N := some 93) (v := ?_) (a' := ?_) (Qbz 9 1) rfl rfl (any_of HT_.out (by kernel_rfl)) (fun _ _ _ h => h) (Or.inl ⟨by rfl, ?_⟩) ?_ ?_
               rotate_left
               ·intro w'
                go_simp
                with_reducible rfl
               rotate_left
               ·simp only [Act.put, Qp1, Qp2, Qp3, i64_w, i32_w]
                rfl
               refine pure_ (i := 1) (N := some 94) (v := ?_) (a' := ?_) (Qbz 9 3) rfl rfl (any_of HT_.out (by kernel_rfl)) (fun _ _ _ h => h) (Or.inl ⟨by rfl, ?_⟩) ?_ ?_
               rotate_left
               ·intro w'
                go_simp
                with_reducible rfl
               rotate_left
               ·simp only [Act.put, Qp1, Qp2, Qp3, i64_w, i32_w]
                rfl
               refine pure_ (i := 2) (N := some 95) (v := ?_) (a' := ?_) (Qbz 9 7) rfl rfl (any_of HT_.out (by kernel_rfl)) (fun _ _ _ h => h) (Or.inl ⟨by rfl, ?_⟩) ?_ ?_
               rotate_left
               ·intro w'
                go_simp
                with_reducible rfl
               rotate_left
               ·simp only [Act.put, Qp1, Qp2, Qp3, i64_w, i32_w]
                rfl
               refine pure_ (i := 4) (N := some 97) (v := ?_) (a' := ?_) (Qbz 9 23) rfl rfl (any_of HT_.out (by kernel_rfl)) (fun _ _ _ h => h) (Or.inl ⟨by rfl, ?_⟩) ?_ ?_
               rotate_left
               ·intro w'
                go_simp
                with_reducible rfl
               rotate_left
               ·simp only [Act.put, Qp1, Qp2, Qp3, i64_w, i32_w]
                rfl
               refine pure_ (i := 5) (N := some 98) (v := ?_) (a' := ?_) (Qbz 9 55) rfl rfl (any_of HT_.out (by kernel_rfl)) (fun _ _ _ h => h) (Or.inl ⟨by rfl, ?_⟩) ?_ ?_
               rotate_left
               ·intro w'
                go_simp
                with_reducible rfl
               rotate_left
               ·simp only [Act.put, Qp1, Qp2, Qp3, i64_w, i32_w]
                rfl
               refine pure_ (i := 6) (N := some 99) (v := ?_) (a' := ?_) (Qbz 9 119) rfl rfl (any_of HT_.out (by kernel_rfl)) (fun _ _ _ h => h) (Or.inl ⟨by rfl, ?_⟩) ?_ ?_
               rotate_left
               ·intro w'
                go_simp
                with_reducible rfl
               rotate_left
               ·simp only [Act.put, Qp1, Qp2, Qp3, i64_w, i32_w]
                rfl
               refine one_ (i := 3) (N := some 96) (Qbz 9 127) rfl rfl (one_of HT_.out (by kernel_rfl)) (by decide) (fun K hK => ?_)
               refine goes_ Tryd.func57 (by kernel_rfl) rfl #[.slice A154 y711.length c154] (by rfl) rfl rfl (Qls) ?_
               with_reducible refine (slices_Clone_int_int.calls _ _ y711 t715 _ ?side1 ?side2 A50.out).mono ?_
               (case side1 => repeat (first | exact (by repeat (first | (with_reducible exact HR714.out) | (with_reducible refine Kd.C_alloc ?_ _) | (with_reducible refine Kd.C_drewN ?_ _) | (with_reducible refine Kd.C_drew ?_) | exact HR714.out)) | (with_reducible refine Kd.C_alloc ?_ _) | (with_reducible refine Kd.C_drewN ?_ _) | (with_reducible refine Kd.C_drew ?_)))
               (case side2 => exact HC714.out)
               rintro e w156 ⟨v716, rfl, ho0, hb⟩
               refine ⟨_, rfl, ?_⟩
               have n0_ := Aside0.mk (Kd.R_elder' (Qro HO_5.out) (Kd.R_base ho0) hb)
               have n1_ := Aside0.mk (Kd.R_lower (Kd.R_new' ho0 (Kd.R_lt (Qro HO_5.out))) (below_size (Qaw)))
               have n2_ := Aside0.mk (Kd.C_below (by repeat (first | (with_reducible exact HR714.out) | (with_reducible refine Kd.C_alloc ?_ _) | (with_reducible refine Kd.C_drewN ?_ _) | (with_reducible refine Kd.C_drew ?_) | exact HR714.out)) hb)
               have n3_ := Aside0.mk (Kd.C_below (by repeat (first | (with_reducible exact HR721.out) | (with_reducible refine Kd.C_alloc ?_ _) | (with_reducible refine Kd.C_drewN ?_ _) | (with_reducible refine Kd.C_drew ?_) | exact HR721.out)) hb)
               have n4_ := Aside0.mk (below_step (Qaw) hb)
               clear HO_5
               clear HR714
               clear HR721
               clear HB
               have HO_5 := n0_
               have HO717 := n1_
               have HR714 := n2_
               have HR721 := n3_
               have HB := n4_
               clear n0_ n1_ n2_ n3_ n4_
               (try clear hb)
               (try clear hb2)
               (try clear hk)
               (try clear hi)
               (try clear ho0)
               refine hK.out _ _ trivial (fun hHeld => ?_)
               clear hK K
               refine norm_ (a' := ?_) ?_ ?_
               rotate_left
               ·show Act.put _ (some 96) _ = _
                simp only [Act.put, Qp1, Qp2, Qp3, i64_w, i32_w]
                rfl
               refine one_ (i := 7) (N := some 100) (Qbz 9 255) rfl rfl (one_of HT_.out (by kernel_rfl)) (by decide) (fun K hK => ?_)
               refine Kd.R_append_rows_step (Kd.int .i64) (w0 := w) w.heap.size (by rfl) (.tmp 96) (.tmp 99) 22 3 (.int .i64 0) 8 rfl Tryd.underlying22 info3 rfl (by decide) (by omega) v716 t715 y718 _ _ _ (fun k_ => some k_ ≠ (.slice Ao152 t690.length co152 : Value).ownBlock) (fun _ => False) rfl rfl ?aO ?aR (fun _ _ h => h) (fun _ h => h.elim) ?aF ?aB ?aS ?aL ?_
               (case aR => repeat (first | exact (by repeat (first | (with_reducible exact HR721.out) | (with_reducible refine Kd.C_alloc ?_ _) | (with_reducible refine Kd.C_drewN ?_ _) | (with_reducible refine Kd.C_drew ?_) | exact HR721.out)) | (with_reducible refine Kd.C_alloc ?_ _) | (with_reducible refine Kd.C_drewN ?_ _) | (with_reducible refine Kd.C_drew ?_)))
               (case aB => exact (Qaw))
               (case aF => exact (fun k_ hk => Kd.fresh' (Kd.R_lt (Qro HO_5.out)) k_ hk))
               (case aO => exact (by (with_reducible repeat (first | apply Kd.R_alloc | apply Kd.R_drewN | apply Kd.R_drew)); exact Kd.R_mono HO717.out (fun _ hk => hk.2)))
               (case aS => exact (below_size (Qaw)))
               (case aL => have := LMc53.out; omega)
               intro v723 w157 ho hb hg hat
               rw [← Ny722.out] at ho
               have n0_ := Aside0.mk (Kd.R_after (ok := (fun _ => True)) (Qro HO_5.out) hg hat)
               have n1_ := Aside0.mk (hb)
               have n2_ := Aside0.mk ((show Kd.C (Kd.int .i64) w157 A154 y711.length y711 from by rw [Ny711.out, KA154.out]; exact Kd.C_drop (m := ((ji47) : Int).toNat) (c := co152) ((Kd.R_reads' (Kd.R_after (ok := (fun _ => True)) (Qro HO_5.out) hg hat)).2.2) KL154.out ((Kd.R_reads' (Kd.R_after (ok := (fun _ => True)) (Qro HO_5.out) hg hat)).2.1)))
               have n3_ := Aside0.mk ((show Kd.C (Kd.int .i64) w157 Ao152 y718.length y718 from by rw [Ny718.out]; exact Kd.C_take (m := ((ji47) : Int).toNat) ((Kd.R_reads' (Kd.R_after (ok := (fun _ => True)) (Qro HO_5.out) hg hat)).2.2) KL155.out))
               have n4_ := Aside0.mk (ho)
               clear HO_5
               clear HB
               clear HR714
               clear HR721
               clear HO717
               have HO_5 := n0_
               have HB := n1_
               have HR714 := n2_
               have HR721 := n3_
               have HO724 := n4_
               clear n0_ n1_ n2_ n3_ n4_
               clear ho hb hg hat
               refine hK.out _ _ trivial (fun hHeld => ?_)
               clear hK K
               refine norm_ (a' := ?_) ?_ ?_
               rotate_left
               ·show Act.put _ (some 100) _ = _
                simp only [Act.put, Qp1, Qp2, Qp3, i64_w, i32_w]
                rfl
               refine pure_ (i := 8) (N := some 13) (v := ?_) (a' := ?_) (Qbz 9 511) rfl rfl (any_of HT_.out (by kernel_rfl)) (fun _ _ _ h => h) (Or.inl ⟨by rfl, ?_⟩) ?_ ?_
               rotate_left
               ·intro w'
                go_simp
                with_reducible rfl
               rotate_left
               ·simp only [Act.put, Qp1, Qp2, Qp3, i64_w, i32_w]
                rfl
               refine done_ (done_of HT_.out (by kernel_rfl)) ?_
               try go_wp2_with (first | ((with_reducible refine gate_callee (f := 22) rfl ?_); refine goesL_ (some 103) rfl rfl Tryd.func22 (by kernel_rfl) rfl #[.slice A0 l0.length c0] rfl (Qls) ?_; (with_reducible refine (lampblacklaw07_Few.calls _ _ l0 t725 _ ?side1 ?side2 A54.out).mono ?_); (case side1 => exact Qsc (Kd.C_below HR0.out HB.out)); (case side2 => exact HC0.out); rintro e w158 ⟨v726, rfl, ho0, hb⟩; refine ⟨_, rfl, ?_⟩; have n0_ := Aside0.mk (Kd.R_elder' (Qro HO_5.out) (Kd.R_base ho0) hb); have n1_ := Aside0.mk (Kd.R_elder' (Qro HO724.out) (Kd.R_base ho0) hb); have n2_ := Aside0.mk (Kd.R_lower (Kd.R_new' (Kd.R_new' ho0 (Kd.R_lt (Qro HO_5.out))) (Kd.R_lt (Qro HO724.out))) (below_size (Qaw))); have n3_ := Aside0.mk (Kd.C_below (by repeat (first | (with_reducible exact HR714.out) | (with_reducible refine Kd.C_alloc ?_ _) | (with_reducible refine Kd.C_drewN ?_ _) | (with_reducible refine Kd.C_drew ?_) | exact HR714.out)) hb); have n4_ := Aside0.mk (Kd.C_below (by repeat (first | (with_reducible exact HR721.out) | (with_reducible refine Kd.C_alloc ?_ _) | (with_reducible refine Kd.C_drewN ?_ _) | (with_reducible refine Kd.C_drew ?_) | exact HR721.out)) hb); have n5_ := Aside0.mk (below_step (Qaw) hb); clear HO_5; clear HO724; clear HR714; clear HR721; clear HB; have HO_5 := n0_; have HO724 := n1_; have HO727 := n2_; have HR714 := n3_; have HR721 := n4_; have HB := n5_; clear n0_ n1_ n2_ n3_ n4_ n5_; (try clear hb); (try clear hb2); (try clear hk); (try clear hi); (try clear ho0); obtain ⟨Ao159, co159, eo159⟩ := Kd.R_slice HO727.out; subst eo159) | ((with_reducible refine gate_callee (f := 48) rfl ?_); refine goesL_ (some 105) rfl rfl Tryd.func48 (by kernel_rfl) rfl #[.slice Ao159 t725.length co159, .slice Ao152 t690.length co152] rfl (Qls) ?_; (with_reducible refine (minor_CheckOuter.calls kj26 _ _ t725 _ _ t690 true t729 _ ?side1 ?side2 ?side3 ?side4 A55.out).mono ?_); (case side1 => exact Qsc (Kd.R_reads' HO727.out).2.2); (case side2 => exact (Kd.R_reads' HO727.out).2.1); (case side3 => exact Qsc (Kd.R_reads' HO_5.out).2.2); (case side4 => exact (Kd.R_reads' HO_5.out).2.1); rintro e w160 ⟨rfl, hb⟩; refine ⟨_, rfl, ?_⟩; have n0_ := Aside0.mk (Kd.R_below (Qro HO_5.out) hb); have n1_ := Aside0.mk (Kd.R_below (Qro HO724.out) hb); have n2_ := Aside0.mk (Kd.R_below (Qro HO727.out) hb); have n3_ := Aside0.mk (Kd.C_below (by repeat (first | (with_reducible exact HR714.out) | (with_reducible refine Kd.C_alloc ?_ _) | (with_reducible refine Kd.C_drewN ?_ _) | (with_reducible refine Kd.C_drew ?_) | exact HR714.out)) hb); have n4_ := Aside0.mk (Kd.C_below (by repeat (first | (with_reducible exact HR721.out) | (with_reducible refine Kd.C_alloc ?_ _) | (with_reducible refine Kd.C_drewN ?_ _) | (with_reducible refine Kd.C_drew ?_) | exact HR721.out)) hb); have n5_ := Aside0.mk (below_step (Qaw) hb); clear HO_5; clear HO724; clear HO727; clear HR714; clear HR721; clear HB; have HO_5 := n0_; have HO724 := n1_; have HO727 := n2_; have HR714 := n3_; have HR721 := n4_; have HB := n5_; clear n0_ n1_ n2_ n3_ n4_ n5_; (try clear hb); (try clear hb2); (try clear hk); (try clear hi)) | ((with_reducible refine gate_callee (f := 22) rfl ?_); refine goesL_ (some 110) rfl rfl Tryd.func22 (by kernel_rfl) rfl #[.slice A0 l0.length c0] rfl (Qls) ?_; (with_reducible refine (lampblacklaw07_Few.calls _ _ l0 t730 _ ?side1 ?side2 A56.out).mono ?_); (case side1 => exact Qsc (Kd.C_below HR0.out HB.out)); (case side2 => exact HC0.out); rintro e w161 ⟨v731, rfl, ho0, hb⟩; refine ⟨_, rfl, ?_⟩; have n0_ := Aside0.mk (Kd.R_elder' (Qro HO_5.out) (Kd.R_base ho0) hb); have n1_ := Aside0.mk (Kd.R_elder' (Qro HO724.out) (Kd.R_base ho0) hb); have n2_ := Aside0.mk (Kd.R_elder' (Qro HO727.out) (Kd.R_base ho0) hb); have n3_ := Aside0.mk (Kd.R_lower (Kd.R_new' (Kd.R_new' (Kd.R_new' ho0 (Kd.R_lt (Qro HO_5.out))) (Kd.R_lt (Qro HO724.out))) (Kd.R_lt (Qro HO727.out))) (below_size (Qaw))); have n4_ := Aside0.mk (Kd.C_below (by repeat (first | (with_reducible exact HR714.out) | (with_reducible refine Kd.C_alloc ?_ _) | (with_reducible refine Kd.C_drewN ?_ _) | (with_reducible refine Kd.C_drew ?_) | exact HR714.out)) hb); have n5_ := Aside0.mk (Kd.C_below (by repeat (first | (with_reducible exact HR721.out) | (with_reducible refine Kd.C_alloc ?_ _) | (with_reducible refine Kd.C_drewN ?_ _) | (with_reducible refine Kd.C_drew ?_) | exact HR721.out)) hb); have n6_ := Aside0.mk (below_step (Qaw) hb); clear HO_5; clear HO724; clear HO727; clear HR714; clear HR721; clear HB; have HO_5 := n0_; have HO724 := n1_; have HO727 := n2_; have HO732 := n3_; have HR714 := n4_; have HR721 := n5_; have HB := n6_; clear n0_ n1_ n2_ n3_ n4_ n5_ n6_; (try clear hb); (try clear hb2); (try clear hk); (try clear hi); (try clear ho0); obtain ⟨Ao162, co162, eo162⟩ := Kd.R_slice HO732.out; subst eo162; obtain ⟨Ao163, co163, eo163⟩ := Kd.R_slice HO724.out; subst eo163) | ((with_reducible refine gate_callee (f := 48) rfl ?_); refine goesL_ (some 112) rfl rfl Tryd.func48 (by kernel_rfl) rfl #[.slice Ao162 t730.length co162, .slice Ao163 y722.length co163] rfl (Qls) ?_; (with_reducible refine (minor_CheckOuter.calls kj26 _ _ t730 _ _ y722 true t734 _ ?side1 ?side2 ?side3 ?side4 A57.out).mono ?_); (case side1 => exact Qsc (Kd.R_reads' HO732.out).2.2); (case side2 => exact (Kd.R_reads' HO732.out).2.1); (case side3 => exact Qsc (Kd.R_reads' HO724.out).2.2); (case side4 => exact (Kd.R_reads' HO724.out).2.1); rintro e w164 ⟨rfl, hb⟩; refine ⟨_, rfl, ?_⟩; have n0_ := Aside0.mk (Kd.R_below (Qro HO_5.out) hb); have n1_ := Aside0.mk (Kd.R_below (Qro HO724.out) hb); have n2_ := Aside0.mk (Kd.R_below (Qro HO727.out) hb); have n3_ := Aside0.mk (Kd.R_below (Qro HO732.out) hb); have n4_ := Aside0.mk (Kd.C_below (by repeat (first | (with_reducible exact HR714.out) | (with_reducible refine Kd.C_alloc ?_ _) | (with_reducible refine Kd.C_drewN ?_ _) | (with_reducible refine Kd.C_drew ?_) | exact HR714.out)) hb); have n5_ := Aside0.mk (Kd.C_below (by repeat (first | (with_reducible exact HR721.out) | (with_reducible refine Kd.C_alloc ?_ _) | (with_reducible refine Kd.C_drewN ?_ _) | (with_reducible refine Kd.C_drew ?_) | exact HR721.out)) hb); have n6_ := Aside0.mk (below_step (Qaw) hb); clear HO_5; clear HO724; clear HO727; clear HO732; clear HR714; clear HR721; clear HB; have HO_5 := n0_; have HO724 := n1_; have HO727 := n2_; have HO732 := n3_; have HR714 := n4_; have HR721 := n5_; have HB := n6_; clear n0_ n1_ n2_ n3_ n4_ n5_ n6_; (try clear hb); (try clear hb2); (try clear hk); (try clear hi)) | ((with_reducible refine gate_callee (f := 58) rfl ?_); refine goesL_ (some 116) rfl rfl Tryd.func58 (by kernel_rfl) rfl #[.slice Ao163 y722.length co163] rfl (Qls) ?_; (with_reducible refine (slices_Reverse_int_int.calls kj26 (fun k_ => some k_ = (.slice Ao163 y722.length co163 : Value).ownBlock) (.slice Ao163 y722.length co163) y722 t735 w _ ?side1 ?side2 A58.out).mono ?_); (case side1 => repeat (first | (with_reducible first | exact HB.out | apply below_alloc | apply pw_below_drewN | apply below_drew1) | exact HB.out)); (case side2 => exact Kd.R_tight rfl HO724.out); rintro e w165 ⟨rfl, hy0, hb, hkp⟩; refine ⟨_, rfl, ?_⟩; have n0_ := Aside0.mk (Kd.R_mono (ok' := fun k_ => some k_ ≠ (.slice Ao163 y722.length co163 : Value).ownBlock ∧ some k_ ≠ (.slice Ao159 t725.length co159 : Value).ownBlock ∧ some k_ ≠ (.slice Ao162 t730.length co162 : Value).ownBlock) (Kd.R_keptB (HO_5.out) hkp (fun k_ hk_ hs_ => (hk_.1.1.2) hs_)) (fun k_ hk_ => ⟨hk_.1.1.1.2, hk_.1.1.2, hk_.1.2⟩)); have n1_ := Aside0.mk (Kd.R_reok rfl hy0 (fun k_ e_ => HO724.out.1 k_ e_)); have n2_ := Aside0.mk (Kd.R_mono (ok' := fun k_ => some k_ ≠ (.slice Ao152 t690.length co152 : Value).ownBlock ∧ some k_ ≠ (.slice Ao163 y722.length co163 : Value).ownBlock ∧ some k_ ≠ (.slice Ao162 t730.length co162 : Value).ownBlock) (Kd.R_keptB (HO727.out) hkp (fun k_ hk_ hs_ => (hk_.1.2) hs_)) (fun k_ hk_ => ⟨hk_.1.1.1.2, hk_.1.1.2, hk_.1.2⟩)); have n3_ := Aside0.mk (Kd.R_mono (ok' := fun k_ => some k_ ≠ (.slice Ao152 t690.length co152 : Value).ownBlock ∧ some k_ ≠ (.slice Ao163 y722.length co163 : Value).ownBlock ∧ some k_ ≠ (.slice Ao159 t725.length co159 : Value).ownBlock) (Kd.R_keptB (HO732.out) hkp (fun k_ hk_ hs_ => (hk_.1.2) hs_)) (fun k_ hk_ => ⟨hk_.1.1.1.2, hk_.1.1.2, hk_.1.2⟩)); have n4_ := Aside0.mk (hb); clear HO_5; clear HO724; clear HO727; clear HO732; clear HB; have HO_5 := n0_; have HO724 := n1_; have HO727 := n2_; have HO732 := n3_; have HB := n4_; clear n0_ n1_ n2_ n3_ n4_; (try clear hb); (try clear hkp); (try clear hy0)) | ((with_reducible refine gate_callee (f := 22) rfl ?_); refine goesL_ (some 119) rfl rfl Tryd.func22 (by kernel_rfl) rfl #[.slice A0 l0.length c0] rfl (Qls) ?_; (with_reducible refine (lampblacklaw07_Few.calls _ _ l0 t736 _ ?side1 ?side2 A59.out).mono ?_); (case side1 => exact Qsc (Kd.C_below HR0.out HB.out)); (case side2 => exact HC0.out); rintro e w166 ⟨v737, rfl, ho0, hb⟩; refine ⟨_, rfl, ?_⟩; have n0_ := Aside0.mk (Kd.R_elder' (Qro HO_5.out) (Kd.R_base ho0) hb); have n1_ := Aside0.mk (Kd.R_elder' (Qro HO724.out) (Kd.R_base ho0) hb); have n2_ := Aside0.mk (Kd.R_elder' (Qro HO727.out) (Kd.R_base ho0) hb); have n3_ := Aside0.mk (Kd.R_elder' (Qro HO732.out) (Kd.R_base ho0) hb); have n4_ := Aside0.mk (Kd.R_lower (Kd.R_new' (Kd.R_new' (Kd.R_new' (Kd.R_new' ho0 (Kd.R_lt (Qro HO_5.out))) (Kd.R_lt (Qro HO724.out))) (Kd.R_lt (Qro HO727.out))) (Kd.R_lt (Qro HO732.out))) (below_size (Qaw))); have n5_ := Aside0.mk (below_step (Qaw) hb); clear HO_5; clear HO724; clear HO727; clear HO732; clear HB; have HO_5 := n0_; have HO724 := n1_; have HO727 := n2_; have HO732 := n3_; have HO738 := n4_; have HB := n5_; clear n0_ n1_ n2_ n3_ n4_ n5_; (try clear hb); (try clear hb2); (try clear hk); (try clear hi); (try clear ho0); obtain ⟨Ao167, co167, eo167⟩ := Kd.R_slice HO738.out; subst eo167) | ((with_reducible refine gate_callee (f := 48) rfl ?_); refine goesL_ (some 121) rfl rfl Tryd.func48 (by kernel_rfl) rfl #[.slice Ao167 t736.length co167, .slice Ao163 t735.length co163] rfl (by (try simp only [List.map_toArray, List.map_cons, List.map_nil]); first | done | (rw [show t735.length = y722.length from (Kd.R_reads' HO724.out).1.symm] <;> rfl) | rfl | (simp only [List.length_drop, List.length_take]; rfl)) ?_; (with_reducible refine (minor_CheckOuter.calls kj26 _ _ t736 _ _ t735 true t740 _ ?side1 ?side2 ?side3 ?side4 A60.out).mono ?_); (case side1 => exact Qsc (Kd.R_reads' HO738.out).2.2); (case side2 => exact (Kd.R_reads' HO738.out).2.1); (case side3 => exact Qsc (Kd.R_reads' HO724.out).2.2); (case side4 => rw [show t735.length = y722.length from (Kd.R_reads' HO724.out).1.symm]; exact (Kd.R_reads' HO724.out).2.1); rintro e w168 ⟨rfl, hb⟩; refine ⟨_, rfl, ?_⟩; have n0_ := Aside0.mk (Kd.R_below (Qro HO_5.out) hb); have n1_ := Aside0.mk (Kd.R_below (Qro HO724.out) hb); have n2_ := Aside0.mk (Kd.R_below (Qro HO727.out) hb); have n3_ := Aside0.mk (Kd.R_below (Qro HO732.out) hb); have n4_ := Aside0.mk (Kd.R_below (Qro HO738.out) hb); have n5_ := Aside0.mk (below_step (Qaw) hb); clear HO_5; clear HO724; clear HO727; clear HO732; clear HO738; clear HB; have HO_5 := n0_; have HO724 := n1_; have HO727 := n2_; have HO732 := n3_; have HO738 := n4_; have HB := n5_; clear n0_ n1_ n2_ n3_ n4_ n5_; (try clear hb); (try clear hb2); (try clear hk); (try clear hi)) | ((with_reducible refine gate_callee (f := 22) rfl ?_); refine goesL_ (some 126) rfl rfl Tryd.func22 (by kernel_rfl) rfl #[.slice A0 l0.length c0] rfl (Qls) ?_; (with_reducible refine (lampblacklaw07_Few.calls _ _ l0 t741 _ ?side1 ?side2 A61.out).mono ?_); (case side1 => exact Qsc (Kd.C_below HR0.out HB.out)); (case side2 => exact HC0.out); rintro e w169 ⟨v742, rfl, ho0, hb⟩; refine ⟨_, rfl, ?_⟩; have n0_ := Aside0.mk (Kd.R_elder' (Qro HO_5.out) (Kd.R_base ho0) hb); have n1_ := Aside0.mk (Kd.R_elder' (Qro HO724.out) (Kd.R_base ho0) hb); have n2_ := Aside0.mk (Kd.R_elder' (Qro HO727.out) (Kd.R_base ho0) hb); have n3_ := Aside0.mk (Kd.R_elder' (Qro HO732.out) (Kd.R_base ho0) hb); have n4_ := Aside0.mk (Kd.R_elder' (Qro HO738.out) (Kd.R_base ho0) hb); have n5_ := Aside0.mk (Kd.R_lower (Kd.R_new' (Kd.R_new' (Kd.R_new' (Kd.R_new' (Kd.R_new' ho0 (Kd.R_lt (Qro HO_5.out))) (Kd.R_lt (Qro HO724.out))) (Kd.R_lt (Qro HO727.out))) (Kd.R_lt (Qro HO732.out))) (Kd.R_lt (Qro HO738.out))) (below_size (Qaw))); have n6_ := Aside0.mk (below_step (Qaw) hb); clear HO_5; clear HO724; clear HO727; clear HO732; clear HO738; clear HB; have HO_5 := n0_; have HO724 := n1_; have HO727 := n2_; have HO732 := n3_; have HO738 := n4_; have HO743 := n5_; have HB := n6_; clear n0_ n1_ n2_ n3_ n4_ n5_ n6_; (try clear hb); (try clear hb2); (try clear hk); (try clear hi); (try clear ho0); obtain ⟨Ao170, co170, eo170⟩ := Kd.R_slice HO743.out; subst eo170) | ((with_reducible refine gate_callee (f := 40) rfl ?_); refine goesL_ (some 127) rfl rfl Tryd.func40 (by kernel_rfl) rfl #[.slice Ao170 t741.length co170] rfl (Qls) ?_; (with_reducible refine (minor_Reduce.calls (hGL := (Qlg)) _ _ t741 t744 t745 _ ?side1 ?side2 A62.out).mono ?_); (case side1 => exact Qsc (Kd.R_reads' HO743.out).2.2); (case side2 => exact (Kd.R_reads' HO743.out).2.1); rintro e w171 ⟨v746, rfl, ho0, hb⟩; refine ⟨_, rfl, ?_⟩; have n0_ := Aside0.mk (Kd.R_below (Qro HO_5.out) hb); have n1_ := Aside0.mk (Kd.R_below (Qro HO724.out) hb); have n2_ := Aside0.mk (Kd.R_below (Qro HO727.out) hb); have n3_ := Aside0.mk (Kd.R_below (Qro HO732.out) hb); have n4_ := Aside0.mk (Kd.R_below (Qro HO738.out) hb); have n5_ := Aside0.mk (Kd.R_below (Qro HO743.out) hb); have n6_ := Aside0.mk (Kd.R_lower ho0 (below_size (Qaw))); have n7_ := Aside0.mk (below_step (Qaw) hb); clear HO_5; clear HO724; clear HO727; clear HO732; clear HO738; clear HO743; clear HB; have HO_5 := n0_; have HO724 := n1_; have HO727 := n2_; have HO732 := n3_; have HO738 := n4_; have HO743 := n5_; have HO747 := n6_; have HB := n7_; clear n0_ n1_ n2_ n3_ n4_ n5_ n6_ n7_; (try clear hb); (try clear hb2); (try clear hk); (try clear hi); (try clear ho0)))
               go_ret
               exact ⟨by first | rfl | (simp [errW_none, errW_some] <;> rfl) | (simp only [← hji47]; first | rfl | (simp [errW_none, errW_some] <;> rfl)) | (simp [*, errW_none, errW_some] <;> rfl), by repeat (first | (with_reducible first | exact HB.out | apply below_alloc | apply pw_below_drewN | apply below_drew1) | exact HB.out)⟩
             ·replace c65 := Bool.eq_false_iff.mpr c65
              subst c65
              have H1 : (some false) = some r := by rw [if_neg (show ¬ (false = true) by decide)] at H; exact H
              clear H
              have H := H1
              clear H1
              obtain rfl := Option.some.inj H
              obtain ⟨Ao172, co172, eo172⟩ := Kd.R_slice HO_5.out
              subst eo172
              try go_wp2
              have n0_ := Aside0.mk (Kd.R_drew HO_5.out)
              have n1_ := Aside0.mk (below_drew1 HB.out)
              clear HO_5
              clear HB
              have HO_5 := n0_
              have HB := n1_
              clear n0_ n1_
              have q174 : ((ji47) : Int) ≤ ((t690.length : Int) : Int) := of_decide_eq_true (by first | (with_reducible assumption) | assumption)
              obtain ⟨i0174, hi0174, _, hsz174, _⟩ := info_parts info3
              have hroom174 : t690.length ≤ co172 := (Kd.R_reads' HO_5.out).2.1
              have hC174 : Kd.C (Kd.int .i64) _ Ao172 t690.length t690 := (Kd.R_reads' HO_5.out).2.2
              have q0174 : (0 : Int) ≤ ((ji47) : Int) := of_decide_eq_true (by first | (with_reducible assumption) | assumption)
              have hcut174 := cut_from (P := Tryd.prog) 22 3 .i64 Tryd.underlying22 hi0174 1 hsz174 Ao172 t690.length co172 (ji47) q0174 q174
              have hr174 := Kd.C_drop (m := ((ji47) : Int).toNat) (c := co172) hC174 (by omega) hroom174
              obtain ⟨A174, hA174⟩ : ∃ A1, A1 = (if co172 = ((ji47) : Int).toNat then Ao172 else (Ao172 : Option Addr).map (·.add (((ji47) : Int).toNat * 1))) := ⟨_, rfl⟩
              obtain ⟨c174, hc174⟩ : ∃ c1, c1 = co172 - ((ji47) : Int).toNat := ⟨_, rfl⟩
              have hy174 : y711.length = t690.length - ((ji47) : Int).toNat := (by rw [Ny711.out, List.length_drop] <;> omega)
              rw [show (t690).drop ((ji47) : Int).toNat = y711 from Ny711.out.symm] at hr174
              replace hr174 : Kd.C (Kd.int .i64) _ A174 y711.length y711 := (by rw [hA174]; exact hr174)
              rw [← hy174, ← hA174, ← hc174] at hcut174
              have HR714 := Aside0.mk hr174
              have HC714 := Aside0.mk (show y711.length ≤ c174 from by rw [hy174, hc174]; exact Nat.sub_le_sub_right hroom174 _)
              clear hr174 hC174 hroom174 hi0174 hsz174 hc174
              have KY174 := Aside0.mk hy174
              have KA174 := Aside0.mk hA174
              clear hy174 hA174
              have KL174 := Aside0.mk (show ((ji47) : Int).toNat ≤ t690.length from by omega)
              replace q174 := eq_true q174
              have q175 : ((ji47) : Int) ≤ ((t690.length : Int) : Int) := of_decide_eq_true (by first | (with_reducible assumption) | assumption)
              obtain ⟨i0175, hi0175, _, hsz175, _⟩ := info_parts info3
              have hroom175 : t690.length ≤ co172 := (Kd.R_reads' HO_5.out).2.1
              have hC175 : Kd.C (Kd.int .i64) _ Ao172 t690.length t690 := (Kd.R_reads' HO_5.out).2.2
              have hcut175 := cut_to (P := Tryd.prog) 22 3 .i64 Tryd.underlying22 hi0175 Ao172 t690.length co172 (ji47) (of_decide_eq_true (by first | (with_reducible assumption) | assumption)) q175 hroom175
              have hr175 := Kd.C_take (m := ((ji47) : Int).toNat) hC175 (by omega)
              have hy175 : y718.length = ((ji47) : Int).toNat := (by rw [Ny718.out, List.length_take]; omega)
              rw [← Ny718.out] at hr175
              rw [← hy175] at hcut175
              have HR721 := Aside0.mk hr175
              have HC721 := Aside0.mk (show y718.length ≤ co172 from by omega)
              clear hr175 hC175 hroom175 hi0175 hsz175
              have KY175 := Aside0.mk hy175
              clear hy175
              have KL175 := Aside0.mk (show ((ji47) : Int).toNat ≤ t690.length from by omega)
              replace q175 := eq_true q175
              refine start_ (n := 9) (S := fun w' => True) (ds := []) (Qbz 9 0) (by kernel_rfl) rfl rfl trivial (fun hHeld => ?_); refine with_tabW lampblacklaw07_MinorRound.tab14 lampblacklaw07_MinorRound.bits14 (fun HT_ HW_ => ?_)
              generalize wc.drew = w173 at HO_5 HB HR714 HR721 hHeld ⊢
              refine pure_ (i := 0) (N := some 93) (v := ?_) (a' := ?_) (Qbz 9 1) rfl rfl (any_of HT_.out (by kernel_rfl)) (fun _ _ _ h => h) (Or.inl ⟨by rfl, ?_⟩) ?_ ?_
              rotate_left
              ·intro w'
               go_simp
               with_reducible rfl
              rotate_left
              ·simp only [Act.put, Qp1, Qp2, Qp3, i64_w, i32_w]
               rfl
              refine pure_ (i := 1) (N := some 94) (v := ?_) (a' := ?_) (Qbz 9 3) rfl rfl (any_of HT_.out (by kernel_rfl)) (fun _ _ _ h => h) (Or.inl ⟨by rfl, ?_⟩) ?_ ?_
              rotate_left
              ·intro w'
               go_simp
               with_reducible rfl
              rotate_left
              ·simp only [Act.put, Qp1, Qp2, Qp3, i64_w, i32_w]
               rfl
              refine pure_ (i := 2) (N := some 95) (v := ?_) (a' := ?_) (Qbz 9 7) rfl rfl (any_of HT_.out (by kernel_rfl)) (fun _ _ _ h => h) (Or.inl ⟨by rfl, ?_⟩) ?_ ?_
              rotate_left
              ·intro w'
               go_simp
               with_reducible rfl
              rotate_left
              ·simp only [Act.put, Qp1, Qp2, Qp3, i64_w, i32_w]
               rfl
              refine pure_ (i := 4) (N := some 97) (v := ?_) (a' := ?_) (Qbz 9 23) rfl rfl (any_of HT_.out (by kernel_rfl)) (fun _ _ _ h => h) (Or.inl ⟨by rfl, ?_⟩) ?_ ?_
              rotate_left
              ·intro w'
               go_simp
               with_reducible rfl
              rotate_left
              ·simp only [Act.put, Qp1, Qp2, Qp3, i64_w, i32_w]
               rfl
              refine pure_ (i := 5) (N := some 98) (v := ?_) (a' := ?_) (Qbz 9 55) rfl rfl (any_of HT_.out (by kernel_rfl)) (fun _ _ _ h => h) (Or.inl ⟨by rfl, ?_⟩) ?_ ?_
              rotate_left
              ·intro w'
               go_simp
               with_reducible rfl
              rotate_left
              ·simp only [Act.put, Qp1, Qp2, Qp3, i64_w, i32_w]
               rfl
              refine pure_ (i := 6) (N := some 99) (v := ?_) (a' := ?_) (Qbz 9 119) rfl rfl (any_of HT_.out (by kernel_rfl)) (fun _ _ _ h => h) (Or.inl ⟨by rfl, ?_⟩) ?_ ?_
              rotate_left
              ·intro w'
               go_simp
               with_reducible rfl
              rotate_left
              ·simp only [Act.put, Qp1, Qp2, Qp3, i64_w, i32_w]
               rfl
              refine one_ (i := 3) (N := some 96) (Qbz 9 127) rfl rfl (one_of HT_.out (by kernel_rfl)) (by decide) (fun K hK => ?_)
              refine goes_ Tryd.func57 (by kernel_rfl) rfl #[.slice A174 y711.length c174] (by rfl) rfl rfl (Qls) ?_
              with_reducible refine (slices_Clone_int_int.calls _ _ y711 t715 _ ?side1 ?side2 A50.out).mono ?_
              (case side1 => repeat (first | exact (by repeat (first | (with_reducible exact HR714.out) | (with_reducible refine Kd.C_alloc ?_ _) | (with_reducible refine Kd.C_drewN ?_ _) | (with_reducible refine Kd.C_drew ?_) | exact HR714.out)) | (with_reducible refine Kd.C_alloc ?_ _) | (with_reducible refine Kd.C_drewN ?_ _) | (with_reducible refine Kd.C_drew ?_)))
              (case side2 => exact HC714.out)
              rintro e w176 ⟨v716, rfl, ho0, hb⟩
              refine ⟨_, rfl, ?_⟩
              have n0_ := Aside0.mk (Kd.R_elder' (Qro HO_5.out) (Kd.R_base ho0) hb)
              have n1_ := Aside0.mk (Kd.R_lower (Kd.R_new' ho0 (Kd.R_lt (Qro HO_5.out))) (below_size (Qaw)))
              have n2_ := Aside0.mk (Kd.C_below (by repeat (first | (with_reducible exact HR714.out) | (with_reducible refine Kd.C_alloc ?_ _) | (with_reducible refine Kd.C_drewN ?_ _) | (with_reducible refine Kd.C_drew ?_) | exact HR714.out)) hb)
              have n3_ := Aside0.mk (Kd.C_below (by repeat (first | (with_reducible exact HR721.out) | (with_reducible refine Kd.C_alloc ?_ _) | (with_reducible refine Kd.C_drewN ?_ _) | (with_reducible refine Kd.C_drew ?_) | exact HR721.out)) hb)
              have n4_ := Aside0.mk (below_step (Qaw) hb)
              clear HO_5
              clear HR714
              clear HR721
              clear HB
              have HO_5 := n0_
              have HO717 := n1_
              have HR714 := n2_
              have HR721 := n3_
              have HB := n4_
              clear n0_ n1_ n2_ n3_ n4_
              (try clear hb)
              (try clear hb2)
              (try clear hk)
              (try clear hi)
              (try clear ho0)
              refine hK.out _ _ trivial (fun hHeld => ?_)
              clear hK K
              refine norm_ (a' := ?_) ?_ ?_
              rotate_left
              ·show Act.put _ (some 96) _ = _
               simp only [Act.put, Qp1, Qp2, Qp3, i64_w, i32_w]
               rfl
              refine one_ (i := 7) (N := some 100) (Qbz 9 255) rfl rfl (one_of HT_.out (by kernel_rfl)) (by decide) (fun K hK => ?_)
              refine Kd.R_append_rows_step (Kd.int .i64) (w0 := w) w.heap.size (by rfl) (.tmp 96) (.tmp 99) 22 3 (.int .i64 0) 8 rfl Tryd.underlying22 info3 rfl (by decide) (by omega) v716 t715 y718 _ _ _ (fun k_ => some k_ ≠ (.slice Ao172 t690.length co172 : Value).ownBlock) (fun _ => False) rfl rfl ?aO ?aR (fun _ _ h => h) (fun _ h => h.elim) ?aF ?aB ?aS ?aL ?_
              (case aR => repeat (first | exact (by repeat (first | (with_reducible exact HR721.out) | (with_reducible refine Kd.C_alloc ?_ _) | (with_reducible refine Kd.C_drewN ?_ _) | (with_reducible refine Kd.C_drew ?_) | exact HR721.out)) | (with_reducible refine Kd.C_alloc ?_ _) | (with_reducible refine Kd.C_drewN ?_ _) | (with_reducible refine Kd.C_drew ?_)))
              (case aB => exact (Qaw))
              (case aF => exact (fun k_ hk => Kd.fresh' (Kd.R_lt (Qro HO_5.out)) k_ hk))
              (case aO => exact (by (with_reducible repeat (first | apply Kd.R_alloc | apply Kd.R_drewN | apply Kd.R_drew)); exact Kd.R_mono HO717.out (fun _ hk => hk.2)))
              (case aS => exact (below_size (Qaw)))
              (case aL => have := LMc53.out; omega)
              intro v723 w177 ho hb hg hat
              rw [← Ny722.out] at ho
              have n0_ := Aside0.mk (Kd.R_after (ok := (fun _ => True)) (Qro HO_5.out) hg hat)
              have n1_ := Aside0.mk (hb)
              have n2_ := Aside0.mk ((show Kd.C (Kd.int .i64) w177 A174 y711.length y711 from by rw [Ny711.out, KA174.out]; exact Kd.C_drop (m := ((ji47) : Int).toNat) (c := co172) ((Kd.R_reads' (Kd.R_after (ok := (fun _ => True)) (Qro HO_5.out) hg hat)).2.2) KL174.out ((Kd.R_reads' (Kd.R_after (ok := (fun _ => True)) (Qro HO_5.out) hg hat)).2.1)))
              have n3_ := Aside0.mk ((show Kd.C (Kd.int .i64) w177 Ao172 y718.length y718 from by rw [Ny718.out]; exact Kd.C_take (m := ((ji47) : Int).toNat) ((Kd.R_reads' (Kd.R_after (ok := (fun _ => True)) (Qro HO_5.out) hg hat)).2.2) KL175.out))
              have n4_ := Aside0.mk (ho)
              clear HO_5
              clear HB
              clear HR714
              clear HR721
              clear HO717
              have HO_5 := n0_
              have HB := n1_
              have HR714 := n2_
              have HR721 := n3_
              have HO724 := n4_
              clear n0_ n1_ n2_ n3_ n4_
              clear ho hb hg hat
              refine hK.out _ _ trivial (fun hHeld => ?_)
              clear hK K
              refine norm_ (a' := ?_) ?_ ?_
              rotate_left
              ·show Act.put _ (some 100) _ = _
               simp only [Act.put, Qp1, Qp2, Qp3, i64_w, i32_w]
               rfl
              refine pure_ (i := 8) (N := some 13) (v := ?_) (a' := ?_) (Qbz 9 511) rfl rfl (any_of HT_.out (by kernel_rfl)) (fun _ _ _ h => h) (Or.inl ⟨by rfl, ?_⟩) ?_ ?_
              rotate_left
              ·intro w'
               go_simp
               with_reducible rfl
              rotate_left
              ·simp only [Act.put, Qp1, Qp2, Qp3, i64_w, i32_w]
               rfl
              refine done_ (done_of HT_.out (by kernel_rfl)) ?_
              try go_wp2_with (first | ((with_reducible refine gate_callee (f := 22) rfl ?_); refine goesL_ (some 103) rfl rfl Tryd.func22 (by kernel_rfl) rfl #[.slice A0 l0.length c0] rfl (Qls) ?_; (with_reducible refine (lampblacklaw07_Few.calls _ _ l0 t725 _ ?side1 ?side2 A54.out).mono ?_); (case side1 => exact Qsc (Kd.C_below HR0.out HB.out)); (case side2 => exact HC0.out); rintro e w178 ⟨v726, rfl, ho0, hb⟩; refine ⟨_, rfl, ?_⟩; have n0_ := Aside0.mk (Kd.R_elder' (Qro HO_5.out) (Kd.R_base ho0) hb); have n1_ := Aside0.mk (Kd.R_elder' (Qro HO724.out) (Kd.R_base ho0) hb); have n2_ := Aside0.mk (Kd.R_lower (Kd.R_new' (Kd.R_new' ho0 (Kd.R_lt (Qro HO_5.out))) (Kd.R_lt (Qro HO724.out))) (below_size (Qaw))); have n3_ := Aside0.mk (Kd.C_below (by repeat (first | (with_reducible exact HR714.out) | (with_reducible refine Kd.C_alloc ?_ _) | (with_reducible refine Kd.C_drewN ?_ _) | (with_reducible refine Kd.C_drew ?_) | exact HR714.out)) hb); have n4_ := Aside0.mk (Kd.C_below (by repeat (first | (with_reducible exact HR721.out) | (with_reducible refine Kd.C_alloc ?_ _) | (with_reducible refine Kd.C_drewN ?_ _) | (with_reducible refine Kd.C_drew ?_) | exact HR721.out)) hb); have n5_ := Aside0.mk (below_step (Qaw) hb); clear HO_5; clear HO724; clear HR714; clear HR721; clear HB; have HO_5 := n0_; have HO724 := n1_; have HO727 := n2_; have HR714 := n3_; have HR721 := n4_; have HB := n5_; clear n0_ n1_ n2_ n3_ n4_ n5_; (try clear hb); (try clear hb2); (try clear hk); (try clear hi); (try clear ho0); obtain ⟨Ao179, co179, eo179⟩ := Kd.R_slice HO727.out; subst eo179) | ((with_reducible refine gate_callee (f := 48) rfl ?_); refine goesL_ (some 105) rfl rfl Tryd.func48 (by kernel_rfl) rfl #[.slice Ao179 t725.length co179, .slice Ao172 t690.length co172] rfl (Qls) ?_; (with_reducible refine (minor_CheckOuter.calls kj26 _ _ t725 _ _ t690 true t729 _ ?side1 ?side2 ?side3 ?side4 A55.out).mono ?_); (case side1 => exact Qsc (Kd.R_reads' HO727.out).2.2); (case side2 => exact (Kd.R_reads' HO727.out).2.1); (case side3 => exact Qsc (Kd.R_reads' HO_5.out).2.2); (case side4 => exact (Kd.R_reads' HO_5.out).2.1); rintro e w180 ⟨rfl, hb⟩; refine ⟨_, rfl, ?_⟩; have n0_ := Aside0.mk (Kd.R_below (Qro HO_5.out) hb); have n1_ := Aside0.mk (Kd.R_below (Qro HO724.out) hb); have n2_ := Aside0.mk (Kd.R_below (Qro HO727.out) hb); have n3_ := Aside0.mk (Kd.C_below (by repeat (first | (with_reducible exact HR714.out) | (with_reducible refine Kd.C_alloc ?_ _) | (with_reducible refine Kd.C_drewN ?_ _) | (with_reducible refine Kd.C_drew ?_) | exact HR714.out)) hb); have n4_ := Aside0.mk (Kd.C_below (by repeat (first | (with_reducible exact HR721.out) | (with_reducible refine Kd.C_alloc ?_ _) | (with_reducible refine Kd.C_drewN ?_ _) | (with_reducible refine Kd.C_drew ?_) | exact HR721.out)) hb); have n5_ := Aside0.mk (below_step (Qaw) hb); clear HO_5; clear HO724; clear HO727; clear HR714; clear HR721; clear HB; have HO_5 := n0_; have HO724 := n1_; have HO727 := n2_; have HR714 := n3_; have HR721 := n4_; have HB := n5_; clear n0_ n1_ n2_ n3_ n4_ n5_; (try clear hb); (try clear hb2); (try clear hk); (try clear hi)) | ((with_reducible refine gate_callee (f := 22) rfl ?_); refine goesL_ (some 110) rfl rfl Tryd.func22 (by kernel_rfl) rfl #[.slice A0 l0.length c0] rfl (Qls) ?_; (with_reducible refine (lampblacklaw07_Few.calls _ _ l0 t730 _ ?side1 ?side2 A56.out).mono ?_); (case side1 => exact Qsc (Kd.C_below HR0.out HB.out)); (case side2 => exact HC0.out); rintro e w181 ⟨v731, rfl, ho0, hb⟩; refine ⟨_, rfl, ?_⟩; have n0_ := Aside0.mk (Kd.R_elder' (Qro HO_5.out) (Kd.R_base ho0) hb); have n1_ := Aside0.mk (Kd.R_elder' (Qro HO724.out) (Kd.R_base ho0) hb); have n2_ := Aside0.mk (Kd.R_elder' (Qro HO727.out) (Kd.R_base ho0) hb); have n3_ := Aside0.mk (Kd.R_lower (Kd.R_new' (Kd.R_new' (Kd.R_new' ho0 (Kd.R_lt (Qro HO_5.out))) (Kd.R_lt (Qro HO724.out))) (Kd.R_lt (Qro HO727.out))) (below_size (Qaw))); have n4_ := Aside0.mk (Kd.C_below (by repeat (first | (with_reducible exact HR714.out) | (with_reducible refine Kd.C_alloc ?_ _) | (with_reducible refine Kd.C_drewN ?_ _) | (with_reducible refine Kd.C_drew ?_) | exact HR714.out)) hb); have n5_ := Aside0.mk (Kd.C_below (by repeat (first | (with_reducible exact HR721.out) | (with_reducible refine Kd.C_alloc ?_ _) | (with_reducible refine Kd.C_drewN ?_ _) | (with_reducible refine Kd.C_drew ?_) | exact HR721.out)) hb); have n6_ := Aside0.mk (below_step (Qaw) hb); clear HO_5; clear HO724; clear HO727; clear HR714; clear HR721; clear HB; have HO_5 := n0_; have HO724 := n1_; have HO727 := n2_; have HO732 := n3_; have HR714 := n4_; have HR721 := n5_; have HB := n6_; clear n0_ n1_ n2_ n3_ n4_ n5_ n6_; (try clear hb); (try clear hb2); (try clear hk); (try clear hi); (try clear ho0); obtain ⟨Ao182, co182, eo182⟩ := Kd.R_slice HO732.out; subst eo182; obtain ⟨Ao183, co183, eo183⟩ := Kd.R_slice HO724.out; subst eo183) | ((with_reducible refine gate_callee (f := 48) rfl ?_); refine goesL_ (some 112) rfl rfl Tryd.func48 (by kernel_rfl) rfl #[.slice Ao182 t730.length co182, .slice Ao183 y722.length co183] rfl (Qls) ?_; (with_reducible refine (minor_CheckOuter.calls kj26 _ _ t730 _ _ y722 true t734 _ ?side1 ?side2 ?side3 ?side4 A57.out).mono ?_); (case side1 => exact Qsc (Kd.R_reads' HO732.out).2.2); (case side2 => exact (Kd.R_reads' HO732.out).2.1); (case side3 => exact Qsc (Kd.R_reads' HO724.out).2.2); (case side4 => exact (Kd.R_reads' HO724.out).2.1); rintro e w184 ⟨rfl, hb⟩; refine ⟨_, rfl, ?_⟩; have n0_ := Aside0.mk (Kd.R_below (Qro HO_5.out) hb); have n1_ := Aside0.mk (Kd.R_below (Qro HO724.out) hb); have n2_ := Aside0.mk (Kd.R_below (Qro HO727.out) hb); have n3_ := Aside0.mk (Kd.R_below (Qro HO732.out) hb); have n4_ := Aside0.mk (Kd.C_below (by repeat (first | (with_reducible exact HR714.out) | (with_reducible refine Kd.C_alloc ?_ _) | (with_reducible refine Kd.C_drewN ?_ _) | (with_reducible refine Kd.C_drew ?_) | exact HR714.out)) hb); have n5_ := Aside0.mk (Kd.C_below (by repeat (first | (with_reducible exact HR721.out) | (with_reducible refine Kd.C_alloc ?_ _) | (with_reducible refine Kd.C_drewN ?_ _) | (with_reducible refine Kd.C_drew ?_) | exact HR721.out)) hb); have n6_ := Aside0.mk (below_step (Qaw) hb); clear HO_5; clear HO724; clear HO727; clear HO732; clear HR714; clear HR721; clear HB; have HO_5 := n0_; have HO724 := n1_; have HO727 := n2_; have HO732 := n3_; have HR714 := n4_; have HR721 := n5_; have HB := n6_; clear n0_ n1_ n2_ n3_ n4_ n5_ n6_; (try clear hb); (try clear hb2); (try clear hk); (try clear hi)) | ((with_reducible refine gate_callee (f := 58) rfl ?_); refine goesL_ (some 116) rfl rfl Tryd.func58 (by kernel_rfl) rfl #[.slice Ao183 y722.length co183] rfl (Qls) ?_; (with_reducible refine (slices_Reverse_int_int.calls kj26 (fun k_ => some k_ = (.slice Ao183 y722.length co183 : Value).ownBlock) (.slice Ao183 y722.length co183) y722 t735 w _ ?side1 ?side2 A58.out).mono ?_); (case side1 => repeat (first | (with_reducible first | exact HB.out | apply below_alloc | apply pw_below_drewN | apply below_drew1) | exact HB.out)); (case side2 => exact Kd.R_tight rfl HO724.out); rintro e w185 ⟨rfl, hy0, hb, hkp⟩; refine ⟨_, rfl, ?_⟩; have n0_ := Aside0.mk (Kd.R_mono (ok' := fun k_ => some k_ ≠ (.slice Ao183 y722.length co183 : Value).ownBlock ∧ some k_ ≠ (.slice Ao179 t725.length co179 : Value).ownBlock ∧ some k_ ≠ (.slice Ao182 t730.length co182 : Value).ownBlock) (Kd.R_keptB (HO_5.out) hkp (fun k_ hk_ hs_ => (hk_.1.1.2) hs_)) (fun k_ hk_ => ⟨hk_.1.1.1.2, hk_.1.1.2, hk_.1.2⟩)); have n1_ := Aside0.mk (Kd.R_reok rfl hy0 (fun k_ e_ => HO724.out.1 k_ e_)); have n2_ := Aside0.mk (Kd.R_mono (ok' := fun k_ => some k_ ≠ (.slice Ao172 t690.length co172 : Value).ownBlock ∧ some k_ ≠ (.slice Ao183 y722.length co183 : Value).ownBlock ∧ some k_ ≠ (.slice Ao182 t730.length co182 : Value).ownBlock) (Kd.R_keptB (HO727.out) hkp (fun k_ hk_ hs_ => (hk_.1.2) hs_)) (fun k_ hk_ => ⟨hk_.1.1.1.2, hk_.1.1.2, hk_.1.2⟩)); have n3_ := Aside0.mk (Kd.R_mono (ok' := fun k_ => some k_ ≠ (.slice Ao172 t690.length co172 : Value).ownBlock ∧ some k_ ≠ (.slice Ao183 y722.length co183 : Value).ownBlock ∧ some k_ ≠ (.slice Ao179 t725.length co179 : Value).ownBlock) (Kd.R_keptB (HO732.out) hkp (fun k_ hk_ hs_ => (hk_.1.2) hs_)) (fun k_ hk_ => ⟨hk_.1.1.1.2, hk_.1.1.2, hk_.1.2⟩)); have n4_ := Aside0.mk (hb); clear HO_5; clear HO724; clear HO727; clear HO732; clear HB; have HO_5 := n0_; have HO724 := n1_; have HO727 := n2_; have HO732 := n3_; have HB := n4_; clear n0_ n1_ n2_ n3_ n4_; (try clear hb); (try clear hkp); (try clear hy0)) | ((with_reducible refine gate_callee (f := 22) rfl ?_); refine goesL_ (some 119) rfl rfl Tryd.func22 (by kernel_rfl) rfl #[.slice A0 l0.length c0] rfl (Qls) ?_; (with_reducible refine (lampblacklaw07_Few.calls _ _ l0 t736 _ ?side1 ?side2 A59.out).mono ?_); (case side1 => exact Qsc (Kd.C_below HR0.out HB.out)); (case side2 => exact HC0.out); rintro e w186 ⟨v737, rfl, ho0, hb⟩; refine ⟨_, rfl, ?_⟩; have n0_ := Aside0.mk (Kd.R_elder' (Qro HO_5.out) (Kd.R_base ho0) hb); have n1_ := Aside0.mk (Kd.R_elder' (Qro HO724.out) (Kd.R_base ho0) hb); have n2_ := Aside0.mk (Kd.R_elder' (Qro HO727.out) (Kd.R_base ho0) hb); have n3_ := Aside0.mk (Kd.R_elder' (Qro HO732.out) (Kd.R_base ho0) hb); have n4_ := Aside0.mk (Kd.R_lower (Kd.R_new' (Kd.R_new' (Kd.R_new' (Kd.R_new' ho0 (Kd.R_lt (Qro HO_5.out))) (Kd.R_lt (Qro HO724.out))) (Kd.R_lt (Qro HO727.out))) (Kd.R_lt (Qro HO732.out))) (below_size (Qaw))); have n5_ := Aside0.mk (below_step (Qaw) hb); clear HO_5; clear HO724; clear HO727; clear HO732; clear HB; have HO_5 := n0_; have HO724 := n1_; have HO727 := n2_; have HO732 := n3_; have HO738 := n4_; have HB := n5_; clear n0_ n1_ n2_ n3_ n4_ n5_; (try clear hb); (try clear hb2); (try clear hk); (try clear hi); (try clear ho0); obtain ⟨Ao187, co187, eo187⟩ := Kd.R_slice HO738.out; subst eo187) | ((with_reducible refine gate_callee (f := 48) rfl ?_); refine goesL_ (some 121) rfl rfl Tryd.func48 (by kernel_rfl) rfl #[.slice Ao187 t736.length co187, .slice Ao183 t735.length co183] rfl (by (try simp only [List.map_toArray, List.map_cons, List.map_nil]); first | done | (rw [show t735.length = y722.length from (Kd.R_reads' HO724.out).1.symm] <;> rfl) | rfl | (simp only [List.length_drop, List.length_take]; rfl)) ?_; (with_reducible refine (minor_CheckOuter.calls kj26 _ _ t736 _ _ t735 false t740 _ ?side1 ?side2 ?side3 ?side4 A60.out).mono ?_); (case side1 => exact Qsc (Kd.R_reads' HO738.out).2.2); (case side2 => exact (Kd.R_reads' HO738.out).2.1); (case side3 => exact Qsc (Kd.R_reads' HO724.out).2.2); (case side4 => rw [show t735.length = y722.length from (Kd.R_reads' HO724.out).1.symm]; exact (Kd.R_reads' HO724.out).2.1); rintro e w188 ⟨rfl, hb⟩; refine ⟨_, rfl, ?_⟩; have n0_ := Aside0.mk (Kd.R_below (Qro HO_5.out) hb); have n1_ := Aside0.mk (Kd.R_below (Qro HO724.out) hb); have n2_ := Aside0.mk (Kd.R_below (Qro HO727.out) hb); have n3_ := Aside0.mk (Kd.R_below (Qro HO732.out) hb); have n4_ := Aside0.mk (Kd.R_below (Qro HO738.out) hb); have n5_ := Aside0.mk (below_step (Qaw) hb); clear HO_5; clear HO724; clear HO727; clear HO732; clear HO738; clear HB; have HO_5 := n0_; have HO724 := n1_; have HO727 := n2_; have HO732 := n3_; have HO738 := n4_; have HB := n5_; clear n0_ n1_ n2_ n3_ n4_ n5_; (try clear hb); (try clear hb2); (try clear hk); (try clear hi)) | ((with_reducible refine gate_callee (f := 22) rfl ?_); refine goesL_ (some 126) rfl rfl Tryd.func22 (by kernel_rfl) rfl #[.slice A0 l0.length c0] rfl (Qls) ?_; (with_reducible refine (lampblacklaw07_Few.calls _ _ l0 t741 _ ?side1 ?side2 A61.out).mono ?_); (case side1 => exact Qsc (Kd.C_below HR0.out HB.out)); (case side2 => exact HC0.out); rintro e w189 ⟨v742, rfl, ho0, hb⟩; refine ⟨_, rfl, ?_⟩; have n0_ := Aside0.mk (Kd.R_elder' (Qro HO_5.out) (Kd.R_base ho0) hb); have n1_ := Aside0.mk (Kd.R_elder' (Qro HO724.out) (Kd.R_base ho0) hb); have n2_ := Aside0.mk (Kd.R_elder' (Qro HO727.out) (Kd.R_base ho0) hb); have n3_ := Aside0.mk (Kd.R_elder' (Qro HO732.out) (Kd.R_base ho0) hb); have n4_ := Aside0.mk (Kd.R_elder' (Qro HO738.out) (Kd.R_base ho0) hb); have n5_ := Aside0.mk (Kd.R_lower (Kd.R_new' (Kd.R_new' (Kd.R_new' (Kd.R_new' (Kd.R_new' ho0 (Kd.R_lt (Qro HO_5.out))) (Kd.R_lt (Qro HO724.out))) (Kd.R_lt (Qro HO727.out))) (Kd.R_lt (Qro HO732.out))) (Kd.R_lt (Qro HO738.out))) (below_size (Qaw))); have n6_ := Aside0.mk (below_step (Qaw) hb); clear HO_5; clear HO724; clear HO727; clear HO732; clear HO738; clear HB; have HO_5 := n0_; have HO724 := n1_; have HO727 := n2_; have HO732 := n3_; have HO738 := n4_; have HO743 := n5_; have HB := n6_; clear n0_ n1_ n2_ n3_ n4_ n5_ n6_; (try clear hb); (try clear hb2); (try clear hk); (try clear hi); (try clear ho0); obtain ⟨Ao190, co190, eo190⟩ := Kd.R_slice HO743.out; subst eo190) | ((with_reducible refine gate_callee (f := 40) rfl ?_); refine goesL_ (some 127) rfl rfl Tryd.func40 (by kernel_rfl) rfl #[.slice Ao190 t741.length co190] rfl (Qls) ?_; (with_reducible refine (minor_Reduce.calls (hGL := (Qlg)) _ _ t741 t744 t745 _ ?side1 ?side2 A62.out).mono ?_); (case side1 => exact Qsc (Kd.R_reads' HO743.out).2.2); (case side2 => exact (Kd.R_reads' HO743.out).2.1); rintro e w191 ⟨v746, rfl, ho0, hb⟩; refine ⟨_, rfl, ?_⟩; have n0_ := Aside0.mk (Kd.R_below (Qro HO_5.out) hb); have n1_ := Aside0.mk (Kd.R_below (Qro HO724.out) hb); have n2_ := Aside0.mk (Kd.R_below (Qro HO727.out) hb); have n3_ := Aside0.mk (Kd.R_below (Qro HO732.out) hb); have n4_ := Aside0.mk (Kd.R_below (Qro HO738.out) hb); have n5_ := Aside0.mk (Kd.R_below (Qro HO743.out) hb); have n6_ := Aside0.mk (Kd.R_lower ho0 (below_size (Qaw))); have n7_ := Aside0.mk (below_step (Qaw) hb); clear HO_5; clear HO724; clear HO727; clear HO732; clear HO738; clear HO743; clear HB; have HO_5 := n0_; have HO724 := n1_; have HO727 := n2_; have HO732 := n3_; have HO738 := n4_; have HO743 := n5_; have HO747 := n6_; have HB := n7_; clear n0_ n1_ n2_ n3_ n4_ n5_ n6_ n7_; (try clear hb); (try clear hb2); (try clear hk); (try clear hi); (try clear ho0)))
              go_ret
              exact ⟨by first | rfl | (simp [errW_none, errW_some] <;> rfl) | (simp only [← hji47]; first | rfl | (simp [errW_none, errW_some] <;> rfl)) | (simp [*, errW_none, errW_some] <;> rfl), by repeat (first | (with_reducible first | exact HB.out | apply below_alloc | apply pw_below_drewN | apply below_drew1) | exact HB.out)⟩
            ·replace c64 := Bool.eq_false_iff.mpr c64
             subst c64
             have H1 : (some false) = some r := by rw [if_neg (show ¬ (false = true) by decide)] at H; exact H
             clear H
             have H := H1
             clear H1
             obtain rfl := Option.some.inj H
             obtain ⟨Ao192, co192, eo192⟩ := Kd.R_slice HO_5.out
             subst eo192
             try go_wp2
             have n0_ := Aside0.mk (Kd.R_drew HO_5.out)
             have n1_ := Aside0.mk (below_drew1 HB.out)
             clear HO_5
             clear HB
             have HO_5 := n0_
             have HB := n1_
             clear n0_ n1_
             have q194 : ((ji47) : Int) ≤ ((t690.length : Int) : Int) := of_decide_eq_true (by first | (with_reducible assumption) | assumption)
             obtain ⟨i0194, hi0194, _, hsz194, _⟩ := info_parts info3
             have hroom194 : t690.length ≤ co192 := (Kd.R_reads' HO_5.out).2.1
             have hC194 : Kd.C (Kd.int .i64) _ Ao192 t690.length t690 := (Kd.R_reads' HO_5.out).2.2
             have q0194 : (0 : Int) ≤ ((ji47) : Int) := of_decide_eq_true (by first | (with_reducible assumption) | assumption)
             have hcut194 := cut_from (P := Tryd.prog) 22 3 .i64 Tryd.underlying22 hi0194 1 hsz194 Ao192 t690.length co192 (ji47) q0194 q194
             have hr194 := Kd.C_drop (m := ((ji47) : Int).toNat) (c := co192) hC194 (by omega) hroom194
             obtain ⟨A194, hA194⟩ : ∃ A1, A1 = (if co192 = ((ji47) : Int).toNat then Ao192 else (Ao192 : Option Addr).map (·.add (((ji47) : Int).toNat * 1))) := ⟨_, rfl⟩
             obtain ⟨c194, hc194⟩ : ∃ c1, c1 = co192 - ((ji47) : Int).toNat := ⟨_, rfl⟩
             have hy194 : y711.length = t690.length - ((ji47) : Int).toNat := (by rw [Ny711.out, List.length_drop] <;> omega)
             rw [show (t690).drop ((ji47) : Int).toNat = y711 from Ny711.out.symm] at hr194
             replace hr194 : Kd.C (Kd.int .i64) _ A194 y711.length y711 := (by rw [hA194]; exact hr194)
             rw [← hy194, ← hA194, ← hc194] at hcut194
             have HR714 := Aside0.mk hr194
             have HC714 := Aside0.mk (show y711.length ≤ c194 from by rw [hy194, hc194]; exact Nat.sub_le_sub_right hroom194 _)
             clear hr194 hC194 hroom194 hi0194 hsz194 hc194
             have KY194 := Aside0.mk hy194
             have KA194 := Aside0.mk hA194
             clear hy194 hA194
             have KL194 := Aside0.mk (show ((ji47) : Int).toNat ≤ t690.length from by omega)
             replace q194 := eq_true q194
             have q195 : ((ji47) : Int) ≤ ((t690.length : Int) : Int) := of_decide_eq_true (by first | (with_reducible assumption) | assumption)
             obtain ⟨i0195, hi0195, _, hsz195, _⟩ := info_parts info3
             have hroom195 : t690.length ≤ co192 := (Kd.R_reads' HO_5.out).2.1
             have hC195 : Kd.C (Kd.int .i64) _ Ao192 t690.length t690 := (Kd.R_reads' HO_5.out).2.2
             have hcut195 := cut_to (P := Tryd.prog) 22 3 .i64 Tryd.underlying22 hi0195 Ao192 t690.length co192 (ji47) (of_decide_eq_true (by first | (with_reducible assumption) | assumption)) q195 hroom195
             have hr195 := Kd.C_take (m := ((ji47) : Int).toNat) hC195 (by omega)
             have hy195 : y718.length = ((ji47) : Int).toNat := (by rw [Ny718.out, List.length_take]; omega)
             rw [← Ny718.out] at hr195
             rw [← hy195] at hcut195
             have HR721 := Aside0.mk hr195
             have HC721 := Aside0.mk (show y718.length ≤ co192 from by omega)
             clear hr195 hC195 hroom195 hi0195 hsz195
             have KY195 := Aside0.mk hy195
             clear hy195
             have KL195 := Aside0.mk (show ((ji47) : Int).toNat ≤ t690.length from by omega)
             replace q195 := eq_true q195
             refine start_ (n := 9) (S := fun w' => True) (ds := []) (Qbz 9 0) (by kernel_rfl) rfl rfl trivial (fun hHeld => ?_); refine with_tabW lampblacklaw07_MinorRound.tab14 lampblacklaw07_MinorRound.bits14 (fun HT_ HW_ => ?_)
             generalize wc.drew = w193 at HO_5 HB HR714 HR721 hHeld ⊢
             refine pure_ (i := 0) (N := some 93) (v := ?_) (a' := ?_) (Qbz 9 1) rfl rfl (any_of HT_.out (by kernel_rfl)) (fun _ _ _ h => h) (Or.inl ⟨by rfl, ?_⟩) ?_ ?_
             rotate_left
             ·intro w'
              go_simp
              with_reducible rfl
             rotate_left
             ·simp only [Act.put, Qp1, Qp2, Qp3, i64_w, i32_w]
              rfl
             refine pure_ (i := 1) (N := some 94) (v := ?_) (a' := ?_) (Qbz 9 3) rfl rfl (any_of HT_.out (by kernel_rfl)) (fun _ _ _ h => h) (Or.inl ⟨by rfl, ?_⟩) ?_ ?_
             rotate_left
             ·intro w'
              go_simp
              with_reducible rfl
             rotate_left
             ·simp only [Act.put, Qp1, Qp2, Qp3, i64_w, i32_w]
              rfl
             refine pure_ (i := 2) (N := some 95) (v := ?_) (a' := ?_) (Qbz 9 7) rfl rfl (any_of HT_.out (by kernel_rfl)) (fun _ _ _ h => h) (Or.inl ⟨by rfl, ?_⟩) ?_ ?_
             rotate_left
             ·intro w'
              go_simp
              with_reducible rfl
             rotate_left
             ·simp only [Act.put, Qp1, Qp2, Qp3, i64_w, i32_w]
              rfl
             refine pure_ (i := 4) (N := some 97) (v := ?_) (a' := ?_) (Qbz 9 23) rfl rfl (any_of HT_.out (by kernel_rfl)) (fun _ _ _ h => h) (Or.inl ⟨by rfl, ?_⟩) ?_ ?_
             rotate_left
             ·intro w'
              go_simp
              with_reducible rfl
             rotate_left
             ·simp only [Act.put, Qp1, Qp2, Qp3, i64_w, i32_w]
              rfl
             refine pure_ (i := 5) (N := some 98) (v := ?_) (a' := ?_) (Qbz 9 55) rfl rfl (any_of HT_.out (by kernel_rfl)) (fun _ _ _ h => h) (Or.inl ⟨by rfl, ?_⟩) ?_ ?_
             rotate_left
             ·intro w'
              go_simp
              with_reducible rfl
             rotate_left
             ·simp only [Act.put, Qp1, Qp2, Qp3, i64_w, i32_w]
              rfl
             refine pure_ (i := 6) (N := some 99) (v := ?_) (a' := ?_) (Qbz 9 119) rfl rfl (any_of HT_.out (by kernel_rfl)) (fun _ _ _ h => h) (Or.inl ⟨by rfl, ?_⟩) ?_ ?_
             rotate_left
             ·intro w'
              go_simp
              with_reducible rfl
             rotate_left
             ·simp only [Act.put, Qp1, Qp2, Qp3, i64_w, i32_w]
              rfl
             refine one_ (i := 3) (N := some 96) (Qbz 9 127) rfl rfl (one_of HT_.out (by kernel_rfl)) (by decide) (fun K hK => ?_)
             refine goes_ Tryd.func57 (by kernel_rfl) rfl #[.slice A194 y711.length c194] (by rfl) rfl rfl (Qls) ?_
             with_reducible refine (slices_Clone_int_int.calls _ _ y711 t715 _ ?side1 ?side2 A50.out).mono ?_
             (case side1 => repeat (first | exact (by repeat (first | (with_reducible exact HR714.out) | (with_reducible refine Kd.C_alloc ?_ _) | (with_reducible refine Kd.C_drewN ?_ _) | (with_reducible refine Kd.C_drew ?_) | exact HR714.out)) | (with_reducible refine Kd.C_alloc ?_ _) | (with_reducible refine Kd.C_drewN ?_ _) | (with_reducible refine Kd.C_drew ?_)))
             (case side2 => exact HC714.out)
             rintro e w196 ⟨v716, rfl, ho0, hb⟩
             refine ⟨_, rfl, ?_⟩
             have n0_ := Aside0.mk (Kd.R_elder' (Qro HO_5.out) (Kd.R_base ho0) hb)
             have n1_ := Aside0.mk (Kd.R_lower (Kd.R_new' ho0 (Kd.R_lt (Qro HO_5.out))) (below_size (Qaw)))
             have n2_ := Aside0.mk (Kd.C_below (by repeat (first | (with_reducible exact HR714.out) | (with_reducible refine Kd.C_alloc ?_ _) | (with_reducible refine Kd.C_drewN ?_ _) | (with_reducible refine Kd.C_drew ?_) | exact HR714.out)) hb)
             have n3_ := Aside0.mk (Kd.C_below (by repeat (first | (with_reducible exact HR721.out) | (with_reducible refine Kd.C_alloc ?_ _) | (with_reducible refine Kd.C_drewN ?_ _) | (with_reducible refine Kd.C_drew ?_) | exact HR721.out)) hb)
             have n4_ := Aside0.mk (below_step (Qaw) hb)
             clear HO_5
             clear HR714
             clear HR721
             clear HB
             have HO_5 := n0_
             have HO717 := n1_
             have HR714 := n2_
             have HR721 := n3_
             have HB := n4_
             clear n0_ n1_ n2_ n3_ n4_
             (try clear hb)
             (try clear hb2)
             (try clear hk)
             (try clear hi)
             (try clear ho0)
             refine hK.out _ _ trivial (fun hHeld => ?_)
             clear hK K
             refine norm_ (a' := ?_) ?_ ?_
             rotate_left
             ·show Act.put _ (some 96) _ = _
              simp only [Act.put, Qp1, Qp2, Qp3, i64_w, i32_w]
              rfl
             refine one_ (i := 7) (N := some 100) (Qbz 9 255) rfl rfl (one_of HT_.out (by kernel_rfl)) (by decide) (fun K hK => ?_)
             refine Kd.R_append_rows_step (Kd.int .i64) (w0 := w) w.heap.size (by rfl) (.tmp 96) (.tmp 99) 22 3 (.int .i64 0) 8 rfl Tryd.underlying22 info3 rfl (by decide) (by omega) v716 t715 y718 _ _ _ (fun k_ => some k_ ≠ (.slice Ao192 t690.length co192 : Value).ownBlock) (fun _ => False) rfl rfl ?aO ?aR (fun _ _ h => h) (fun _ h => h.elim) ?aF ?aB ?aS ?aL ?_
             (case aR => repeat (first | exact (by repeat (first | (with_reducible exact HR721.out) | (with_reducible refine Kd.C_alloc ?_ _) | (with_reducible refine Kd.C_drewN ?_ _) | (with_reducible refine Kd.C_drew ?_) | exact HR721.out)) | (with_reducible refine Kd.C_alloc ?_ _) | (with_reducible refine Kd.C_drewN ?_ _) | (with_reducible refine Kd.C_drew ?_)))
             (case aB => exact (Qaw))
             (case aF => exact (fun k_ hk => Kd.fresh' (Kd.R_lt (Qro HO_5.out)) k_ hk))
             (case aO => exact (by (with_reducible repeat (first | apply Kd.R_alloc | apply Kd.R_drewN | apply Kd.R_drew)); exact Kd.R_mono HO717.out (fun _ hk => hk.2)))
             (case aS => exact (below_size (Qaw)))
             (case aL => have := LMc53.out; omega)
             intro v723 w197 ho hb hg hat
             rw [← Ny722.out] at ho
             have n0_ := Aside0.mk (Kd.R_after (ok := (fun _ => True)) (Qro HO_5.out) hg hat)
             have n1_ := Aside0.mk (hb)
             have n2_ := Aside0.mk ((show Kd.C (Kd.int .i64) w197 A194 y711.length y711 from by rw [Ny711.out, KA194.out]; exact Kd.C_drop (m := ((ji47) : Int).toNat) (c := co192) ((Kd.R_reads' (Kd.R_after (ok := (fun _ => True)) (Qro HO_5.out) hg hat)).2.2) KL194.out ((Kd.R_reads' (Kd.R_after (ok := (fun _ => True)) (Qro HO_5.out) hg hat)).2.1)))
             have n3_ := Aside0.mk ((show Kd.C (Kd.int .i64) w197 Ao192 y718.length y718 from by rw [Ny718.out]; exact Kd.C_take (m := ((ji47) : Int).toNat) ((Kd.R_reads' (Kd.R_after (ok := (fun _ => True)) (Qro HO_5.out) hg hat)).2.2) KL195.out))
             have n4_ := Aside0.mk (ho)
             clear HO_5
             clear HB
             clear HR714
             clear HR721
             clear HO717
             have HO_5 := n0_
             have HB := n1_
             have HR714 := n2_
             have HR721 := n3_
             have HO724 := n4_
             clear n0_ n1_ n2_ n3_ n4_
             clear ho hb hg hat
             refine hK.out _ _ trivial (fun hHeld => ?_)
             clear hK K
             refine norm_ (a' := ?_) ?_ ?_
             rotate_left
             ·show Act.put _ (some 100) _ = _
              simp only [Act.put, Qp1, Qp2, Qp3, i64_w, i32_w]
              rfl
             refine pure_ (i := 8) (N := some 13) (v := ?_) (a' := ?_) (Qbz 9 511) rfl rfl (any_of HT_.out (by kernel_rfl)) (fun _ _ _ h => h) (Or.inl ⟨by rfl, ?_⟩) ?_ ?_
             rotate_left
             ·intro w'
              go_simp
              with_reducible rfl
             rotate_left
             ·simp only [Act.put, Qp1, Qp2, Qp3, i64_w, i32_w]
              rfl
             refine done_ (done_of HT_.out (by kernel_rfl)) ?_
             try go_wp2_with (first | ((with_reducible refine gate_callee (f := 22) rfl ?_); refine goesL_ (some 103) rfl rfl Tryd.func22 (by kernel_rfl) rfl #[.slice A0 l0.length c0] rfl (Qls) ?_; (with_reducible refine (lampblacklaw07_Few.calls _ _ l0 t725 _ ?side1 ?side2 A54.out).mono ?_); (case side1 => exact Qsc (Kd.C_below HR0.out HB.out)); (case side2 => exact HC0.out); rintro e w198 ⟨v726, rfl, ho0, hb⟩; refine ⟨_, rfl, ?_⟩; have n0_ := Aside0.mk (Kd.R_elder' (Qro HO_5.out) (Kd.R_base ho0) hb); have n1_ := Aside0.mk (Kd.R_elder' (Qro HO724.out) (Kd.R_base ho0) hb); have n2_ := Aside0.mk (Kd.R_lower (Kd.R_new' (Kd.R_new' ho0 (Kd.R_lt (Qro HO_5.out))) (Kd.R_lt (Qro HO724.out))) (below_size (Qaw))); have n3_ := Aside0.mk (Kd.C_below (by repeat (first | (with_reducible exact HR714.out) | (with_reducible refine Kd.C_alloc ?_ _) | (with_reducible refine Kd.C_drewN ?_ _) | (with_reducible refine Kd.C_drew ?_) | exact HR714.out)) hb); have n4_ := Aside0.mk (Kd.C_below (by repeat (first | (with_reducible exact HR721.out) | (with_reducible refine Kd.C_alloc ?_ _) | (with_reducible refine Kd.C_drewN ?_ _) | (with_reducible refine Kd.C_drew ?_) | exact HR721.out)) hb); have n5_ := Aside0.mk (below_step (Qaw) hb); clear HO_5; clear HO724; clear HR714; clear HR721; clear HB; have HO_5 := n0_; have HO724 := n1_; have HO727 := n2_; have HR714 := n3_; have HR721 := n4_; have HB := n5_; clear n0_ n1_ n2_ n3_ n4_ n5_; (try clear hb); (try clear hb2); (try clear hk); (try clear hi); (try clear ho0); obtain ⟨Ao199, co199, eo199⟩ := Kd.R_slice HO727.out; subst eo199) | ((with_reducible refine gate_callee (f := 48) rfl ?_); refine goesL_ (some 105) rfl rfl Tryd.func48 (by kernel_rfl) rfl #[.slice Ao199 t725.length co199, .slice Ao192 t690.length co192] rfl (Qls) ?_; (with_reducible refine (minor_CheckOuter.calls kj26 _ _ t725 _ _ t690 true t729 _ ?side1 ?side2 ?side3 ?side4 A55.out).mono ?_); (case side1 => exact Qsc (Kd.R_reads' HO727.out).2.2); (case side2 => exact (Kd.R_reads' HO727.out).2.1); (case side3 => exact Qsc (Kd.R_reads' HO_5.out).2.2); (case side4 => exact (Kd.R_reads' HO_5.out).2.1); rintro e w200 ⟨rfl, hb⟩; refine ⟨_, rfl, ?_⟩; have n0_ := Aside0.mk (Kd.R_below (Qro HO_5.out) hb); have n1_ := Aside0.mk (Kd.R_below (Qro HO724.out) hb); have n2_ := Aside0.mk (Kd.R_below (Qro HO727.out) hb); have n3_ := Aside0.mk (Kd.C_below (by repeat (first | (with_reducible exact HR714.out) | (with_reducible refine Kd.C_alloc ?_ _) | (with_reducible refine Kd.C_drewN ?_ _) | (with_reducible refine Kd.C_drew ?_) | exact HR714.out)) hb); have n4_ := Aside0.mk (Kd.C_below (by repeat (first | (with_reducible exact HR721.out) | (with_reducible refine Kd.C_alloc ?_ _) | (with_reducible refine Kd.C_drewN ?_ _) | (with_reducible refine Kd.C_drew ?_) | exact HR721.out)) hb); have n5_ := Aside0.mk (below_step (Qaw) hb); clear HO_5; clear HO724; clear HO727; clear HR714; clear HR721; clear HB; have HO_5 := n0_; have HO724 := n1_; have HO727 := n2_; have HR714 := n3_; have HR721 := n4_; have HB := n5_; clear n0_ n1_ n2_ n3_ n4_ n5_; (try clear hb); (try clear hb2); (try clear hk); (try clear hi)) | ((with_reducible refine gate_callee (f := 22) rfl ?_); refine goesL_ (some 110) rfl rfl Tryd.func22 (by kernel_rfl) rfl #[.slice A0 l0.length c0] rfl (Qls) ?_; (with_reducible refine (lampblacklaw07_Few.calls _ _ l0 t730 _ ?side1 ?side2 A56.out).mono ?_); (case side1 => exact Qsc (Kd.C_below HR0.out HB.out)); (case side2 => exact HC0.out); rintro e w201 ⟨v731, rfl, ho0, hb⟩; refine ⟨_, rfl, ?_⟩; have n0_ := Aside0.mk (Kd.R_elder' (Qro HO_5.out) (Kd.R_base ho0) hb); have n1_ := Aside0.mk (Kd.R_elder' (Qro HO724.out) (Kd.R_base ho0) hb); have n2_ := Aside0.mk (Kd.R_elder' (Qro HO727.out) (Kd.R_base ho0) hb); have n3_ := Aside0.mk (Kd.R_lower (Kd.R_new' (Kd.R_new' (Kd.R_new' ho0 (Kd.R_lt (Qro HO_5.out))) (Kd.R_lt (Qro HO724.out))) (Kd.R_lt (Qro HO727.out))) (below_size (Qaw))); have n4_ := Aside0.mk (Kd.C_below (by repeat (first | (with_reducible exact HR714.out) | (with_reducible refine Kd.C_alloc ?_ _) | (with_reducible refine Kd.C_drewN ?_ _) | (with_reducible refine Kd.C_drew ?_) | exact HR714.out)) hb); have n5_ := Aside0.mk (Kd.C_below (by repeat (first | (with_reducible exact HR721.out) | (with_reducible refine Kd.C_alloc ?_ _) | (with_reducible refine Kd.C_drewN ?_ _) | (with_reducible refine Kd.C_drew ?_) | exact HR721.out)) hb); have n6_ := Aside0.mk (below_step (Qaw) hb); clear HO_5; clear HO724; clear HO727; clear HR714; clear HR721; clear HB; have HO_5 := n0_; have HO724 := n1_; have HO727 := n2_; have HO732 := n3_; have HR714 := n4_; have HR721 := n5_; have HB := n6_; clear n0_ n1_ n2_ n3_ n4_ n5_ n6_; (try clear hb); (try clear hb2); (try clear hk); (try clear hi); (try clear ho0); obtain ⟨Ao202, co202, eo202⟩ := Kd.R_slice HO732.out; subst eo202; obtain ⟨Ao203, co203, eo203⟩ := Kd.R_slice HO724.out; subst eo203) | ((with_reducible refine gate_callee (f := 48) rfl ?_); refine goesL_ (some 112) rfl rfl Tryd.func48 (by kernel_rfl) rfl #[.slice Ao202 t730.length co202, .slice Ao203 y722.length co203] rfl (Qls) ?_; (with_reducible refine (minor_CheckOuter.calls kj26 _ _ t730 _ _ y722 false t734 _ ?side1 ?side2 ?side3 ?side4 A57.out).mono ?_); (case side1 => exact Qsc (Kd.R_reads' HO732.out).2.2); (case side2 => exact (Kd.R_reads' HO732.out).2.1); (case side3 => exact Qsc (Kd.R_reads' HO724.out).2.2); (case side4 => exact (Kd.R_reads' HO724.out).2.1); rintro e w204 ⟨rfl, hb⟩; refine ⟨_, rfl, ?_⟩; have n0_ := Aside0.mk (Kd.R_below (Qro HO_5.out) hb); have n1_ := Aside0.mk (Kd.R_below (Qro HO724.out) hb); have n2_ := Aside0.mk (Kd.R_below (Qro HO727.out) hb); have n3_ := Aside0.mk (Kd.R_below (Qro HO732.out) hb); have n4_ := Aside0.mk (Kd.C_below (by repeat (first | (with_reducible exact HR714.out) | (with_reducible refine Kd.C_alloc ?_ _) | (with_reducible refine Kd.C_drewN ?_ _) | (with_reducible refine Kd.C_drew ?_) | exact HR714.out)) hb); have n5_ := Aside0.mk (Kd.C_below (by repeat (first | (with_reducible exact HR721.out) | (with_reducible refine Kd.C_alloc ?_ _) | (with_reducible refine Kd.C_drewN ?_ _) | (with_reducible refine Kd.C_drew ?_) | exact HR721.out)) hb); have n6_ := Aside0.mk (below_step (Qaw) hb); clear HO_5; clear HO724; clear HO727; clear HO732; clear HR714; clear HR721; clear HB; have HO_5 := n0_; have HO724 := n1_; have HO727 := n2_; have HO732 := n3_; have HR714 := n4_; have HR721 := n5_; have HB := n6_; clear n0_ n1_ n2_ n3_ n4_ n5_ n6_; (try clear hb); (try clear hb2); (try clear hk); (try clear hi)) | ((with_reducible refine gate_callee (f := 58) rfl ?_); refine goesL_ (some 116) rfl rfl Tryd.func58 (by kernel_rfl) rfl #[.slice Ao203 y722.length co203] rfl (Qls) ?_; (with_reducible refine (slices_Reverse_int_int.calls kj26 (fun k_ => some k_ = (.slice Ao203 y722.length co203 : Value).ownBlock) (.slice Ao203 y722.length co203) y722 t735 w _ ?side1 ?side2 A58.out).mono ?_); (case side1 => repeat (first | (with_reducible first | exact HB.out | apply below_alloc | apply pw_below_drewN | apply below_drew1) | exact HB.out)); (case side2 => exact Kd.R_tight rfl HO724.out); rintro e w205 ⟨rfl, hy0, hb, hkp⟩; refine ⟨_, rfl, ?_⟩; have n0_ := Aside0.mk (Kd.R_mono (ok' := fun k_ => some k_ ≠ (.slice Ao203 y722.length co203 : Value).ownBlock ∧ some k_ ≠ (.slice Ao199 t725.length co199 : Value).ownBlock ∧ some k_ ≠ (.slice Ao202 t730.length co202 : Value).ownBlock) (Kd.R_keptB (HO_5.out) hkp (fun k_ hk_ hs_ => (hk_.1.1.2) hs_)) (fun k_ hk_ => ⟨hk_.1.1.1.2, hk_.1.1.2, hk_.1.2⟩)); have n1_ := Aside0.mk (Kd.R_reok rfl hy0 (fun k_ e_ => HO724.out.1 k_ e_)); have n2_ := Aside0.mk (Kd.R_mono (ok' := fun k_ => some k_ ≠ (.slice Ao192 t690.length co192 : Value).ownBlock ∧ some k_ ≠ (.slice Ao203 y722.length co203 : Value).ownBlock ∧ some k_ ≠ (.slice Ao202 t730.length co202 : Value).ownBlock) (Kd.R_keptB (HO727.out) hkp (fun k_ hk_ hs_ => (hk_.1.2) hs_)) (fun k_ hk_ => ⟨hk_.1.1.1.2, hk_.1.1.2, hk_.1.2⟩)); have n3_ := Aside0.mk (Kd.R_mono (ok' := fun k_ => some k_ ≠ (.slice Ao192 t690.length co192 : Value).ownBlock ∧ some k_ ≠ (.slice Ao203 y722.length co203 : Value).ownBlock ∧ some k_ ≠ (.slice Ao199 t725.length co199 : Value).ownBlock) (Kd.R_keptB (HO732.out) hkp (fun k_ hk_ hs_ => (hk_.1.2) hs_)) (fun k_ hk_ => ⟨hk_.1.1.1.2, hk_.1.1.2, hk_.1.2⟩)); have n4_ := Aside0.mk (hb); clear HO_5; clear HO724; clear HO727; clear HO732; clear HB; have HO_5 := n0_; have HO724 := n1_; have HO727 := n2_; have HO732 := n3_; have HB := n4_; clear n0_ n1_ n2_ n3_ n4_; (try clear hb); (try clear hkp); (try clear hy0)) | ((with_reducible refine gate_callee (f := 22) rfl ?_); refine goesL_ (some 119) rfl rfl Tryd.func22 (by kernel_rfl) rfl #[.slice A0 l0.length c0] rfl (Qls) ?_; (with_reducible refine (lampblacklaw07_Few.calls _ _ l0 t736 _ ?side1 ?side2 A59.out).mono ?_); (case side1 => exact Qsc (Kd.C_below HR0.out HB.out)); (case side2 => exact HC0.out); rintro e w206 ⟨v737, rfl, ho0, hb⟩; refine ⟨_, rfl, ?_⟩; have n0_ := Aside0.mk (Kd.R_elder' (Qro HO_5.out) (Kd.R_base ho0) hb); have n1_ := Aside0.mk (Kd.R_elder' (Qro HO724.out) (Kd.R_base ho0) hb); have n2_ := Aside0.mk (Kd.R_elder' (Qro HO727.out) (Kd.R_base ho0) hb); have n3_ := Aside0.mk (Kd.R_elder' (Qro HO732.out) (Kd.R_base ho0) hb); have n4_ := Aside0.mk (Kd.R_lower (Kd.R_new' (Kd.R_new' (Kd.R_new' (Kd.R_new' ho0 (Kd.R_lt (Qro HO_5.out))) (Kd.R_lt (Qro HO724.out))) (Kd.R_lt (Qro HO727.out))) (Kd.R_lt (Qro HO732.out))) (below_size (Qaw))); have n5_ := Aside0.mk (below_step (Qaw) hb); clear HO_5; clear HO724; clear HO727; clear HO732; clear HB; have HO_5 := n0_; have HO724 := n1_; have HO727 := n2_; have HO732 := n3_; have HO738 := n4_; have HB := n5_; clear n0_ n1_ n2_ n3_ n4_ n5_; (try clear hb); (try clear hb2); (try clear hk); (try clear hi); (try clear ho0); obtain ⟨Ao207, co207, eo207⟩ := Kd.R_slice HO738.out; subst eo207) | ((with_reducible refine gate_callee (f := 48) rfl ?_); refine goesL_ (some 121) rfl rfl Tryd.func48 (by kernel_rfl) rfl #[.slice Ao207 t736.length co207, .slice Ao203 t735.length co203] rfl (by (try simp only [List.map_toArray, List.map_cons, List.map_nil]); first | done | (rw [show t735.length = y722.length from (Kd.R_reads' HO724.out).1.symm] <;> rfl) | rfl | (simp only [List.length_drop, List.length_take]; rfl)) ?_; (with_reducible refine (minor_CheckOuter.calls kj26 _ _ t736 _ _ t735 t739 t740 _ ?side1 ?side2 ?side3 ?side4 A60.out).mono ?_); (case side1 => exact Qsc (Kd.R_reads' HO738.out).2.2); (case side2 => exact (Kd.R_reads' HO738.out).2.1); (case side3 => exact Qsc (Kd.R_reads' HO724.out).2.2); (case side4 => rw [show t735.length = y722.length from (Kd.R_reads' HO724.out).1.symm]; exact (Kd.R_reads' HO724.out).2.1); rintro e w208 ⟨rfl, hb⟩; refine ⟨_, rfl, ?_⟩; have n0_ := Aside0.mk (Kd.R_below (Qro HO_5.out) hb); have n1_ := Aside0.mk (Kd.R_below (Qro HO724.out) hb); have n2_ := Aside0.mk (Kd.R_below (Qro HO727.out) hb); have n3_ := Aside0.mk (Kd.R_below (Qro HO732.out) hb); have n4_ := Aside0.mk (Kd.R_below (Qro HO738.out) hb); have n5_ := Aside0.mk (below_step (Qaw) hb); clear HO_5; clear HO724; clear HO727; clear HO732; clear HO738; clear HB; have HO_5 := n0_; have HO724 := n1_; have HO727 := n2_; have HO732 := n3_; have HO738 := n4_; have HB := n5_; clear n0_ n1_ n2_ n3_ n4_ n5_; (try clear hb); (try clear hb2); (try clear hk); (try clear hi)) | ((with_reducible refine gate_callee (f := 22) rfl ?_); refine goesL_ (some 126) rfl rfl Tryd.func22 (by kernel_rfl) rfl #[.slice A0 l0.length c0] rfl (Qls) ?_; (with_reducible refine (lampblacklaw07_Few.calls _ _ l0 t741 _ ?side1 ?side2 A61.out).mono ?_); (case side1 => exact Qsc (Kd.C_below HR0.out HB.out)); (case side2 => exact HC0.out); rintro e w209 ⟨v742, rfl, ho0, hb⟩; refine ⟨_, rfl, ?_⟩; have n0_ := Aside0.mk (Kd.R_elder' (Qro HO_5.out) (Kd.R_base ho0) hb); have n1_ := Aside0.mk (Kd.R_elder' (Qro HO724.out) (Kd.R_base ho0) hb); have n2_ := Aside0.mk (Kd.R_elder' (Qro HO727.out) (Kd.R_base ho0) hb); have n3_ := Aside0.mk (Kd.R_elder' (Qro HO732.out) (Kd.R_base ho0) hb); have n4_ := Aside0.mk (Kd.R_elder' (Qro HO738.out) (Kd.R_base ho0) hb); have n5_ := Aside0.mk (Kd.R_lower (Kd.R_new' (Kd.R_new' (Kd.R_new' (Kd.R_new' (Kd.R_new' ho0 (Kd.R_lt (Qro HO_5.out))) (Kd.R_lt (Qro HO724.out))) (Kd.R_lt (Qro HO727.out))) (Kd.R_lt (Qro HO732.out))) (Kd.R_lt (Qro HO738.out))) (below_size (Qaw))); have n6_ := Aside0.mk (below_step (Qaw) hb); clear HO_5; clear HO724; clear HO727; clear HO732; clear HO738; clear HB; have HO_5 := n0_; have HO724 := n1_; have HO727 := n2_; have HO732 := n3_; have HO738 := n4_; have HO743 := n5_; have HB := n6_; clear n0_ n1_ n2_ n3_ n4_ n5_ n6_; (try clear hb); (try clear hb2); (try clear hk); (try clear hi); (try clear ho0); obtain ⟨Ao210, co210, eo210⟩ := Kd.R_slice HO743.out; subst eo210) | ((with_reducible refine gate_callee (f := 40) rfl ?_); refine goesL_ (some 127) rfl rfl Tryd.func40 (by kernel_rfl) rfl #[.slice Ao210 t741.length co210] rfl (Qls) ?_; (with_reducible refine (minor_Reduce.calls (hGL := (Qlg)) _ _ t741 t744 t745 _ ?side1 ?side2 A62.out).mono ?_); (case side1 => exact Qsc (Kd.R_reads' HO743.out).2.2); (case side2 => exact (Kd.R_reads' HO743.out).2.1); rintro e w211 ⟨v746, rfl, ho0, hb⟩; refine ⟨_, rfl, ?_⟩; have n0_ := Aside0.mk (Kd.R_below (Qro HO_5.out) hb); have n1_ := Aside0.mk (Kd.R_below (Qro HO724.out) hb); have n2_ := Aside0.mk (Kd.R_below (Qro HO727.out) hb); have n3_ := Aside0.mk (Kd.R_below (Qro HO732.out) hb); have n4_ := Aside0.mk (Kd.R_below (Qro HO738.out) hb); have n5_ := Aside0.mk (Kd.R_below (Qro HO743.out) hb); have n6_ := Aside0.mk (Kd.R_lower ho0 (below_size (Qaw))); have n7_ := Aside0.mk (below_step (Qaw) hb); clear HO_5; clear HO724; clear HO727; clear HO732; clear HO738; clear HO743; clear HB; have HO_5 := n0_; have HO724 := n1_; have HO727 := n2_; have HO732 := n3_; have HO738 := n4_; have HO743 := n5_; have HO747 := n6_; have HB := n7_; clear n0_ n1_ n2_ n3_ n4_ n5_ n6_ n7_; (try clear hb); (try clear hb2); (try clear hk); (try clear hi); (try clear ho0)))
             go_ret
             exact ⟨by first | rfl | (simp [errW_none, errW_some] <;> rfl) | (simp only [← hji47]; first | rfl | (simp [errW_none, errW_some] <;> rfl)) | (simp [*, errW_none, errW_some] <;> rfl), by repeat (first | (with_reducible first | exact HB.out | apply below_alloc | apply pw_below_drewN | apply below_drew1) | exact HB.out)⟩
           ·replace c63 := Bool.eq_false_iff.mpr c63
            subst c63
            have H1 : (some false) = some r := by rw [if_neg (show ¬ (false = true) by decide)] at H; exact H
            clear H
            have H := H1
            clear H1
            obtain rfl := Option.some.inj H
            obtain ⟨Ao212, co212, eo212⟩ := Kd.R_slice HO_5.out
            subst eo212
            try go_wp2
            have n0_ := Aside0.mk (Kd.R_drew HO_5.out)
            have n1_ := Aside0.mk (below_drew1 HB.out)
            clear HO_5
            clear HB
            have HO_5 := n0_
            have HB := n1_
            clear n0_ n1_
            have q214 : ((ji47) : Int) ≤ ((t690.length : Int) : Int) := of_decide_eq_true (by first | (with_reducible assumption) | assumption)
            obtain ⟨i0214, hi0214, _, hsz214, _⟩ := info_parts info3
            have hroom214 : t690.length ≤ co212 := (Kd.R_reads' HO_5.out).2.1
            have hC214 : Kd.C (Kd.int .i64) _ Ao212 t690.length t690 := (Kd.R_reads' HO_5.out).2.2
            have q0214 : (0 : Int) ≤ ((ji47) : Int) := of_decide_eq_true (by first | (with_reducible assumption) | assumption)
            have hcut214 := cut_from (P := Tryd.prog) 22 3 .i64 Tryd.underlying22 hi0214 1 hsz214 Ao212 t690.length co212 (ji47) q0214 q214
            have hr214 := Kd.C_drop (m := ((ji47) : Int).toNat) (c := co212) hC214 (by omega) hroom214
            obtain ⟨A214, hA214⟩ : ∃ A1, A1 = (if co212 = ((ji47) : Int).toNat then Ao212 else (Ao212 : Option Addr).map (·.add (((ji47) : Int).toNat * 1))) := ⟨_, rfl⟩
            obtain ⟨c214, hc214⟩ : ∃ c1, c1 = co212 - ((ji47) : Int).toNat := ⟨_, rfl⟩
            have hy214 : y711.length = t690.length - ((ji47) : Int).toNat := (by rw [Ny711.out, List.length_drop] <;> omega)
            rw [show (t690).drop ((ji47) : Int).toNat = y711 from Ny711.out.symm] at hr214
            replace hr214 : Kd.C (Kd.int .i64) _ A214 y711.length y711 := (by rw [hA214]; exact hr214)
            rw [← hy214, ← hA214, ← hc214] at hcut214
            have HR714 := Aside0.mk hr214
            have HC714 := Aside0.mk (show y711.length ≤ c214 from by rw [hy214, hc214]; exact Nat.sub_le_sub_right hroom214 _)
            clear hr214 hC214 hroom214 hi0214 hsz214 hc214
            have KY214 := Aside0.mk hy214
            have KA214 := Aside0.mk hA214
            clear hy214 hA214
            have KL214 := Aside0.mk (show ((ji47) : Int).toNat ≤ t690.length from by omega)
            replace q214 := eq_true q214
            have q215 : ((ji47) : Int) ≤ ((t690.length : Int) : Int) := of_decide_eq_true (by first | (with_reducible assumption) | assumption)
            obtain ⟨i0215, hi0215, _, hsz215, _⟩ := info_parts info3
            have hroom215 : t690.length ≤ co212 := (Kd.R_reads' HO_5.out).2.1
            have hC215 : Kd.C (Kd.int .i64) _ Ao212 t690.length t690 := (Kd.R_reads' HO_5.out).2.2
            have hcut215 := cut_to (P := Tryd.prog) 22 3 .i64 Tryd.underlying22 hi0215 Ao212 t690.length co212 (ji47) (of_decide_eq_true (by first | (with_reducible assumption) | assumption)) q215 hroom215
            have hr215 := Kd.C_take (m := ((ji47) : Int).toNat) hC215 (by omega)
            have hy215 : y718.length = ((ji47) : Int).toNat := (by rw [Ny718.out, List.length_take]; omega)
            rw [← Ny718.out] at hr215
            rw [← hy215] at hcut215
            have HR721 := Aside0.mk hr215
            have HC721 := Aside0.mk (show y718.length ≤ co212 from by omega)
            clear hr215 hC215 hroom215 hi0215 hsz215
            have KY215 := Aside0.mk hy215
            clear hy215
            have KL215 := Aside0.mk (show ((ji47) : Int).toNat ≤ t690.length from by omega)
            replace q215 := eq_true q215
            refine start_ (n := 9) (S := fun w' => True) (ds := []) (Qbz 9 0) (by kernel_rfl) rfl rfl trivial (fun hHeld => ?_); refine with_tabW lampblacklaw07_MinorRound.tab14 lampblacklaw07_MinorRound.bits14 (fun HT_ HW_ => ?_)
            generalize wc.drew = w213 at HO_5 HB HR714 HR721 hHeld ⊢
            refine pure_ (i := 0) (N := some 93) (v := ?_) (a' := ?_) (Qbz 9 1) rfl rfl (any_of HT_.out (by kernel_rfl)) (fun _ _ _ h => h) (Or.inl ⟨by rfl, ?_⟩) ?_ ?_
            rotate_left
            ·intro w'
             go_simp
             with_reducible rfl
            rotate_left
            ·simp only [Act.put, Qp1, Qp2, Qp3, i64_w, i32_w]
             rfl
            refine pure_ (i := 1) (N := some 94) (v := ?_) (a' := ?_) (Qbz 9 3) rfl rfl (any_of HT_.out (by kernel_rfl)) (fun _ _ _ h => h) (Or.inl ⟨by rfl, ?_⟩) ?_ ?_
            rotate_left
            ·intro w'
             go_simp
             with_reducible rfl
            rotate_left
            ·simp only [Act.put, Qp1, Qp2, Qp3, i64_w, i32_w]
             rfl
            refine pure_ (i := 2) (N := some 95) (v := ?_) (a' := ?_) (Qbz 9 7) rfl rfl (any_of HT_.out (by kernel_rfl)) (fun _ _ _ h => h) (Or.inl ⟨by rfl, ?_⟩) ?_ ?_
            rotate_left
            ·intro w'
             go_simp
             with_reducible rfl
            rotate_left
            ·simp only [Act.put, Qp1, Qp2, Qp3, i64_w, i32_w]
             rfl
            refine pure_ (i := 4) (N := some 97) (v := ?_) (a' := ?_) (Qbz 9 23) rfl rfl (any_of HT_.out (by kernel_rfl)) (fun _ _ _ h => h) (Or.inl ⟨by rfl, ?_⟩) ?_ ?_
            rotate_left
            ·intro w'
             go_simp
             with_reducible rfl
            rotate_left
            ·simp only [Act.put, Qp1, Qp2, Qp3, i64_w, i32_w]
             rfl
            refine pure_ (i := 5) (N := some 98) (v := ?_) (a' := ?_) (Qbz 9 55) rfl rfl (any_of HT_.out (by kernel_rfl)) (fun _ _ _ h => h) (Or.inl ⟨by rfl, ?_⟩) ?_ ?_
            rotate_left
            ·intro w'
             go_simp
             with_reducible rfl
            rotate_left
            ·simp only [Act.put, Qp1, Qp2, Qp3, i64_w, i32_w]
             rfl
            refine pure_ (i := 6) (N := some 99) (v := ?_) (a' := ?_) (Qbz 9 119) rfl rfl (any_of HT_.out (by kernel_rfl)) (fun _ _ _ h => h) (Or.inl ⟨by rfl, ?_⟩) ?_ ?_
            rotate_left
            ·intro w'
             go_simp
             with_reducible rfl
            rotate_left
            ·simp only [Act.put, Qp1, Qp2, Qp3, i64_w, i32_w]
             rfl
            refine one_ (i := 3) (N := some 96) (Qbz 9 127) rfl rfl (one_of HT_.out (by kernel_rfl)) (by decide) (fun K hK => ?_)
            refine goes_ Tryd.func57 (by kernel_rfl) rfl #[.slice A214 y711.length c214] (by rfl) rfl rfl (Qls) ?_
            with_reducible refine (slices_Clone_int_int.calls _ _ y711 t715 _ ?side1 ?side2 A50.out).mono ?_
            (case side1 => repeat (first | exact (by repeat (first | (with_reducible exact HR714.out) | (with_reducible refine Kd.C_alloc ?_ _) | (with_reducible refine Kd.C_drewN ?_ _) | (with_reducible refine Kd.C_drew ?_) | exact HR714.out)) | (with_reducible refine Kd.C_alloc ?_ _) | (with_reducible refine Kd.C_drewN ?_ _) | (with_reducible refine Kd.C_drew ?_)))
            (case side2 => exact HC714.out)
            rintro e w216 ⟨v716, rfl, ho0, hb⟩
            refine ⟨_, rfl, ?_⟩
            have n0_ := Aside0.mk (Kd.R_elder' (Qro HO_5.out) (Kd.R_base ho0) hb)
            have n1_ := Aside0.mk (Kd.R_lower (Kd.R_new' ho0 (Kd.R_lt (Qro HO_5.out))) (below_size (Qaw)))
            have n2_ := Aside0.mk (Kd.C_below (by repeat (first | (with_reducible exact HR714.out) | (with_reducible refine Kd.C_alloc ?_ _) | (with_reducible refine Kd.C_drewN ?_ _) | (with_reducible refine Kd.C_drew ?_) | exact HR714.out)) hb)
            have n3_ := Aside0.mk (Kd.C_below (by repeat (first | (with_reducible exact HR721.out) | (with_reducible refine Kd.C_alloc ?_ _) | (with_reducible refine Kd.C_drewN ?_ _) | (with_reducible refine Kd.C_drew ?_) | exact HR721.out)) hb)
            have n4_ := Aside0.mk (below_step (Qaw) hb)
            clear HO_5
            clear HR714
            clear HR721
            clear HB
            have HO_5 := n0_
            have HO717 := n1_
            have HR714 := n2_
            have HR721 := n3_
            have HB := n4_
            clear n0_ n1_ n2_ n3_ n4_
            (try clear hb)
            (try clear hb2)
            (try clear hk)
            (try clear hi)
            (try clear ho0)
            refine hK.out _ _ trivial (fun hHeld => ?_)
            clear hK K
            refine norm_ (a' := ?_) ?_ ?_
            rotate_left
            ·show Act.put _ (some 96) _ = _
             simp only [Act.put, Qp1, Qp2, Qp3, i64_w, i32_w]
             rfl
            refine one_ (i := 7) (N := some 100) (Qbz 9 255) rfl rfl (one_of HT_.out (by kernel_rfl)) (by decide) (fun K hK => ?_)
            refine Kd.R_append_rows_step (Kd.int .i64) (w0 := w) w.heap.size (by rfl) (.tmp 96) (.tmp 99) 22 3 (.int .i64 0) 8 rfl Tryd.underlying22 info3 rfl (by decide) (by omega) v716 t715 y718 _ _ _ (fun k_ => some k_ ≠ (.slice Ao212 t690.length co212 : Value).ownBlock) (fun _ => False) rfl rfl ?aO ?aR (fun _ _ h => h) (fun _ h => h.elim) ?aF ?aB ?aS ?aL ?_
            (case aR => repeat (first | exact (by repeat (first | (with_reducible exact HR721.out) | (with_reducible refine Kd.C_alloc ?_ _) | (with_reducible refine Kd.C_drewN ?_ _) | (with_reducible refine Kd.C_drew ?_) | exact HR721.out)) | (with_reducible refine Kd.C_alloc ?_ _) | (with_reducible refine Kd.C_drewN ?_ _) | (with_reducible refine Kd.C_drew ?_)))
            (case aB => exact (Qaw))
            (case aF => exact (fun k_ hk => Kd.fresh' (Kd.R_lt (Qro HO_5.out)) k_ hk))
            (case aO => exact (by (with_reducible repeat (first | apply Kd.R_alloc | apply Kd.R_drewN | apply Kd.R_drew)); exact Kd.R_mono HO717.out (fun _ hk => hk.2)))
            (case aS => exact (below_size (Qaw)))
            (case aL => have := LMc53.out; omega)
            intro v723 w217 ho hb hg hat
            rw [← Ny722.out] at ho
            have n0_ := Aside0.mk (Kd.R_after (ok := (fun _ => True)) (Qro HO_5.out) hg hat)
            have n1_ := Aside0.mk (hb)
            have n2_ := Aside0.mk ((show Kd.C (Kd.int .i64) w217 A214 y711.length y711 from by rw [Ny711.out, KA214.out]; exact Kd.C_drop (m := ((ji47) : Int).toNat) (c := co212) ((Kd.R_reads' (Kd.R_after (ok := (fun _ => True)) (Qro HO_5.out) hg hat)).2.2) KL214.out ((Kd.R_reads' (Kd.R_after (ok := (fun _ => True)) (Qro HO_5.out) hg hat)).2.1)))
            have n3_ := Aside0.mk ((show Kd.C (Kd.int .i64) w217 Ao212 y718.length y718 from by rw [Ny718.out]; exact Kd.C_take (m := ((ji47) : Int).toNat) ((Kd.R_reads' (Kd.R_after (ok := (fun _ => True)) (Qro HO_5.out) hg hat)).2.2) KL215.out))
            have n4_ := Aside0.mk (ho)
            clear HO_5
            clear HB
            clear HR714
            clear HR721
            clear HO717
            have HO_5 := n0_
            have HB := n1_
            have HR714 := n2_
            have HR721 := n3_
            have HO724 := n4_
            clear n0_ n1_ n2_ n3_ n4_
            clear ho hb hg hat
            refine hK.out _ _ trivial (fun hHeld => ?_)
            clear hK K
            refine norm_ (a' := ?_) ?_ ?_
            rotate_left
            ·show Act.put _ (some 100) _ = _
             simp only [Act.put, Qp1, Qp2, Qp3, i64_w, i32_w]
             rfl
            refine pure_ (i := 8) (N := some 13) (v := ?_) (a' := ?_) (Qbz 9 511) rfl rfl (any_of HT_.out (by kernel_rfl)) (fun _ _ _ h => h) (Or.inl ⟨by rfl, ?_⟩) ?_ ?_
            rotate_left
            ·intro w'
             go_simp
             with_reducible rfl
            rotate_left
            ·simp only [Act.put, Qp1, Qp2, Qp3, i64_w, i32_w]
             rfl
            refine done_ (done_of HT_.out (by kernel_rfl)) ?_
            try go_wp2_with (first | ((with_reducible refine gate_callee (f := 22) rfl ?_); refine goesL_ (some 103) rfl rfl Tryd.func22 (by kernel_rfl) rfl #[.slice A0 l0.length c0] rfl (Qls) ?_; (with_reducible refine (lampblacklaw07_Few.calls _ _ l0 t725 _ ?side1 ?side2 A54.out).mono ?_); (case side1 => exact Qsc (Kd.C_below HR0.out HB.out)); (case side2 => exact HC0.out); rintro e w218 ⟨v726, rfl, ho0, hb⟩; refine ⟨_, rfl, ?_⟩; have n0_ := Aside0.mk (Kd.R_elder' (Qro HO_5.out) (Kd.R_base ho0) hb); have n1_ := Aside0.mk (Kd.R_elder' (Qro HO724.out) (Kd.R_base ho0) hb); have n2_ := Aside0.mk (Kd.R_lower (Kd.R_new' (Kd.R_new' ho0 (Kd.R_lt (Qro HO_5.out))) (Kd.R_lt (Qro HO724.out))) (below_size (Qaw))); have n3_ := Aside0.mk (Kd.C_below (by repeat (first | (with_reducible exact HR714.out) | (with_reducible refine Kd.C_alloc ?_ _) | (with_reducible refine Kd.C_drewN ?_ _) | (with_reducible refine Kd.C_drew ?_) | exact HR714.out)) hb); have n4_ := Aside0.mk (Kd.C_below (by repeat (first | (with_reducible exact HR721.out) | (with_reducible refine Kd.C_alloc ?_ _) | (with_reducible refine Kd.C_drewN ?_ _) | (with_reducible refine Kd.C_drew ?_) | exact HR721.out)) hb); have n5_ := Aside0.mk (below_step (Qaw) hb); clear HO_5; clear HO724; clear HR714; clear HR721; clear HB; have HO_5 := n0_; have HO724 := n1_; have HO727 := n2_; have HR714 := n3_; have HR721 := n4_; have HB := n5_; clear n0_ n1_ n2_ n3_ n4_ n5_; (try clear hb); (try clear hb2); (try clear hk); (try clear hi); (try clear ho0); obtain ⟨Ao219, co219, eo219⟩ := Kd.R_slice HO727.out; subst eo219) | ((with_reducible refine gate_callee (f := 48) rfl ?_); refine goesL_ (some 105) rfl rfl Tryd.func48 (by kernel_rfl) rfl #[.slice Ao219 t725.length co219, .slice Ao212 t690.length co212] rfl (Qls) ?_; (with_reducible refine (minor_CheckOuter.calls kj26 _ _ t725 _ _ t690 false t729 _ ?side1 ?side2 ?side3 ?side4 A55.out).mono ?_); (case side1 => exact Qsc (Kd.R_reads' HO727.out).2.2); (case side2 => exact (Kd.R_reads' HO727.out).2.1); (case side3 => exact Qsc (Kd.R_reads' HO_5.out).2.2); (case side4 => exact (Kd.R_reads' HO_5.out).2.1); rintro e w220 ⟨rfl, hb⟩; refine ⟨_, rfl, ?_⟩; have n0_ := Aside0.mk (Kd.R_below (Qro HO_5.out) hb); have n1_ := Aside0.mk (Kd.R_below (Qro HO724.out) hb); have n2_ := Aside0.mk (Kd.R_below (Qro HO727.out) hb); have n3_ := Aside0.mk (Kd.C_below (by repeat (first | (with_reducible exact HR714.out) | (with_reducible refine Kd.C_alloc ?_ _) | (with_reducible refine Kd.C_drewN ?_ _) | (with_reducible refine Kd.C_drew ?_) | exact HR714.out)) hb); have n4_ := Aside0.mk (Kd.C_below (by repeat (first | (with_reducible exact HR721.out) | (with_reducible refine Kd.C_alloc ?_ _) | (with_reducible refine Kd.C_drewN ?_ _) | (with_reducible refine Kd.C_drew ?_) | exact HR721.out)) hb); have n5_ := Aside0.mk (below_step (Qaw) hb); clear HO_5; clear HO724; clear HO727; clear HR714; clear HR721; clear HB; have HO_5 := n0_; have HO724 := n1_; have HO727 := n2_; have HR714 := n3_; have HR721 := n4_; have HB := n5_; clear n0_ n1_ n2_ n3_ n4_ n5_; (try clear hb); (try clear hb2); (try clear hk); (try clear hi)) | ((with_reducible refine gate_callee (f := 22) rfl ?_); refine goesL_ (some 110) rfl rfl Tryd.func22 (by kernel_rfl) rfl #[.slice A0 l0.length c0] rfl (Qls) ?_; (with_reducible refine (lampblacklaw07_Few.calls _ _ l0 t730 _ ?side1 ?side2 A56.out).mono ?_); (case side1 => exact Qsc (Kd.C_below HR0.out HB.out)); (case side2 => exact HC0.out); rintro e w221 ⟨v731, rfl, ho0, hb⟩; refine ⟨_, rfl, ?_⟩; have n0_ := Aside0.mk (Kd.R_elder' (Qro HO_5.out) (Kd.R_base ho0) hb); have n1_ := Aside0.mk (Kd.R_elder' (Qro HO724.out) (Kd.R_base ho0) hb); have n2_ := Aside0.mk (Kd.R_elder' (Qro HO727.out) (Kd.R_base ho0) hb); have n3_ := Aside0.mk (Kd.R_lower (Kd.R_new' (Kd.R_new' (Kd.R_new' ho0 (Kd.R_lt (Qro HO_5.out))) (Kd.R_lt (Qro HO724.out))) (Kd.R_lt (Qro HO727.out))) (below_size (Qaw))); have n4_ := Aside0.mk (Kd.C_below (by repeat (first | (with_reducible exact HR714.out) | (with_reducible refine Kd.C_alloc ?_ _) | (with_reducible refine Kd.C_drewN ?_ _) | (with_reducible refine Kd.C_drew ?_) | exact HR714.out)) hb); have n5_ := Aside0.mk (Kd.C_below (by repeat (first | (with_reducible exact HR721.out) | (with_reducible refine Kd.C_alloc ?_ _) | (with_reducible refine Kd.C_drewN ?_ _) | (with_reducible refine Kd.C_drew ?_) | exact HR721.out)) hb); have n6_ := Aside0.mk (below_step (Qaw) hb); clear HO_5; clear HO724; clear HO727; clear HR714; clear HR721; clear HB; have HO_5 := n0_; have HO724 := n1_; have HO727 := n2_; have HO732 := n3_; have HR714 := n4_; have HR721 := n5_; have HB := n6_; clear n0_ n1_ n2_ n3_ n4_ n5_ n6_; (try clear hb); (try clear hb2); (try clear hk); (try clear hi); (try clear ho0); obtain ⟨Ao222, co222, eo222⟩ := Kd.R_slice HO732.out; subst eo222; obtain ⟨Ao223, co223, eo223⟩ := Kd.R_slice HO724.out; subst eo223) | ((with_reducible refine gate_callee (f := 48) rfl ?_); refine goesL_ (some 112) rfl rfl Tryd.func48 (by kernel_rfl) rfl #[.slice Ao222 t730.length co222, .slice Ao223 y722.length co223] rfl (Qls) ?_; (with_reducible refine (minor_CheckOuter.calls kj26 _ _ t730 _ _ y722 t733 t734 _ ?side1 ?side2 ?side3 ?side4 A57.out).mono ?_); (case side1 => exact Qsc (Kd.R_reads' HO732.out).2.2); (case side2 => exact (Kd.R_reads' HO732.out).2.1); (case side3 => exact Qsc (Kd.R_reads' HO724.out).2.2); (case side4 => exact (Kd.R_reads' HO724.out).2.1); rintro e w224 ⟨rfl, hb⟩; refine ⟨_, rfl, ?_⟩; have n0_ := Aside0.mk (Kd.R_below (Qro HO_5.out) hb); have n1_ := Aside0.mk (Kd.R_below (Qro HO724.out) hb); have n2_ := Aside0.mk (Kd.R_below (Qro HO727.out) hb); have n3_ := Aside0.mk (Kd.R_below (Qro HO732.out) hb); have n4_ := Aside0.mk (Kd.C_below (by repeat (first | (with_reducible exact HR714.out) | (with_reducible refine Kd.C_alloc ?_ _) | (with_reducible refine Kd.C_drewN ?_ _) | (with_reducible refine Kd.C_drew ?_) | exact HR714.out)) hb); have n5_ := Aside0.mk (Kd.C_below (by repeat (first | (with_reducible exact HR721.out) | (with_reducible refine Kd.C_alloc ?_ _) | (with_reducible refine Kd.C_drewN ?_ _) | (with_reducible refine Kd.C_drew ?_) | exact HR721.out)) hb); have n6_ := Aside0.mk (below_step (Qaw) hb); clear HO_5; clear HO724; clear HO727; clear HO732; clear HR714; clear HR721; clear HB; have HO_5 := n0_; have HO724 := n1_; have HO727 := n2_; have HO732 := n3_; have HR714 := n4_; have HR721 := n5_; have HB := n6_; clear n0_ n1_ n2_ n3_ n4_ n5_ n6_; (try clear hb); (try clear hb2); (try clear hk); (try clear hi)) | ((with_reducible refine gate_callee (f := 58) rfl ?_); refine goesL_ (some 116) rfl rfl Tryd.func58 (by kernel_rfl) rfl #[.slice Ao223 y722.length co223] rfl (Qls) ?_; (with_reducible refine (slices_Reverse_int_int.calls kj26 (fun k_ => some k_ = (.slice Ao223 y722.length co223 : Value).ownBlock) (.slice Ao223 y722.length co223) y722 t735 w _ ?side1 ?side2 A58.out).mono ?_); (case side1 => repeat (first | (with_reducible first | exact HB.out | apply below_alloc | apply pw_below_drewN | apply below_drew1) | exact HB.out)); (case side2 => exact Kd.R_tight rfl HO724.out); rintro e w225 ⟨rfl, hy0, hb, hkp⟩; refine ⟨_, rfl, ?_⟩; have n0_ := Aside0.mk (Kd.R_mono (ok' := fun k_ => some k_ ≠ (.slice Ao223 y722.length co223 : Value).ownBlock ∧ some k_ ≠ (.slice Ao219 t725.length co219 : Value).ownBlock ∧ some k_ ≠ (.slice Ao222 t730.length co222 : Value).ownBlock) (Kd.R_keptB (HO_5.out) hkp (fun k_ hk_ hs_ => (hk_.1.1.2) hs_)) (fun k_ hk_ => ⟨hk_.1.1.1.2, hk_.1.1.2, hk_.1.2⟩)); have n1_ := Aside0.mk (Kd.R_reok rfl hy0 (fun k_ e_ => HO724.out.1 k_ e_)); have n2_ := Aside0.mk (Kd.R_mono (ok' := fun k_ => some k_ ≠ (.slice Ao212 t690.length co212 : Value).ownBlock ∧ some k_ ≠ (.slice Ao223 y722.length co223 : Value).ownBlock ∧ some k_ ≠ (.slice Ao222 t730.length co222 : Value).ownBlock) (Kd.R_keptB (HO727.out) hkp (fun k_ hk_ hs_ => (hk_.1.2) hs_)) (fun k_ hk_ => ⟨hk_.1.1.1.2, hk_.1.1.2, hk_.1.2⟩)); have n3_ := Aside0.mk (Kd.R_mono (ok' := fun k_ => some k_ ≠ (.slice Ao212 t690.length co212 : Value).ownBlock ∧ some k_ ≠ (.slice Ao223 y722.length co223 : Value).ownBlock ∧ some k_ ≠ (.slice Ao219 t725.length co219 : Value).ownBlock) (Kd.R_keptB (HO732.out) hkp (fun k_ hk_ hs_ => (hk_.1.2) hs_)) (fun k_ hk_ => ⟨hk_.1.1.1.2, hk_.1.1.2, hk_.1.2⟩)); have n4_ := Aside0.mk (hb); clear HO_5; clear HO724; clear HO727; clear HO732; clear HB; have HO_5 := n0_; have HO724 := n1_; have HO727 := n2_; have HO732 := n3_; have HB := n4_; clear n0_ n1_ n2_ n3_ n4_; (try clear hb); (try clear hkp); (try clear hy0)) | ((with_reducible refine gate_callee (f := 22) rfl ?_); refine goesL_ (some 119) rfl rfl Tryd.func22 (by kernel_rfl) rfl #[.slice A0 l0.length c0] rfl (Qls) ?_; (with_reducible refine (lampblacklaw07_Few.calls _ _ l0 t736 _ ?side1 ?side2 A59.out).mono ?_); (case side1 => exact Qsc (Kd.C_below HR0.out HB.out)); (case side2 => exact HC0.out); rintro e w226 ⟨v737, rfl, ho0, hb⟩; refine ⟨_, rfl, ?_⟩; have n0_ := Aside0.mk (Kd.R_elder' (Qro HO_5.out) (Kd.R_base ho0) hb); have n1_ := Aside0.mk (Kd.R_elder' (Qro HO724.out) (Kd.R_base ho0) hb); have n2_ := Aside0.mk (Kd.R_elder' (Qro HO727.out) (Kd.R_base ho0) hb); have n3_ := Aside0.mk (Kd.R_elder' (Qro HO732.out) (Kd.R_base ho0) hb); have n4_ := Aside0.mk (Kd.R_lower (Kd.R_new' (Kd.R_new' (Kd.R_new' (Kd.R_new' ho0 (Kd.R_lt (Qro HO_5.out))) (Kd.R_lt (Qro HO724.out))) (Kd.R_lt (Qro HO727.out))) (Kd.R_lt (Qro HO732.out))) (below_size (Qaw))); have n5_ := Aside0.mk (below_step (Qaw) hb); clear HO_5; clear HO724; clear HO727; clear HO732; clear HB; have HO_5 := n0_; have HO724 := n1_; have HO727 := n2_; have HO732 := n3_; have HO738 := n4_; have HB := n5_; clear n0_ n1_ n2_ n3_ n4_ n5_; (try clear hb); (try clear hb2); (try clear hk); (try clear hi); (try clear ho0); obtain ⟨Ao227, co227, eo227⟩ := Kd.R_slice HO738.out; subst eo227) | ((with_reducible refine gate_callee (f := 48) rfl ?_); refine goesL_ (some 121) rfl rfl Tryd.func48 (by kernel_rfl) rfl #[.slice Ao227 t736.length co227, .slice Ao223 t735.length co223] rfl (by (try simp only [List.map_toArray, List.map_cons, List.map_nil]); first | done | (rw [show t735.length = y722.length from (Kd.R_reads' HO724.out).1.symm] <;> rfl) | rfl | (simp only [List.length_drop, List.length_take]; rfl)) ?_; (with_reducible refine (minor_CheckOuter.calls kj26 _ _ t736 _ _ t735 t739 t740 _ ?side1 ?side2 ?side3 ?side4 A60.out).mono ?_); (case side1 => exact Qsc (Kd.R_reads' HO738.out).2.2); (case side2 => exact (Kd.R_reads' HO738.out).2.1); (case side3 => exact Qsc (Kd.R_reads' HO724.out).2.2); (case side4 => rw [show t735.length = y722.length from (Kd.R_reads' HO724.out).1.symm]; exact (Kd.R_reads' HO724.out).2.1); rintro e w228 ⟨rfl, hb⟩; refine ⟨_, rfl, ?_⟩; have n0_ := Aside0.mk (Kd.R_below (Qro HO_5.out) hb); have n1_ := Aside0.mk (Kd.R_below (Qro HO724.out) hb); have n2_ := Aside0.mk (Kd.R_below (Qro HO727.out) hb); have n3_ := Aside0.mk (Kd.R_below (Qro HO732.out) hb); have n4_ := Aside0.mk (Kd.R_below (Qro HO738.out) hb); have n5_ := Aside0.mk (below_step (Qaw) hb); clear HO_5; clear HO724; clear HO727; clear HO732; clear HO738; clear HB; have HO_5 := n0_; have HO724 := n1_; have HO727 := n2_; have HO732 := n3_; have HO738 := n4_; have HB := n5_; clear n0_ n1_ n2_ n3_ n4_ n5_; (try clear hb); (try clear hb2); (try clear hk); (try clear hi)) | ((with_reducible refine gate_callee (f := 22) rfl ?_); refine goesL_ (some 126) rfl rfl Tryd.func22 (by kernel_rfl) rfl #[.slice A0 l0.length c0] rfl (Qls) ?_; (with_reducible refine (lampblacklaw07_Few.calls _ _ l0 t741 _ ?side1 ?side2 A61.out).mono ?_); (case side1 => exact Qsc (Kd.C_below HR0.out HB.out)); (case side2 => exact HC0.out); rintro e w229 ⟨v742, rfl, ho0, hb⟩; refine ⟨_, rfl, ?_⟩; have n0_ := Aside0.mk (Kd.R_elder' (Qro HO_5.out) (Kd.R_base ho0) hb); have n1_ := Aside0.mk (Kd.R_elder' (Qro HO724.out) (Kd.R_base ho0) hb); have n2_ := Aside0.mk (Kd.R_elder' (Qro HO727.out) (Kd.R_base ho0) hb); have n3_ := Aside0.mk (Kd.R_elder' (Qro HO732.out) (Kd.R_base ho0) hb); have n4_ := Aside0.mk (Kd.R_elder' (Qro HO738.out) (Kd.R_base ho0) hb); have n5_ := Aside0.mk (Kd.R_lower (Kd.R_new' (Kd.R_new' (Kd.R_new' (Kd.R_new' (Kd.R_new' ho0 (Kd.R_lt (Qro HO_5.out))) (Kd.R_lt (Qro HO724.out))) (Kd.R_lt (Qro HO727.out))) (Kd.R_lt (Qro HO732.out))) (Kd.R_lt (Qro HO738.out))) (below_size (Qaw))); have n6_ := Aside0.mk (below_step (Qaw) hb); clear HO_5; clear HO724; clear HO727; clear HO732; clear HO738; clear HB; have HO_5 := n0_; have HO724 := n1_; have HO727 := n2_; have HO732 := n3_; have HO738 := n4_; have HO743 := n5_; have HB := n6_; clear n0_ n1_ n2_ n3_ n4_ n5_ n6_; (try clear hb); (try clear hb2); (try clear hk); (try clear hi); (try clear ho0); obtain ⟨Ao230, co230, eo230⟩ := Kd.R_slice HO743.out; subst eo230) | ((with_reducible refine gate_callee (f := 40) rfl ?_); refine goesL_ (some 127) rfl rfl Tryd.func40 (by kernel_rfl) rfl #[.slice Ao230 t741.length co230] rfl (Qls) ?_; (with_reducible refine (minor_Reduce.calls (hGL := (Qlg)) _ _ t741 t744 t745 _ ?side1 ?side2 A62.out).mono ?_); (case side1 => exact Qsc (Kd.R_reads' HO743.out).2.2); (case side2 => exact (Kd.R_reads' HO743.out).2.1); rintro e w231 ⟨v746, rfl, ho0, hb⟩; refine ⟨_, rfl, ?_⟩; have n0_ := Aside0.mk (Kd.R_below (Qro HO_5.out) hb); have n1_ := Aside0.mk (Kd.R_below (Qro HO724.out) hb); have n2_ := Aside0.mk (Kd.R_below (Qro HO727.out) hb); have n3_ := Aside0.mk (Kd.R_below (Qro HO732.out) hb); have n4_ := Aside0.mk (Kd.R_below (Qro HO738.out) hb); have n5_ := Aside0.mk (Kd.R_below (Qro HO743.out) hb); have n6_ := Aside0.mk (Kd.R_lower ho0 (below_size (Qaw))); have n7_ := Aside0.mk (below_step (Qaw) hb); clear HO_5; clear HO724; clear HO727; clear HO732; clear HO738; clear HO743; clear HB; have HO_5 := n0_; have HO724 := n1_; have HO727 := n2_; have HO732 := n3_; have HO738 := n4_; have HO743 := n5_; have HO747 := n6_; have HB := n7_; clear n0_ n1_ n2_ n3_ n4_ n5_ n6_ n7_; (try clear hb); (try clear hb2); (try clear hk); (try clear hi); (try clear ho0)))
            go_ret
            exact ⟨by first | rfl | (simp [errW_none, errW_some] <;> rfl) | (simp only [← hji47]; first | rfl | (simp [errW_none, errW_some] <;> rfl)) | (simp [*, errW_none, errW_some] <;> rfl), by repeat (first | (with_reducible first | exact HB.out | apply below_alloc | apply pw_below_drewN | apply below_drew1) | exact HB.out)⟩
          ·rw [if_neg c53] at H
           exact absurd H (by simp)
         ·rw [if_neg c49] at H
          exact absurd H (by simp)
        ·rw [if_neg c48] at H
         exact absurd H (by simp)
      ·rw [if_neg c45] at H
       have c45b0 : ((t690.length : Int) == (l0.length : Int)) = false := beq_eq_false_iff_ne.mpr c45
       have c45b1 : ((t690.length : Int) != (l0.length : Int)) = true := bne_iff_ne.mpr c45
       have c45b2 : (t690.length == l0.length) = false := by first | simpa using c45 | (simp at c45 ⊢; omega)
       obtain rfl := Option.some.inj H
       obtain ⟨Ao232, co232, eo232⟩ := Kd.R_slice HO_5.out
       subst eo232
       go_wp2
       go_ret
       exact ⟨by first | rfl | (simp [errW_none, errW_some] <;> rfl) | (simp [*, errW_none, errW_some] <;> rfl), by repeat (first | (with_reducible first | exact HB.out | apply below_alloc | apply pw_below_drewN | apply below_drew1) | exact HB.out)⟩
     ·rw [if_neg c44] at H
      have c44b0 : (t691 == 0) = false := beq_eq_false_iff_ne.mpr c44
      have c44b1 : (t691 != 0) = true := bne_iff_ne.mpr c44
      replace H := Option.bind_eq_some_iff.mp H
      obtain ⟨t710, A2330, H⟩ := H
      replace H : (some t710) = some r := H
      have A233 := Aside0.mk A2330
      clear A2330
      obtain rfl := Option.some.inj H
      go_wp2_with (first | ((with_reducible refine gate_callee (f := 17) rfl ?_); refine goesL_ (some 80) rfl rfl Tryd.func17 (by kernel_rfl) rfl #[] rfl (Qls) ?_; (with_reducible refine (lampblacklaw07_awake.calls (hGL := (Qlg)) kj26  t710 _ A233.out).mono ?_); rintro e w234 ⟨rfl, hb⟩; refine ⟨_, rfl, ?_⟩; have n0_ := Aside0.mk (Kd.R_below (Qro HO_5.out) hb); have n1_ := Aside0.mk (below_step (Qaw) hb); clear HO_5; clear HB; have HO_5 := n0_; have HB := n1_; clear n0_ n1_; (try clear hb); (try clear hb2); (try clear hk); (try clear hi)))
      go_ret
      exact ⟨by first | rfl | (simp [errW_none, errW_some] <;> rfl) | (simp [*, errW_none, errW_some] <;> rfl), by repeat (first | (with_reducible first | exact HB.out | apply below_alloc | apply pw_below_drewN | apply below_drew1) | exact HB.out)⟩
end Go.Proofs.YtjloppfdagfpmaaDoor.X
end
section
/- (minor) Check in plain words: what it accepts are the models; a beginning of any length; a node less and two nodes made one keep a graph a graph. -/
namespace Go.Proofs.YtjloppfdagfpmaaDoor.X
open Go.RowKit YtjloppfdagfpmaaDoorW.PrintWords YtjloppfdagfpmaaDoorW.PrintLast YtjloppfdagfpmaaDoorW.PrintMore YtjloppfdagfpmaaDoor.T
/-! Graphs stay graphs. -/
theorem joinN_adj {n : Nat} {J : List Nat} (h : InN n J) {a v : Nat} (ha : a < n) (hv : v < n) (hav : a ≠ v) (x y : Nat) : Adj (joinN J a v) x y ↔ Adj J x y ∨ (x = a ∧ y = v) ∨ (x = v ∧ y = a) := by
 show bset ((joinN J a v).getD x 0) y ↔ bset (J.getD x 0) y ∨ _
 unfold joinN
 rw [getD_set3 _ _ _ _ (by rw [List.length_set, h.1]; exact hv), getD_set3 _ _ _ _ (by rw [h.1]; exact ha), getD_set3 _ _ _ _ (by rw [h.1]; exact ha), if_neg (show ¬ v = a from fun e => hav e.symm)]
 by_cases h1 : x = v
 ·subst h1
  rw [if_pos rfl, or_bset, two_pow_bit]
  constructor
  ·rintro (h | h)
   ·exact .inl h
   ·exact .inr (.inr ⟨rfl, h⟩)
  ·rintro (h | ⟨h, _⟩ | ⟨_, h⟩)
   ·exact .inl h
   ·exact absurd h.symm hav
   ·exact .inr h
 ·rw [if_neg h1]
  by_cases h2 : x = a
  ·subst h2
   rw [if_pos rfl, or_bset, two_pow_bit]
   constructor
   ·rintro (h | h)
    ·exact .inl h
    ·exact .inr (.inl ⟨rfl, h⟩)
   ·rintro (h | ⟨_, h⟩ | ⟨h, _⟩)
    ·exact .inl h
    ·exact .inr h
    ·exact absurd h hav
  ·rw [if_neg h2]
   exact ⟨.inl, fun h => h.elim id fun h => h.elim (fun h => absurd h.1 h2) fun h => absurd h.1 h1⟩
end Go.Proofs.YtjloppfdagfpmaaDoor.X
end
section
/- minor.CheckReduce, by hand. -/
namespace Go.Proofs.YtjloppfdagfpmaaDoor.X
open Go.RowKit YtjloppfdagfpmaaDoorW.PrintWords YtjloppfdagfpmaaDoorW.PrintLast YtjloppfdagfpmaaDoorW.PrintMore YtjloppfdagfpmaaDoor.T
attribute [local go_sem] max2_int min2_int max_two min_two max_three min_three max_four min_four
def eqS (a b : S95) : Bool := (a.f0 == b.f0) && ((a.f1 == b.f1) && ((a.f2 == b.f2) && (a.f3 == b.f3)))
def ckR (n : Nat) : List S95 → List Nat → Nat → Bool
 | [], _, left => decide (left = 0)
 | s :: r, J, left => decide (0 ≤ s.f1) && decide (s.f1 < (n : Int)) && left.testBit s.f1.toNat && decide ((nearL J left s.f1.toNat).length ≤ 2) && eqS (stepS J left s.f1.toNat) s && ckR n r (nextJ J left s.f1.toNat) (diff left (2 ^ s.f1.toNat))
end Go.Proofs.YtjloppfdagfpmaaDoor.X
end
