/- Part 2 of what MinorOuters rests on: contracts of the functions that it reaches, and what they compute, in plain words. -/
import Derived.Test.YtjloppfdagfpmaaDoorZMinorOuters0
import Derived.Test.YtjloppfdagfpmaaDoorZMinorOuters1
import Derived.WalkSpells
set_option linter.unusedVariables false
set_option linter.unusedSimpArgs false
section
namespace Go.Proofs.YtjloppfdagfpmaaDoor.X
open Go.RowKit YtjloppfdagfpmaaDoorW.PrintWords YtjloppfdagfpmaaDoorW.PrintLast YtjloppfdagfpmaaDoorW.PrintMore
attribute [local go_sem] max2_int min2_int max_two min_two max_three min_three max_four min_four
/-! ### lampblacklaw07_MinorOuters: function 9 -/
def lampblacklaw07_MinorOuters.f (k : Nat) (l0 : List Int) (l1 : List Int) : Option (Bool) := (lampblacklaw07_Few.f l0).bind fun t551 => ((minor_Outer.f t551).bind fun bt554 => ((lampblacklaw07_Few.f l0).bind fun t558 => ((lampblacklaw07_list.f l1).bind fun t561 => ((minor_CheckOuter.f k t558 t561).bind fun bt564 => ((lampblackref07_Valid.f k l0).bind fun t566 => (if t566 = true then ((lampblackref07_Outer.f l0).bind fun bt568 => ((slices_Equal_int_int.f k bt554.1 bt568.1).bind fun t572 => (if t572 = true then (if bt554.2 = bt568.2 then ((lampblackref07_IsOuter.f k l0 l1).bind fun t573 => (if (bt564.1 == t573) = true then (if bt564.2 = 0 then ((lampblacklaw07_awake.f k).bind fun t574 => (some t574)) else (some false)) else (some false))) else (some false)) else (some false)))) else (if (bt554.1.length : Int) = 0 then (if bt564.1 = true then (some false) else (if bt554.2 = 2 then (if bt564.2 = 2 then ((lampblacklaw07_awake.f k).bind fun t567 => (some t567)) else (some false)) else (some false))) else (some false))))))))
set_option maxHeartbeats 8000000 in
set_option maxRecDepth 100000 in
theorem lampblacklaw07_MinorOuters.calls (k : Nat) (A0 : Option Addr) (c0 : Nat) (l0 : List Int) (A1 : Option Addr) (c1 : Nat) (l1 : List Int) (r : Bool) (w : World) (hGL : GL w) (hr0 : Kd.C (Kd.int .i64) w A0 l0.length l0) (hc0 : l0.length ≤ c0) (hr1 : Kd.C (Kd.int .i64) w A1 l1.length l1) (hc1 : l1.length ≤ c1) (h : lampblacklaw07_MinorOuters.f k l0 l1 = some r) :
  Calls Tryd.prog 9 #[.slice A0 l0.length c0, .slice A1 l1.length c1] w fun e w' => e = .returned (.bool r) ∧ Below w.heap.size w w' := by
 have HGL := Aside0.mk hGL
 clear hGL
 have HR0 := Aside0.mk hr0
 have HC0 := Aside0.mk hc0
 clear hr0 hc0
 have HR1 := Aside0.mk hr1
 have HC1 := Aside0.mk hc1
 clear hr1 hc1
 have HB := Aside0.mk (Below.refl w.heap.size w)
 have H : ((lampblacklaw07_Few.f l0).bind fun t551 => ((minor_Outer.f t551).bind fun bt554 => ((lampblacklaw07_Few.f l0).bind fun t558 => ((lampblacklaw07_list.f l1).bind fun t561 => ((minor_CheckOuter.f k t558 t561).bind fun bt564 => ((lampblackref07_Valid.f k l0).bind fun t566 => (if t566 = true then ((lampblackref07_Outer.f l0).bind fun bt568 => ((slices_Equal_int_int.f k bt554.1 bt568.1).bind fun t572 => (if t572 = true then (if bt554.2 = bt568.2 then ((lampblackref07_IsOuter.f k l0 l1).bind fun t573 => (if (bt564.1 == t573) = true then (if bt564.2 = 0 then ((lampblacklaw07_awake.f k).bind fun t574 => (some t574)) else (some false)) else (some false))) else (some false)) else (some false)))) else (if (bt554.1.length : Int) = 0 then (if bt564.1 = true then (some false) else (if bt554.2 = 2 then (if bt564.2 = 2 then ((lampblacklaw07_awake.f k).bind fun t567 => (some t567)) else (some false)) else (some false))) else (some false))))))))) = some r := h
 clear h
 replace H := Option.bind_eq_some_iff.mp H
 obtain ⟨t551, A30, H⟩ := H
 replace H : ((minor_Outer.f t551).bind fun bt554 => ((lampblacklaw07_Few.f l0).bind fun t558 => ((lampblacklaw07_list.f l1).bind fun t561 => ((minor_CheckOuter.f k t558 t561).bind fun bt564 => ((lampblackref07_Valid.f k l0).bind fun t566 => (if t566 = true then ((lampblackref07_Outer.f l0).bind fun bt568 => ((slices_Equal_int_int.f k bt554.1 bt568.1).bind fun t572 => (if t572 = true then (if bt554.2 = bt568.2 then ((lampblackref07_IsOuter.f k l0 l1).bind fun t573 => (if (bt564.1 == t573) = true then (if bt564.2 = 0 then ((lampblacklaw07_awake.f k).bind fun t574 => (some t574)) else (some false)) else (some false))) else (some false)) else (some false)))) else (if (bt554.1.length : Int) = 0 then (if bt564.1 = true then (some false) else (if bt554.2 = 2 then (if bt564.2 = 2 then ((lampblacklaw07_awake.f k).bind fun t567 => (some t567)) else (some false)) else (some false))) else (some false)))))))) = some r := H
 have A3 := Aside0.mk A30
 clear A30
 replace H := Option.bind_eq_some_iff.mp H
 obtain ⟨⟨t554, t555⟩, A40, H⟩ := H
 replace H : ((lampblacklaw07_Few.f l0).bind fun t558 => ((lampblacklaw07_list.f l1).bind fun t561 => ((minor_CheckOuter.f k t558 t561).bind fun bt564 => ((lampblackref07_Valid.f k l0).bind fun t566 => (if t566 = true then ((lampblackref07_Outer.f l0).bind fun bt568 => ((slices_Equal_int_int.f k t554 bt568.1).bind fun t572 => (if t572 = true then (if t555 = bt568.2 then ((lampblackref07_IsOuter.f k l0 l1).bind fun t573 => (if (bt564.1 == t573) = true then (if bt564.2 = 0 then ((lampblacklaw07_awake.f k).bind fun t574 => (some t574)) else (some false)) else (some false))) else (some false)) else (some false)))) else (if (t554.length : Int) = 0 then (if bt564.1 = true then (some false) else (if t555 = 2 then (if bt564.2 = 2 then ((lampblacklaw07_awake.f k).bind fun t567 => (some t567)) else (some false)) else (some false))) else (some false))))))) = some r := H
 have A4 := Aside0.mk A40
 clear A40
 replace H := Option.bind_eq_some_iff.mp H
 obtain ⟨t558, A50, H⟩ := H
 replace H : ((lampblacklaw07_list.f l1).bind fun t561 => ((minor_CheckOuter.f k t558 t561).bind fun bt564 => ((lampblackref07_Valid.f k l0).bind fun t566 => (if t566 = true then ((lampblackref07_Outer.f l0).bind fun bt568 => ((slices_Equal_int_int.f k t554 bt568.1).bind fun t572 => (if t572 = true then (if t555 = bt568.2 then ((lampblackref07_IsOuter.f k l0 l1).bind fun t573 => (if (bt564.1 == t573) = true then (if bt564.2 = 0 then ((lampblacklaw07_awake.f k).bind fun t574 => (some t574)) else (some false)) else (some false))) else (some false)) else (some false)))) else (if (t554.length : Int) = 0 then (if bt564.1 = true then (some false) else (if t555 = 2 then (if bt564.2 = 2 then ((lampblacklaw07_awake.f k).bind fun t567 => (some t567)) else (some false)) else (some false))) else (some false)))))) = some r := H
 have A5 := Aside0.mk A50
 clear A50
 replace H := Option.bind_eq_some_iff.mp H
 obtain ⟨t561, A60, H⟩ := H
 replace H : ((minor_CheckOuter.f k t558 t561).bind fun bt564 => ((lampblackref07_Valid.f k l0).bind fun t566 => (if t566 = true then ((lampblackref07_Outer.f l0).bind fun bt568 => ((slices_Equal_int_int.f k t554 bt568.1).bind fun t572 => (if t572 = true then (if t555 = bt568.2 then ((lampblackref07_IsOuter.f k l0 l1).bind fun t573 => (if (bt564.1 == t573) = true then (if bt564.2 = 0 then ((lampblacklaw07_awake.f k).bind fun t574 => (some t574)) else (some false)) else (some false))) else (some false)) else (some false)))) else (if (t554.length : Int) = 0 then (if bt564.1 = true then (some false) else (if t555 = 2 then (if bt564.2 = 2 then ((lampblacklaw07_awake.f k).bind fun t567 => (some t567)) else (some false)) else (some false))) else (some false))))) = some r := H
 have A6 := Aside0.mk A60
 clear A60
 replace H := Option.bind_eq_some_iff.mp H
 obtain ⟨⟨t564, t565⟩, A70, H⟩ := H
 replace H : ((lampblackref07_Valid.f k l0).bind fun t566 => (if t566 = true then ((lampblackref07_Outer.f l0).bind fun bt568 => ((slices_Equal_int_int.f k t554 bt568.1).bind fun t572 => (if t572 = true then (if t555 = bt568.2 then ((lampblackref07_IsOuter.f k l0 l1).bind fun t573 => (if (t564 == t573) = true then (if t565 = 0 then ((lampblacklaw07_awake.f k).bind fun t574 => (some t574)) else (some false)) else (some false))) else (some false)) else (some false)))) else (if (t554.length : Int) = 0 then (if t564 = true then (some false) else (if t555 = 2 then (if t565 = 2 then ((lampblacklaw07_awake.f k).bind fun t567 => (some t567)) else (some false)) else (some false))) else (some false)))) = some r := H
 have A7 := Aside0.mk A70
 clear A70
 replace H := Option.bind_eq_some_iff.mp H
 obtain ⟨t566, A80, H⟩ := H
 replace H : (if t566 = true then ((lampblackref07_Outer.f l0).bind fun bt568 => ((slices_Equal_int_int.f k t554 bt568.1).bind fun t572 => (if t572 = true then (if t555 = bt568.2 then ((lampblackref07_IsOuter.f k l0 l1).bind fun t573 => (if (t564 == t573) = true then (if t565 = 0 then ((lampblacklaw07_awake.f k).bind fun t574 => (some t574)) else (some false)) else (some false))) else (some false)) else (some false)))) else (if (t554.length : Int) = 0 then (if t564 = true then (some false) else (if t555 = 2 then (if t565 = 2 then ((lampblacklaw07_awake.f k).bind fun t567 => (some t567)) else (some false)) else (some false))) else (some false))) = some r := H
 have A8 := Aside0.mk A80
 clear A80
 by_cases c9 : t566 = true
 ·subst c9
  have H1 : ((lampblackref07_Outer.f l0).bind fun bt568 => ((slices_Equal_int_int.f k t554 bt568.1).bind fun t572 => (if t572 = true then (if t555 = bt568.2 then ((lampblackref07_IsOuter.f k l0 l1).bind fun t573 => (if (t564 == t573) = true then (if t565 = 0 then ((lampblacklaw07_awake.f k).bind fun t574 => (some t574)) else (some false)) else (some false))) else (some false)) else (some false)))) = some r := by rw [if_pos rfl] at H; exact H
  clear H
  have H := H1
  clear H1
  replace H := Option.bind_eq_some_iff.mp H
  obtain ⟨⟨t568, t569⟩, A100, H⟩ := H
  replace H : ((slices_Equal_int_int.f k t554 t568).bind fun t572 => (if t572 = true then (if t555 = t569 then ((lampblackref07_IsOuter.f k l0 l1).bind fun t573 => (if (t564 == t573) = true then (if t565 = 0 then ((lampblacklaw07_awake.f k).bind fun t574 => (some t574)) else (some false)) else (some false))) else (some false)) else (some false))) = some r := H
  have A10 := Aside0.mk A100
  clear A100
  replace H := Option.bind_eq_some_iff.mp H
  obtain ⟨t572, A110, H⟩ := H
  replace H : (if t572 = true then (if t555 = t569 then ((lampblackref07_IsOuter.f k l0 l1).bind fun t573 => (if (t564 == t573) = true then (if t565 = 0 then ((lampblacklaw07_awake.f k).bind fun t574 => (some t574)) else (some false)) else (some false))) else (some false)) else (some false)) = some r := H
  have A11 := Aside0.mk A110
  clear A110
  by_cases c12 : t572 = true
  ·subst c12
   have H1 : (if t555 = t569 then ((lampblackref07_IsOuter.f k l0 l1).bind fun t573 => (if (t564 == t573) = true then (if t565 = 0 then ((lampblacklaw07_awake.f k).bind fun t574 => (some t574)) else (some false)) else (some false))) else (some false)) = some r := by rw [if_pos rfl] at H; exact H
   clear H
   have H := H1
   clear H1
   by_cases c13 : t555 = t569
   ·rw [if_pos c13] at H
    have c13b0 : (t555 == t569) = true := beq_iff_eq.mpr c13
    have c13b1 : (t555 != t569) = false := bne_eq_false_iff_eq.mpr c13
    clear c13
    replace H := Option.bind_eq_some_iff.mp H
    obtain ⟨t573, A140, H⟩ := H
    replace H : (if (t564 == t573) = true then (if t565 = 0 then ((lampblacklaw07_awake.f k).bind fun t574 => (some t574)) else (some false)) else (some false)) = some r := H
    have A14 := Aside0.mk A140
    clear A140
    by_cases c15 : (t564 == t573) = true
    ·rw [if_pos c15] at H
     have c15b0 : (t564 == t573) = true := c15
     (try (have c15b1 : decide (t564 = t573) = true := by simpa using c15))
     (try (have c15b2 : (t564 == t573) = true := by simpa using c15))
     clear c15
     by_cases c16 : t565 = 0
     ·rw [if_pos c16] at H
      have c16b0 : (t565 == 0) = true := beq_iff_eq.mpr c16
      have c16b1 : (t565 != 0) = false := bne_eq_false_iff_eq.mpr c16
      clear c16
      replace H := Option.bind_eq_some_iff.mp H
      obtain ⟨t574, A170, H⟩ := H
      replace H : (some t574) = some r := H
      have A17 := Aside0.mk A170
      clear A170
      obtain rfl := Option.some.inj H
      go_enter Tryd.func9, Tryd.ntmps9
      go_wp2_with (first | ((with_reducible refine gate_callee (f := 22) rfl ?_); refine goesL_ (some 13) rfl rfl Tryd.func22 (by kernel_rfl) rfl #[.slice A0 l0.length c0] rfl (Qls) ?_; (with_reducible refine (lampblacklaw07_Few.calls _ _ l0 t551 _ ?side1 ?side2 A3.out).mono ?_); (case side1 => exact Qsc HR0.out); (case side2 => exact HC0.out); rintro e w18 ⟨v552, rfl, ho0, hb⟩; refine ⟨_, rfl, ?_⟩; have n0_ := Aside0.mk (Kd.R_lower ho0 (below_size (Qaw))); have n1_ := Aside0.mk (below_step (Qaw) hb); clear HB; have HO553 := n0_; have HB := n1_; clear n0_ n1_; (try clear hb); (try clear hb2); (try clear hk); (try clear hi); (try clear ho0); obtain ⟨Ao19, co19, eo19⟩ := Kd.R_slice HO553.out; subst eo19) | ((with_reducible refine gate_callee (f := 47) rfl ?_); refine goesL_ (some 14) rfl rfl Tryd.func47 (by kernel_rfl) rfl #[.slice Ao19 t551.length co19] rfl (Qls) ?_; (with_reducible refine (minor_Outer.calls (hGL := (Qlg)) _ _ t551 t554 t555 _ ?side1 ?side2 A4.out).mono ?_); (case side1 => exact Qsc (Kd.R_reads' HO553.out).2.2); (case side2 => exact (Kd.R_reads' HO553.out).2.1); rintro e w20 ⟨v556, rfl, ho0, hb⟩; refine ⟨_, rfl, ?_⟩; have n0_ := Aside0.mk (Kd.R_elder' (Qro HO553.out) (Kd.R_base ho0) hb); have n1_ := Aside0.mk (Kd.R_lower (Kd.R_new' ho0 (Kd.R_lt (Qro HO553.out))) (below_size (Qaw))); have n2_ := Aside0.mk (below_step (Qaw) hb); clear HO553; clear HB; have HO553 := n0_; have HO557 := n1_; have HB := n2_; clear n0_ n1_ n2_; (try clear hb); (try clear hb2); (try clear hk); (try clear hi); (try clear ho0)) | ((with_reducible refine gate_callee (f := 22) rfl ?_); refine goesL_ (some 19) rfl rfl Tryd.func22 (by kernel_rfl) rfl #[.slice A0 l0.length c0] rfl (Qls) ?_; (with_reducible refine (lampblacklaw07_Few.calls _ _ l0 t558 _ ?side1 ?side2 A5.out).mono ?_); (case side1 => exact Qsc (Kd.C_below HR0.out HB.out)); (case side2 => exact HC0.out); rintro e w21 ⟨v559, rfl, ho0, hb⟩; refine ⟨_, rfl, ?_⟩; have n0_ := Aside0.mk (Kd.R_elder' (Qro HO553.out) (Kd.R_base ho0) hb); have n1_ := Aside0.mk (Kd.R_elder' (Qro HO557.out) (Kd.R_base ho0) hb); have n2_ := Aside0.mk (Kd.R_lower (Kd.R_new' (Kd.R_new' ho0 (Kd.R_lt (Qro HO553.out))) (Kd.R_lt (Qro HO557.out))) (below_size (Qaw))); have n3_ := Aside0.mk (below_step (Qaw) hb); clear HO553; clear HO557; clear HB; have HO553 := n0_; have HO557 := n1_; have HO560 := n2_; have HB := n3_; clear n0_ n1_ n2_ n3_; (try clear hb); (try clear hb2); (try clear hk); (try clear hi); (try clear ho0)) | ((with_reducible refine gate_callee (f := 24) rfl ?_); refine goesL_ (some 21) rfl rfl Tryd.func24 (by kernel_rfl) rfl #[.slice A1 l1.length c1] rfl (Qls) ?_; (with_reducible refine (lampblacklaw07_list.calls _ _ l1 t561 _ ?side1 ?side2 A6.out).mono ?_); (case side1 => exact Qsc (Kd.C_below HR1.out HB.out)); (case side2 => exact HC1.out); rintro e w22 ⟨v562, rfl, ho0, hb⟩; refine ⟨_, rfl, ?_⟩; have n0_ := Aside0.mk (Kd.R_elder' (Qro HO553.out) (Kd.R_base ho0) hb); have n1_ := Aside0.mk (Kd.R_elder' (Qro HO557.out) (Kd.R_base ho0) hb); have n2_ := Aside0.mk (Kd.R_elder' (Qro HO560.out) (Kd.R_base ho0) hb); have n3_ := Aside0.mk (Kd.R_lower (Kd.R_new' (Kd.R_new' (Kd.R_new' ho0 (Kd.R_lt (Qro HO553.out))) (Kd.R_lt (Qro HO557.out))) (Kd.R_lt (Qro HO560.out))) (below_size (Qaw))); have n4_ := Aside0.mk (below_step (Qaw) hb); clear HO553; clear HO557; clear HO560; clear HB; have HO553 := n0_; have HO557 := n1_; have HO560 := n2_; have HO563 := n3_; have HB := n4_; clear n0_ n1_ n2_ n3_ n4_; (try clear hb); (try clear hb2); (try clear hk); (try clear hi); (try clear ho0); obtain ⟨Ao23, co23, eo23⟩ := Kd.R_slice HO560.out; subst eo23; obtain ⟨Ao24, co24, eo24⟩ := Kd.R_slice HO563.out; subst eo24) | ((with_reducible refine gate_callee (f := 48) rfl ?_); refine goesL_ (some 22) rfl rfl Tryd.func48 (by kernel_rfl) rfl #[.slice Ao23 t558.length co23, .slice Ao24 t561.length co24] rfl (Qls) ?_; (with_reducible refine (minor_CheckOuter.calls k _ _ t558 _ _ t561 t564 t565 _ ?side1 ?side2 ?side3 ?side4 A7.out).mono ?_); (case side1 => exact Qsc (Kd.R_reads' HO560.out).2.2); (case side2 => exact (Kd.R_reads' HO560.out).2.1); (case side3 => exact Qsc (Kd.R_reads' HO563.out).2.2); (case side4 => exact (Kd.R_reads' HO563.out).2.1); rintro e w25 ⟨rfl, hb⟩; refine ⟨_, rfl, ?_⟩; have n0_ := Aside0.mk (Kd.R_below (Qro HO553.out) hb); have n1_ := Aside0.mk (Kd.R_below (Qro HO557.out) hb); have n2_ := Aside0.mk (Kd.R_below (Qro HO560.out) hb); have n3_ := Aside0.mk (Kd.R_below (Qro HO563.out) hb); have n4_ := Aside0.mk (below_step (Qaw) hb); clear HO553; clear HO557; clear HO560; clear HO563; clear HB; have HO553 := n0_; have HO557 := n1_; have HO560 := n2_; have HO563 := n3_; have HB := n4_; clear n0_ n1_ n2_ n3_ n4_; (try clear hb); (try clear hb2); (try clear hk); (try clear hi)) | ((with_reducible refine gate_callee (f := 16) rfl ?_); refine goesL_ (some 26) rfl rfl Tryd.func16 (by kernel_rfl) rfl #[.slice A0 l0.length c0] rfl (Qls) ?_; (with_reducible refine (lampblackref07_Valid.calls k _ _ l0 true _ ?side1 ?side2 A8.out).mono ?_); (case side1 => exact Qsc (Kd.C_below HR0.out HB.out)); (case side2 => exact HC0.out); rintro e w' ⟨rfl, ⟨nd, rfl⟩⟩; refine ⟨_, rfl, ?_⟩) | ((with_reducible refine gate_callee (f := 49) rfl ?_); refine goesL_ (some 48) rfl rfl Tryd.func49 (by kernel_rfl) rfl #[.slice A0 l0.length c0] rfl (Qls) ?_; (with_reducible refine (lampblackref07_Outer.calls _ _ l0 t568 t569 _ ?side1 ?side2 A10.out).mono ?_); (case side1 => repeat (first | exact (Kd.C_below HR0.out (Qaw)) | (with_reducible refine Kd.C_alloc ?_ _) | (with_reducible refine Kd.C_drewN ?_ _) | (with_reducible refine Kd.C_drew ?_))); (case side2 => exact HC0.out); rintro e w26 ⟨v570, rfl, ho0, hb⟩; refine ⟨_, rfl, ?_⟩; have n0_ := Aside0.mk (Kd.R_elder' (Qro HO553.out) (Kd.R_base ho0) hb); have n1_ := Aside0.mk (Kd.R_elder' (Qro HO557.out) (Kd.R_base ho0) hb); have n2_ := Aside0.mk (Kd.R_elder' (Qro HO560.out) (Kd.R_base ho0) hb); have n3_ := Aside0.mk (Kd.R_elder' (Qro HO563.out) (Kd.R_base ho0) hb); have n4_ := Aside0.mk (Kd.R_lower (Kd.R_new' (Kd.R_new' (Kd.R_new' (Kd.R_new' ho0 (Kd.R_lt (Qro HO553.out))) (Kd.R_lt (Qro HO557.out))) (Kd.R_lt (Qro HO560.out))) (Kd.R_lt (Qro HO563.out))) (below_size (Qaw))); have n5_ := Aside0.mk (below_step (Qaw) hb); clear HO553; clear HO557; clear HO560; clear HO563; clear HB; have HO553 := n0_; have HO557 := n1_; have HO560 := n2_; have HO563 := n3_; have HO571 := n4_; have HB := n5_; clear n0_ n1_ n2_ n3_ n4_ n5_; (try clear hb); (try clear hb2); (try clear hk); (try clear hi); (try clear ho0); obtain ⟨Ao27, co27, eo27⟩ := Kd.R_slice HO557.out; subst eo27; obtain ⟨Ao28, co28, eo28⟩ := Kd.R_slice HO571.out; subst eo28) | ((with_reducible refine gate_callee (f := 27) rfl ?_); refine goesL_ (some 53) rfl rfl Tryd.func27 (by kernel_rfl) rfl #[.slice Ao27 t554.length co27, .slice Ao28 t568.length co28] rfl (Qls) ?_; (with_reducible refine (slices_Equal_int_int.calls k _ _ t554 _ _ t568 true _ ?side1 ?side2 ?side3 ?side4 A11.out).mono ?_); (case side1 => exact Qsc (Kd.R_reads' HO557.out).2.2); (case side2 => exact (Kd.R_reads' HO557.out).2.1); (case side3 => exact Qsc (Kd.R_reads' HO571.out).2.2); (case side4 => exact (Kd.R_reads' HO571.out).2.1); rintro e w' ⟨rfl, ⟨nd, rfl⟩⟩; refine ⟨_, rfl, ?_⟩) | (go_at_call 50; (with_reducible refine (lampblackref07_IsOuter.calls k _ _ l0 _ _ l1 t573 _ ?side1 ?side2 ?side3 ?side4 A14.out).mono ?_); (case side1 => repeat (first | exact (Kd.C_below HR0.out (Qaw)) | (with_reducible refine Kd.C_alloc ?_ _) | (with_reducible refine Kd.C_drewN ?_ _) | (with_reducible refine Kd.C_drew ?_))); (case side2 => exact HC0.out); (case side3 => repeat (first | exact (Kd.C_below HR1.out (Qaw)) | (with_reducible refine Kd.C_alloc ?_ _) | (with_reducible refine Kd.C_drewN ?_ _) | (with_reducible refine Kd.C_drew ?_))); (case side4 => exact HC1.out); rintro e w' ⟨rfl, ⟨nd, rfl⟩⟩) | (go_at_call 17; (with_reducible refine (lampblacklaw07_awake.calls (hGL := (Qlg)) k  t574 _ A17.out).mono ?_); rintro e w29 ⟨rfl, hb⟩; have n0_ := Aside0.mk (Kd.R_below (Qro HO553.out) hb); have n1_ := Aside0.mk (Kd.R_below (Qro HO557.out) hb); have n2_ := Aside0.mk (Kd.R_below (Qro HO560.out) hb); have n3_ := Aside0.mk (Kd.R_below (Qro HO563.out) hb); have n4_ := Aside0.mk (Kd.R_below (Qro HO571.out) hb); have n5_ := Aside0.mk (below_step (Qaw) hb); clear HO553; clear HO557; clear HO560; clear HO563; clear HO571; clear HB; have HO553 := n0_; have HO557 := n1_; have HO560 := n2_; have HO563 := n3_; have HO571 := n4_; have HB := n5_; clear n0_ n1_ n2_ n3_ n4_ n5_; (try clear hb); (try clear hb2); (try clear hk); (try clear hi)))
      go_ret
      exact ⟨by first | rfl | (simp [errW_none, errW_some] <;> rfl) | (simp [*, errW_none, errW_some] <;> rfl), by repeat (first | (with_reducible first | exact HB.out | apply below_alloc | apply pw_below_drewN | apply below_drew1) | exact HB.out)⟩
     ·rw [if_neg c16] at H
      have c16b0 : (t565 == 0) = false := beq_eq_false_iff_ne.mpr c16
      have c16b1 : (t565 != 0) = true := bne_iff_ne.mpr c16
      obtain rfl := Option.some.inj H
      go_enter Tryd.func9, Tryd.ntmps9
      go_wp2_with (first | ((with_reducible refine gate_callee (f := 22) rfl ?_); refine goesL_ (some 13) rfl rfl Tryd.func22 (by kernel_rfl) rfl #[.slice A0 l0.length c0] rfl (Qls) ?_; (with_reducible refine (lampblacklaw07_Few.calls _ _ l0 t551 _ ?side1 ?side2 A3.out).mono ?_); (case side1 => exact Qsc HR0.out); (case side2 => exact HC0.out); rintro e w30 ⟨v552, rfl, ho0, hb⟩; refine ⟨_, rfl, ?_⟩; have n0_ := Aside0.mk (Kd.R_lower ho0 (below_size (Qaw))); have n1_ := Aside0.mk (below_step (Qaw) hb); clear HB; have HO553 := n0_; have HB := n1_; clear n0_ n1_; (try clear hb); (try clear hb2); (try clear hk); (try clear hi); (try clear ho0); obtain ⟨Ao31, co31, eo31⟩ := Kd.R_slice HO553.out; subst eo31) | ((with_reducible refine gate_callee (f := 47) rfl ?_); refine goesL_ (some 14) rfl rfl Tryd.func47 (by kernel_rfl) rfl #[.slice Ao31 t551.length co31] rfl (Qls) ?_; (with_reducible refine (minor_Outer.calls (hGL := (Qlg)) _ _ t551 t554 t555 _ ?side1 ?side2 A4.out).mono ?_); (case side1 => exact Qsc (Kd.R_reads' HO553.out).2.2); (case side2 => exact (Kd.R_reads' HO553.out).2.1); rintro e w32 ⟨v556, rfl, ho0, hb⟩; refine ⟨_, rfl, ?_⟩; have n0_ := Aside0.mk (Kd.R_elder' (Qro HO553.out) (Kd.R_base ho0) hb); have n1_ := Aside0.mk (Kd.R_lower (Kd.R_new' ho0 (Kd.R_lt (Qro HO553.out))) (below_size (Qaw))); have n2_ := Aside0.mk (below_step (Qaw) hb); clear HO553; clear HB; have HO553 := n0_; have HO557 := n1_; have HB := n2_; clear n0_ n1_ n2_; (try clear hb); (try clear hb2); (try clear hk); (try clear hi); (try clear ho0)) | ((with_reducible refine gate_callee (f := 22) rfl ?_); refine goesL_ (some 19) rfl rfl Tryd.func22 (by kernel_rfl) rfl #[.slice A0 l0.length c0] rfl (Qls) ?_; (with_reducible refine (lampblacklaw07_Few.calls _ _ l0 t558 _ ?side1 ?side2 A5.out).mono ?_); (case side1 => exact Qsc (Kd.C_below HR0.out HB.out)); (case side2 => exact HC0.out); rintro e w33 ⟨v559, rfl, ho0, hb⟩; refine ⟨_, rfl, ?_⟩; have n0_ := Aside0.mk (Kd.R_elder' (Qro HO553.out) (Kd.R_base ho0) hb); have n1_ := Aside0.mk (Kd.R_elder' (Qro HO557.out) (Kd.R_base ho0) hb); have n2_ := Aside0.mk (Kd.R_lower (Kd.R_new' (Kd.R_new' ho0 (Kd.R_lt (Qro HO553.out))) (Kd.R_lt (Qro HO557.out))) (below_size (Qaw))); have n3_ := Aside0.mk (below_step (Qaw) hb); clear HO553; clear HO557; clear HB; have HO553 := n0_; have HO557 := n1_; have HO560 := n2_; have HB := n3_; clear n0_ n1_ n2_ n3_; (try clear hb); (try clear hb2); (try clear hk); (try clear hi); (try clear ho0)) | ((with_reducible refine gate_callee (f := 24) rfl ?_); refine goesL_ (some 21) rfl rfl Tryd.func24 (by kernel_rfl) rfl #[.slice A1 l1.length c1] rfl (Qls) ?_; (with_reducible refine (lampblacklaw07_list.calls _ _ l1 t561 _ ?side1 ?side2 A6.out).mono ?_); (case side1 => exact Qsc (Kd.C_below HR1.out HB.out)); (case side2 => exact HC1.out); rintro e w34 ⟨v562, rfl, ho0, hb⟩; refine ⟨_, rfl, ?_⟩; have n0_ := Aside0.mk (Kd.R_elder' (Qro HO553.out) (Kd.R_base ho0) hb); have n1_ := Aside0.mk (Kd.R_elder' (Qro HO557.out) (Kd.R_base ho0) hb); have n2_ := Aside0.mk (Kd.R_elder' (Qro HO560.out) (Kd.R_base ho0) hb); have n3_ := Aside0.mk (Kd.R_lower (Kd.R_new' (Kd.R_new' (Kd.R_new' ho0 (Kd.R_lt (Qro HO553.out))) (Kd.R_lt (Qro HO557.out))) (Kd.R_lt (Qro HO560.out))) (below_size (Qaw))); have n4_ := Aside0.mk (below_step (Qaw) hb); clear HO553; clear HO557; clear HO560; clear HB; have HO553 := n0_; have HO557 := n1_; have HO560 := n2_; have HO563 := n3_; have HB := n4_; clear n0_ n1_ n2_ n3_ n4_; (try clear hb); (try clear hb2); (try clear hk); (try clear hi); (try clear ho0); obtain ⟨Ao35, co35, eo35⟩ := Kd.R_slice HO560.out; subst eo35; obtain ⟨Ao36, co36, eo36⟩ := Kd.R_slice HO563.out; subst eo36) | ((with_reducible refine gate_callee (f := 48) rfl ?_); refine goesL_ (some 22) rfl rfl Tryd.func48 (by kernel_rfl) rfl #[.slice Ao35 t558.length co35, .slice Ao36 t561.length co36] rfl (Qls) ?_; (with_reducible refine (minor_CheckOuter.calls k _ _ t558 _ _ t561 t564 t565 _ ?side1 ?side2 ?side3 ?side4 A7.out).mono ?_); (case side1 => exact Qsc (Kd.R_reads' HO560.out).2.2); (case side2 => exact (Kd.R_reads' HO560.out).2.1); (case side3 => exact Qsc (Kd.R_reads' HO563.out).2.2); (case side4 => exact (Kd.R_reads' HO563.out).2.1); rintro e w37 ⟨rfl, hb⟩; refine ⟨_, rfl, ?_⟩; have n0_ := Aside0.mk (Kd.R_below (Qro HO553.out) hb); have n1_ := Aside0.mk (Kd.R_below (Qro HO557.out) hb); have n2_ := Aside0.mk (Kd.R_below (Qro HO560.out) hb); have n3_ := Aside0.mk (Kd.R_below (Qro HO563.out) hb); have n4_ := Aside0.mk (below_step (Qaw) hb); clear HO553; clear HO557; clear HO560; clear HO563; clear HB; have HO553 := n0_; have HO557 := n1_; have HO560 := n2_; have HO563 := n3_; have HB := n4_; clear n0_ n1_ n2_ n3_ n4_; (try clear hb); (try clear hb2); (try clear hk); (try clear hi)) | ((with_reducible refine gate_callee (f := 16) rfl ?_); refine goesL_ (some 26) rfl rfl Tryd.func16 (by kernel_rfl) rfl #[.slice A0 l0.length c0] rfl (Qls) ?_; (with_reducible refine (lampblackref07_Valid.calls k _ _ l0 true _ ?side1 ?side2 A8.out).mono ?_); (case side1 => exact Qsc (Kd.C_below HR0.out HB.out)); (case side2 => exact HC0.out); rintro e w' ⟨rfl, ⟨nd, rfl⟩⟩; refine ⟨_, rfl, ?_⟩) | ((with_reducible refine gate_callee (f := 49) rfl ?_); refine goesL_ (some 48) rfl rfl Tryd.func49 (by kernel_rfl) rfl #[.slice A0 l0.length c0] rfl (Qls) ?_; (with_reducible refine (lampblackref07_Outer.calls _ _ l0 t568 t569 _ ?side1 ?side2 A10.out).mono ?_); (case side1 => repeat (first | exact (Kd.C_below HR0.out (Qaw)) | (with_reducible refine Kd.C_alloc ?_ _) | (with_reducible refine Kd.C_drewN ?_ _) | (with_reducible refine Kd.C_drew ?_))); (case side2 => exact HC0.out); rintro e w38 ⟨v570, rfl, ho0, hb⟩; refine ⟨_, rfl, ?_⟩; have n0_ := Aside0.mk (Kd.R_elder' (Qro HO553.out) (Kd.R_base ho0) hb); have n1_ := Aside0.mk (Kd.R_elder' (Qro HO557.out) (Kd.R_base ho0) hb); have n2_ := Aside0.mk (Kd.R_elder' (Qro HO560.out) (Kd.R_base ho0) hb); have n3_ := Aside0.mk (Kd.R_elder' (Qro HO563.out) (Kd.R_base ho0) hb); have n4_ := Aside0.mk (Kd.R_lower (Kd.R_new' (Kd.R_new' (Kd.R_new' (Kd.R_new' ho0 (Kd.R_lt (Qro HO553.out))) (Kd.R_lt (Qro HO557.out))) (Kd.R_lt (Qro HO560.out))) (Kd.R_lt (Qro HO563.out))) (below_size (Qaw))); have n5_ := Aside0.mk (below_step (Qaw) hb); clear HO553; clear HO557; clear HO560; clear HO563; clear HB; have HO553 := n0_; have HO557 := n1_; have HO560 := n2_; have HO563 := n3_; have HO571 := n4_; have HB := n5_; clear n0_ n1_ n2_ n3_ n4_ n5_; (try clear hb); (try clear hb2); (try clear hk); (try clear hi); (try clear ho0); obtain ⟨Ao39, co39, eo39⟩ := Kd.R_slice HO557.out; subst eo39; obtain ⟨Ao40, co40, eo40⟩ := Kd.R_slice HO571.out; subst eo40) | ((with_reducible refine gate_callee (f := 27) rfl ?_); refine goesL_ (some 53) rfl rfl Tryd.func27 (by kernel_rfl) rfl #[.slice Ao39 t554.length co39, .slice Ao40 t568.length co40] rfl (Qls) ?_; (with_reducible refine (slices_Equal_int_int.calls k _ _ t554 _ _ t568 true _ ?side1 ?side2 ?side3 ?side4 A11.out).mono ?_); (case side1 => exact Qsc (Kd.R_reads' HO557.out).2.2); (case side2 => exact (Kd.R_reads' HO557.out).2.1); (case side3 => exact Qsc (Kd.R_reads' HO571.out).2.2); (case side4 => exact (Kd.R_reads' HO571.out).2.1); rintro e w' ⟨rfl, ⟨nd, rfl⟩⟩; refine ⟨_, rfl, ?_⟩) | (go_at_call 50; (with_reducible refine (lampblackref07_IsOuter.calls k _ _ l0 _ _ l1 t573 _ ?side1 ?side2 ?side3 ?side4 A14.out).mono ?_); (case side1 => repeat (first | exact (Kd.C_below HR0.out (Qaw)) | (with_reducible refine Kd.C_alloc ?_ _) | (with_reducible refine Kd.C_drewN ?_ _) | (with_reducible refine Kd.C_drew ?_))); (case side2 => exact HC0.out); (case side3 => repeat (first | exact (Kd.C_below HR1.out (Qaw)) | (with_reducible refine Kd.C_alloc ?_ _) | (with_reducible refine Kd.C_drewN ?_ _) | (with_reducible refine Kd.C_drew ?_))); (case side4 => exact HC1.out); rintro e w' ⟨rfl, ⟨nd, rfl⟩⟩))
      go_ret
      exact ⟨by first | rfl | (simp [errW_none, errW_some] <;> rfl) | (simp [*, errW_none, errW_some] <;> rfl), by repeat (first | (with_reducible first | exact HB.out | apply below_alloc | apply pw_below_drewN | apply below_drew1) | exact HB.out)⟩
    ·rw [if_neg c15] at H
     have c15b0 : (t564 == t573) = false := by simpa using c15
     (try (have c15b1 : decide (t564 = t573) = false := by simpa using c15))
     (try (have c15b2 : (t564 == t573) = false := by simpa using c15))
     (try (have c15b3 : ¬ (t564 = t573) := by simpa using c15))
     clear c15
     obtain rfl := Option.some.inj H
     go_enter Tryd.func9, Tryd.ntmps9
     go_wp2_with (first | ((with_reducible refine gate_callee (f := 22) rfl ?_); refine goesL_ (some 13) rfl rfl Tryd.func22 (by kernel_rfl) rfl #[.slice A0 l0.length c0] rfl (Qls) ?_; (with_reducible refine (lampblacklaw07_Few.calls _ _ l0 t551 _ ?side1 ?side2 A3.out).mono ?_); (case side1 => exact Qsc HR0.out); (case side2 => exact HC0.out); rintro e w41 ⟨v552, rfl, ho0, hb⟩; refine ⟨_, rfl, ?_⟩; have n0_ := Aside0.mk (Kd.R_lower ho0 (below_size (Qaw))); have n1_ := Aside0.mk (below_step (Qaw) hb); clear HB; have HO553 := n0_; have HB := n1_; clear n0_ n1_; (try clear hb); (try clear hb2); (try clear hk); (try clear hi); (try clear ho0); obtain ⟨Ao42, co42, eo42⟩ := Kd.R_slice HO553.out; subst eo42) | ((with_reducible refine gate_callee (f := 47) rfl ?_); refine goesL_ (some 14) rfl rfl Tryd.func47 (by kernel_rfl) rfl #[.slice Ao42 t551.length co42] rfl (Qls) ?_; (with_reducible refine (minor_Outer.calls (hGL := (Qlg)) _ _ t551 t554 t555 _ ?side1 ?side2 A4.out).mono ?_); (case side1 => exact Qsc (Kd.R_reads' HO553.out).2.2); (case side2 => exact (Kd.R_reads' HO553.out).2.1); rintro e w43 ⟨v556, rfl, ho0, hb⟩; refine ⟨_, rfl, ?_⟩; have n0_ := Aside0.mk (Kd.R_elder' (Qro HO553.out) (Kd.R_base ho0) hb); have n1_ := Aside0.mk (Kd.R_lower (Kd.R_new' ho0 (Kd.R_lt (Qro HO553.out))) (below_size (Qaw))); have n2_ := Aside0.mk (below_step (Qaw) hb); clear HO553; clear HB; have HO553 := n0_; have HO557 := n1_; have HB := n2_; clear n0_ n1_ n2_; (try clear hb); (try clear hb2); (try clear hk); (try clear hi); (try clear ho0)) | ((with_reducible refine gate_callee (f := 22) rfl ?_); refine goesL_ (some 19) rfl rfl Tryd.func22 (by kernel_rfl) rfl #[.slice A0 l0.length c0] rfl (Qls) ?_; (with_reducible refine (lampblacklaw07_Few.calls _ _ l0 t558 _ ?side1 ?side2 A5.out).mono ?_); (case side1 => exact Qsc (Kd.C_below HR0.out HB.out)); (case side2 => exact HC0.out); rintro e w44 ⟨v559, rfl, ho0, hb⟩; refine ⟨_, rfl, ?_⟩; have n0_ := Aside0.mk (Kd.R_elder' (Qro HO553.out) (Kd.R_base ho0) hb); have n1_ := Aside0.mk (Kd.R_elder' (Qro HO557.out) (Kd.R_base ho0) hb); have n2_ := Aside0.mk (Kd.R_lower (Kd.R_new' (Kd.R_new' ho0 (Kd.R_lt (Qro HO553.out))) (Kd.R_lt (Qro HO557.out))) (below_size (Qaw))); have n3_ := Aside0.mk (below_step (Qaw) hb); clear HO553; clear HO557; clear HB; have HO553 := n0_; have HO557 := n1_; have HO560 := n2_; have HB := n3_; clear n0_ n1_ n2_ n3_; (try clear hb); (try clear hb2); (try clear hk); (try clear hi); (try clear ho0)) | ((with_reducible refine gate_callee (f := 24) rfl ?_); refine goesL_ (some 21) rfl rfl Tryd.func24 (by kernel_rfl) rfl #[.slice A1 l1.length c1] rfl (Qls) ?_; (with_reducible refine (lampblacklaw07_list.calls _ _ l1 t561 _ ?side1 ?side2 A6.out).mono ?_); (case side1 => exact Qsc (Kd.C_below HR1.out HB.out)); (case side2 => exact HC1.out); rintro e w45 ⟨v562, rfl, ho0, hb⟩; refine ⟨_, rfl, ?_⟩; have n0_ := Aside0.mk (Kd.R_elder' (Qro HO553.out) (Kd.R_base ho0) hb); have n1_ := Aside0.mk (Kd.R_elder' (Qro HO557.out) (Kd.R_base ho0) hb); have n2_ := Aside0.mk (Kd.R_elder' (Qro HO560.out) (Kd.R_base ho0) hb); have n3_ := Aside0.mk (Kd.R_lower (Kd.R_new' (Kd.R_new' (Kd.R_new' ho0 (Kd.R_lt (Qro HO553.out))) (Kd.R_lt (Qro HO557.out))) (Kd.R_lt (Qro HO560.out))) (below_size (Qaw))); have n4_ := Aside0.mk (below_step (Qaw) hb); clear HO553; clear HO557; clear HO560; clear HB; have HO553 := n0_; have HO557 := n1_; have HO560 := n2_; have HO563 := n3_; have HB := n4_; clear n0_ n1_ n2_ n3_ n4_; (try clear hb); (try clear hb2); (try clear hk); (try clear hi); (try clear ho0); obtain ⟨Ao46, co46, eo46⟩ := Kd.R_slice HO560.out; subst eo46; obtain ⟨Ao47, co47, eo47⟩ := Kd.R_slice HO563.out; subst eo47) | ((with_reducible refine gate_callee (f := 48) rfl ?_); refine goesL_ (some 22) rfl rfl Tryd.func48 (by kernel_rfl) rfl #[.slice Ao46 t558.length co46, .slice Ao47 t561.length co47] rfl (Qls) ?_; (with_reducible refine (minor_CheckOuter.calls k _ _ t558 _ _ t561 t564 t565 _ ?side1 ?side2 ?side3 ?side4 A7.out).mono ?_); (case side1 => exact Qsc (Kd.R_reads' HO560.out).2.2); (case side2 => exact (Kd.R_reads' HO560.out).2.1); (case side3 => exact Qsc (Kd.R_reads' HO563.out).2.2); (case side4 => exact (Kd.R_reads' HO563.out).2.1); rintro e w48 ⟨rfl, hb⟩; refine ⟨_, rfl, ?_⟩; have n0_ := Aside0.mk (Kd.R_below (Qro HO553.out) hb); have n1_ := Aside0.mk (Kd.R_below (Qro HO557.out) hb); have n2_ := Aside0.mk (Kd.R_below (Qro HO560.out) hb); have n3_ := Aside0.mk (Kd.R_below (Qro HO563.out) hb); have n4_ := Aside0.mk (below_step (Qaw) hb); clear HO553; clear HO557; clear HO560; clear HO563; clear HB; have HO553 := n0_; have HO557 := n1_; have HO560 := n2_; have HO563 := n3_; have HB := n4_; clear n0_ n1_ n2_ n3_ n4_; (try clear hb); (try clear hb2); (try clear hk); (try clear hi)) | ((with_reducible refine gate_callee (f := 16) rfl ?_); refine goesL_ (some 26) rfl rfl Tryd.func16 (by kernel_rfl) rfl #[.slice A0 l0.length c0] rfl (Qls) ?_; (with_reducible refine (lampblackref07_Valid.calls k _ _ l0 true _ ?side1 ?side2 A8.out).mono ?_); (case side1 => exact Qsc (Kd.C_below HR0.out HB.out)); (case side2 => exact HC0.out); rintro e w' ⟨rfl, ⟨nd, rfl⟩⟩; refine ⟨_, rfl, ?_⟩) | ((with_reducible refine gate_callee (f := 49) rfl ?_); refine goesL_ (some 48) rfl rfl Tryd.func49 (by kernel_rfl) rfl #[.slice A0 l0.length c0] rfl (Qls) ?_; (with_reducible refine (lampblackref07_Outer.calls _ _ l0 t568 t569 _ ?side1 ?side2 A10.out).mono ?_); (case side1 => repeat (first | exact (Kd.C_below HR0.out (Qaw)) | (with_reducible refine Kd.C_alloc ?_ _) | (with_reducible refine Kd.C_drewN ?_ _) | (with_reducible refine Kd.C_drew ?_))); (case side2 => exact HC0.out); rintro e w49 ⟨v570, rfl, ho0, hb⟩; refine ⟨_, rfl, ?_⟩; have n0_ := Aside0.mk (Kd.R_elder' (Qro HO553.out) (Kd.R_base ho0) hb); have n1_ := Aside0.mk (Kd.R_elder' (Qro HO557.out) (Kd.R_base ho0) hb); have n2_ := Aside0.mk (Kd.R_elder' (Qro HO560.out) (Kd.R_base ho0) hb); have n3_ := Aside0.mk (Kd.R_elder' (Qro HO563.out) (Kd.R_base ho0) hb); have n4_ := Aside0.mk (Kd.R_lower (Kd.R_new' (Kd.R_new' (Kd.R_new' (Kd.R_new' ho0 (Kd.R_lt (Qro HO553.out))) (Kd.R_lt (Qro HO557.out))) (Kd.R_lt (Qro HO560.out))) (Kd.R_lt (Qro HO563.out))) (below_size (Qaw))); have n5_ := Aside0.mk (below_step (Qaw) hb); clear HO553; clear HO557; clear HO560; clear HO563; clear HB; have HO553 := n0_; have HO557 := n1_; have HO560 := n2_; have HO563 := n3_; have HO571 := n4_; have HB := n5_; clear n0_ n1_ n2_ n3_ n4_ n5_; (try clear hb); (try clear hb2); (try clear hk); (try clear hi); (try clear ho0); obtain ⟨Ao50, co50, eo50⟩ := Kd.R_slice HO557.out; subst eo50; obtain ⟨Ao51, co51, eo51⟩ := Kd.R_slice HO571.out; subst eo51) | ((with_reducible refine gate_callee (f := 27) rfl ?_); refine goesL_ (some 53) rfl rfl Tryd.func27 (by kernel_rfl) rfl #[.slice Ao50 t554.length co50, .slice Ao51 t568.length co51] rfl (Qls) ?_; (with_reducible refine (slices_Equal_int_int.calls k _ _ t554 _ _ t568 true _ ?side1 ?side2 ?side3 ?side4 A11.out).mono ?_); (case side1 => exact Qsc (Kd.R_reads' HO557.out).2.2); (case side2 => exact (Kd.R_reads' HO557.out).2.1); (case side3 => exact Qsc (Kd.R_reads' HO571.out).2.2); (case side4 => exact (Kd.R_reads' HO571.out).2.1); rintro e w' ⟨rfl, ⟨nd, rfl⟩⟩; refine ⟨_, rfl, ?_⟩) | (go_at_call 50; (with_reducible refine (lampblackref07_IsOuter.calls k _ _ l0 _ _ l1 t573 _ ?side1 ?side2 ?side3 ?side4 A14.out).mono ?_); (case side1 => repeat (first | exact (Kd.C_below HR0.out (Qaw)) | (with_reducible refine Kd.C_alloc ?_ _) | (with_reducible refine Kd.C_drewN ?_ _) | (with_reducible refine Kd.C_drew ?_))); (case side2 => exact HC0.out); (case side3 => repeat (first | exact (Kd.C_below HR1.out (Qaw)) | (with_reducible refine Kd.C_alloc ?_ _) | (with_reducible refine Kd.C_drewN ?_ _) | (with_reducible refine Kd.C_drew ?_))); (case side4 => exact HC1.out); rintro e w' ⟨rfl, ⟨nd, rfl⟩⟩))
     go_ret
     exact ⟨by first | rfl | (simp [errW_none, errW_some] <;> rfl) | (simp [*, errW_none, errW_some] <;> rfl), by repeat (first | (with_reducible first | exact HB.out | apply below_alloc | apply pw_below_drewN | apply below_drew1) | exact HB.out)⟩
   ·rw [if_neg c13] at H
    have c13b0 : (t555 == t569) = false := beq_eq_false_iff_ne.mpr c13
    have c13b1 : (t555 != t569) = true := bne_iff_ne.mpr c13
    obtain rfl := Option.some.inj H
    go_enter Tryd.func9, Tryd.ntmps9
    go_wp2_with (first | ((with_reducible refine gate_callee (f := 22) rfl ?_); refine goesL_ (some 13) rfl rfl Tryd.func22 (by kernel_rfl) rfl #[.slice A0 l0.length c0] rfl (Qls) ?_; (with_reducible refine (lampblacklaw07_Few.calls _ _ l0 t551 _ ?side1 ?side2 A3.out).mono ?_); (case side1 => exact Qsc HR0.out); (case side2 => exact HC0.out); rintro e w52 ⟨v552, rfl, ho0, hb⟩; refine ⟨_, rfl, ?_⟩; have n0_ := Aside0.mk (Kd.R_lower ho0 (below_size (Qaw))); have n1_ := Aside0.mk (below_step (Qaw) hb); clear HB; have HO553 := n0_; have HB := n1_; clear n0_ n1_; (try clear hb); (try clear hb2); (try clear hk); (try clear hi); (try clear ho0); obtain ⟨Ao53, co53, eo53⟩ := Kd.R_slice HO553.out; subst eo53) | ((with_reducible refine gate_callee (f := 47) rfl ?_); refine goesL_ (some 14) rfl rfl Tryd.func47 (by kernel_rfl) rfl #[.slice Ao53 t551.length co53] rfl (Qls) ?_; (with_reducible refine (minor_Outer.calls (hGL := (Qlg)) _ _ t551 t554 t555 _ ?side1 ?side2 A4.out).mono ?_); (case side1 => exact Qsc (Kd.R_reads' HO553.out).2.2); (case side2 => exact (Kd.R_reads' HO553.out).2.1); rintro e w54 ⟨v556, rfl, ho0, hb⟩; refine ⟨_, rfl, ?_⟩; have n0_ := Aside0.mk (Kd.R_elder' (Qro HO553.out) (Kd.R_base ho0) hb); have n1_ := Aside0.mk (Kd.R_lower (Kd.R_new' ho0 (Kd.R_lt (Qro HO553.out))) (below_size (Qaw))); have n2_ := Aside0.mk (below_step (Qaw) hb); clear HO553; clear HB; have HO553 := n0_; have HO557 := n1_; have HB := n2_; clear n0_ n1_ n2_; (try clear hb); (try clear hb2); (try clear hk); (try clear hi); (try clear ho0)) | ((with_reducible refine gate_callee (f := 22) rfl ?_); refine goesL_ (some 19) rfl rfl Tryd.func22 (by kernel_rfl) rfl #[.slice A0 l0.length c0] rfl (Qls) ?_; (with_reducible refine (lampblacklaw07_Few.calls _ _ l0 t558 _ ?side1 ?side2 A5.out).mono ?_); (case side1 => exact Qsc (Kd.C_below HR0.out HB.out)); (case side2 => exact HC0.out); rintro e w55 ⟨v559, rfl, ho0, hb⟩; refine ⟨_, rfl, ?_⟩; have n0_ := Aside0.mk (Kd.R_elder' (Qro HO553.out) (Kd.R_base ho0) hb); have n1_ := Aside0.mk (Kd.R_elder' (Qro HO557.out) (Kd.R_base ho0) hb); have n2_ := Aside0.mk (Kd.R_lower (Kd.R_new' (Kd.R_new' ho0 (Kd.R_lt (Qro HO553.out))) (Kd.R_lt (Qro HO557.out))) (below_size (Qaw))); have n3_ := Aside0.mk (below_step (Qaw) hb); clear HO553; clear HO557; clear HB; have HO553 := n0_; have HO557 := n1_; have HO560 := n2_; have HB := n3_; clear n0_ n1_ n2_ n3_; (try clear hb); (try clear hb2); (try clear hk); (try clear hi); (try clear ho0)) | ((with_reducible refine gate_callee (f := 24) rfl ?_); refine goesL_ (some 21) rfl rfl Tryd.func24 (by kernel_rfl) rfl #[.slice A1 l1.length c1] rfl (Qls) ?_; (with_reducible refine (lampblacklaw07_list.calls _ _ l1 t561 _ ?side1 ?side2 A6.out).mono ?_); (case side1 => exact Qsc (Kd.C_below HR1.out HB.out)); (case side2 => exact HC1.out); rintro e w56 ⟨v562, rfl, ho0, hb⟩; refine ⟨_, rfl, ?_⟩; have n0_ := Aside0.mk (Kd.R_elder' (Qro HO553.out) (Kd.R_base ho0) hb); have n1_ := Aside0.mk (Kd.R_elder' (Qro HO557.out) (Kd.R_base ho0) hb); have n2_ := Aside0.mk (Kd.R_elder' (Qro HO560.out) (Kd.R_base ho0) hb); have n3_ := Aside0.mk (Kd.R_lower (Kd.R_new' (Kd.R_new' (Kd.R_new' ho0 (Kd.R_lt (Qro HO553.out))) (Kd.R_lt (Qro HO557.out))) (Kd.R_lt (Qro HO560.out))) (below_size (Qaw))); have n4_ := Aside0.mk (below_step (Qaw) hb); clear HO553; clear HO557; clear HO560; clear HB; have HO553 := n0_; have HO557 := n1_; have HO560 := n2_; have HO563 := n3_; have HB := n4_; clear n0_ n1_ n2_ n3_ n4_; (try clear hb); (try clear hb2); (try clear hk); (try clear hi); (try clear ho0); obtain ⟨Ao57, co57, eo57⟩ := Kd.R_slice HO560.out; subst eo57; obtain ⟨Ao58, co58, eo58⟩ := Kd.R_slice HO563.out; subst eo58) | ((with_reducible refine gate_callee (f := 48) rfl ?_); refine goesL_ (some 22) rfl rfl Tryd.func48 (by kernel_rfl) rfl #[.slice Ao57 t558.length co57, .slice Ao58 t561.length co58] rfl (Qls) ?_; (with_reducible refine (minor_CheckOuter.calls k _ _ t558 _ _ t561 t564 t565 _ ?side1 ?side2 ?side3 ?side4 A7.out).mono ?_); (case side1 => exact Qsc (Kd.R_reads' HO560.out).2.2); (case side2 => exact (Kd.R_reads' HO560.out).2.1); (case side3 => exact Qsc (Kd.R_reads' HO563.out).2.2); (case side4 => exact (Kd.R_reads' HO563.out).2.1); rintro e w59 ⟨rfl, hb⟩; refine ⟨_, rfl, ?_⟩; have n0_ := Aside0.mk (Kd.R_below (Qro HO553.out) hb); have n1_ := Aside0.mk (Kd.R_below (Qro HO557.out) hb); have n2_ := Aside0.mk (Kd.R_below (Qro HO560.out) hb); have n3_ := Aside0.mk (Kd.R_below (Qro HO563.out) hb); have n4_ := Aside0.mk (below_step (Qaw) hb); clear HO553; clear HO557; clear HO560; clear HO563; clear HB; have HO553 := n0_; have HO557 := n1_; have HO560 := n2_; have HO563 := n3_; have HB := n4_; clear n0_ n1_ n2_ n3_ n4_; (try clear hb); (try clear hb2); (try clear hk); (try clear hi)) | ((with_reducible refine gate_callee (f := 16) rfl ?_); refine goesL_ (some 26) rfl rfl Tryd.func16 (by kernel_rfl) rfl #[.slice A0 l0.length c0] rfl (Qls) ?_; (with_reducible refine (lampblackref07_Valid.calls k _ _ l0 true _ ?side1 ?side2 A8.out).mono ?_); (case side1 => exact Qsc (Kd.C_below HR0.out HB.out)); (case side2 => exact HC0.out); rintro e w' ⟨rfl, ⟨nd, rfl⟩⟩; refine ⟨_, rfl, ?_⟩) | ((with_reducible refine gate_callee (f := 49) rfl ?_); refine goesL_ (some 48) rfl rfl Tryd.func49 (by kernel_rfl) rfl #[.slice A0 l0.length c0] rfl (Qls) ?_; (with_reducible refine (lampblackref07_Outer.calls _ _ l0 t568 t569 _ ?side1 ?side2 A10.out).mono ?_); (case side1 => repeat (first | exact (Kd.C_below HR0.out (Qaw)) | (with_reducible refine Kd.C_alloc ?_ _) | (with_reducible refine Kd.C_drewN ?_ _) | (with_reducible refine Kd.C_drew ?_))); (case side2 => exact HC0.out); rintro e w60 ⟨v570, rfl, ho0, hb⟩; refine ⟨_, rfl, ?_⟩; have n0_ := Aside0.mk (Kd.R_elder' (Qro HO553.out) (Kd.R_base ho0) hb); have n1_ := Aside0.mk (Kd.R_elder' (Qro HO557.out) (Kd.R_base ho0) hb); have n2_ := Aside0.mk (Kd.R_elder' (Qro HO560.out) (Kd.R_base ho0) hb); have n3_ := Aside0.mk (Kd.R_elder' (Qro HO563.out) (Kd.R_base ho0) hb); have n4_ := Aside0.mk (Kd.R_lower (Kd.R_new' (Kd.R_new' (Kd.R_new' (Kd.R_new' ho0 (Kd.R_lt (Qro HO553.out))) (Kd.R_lt (Qro HO557.out))) (Kd.R_lt (Qro HO560.out))) (Kd.R_lt (Qro HO563.out))) (below_size (Qaw))); have n5_ := Aside0.mk (below_step (Qaw) hb); clear HO553; clear HO557; clear HO560; clear HO563; clear HB; have HO553 := n0_; have HO557 := n1_; have HO560 := n2_; have HO563 := n3_; have HO571 := n4_; have HB := n5_; clear n0_ n1_ n2_ n3_ n4_ n5_; (try clear hb); (try clear hb2); (try clear hk); (try clear hi); (try clear ho0); obtain ⟨Ao61, co61, eo61⟩ := Kd.R_slice HO557.out; subst eo61; obtain ⟨Ao62, co62, eo62⟩ := Kd.R_slice HO571.out; subst eo62) | ((with_reducible refine gate_callee (f := 27) rfl ?_); refine goesL_ (some 53) rfl rfl Tryd.func27 (by kernel_rfl) rfl #[.slice Ao61 t554.length co61, .slice Ao62 t568.length co62] rfl (Qls) ?_; (with_reducible refine (slices_Equal_int_int.calls k _ _ t554 _ _ t568 true _ ?side1 ?side2 ?side3 ?side4 A11.out).mono ?_); (case side1 => exact Qsc (Kd.R_reads' HO557.out).2.2); (case side2 => exact (Kd.R_reads' HO557.out).2.1); (case side3 => exact Qsc (Kd.R_reads' HO571.out).2.2); (case side4 => exact (Kd.R_reads' HO571.out).2.1); rintro e w' ⟨rfl, ⟨nd, rfl⟩⟩; refine ⟨_, rfl, ?_⟩))
    go_ret
    exact ⟨by first | rfl | (simp [errW_none, errW_some] <;> rfl) | (simp [*, errW_none, errW_some] <;> rfl), by repeat (first | (with_reducible first | exact HB.out | apply below_alloc | apply pw_below_drewN | apply below_drew1) | exact HB.out)⟩
  ·replace c12 := Bool.eq_false_iff.mpr c12
   subst c12
   have H1 : (some false) = some r := by rw [if_neg (show ¬ (false = true) by decide)] at H; exact H
   clear H
   have H := H1
   clear H1
   obtain rfl := Option.some.inj H
   go_enter Tryd.func9, Tryd.ntmps9
   go_wp2_with (first | ((with_reducible refine gate_callee (f := 22) rfl ?_); refine goesL_ (some 13) rfl rfl Tryd.func22 (by kernel_rfl) rfl #[.slice A0 l0.length c0] rfl (Qls) ?_; (with_reducible refine (lampblacklaw07_Few.calls _ _ l0 t551 _ ?side1 ?side2 A3.out).mono ?_); (case side1 => exact Qsc HR0.out); (case side2 => exact HC0.out); rintro e w63 ⟨v552, rfl, ho0, hb⟩; refine ⟨_, rfl, ?_⟩; have n0_ := Aside0.mk (Kd.R_lower ho0 (below_size (Qaw))); have n1_ := Aside0.mk (below_step (Qaw) hb); clear HB; have HO553 := n0_; have HB := n1_; clear n0_ n1_; (try clear hb); (try clear hb2); (try clear hk); (try clear hi); (try clear ho0); obtain ⟨Ao64, co64, eo64⟩ := Kd.R_slice HO553.out; subst eo64) | ((with_reducible refine gate_callee (f := 47) rfl ?_); refine goesL_ (some 14) rfl rfl Tryd.func47 (by kernel_rfl) rfl #[.slice Ao64 t551.length co64] rfl (Qls) ?_; (with_reducible refine (minor_Outer.calls (hGL := (Qlg)) _ _ t551 t554 t555 _ ?side1 ?side2 A4.out).mono ?_); (case side1 => exact Qsc (Kd.R_reads' HO553.out).2.2); (case side2 => exact (Kd.R_reads' HO553.out).2.1); rintro e w65 ⟨v556, rfl, ho0, hb⟩; refine ⟨_, rfl, ?_⟩; have n0_ := Aside0.mk (Kd.R_elder' (Qro HO553.out) (Kd.R_base ho0) hb); have n1_ := Aside0.mk (Kd.R_lower (Kd.R_new' ho0 (Kd.R_lt (Qro HO553.out))) (below_size (Qaw))); have n2_ := Aside0.mk (below_step (Qaw) hb); clear HO553; clear HB; have HO553 := n0_; have HO557 := n1_; have HB := n2_; clear n0_ n1_ n2_; (try clear hb); (try clear hb2); (try clear hk); (try clear hi); (try clear ho0)) | ((with_reducible refine gate_callee (f := 22) rfl ?_); refine goesL_ (some 19) rfl rfl Tryd.func22 (by kernel_rfl) rfl #[.slice A0 l0.length c0] rfl (Qls) ?_; (with_reducible refine (lampblacklaw07_Few.calls _ _ l0 t558 _ ?side1 ?side2 A5.out).mono ?_); (case side1 => exact Qsc (Kd.C_below HR0.out HB.out)); (case side2 => exact HC0.out); rintro e w66 ⟨v559, rfl, ho0, hb⟩; refine ⟨_, rfl, ?_⟩; have n0_ := Aside0.mk (Kd.R_elder' (Qro HO553.out) (Kd.R_base ho0) hb); have n1_ := Aside0.mk (Kd.R_elder' (Qro HO557.out) (Kd.R_base ho0) hb); have n2_ := Aside0.mk (Kd.R_lower (Kd.R_new' (Kd.R_new' ho0 (Kd.R_lt (Qro HO553.out))) (Kd.R_lt (Qro HO557.out))) (below_size (Qaw))); have n3_ := Aside0.mk (below_step (Qaw) hb); clear HO553; clear HO557; clear HB; have HO553 := n0_; have HO557 := n1_; have HO560 := n2_; have HB := n3_; clear n0_ n1_ n2_ n3_; (try clear hb); (try clear hb2); (try clear hk); (try clear hi); (try clear ho0)) | ((with_reducible refine gate_callee (f := 24) rfl ?_); refine goesL_ (some 21) rfl rfl Tryd.func24 (by kernel_rfl) rfl #[.slice A1 l1.length c1] rfl (Qls) ?_; (with_reducible refine (lampblacklaw07_list.calls _ _ l1 t561 _ ?side1 ?side2 A6.out).mono ?_); (case side1 => exact Qsc (Kd.C_below HR1.out HB.out)); (case side2 => exact HC1.out); rintro e w67 ⟨v562, rfl, ho0, hb⟩; refine ⟨_, rfl, ?_⟩; have n0_ := Aside0.mk (Kd.R_elder' (Qro HO553.out) (Kd.R_base ho0) hb); have n1_ := Aside0.mk (Kd.R_elder' (Qro HO557.out) (Kd.R_base ho0) hb); have n2_ := Aside0.mk (Kd.R_elder' (Qro HO560.out) (Kd.R_base ho0) hb); have n3_ := Aside0.mk (Kd.R_lower (Kd.R_new' (Kd.R_new' (Kd.R_new' ho0 (Kd.R_lt (Qro HO553.out))) (Kd.R_lt (Qro HO557.out))) (Kd.R_lt (Qro HO560.out))) (below_size (Qaw))); have n4_ := Aside0.mk (below_step (Qaw) hb); clear HO553; clear HO557; clear HO560; clear HB; have HO553 := n0_; have HO557 := n1_; have HO560 := n2_; have HO563 := n3_; have HB := n4_; clear n0_ n1_ n2_ n3_ n4_; (try clear hb); (try clear hb2); (try clear hk); (try clear hi); (try clear ho0); obtain ⟨Ao68, co68, eo68⟩ := Kd.R_slice HO560.out; subst eo68; obtain ⟨Ao69, co69, eo69⟩ := Kd.R_slice HO563.out; subst eo69) | ((with_reducible refine gate_callee (f := 48) rfl ?_); refine goesL_ (some 22) rfl rfl Tryd.func48 (by kernel_rfl) rfl #[.slice Ao68 t558.length co68, .slice Ao69 t561.length co69] rfl (Qls) ?_; (with_reducible refine (minor_CheckOuter.calls k _ _ t558 _ _ t561 t564 t565 _ ?side1 ?side2 ?side3 ?side4 A7.out).mono ?_); (case side1 => exact Qsc (Kd.R_reads' HO560.out).2.2); (case side2 => exact (Kd.R_reads' HO560.out).2.1); (case side3 => exact Qsc (Kd.R_reads' HO563.out).2.2); (case side4 => exact (Kd.R_reads' HO563.out).2.1); rintro e w70 ⟨rfl, hb⟩; refine ⟨_, rfl, ?_⟩; have n0_ := Aside0.mk (Kd.R_below (Qro HO553.out) hb); have n1_ := Aside0.mk (Kd.R_below (Qro HO557.out) hb); have n2_ := Aside0.mk (Kd.R_below (Qro HO560.out) hb); have n3_ := Aside0.mk (Kd.R_below (Qro HO563.out) hb); have n4_ := Aside0.mk (below_step (Qaw) hb); clear HO553; clear HO557; clear HO560; clear HO563; clear HB; have HO553 := n0_; have HO557 := n1_; have HO560 := n2_; have HO563 := n3_; have HB := n4_; clear n0_ n1_ n2_ n3_ n4_; (try clear hb); (try clear hb2); (try clear hk); (try clear hi)) | ((with_reducible refine gate_callee (f := 16) rfl ?_); refine goesL_ (some 26) rfl rfl Tryd.func16 (by kernel_rfl) rfl #[.slice A0 l0.length c0] rfl (Qls) ?_; (with_reducible refine (lampblackref07_Valid.calls k _ _ l0 true _ ?side1 ?side2 A8.out).mono ?_); (case side1 => exact Qsc (Kd.C_below HR0.out HB.out)); (case side2 => exact HC0.out); rintro e w' ⟨rfl, ⟨nd, rfl⟩⟩; refine ⟨_, rfl, ?_⟩) | ((with_reducible refine gate_callee (f := 49) rfl ?_); refine goesL_ (some 48) rfl rfl Tryd.func49 (by kernel_rfl) rfl #[.slice A0 l0.length c0] rfl (Qls) ?_; (with_reducible refine (lampblackref07_Outer.calls _ _ l0 t568 t569 _ ?side1 ?side2 A10.out).mono ?_); (case side1 => repeat (first | exact (Kd.C_below HR0.out (Qaw)) | (with_reducible refine Kd.C_alloc ?_ _) | (with_reducible refine Kd.C_drewN ?_ _) | (with_reducible refine Kd.C_drew ?_))); (case side2 => exact HC0.out); rintro e w71 ⟨v570, rfl, ho0, hb⟩; refine ⟨_, rfl, ?_⟩; have n0_ := Aside0.mk (Kd.R_elder' (Qro HO553.out) (Kd.R_base ho0) hb); have n1_ := Aside0.mk (Kd.R_elder' (Qro HO557.out) (Kd.R_base ho0) hb); have n2_ := Aside0.mk (Kd.R_elder' (Qro HO560.out) (Kd.R_base ho0) hb); have n3_ := Aside0.mk (Kd.R_elder' (Qro HO563.out) (Kd.R_base ho0) hb); have n4_ := Aside0.mk (Kd.R_lower (Kd.R_new' (Kd.R_new' (Kd.R_new' (Kd.R_new' ho0 (Kd.R_lt (Qro HO553.out))) (Kd.R_lt (Qro HO557.out))) (Kd.R_lt (Qro HO560.out))) (Kd.R_lt (Qro HO563.out))) (below_size (Qaw))); have n5_ := Aside0.mk (below_step (Qaw) hb); clear HO553; clear HO557; clear HO560; clear HO563; clear HB; have HO553 := n0_; have HO557 := n1_; have HO560 := n2_; have HO563 := n3_; have HO571 := n4_; have HB := n5_; clear n0_ n1_ n2_ n3_ n4_ n5_; (try clear hb); (try clear hb2); (try clear hk); (try clear hi); (try clear ho0); obtain ⟨Ao72, co72, eo72⟩ := Kd.R_slice HO557.out; subst eo72; obtain ⟨Ao73, co73, eo73⟩ := Kd.R_slice HO571.out; subst eo73) | ((with_reducible refine gate_callee (f := 27) rfl ?_); refine goesL_ (some 53) rfl rfl Tryd.func27 (by kernel_rfl) rfl #[.slice Ao72 t554.length co72, .slice Ao73 t568.length co73] rfl (Qls) ?_; (with_reducible refine (slices_Equal_int_int.calls k _ _ t554 _ _ t568 false _ ?side1 ?side2 ?side3 ?side4 A11.out).mono ?_); (case side1 => exact Qsc (Kd.R_reads' HO557.out).2.2); (case side2 => exact (Kd.R_reads' HO557.out).2.1); (case side3 => exact Qsc (Kd.R_reads' HO571.out).2.2); (case side4 => exact (Kd.R_reads' HO571.out).2.1); rintro e w' ⟨rfl, ⟨nd, rfl⟩⟩; refine ⟨_, rfl, ?_⟩))
   go_ret
   exact ⟨by first | rfl | (simp [errW_none, errW_some] <;> rfl) | (simp [*, errW_none, errW_some] <;> rfl), by repeat (first | (with_reducible first | exact HB.out | apply below_alloc | apply pw_below_drewN | apply below_drew1) | exact HB.out)⟩
 ·replace c9 := Bool.eq_false_iff.mpr c9
  subst c9
  have H1 : (if (t554.length : Int) = 0 then (if t564 = true then (some false) else (if t555 = 2 then (if t565 = 2 then ((lampblacklaw07_awake.f k).bind fun t567 => (some t567)) else (some false)) else (some false))) else (some false)) = some r := by rw [if_neg (show ¬ (false = true) by decide)] at H; exact H
  clear H
  have H := H1
  clear H1
  by_cases c74 : (t554.length : Int) = 0
  ·rw [if_pos c74] at H
   have c74b0 : ((t554.length : Int) == 0) = true := beq_iff_eq.mpr c74
   have c74b1 : ((t554.length : Int) != 0) = false := bne_eq_false_iff_eq.mpr c74
   clear c74
   by_cases c75 : t564 = true
   ·subst c75
    have H1 : (some false) = some r := by rw [if_pos rfl] at H; exact H
    clear H
    have H := H1
    clear H1
    obtain rfl := Option.some.inj H
    go_enter Tryd.func9, Tryd.ntmps9
    go_wp2_with (first | ((with_reducible refine gate_callee (f := 22) rfl ?_); refine goesL_ (some 13) rfl rfl Tryd.func22 (by kernel_rfl) rfl #[.slice A0 l0.length c0] rfl (Qls) ?_; (with_reducible refine (lampblacklaw07_Few.calls _ _ l0 t551 _ ?side1 ?side2 A3.out).mono ?_); (case side1 => exact Qsc HR0.out); (case side2 => exact HC0.out); rintro e w76 ⟨v552, rfl, ho0, hb⟩; refine ⟨_, rfl, ?_⟩; have n0_ := Aside0.mk (Kd.R_lower ho0 (below_size (Qaw))); have n1_ := Aside0.mk (below_step (Qaw) hb); clear HB; have HO553 := n0_; have HB := n1_; clear n0_ n1_; (try clear hb); (try clear hb2); (try clear hk); (try clear hi); (try clear ho0); obtain ⟨Ao77, co77, eo77⟩ := Kd.R_slice HO553.out; subst eo77) | ((with_reducible refine gate_callee (f := 47) rfl ?_); refine goesL_ (some 14) rfl rfl Tryd.func47 (by kernel_rfl) rfl #[.slice Ao77 t551.length co77] rfl (Qls) ?_; (with_reducible refine (minor_Outer.calls (hGL := (Qlg)) _ _ t551 t554 t555 _ ?side1 ?side2 A4.out).mono ?_); (case side1 => exact Qsc (Kd.R_reads' HO553.out).2.2); (case side2 => exact (Kd.R_reads' HO553.out).2.1); rintro e w78 ⟨v556, rfl, ho0, hb⟩; refine ⟨_, rfl, ?_⟩; have n0_ := Aside0.mk (Kd.R_elder' (Qro HO553.out) (Kd.R_base ho0) hb); have n1_ := Aside0.mk (Kd.R_lower (Kd.R_new' ho0 (Kd.R_lt (Qro HO553.out))) (below_size (Qaw))); have n2_ := Aside0.mk (below_step (Qaw) hb); clear HO553; clear HB; have HO553 := n0_; have HO557 := n1_; have HB := n2_; clear n0_ n1_ n2_; (try clear hb); (try clear hb2); (try clear hk); (try clear hi); (try clear ho0)) | ((with_reducible refine gate_callee (f := 22) rfl ?_); refine goesL_ (some 19) rfl rfl Tryd.func22 (by kernel_rfl) rfl #[.slice A0 l0.length c0] rfl (Qls) ?_; (with_reducible refine (lampblacklaw07_Few.calls _ _ l0 t558 _ ?side1 ?side2 A5.out).mono ?_); (case side1 => exact Qsc (Kd.C_below HR0.out HB.out)); (case side2 => exact HC0.out); rintro e w79 ⟨v559, rfl, ho0, hb⟩; refine ⟨_, rfl, ?_⟩; have n0_ := Aside0.mk (Kd.R_elder' (Qro HO553.out) (Kd.R_base ho0) hb); have n1_ := Aside0.mk (Kd.R_elder' (Qro HO557.out) (Kd.R_base ho0) hb); have n2_ := Aside0.mk (Kd.R_lower (Kd.R_new' (Kd.R_new' ho0 (Kd.R_lt (Qro HO553.out))) (Kd.R_lt (Qro HO557.out))) (below_size (Qaw))); have n3_ := Aside0.mk (below_step (Qaw) hb); clear HO553; clear HO557; clear HB; have HO553 := n0_; have HO557 := n1_; have HO560 := n2_; have HB := n3_; clear n0_ n1_ n2_ n3_; (try clear hb); (try clear hb2); (try clear hk); (try clear hi); (try clear ho0)) | ((with_reducible refine gate_callee (f := 24) rfl ?_); refine goesL_ (some 21) rfl rfl Tryd.func24 (by kernel_rfl) rfl #[.slice A1 l1.length c1] rfl (Qls) ?_; (with_reducible refine (lampblacklaw07_list.calls _ _ l1 t561 _ ?side1 ?side2 A6.out).mono ?_); (case side1 => exact Qsc (Kd.C_below HR1.out HB.out)); (case side2 => exact HC1.out); rintro e w80 ⟨v562, rfl, ho0, hb⟩; refine ⟨_, rfl, ?_⟩; have n0_ := Aside0.mk (Kd.R_elder' (Qro HO553.out) (Kd.R_base ho0) hb); have n1_ := Aside0.mk (Kd.R_elder' (Qro HO557.out) (Kd.R_base ho0) hb); have n2_ := Aside0.mk (Kd.R_elder' (Qro HO560.out) (Kd.R_base ho0) hb); have n3_ := Aside0.mk (Kd.R_lower (Kd.R_new' (Kd.R_new' (Kd.R_new' ho0 (Kd.R_lt (Qro HO553.out))) (Kd.R_lt (Qro HO557.out))) (Kd.R_lt (Qro HO560.out))) (below_size (Qaw))); have n4_ := Aside0.mk (below_step (Qaw) hb); clear HO553; clear HO557; clear HO560; clear HB; have HO553 := n0_; have HO557 := n1_; have HO560 := n2_; have HO563 := n3_; have HB := n4_; clear n0_ n1_ n2_ n3_ n4_; (try clear hb); (try clear hb2); (try clear hk); (try clear hi); (try clear ho0); obtain ⟨Ao81, co81, eo81⟩ := Kd.R_slice HO560.out; subst eo81; obtain ⟨Ao82, co82, eo82⟩ := Kd.R_slice HO563.out; subst eo82) | ((with_reducible refine gate_callee (f := 48) rfl ?_); refine goesL_ (some 22) rfl rfl Tryd.func48 (by kernel_rfl) rfl #[.slice Ao81 t558.length co81, .slice Ao82 t561.length co82] rfl (Qls) ?_; (with_reducible refine (minor_CheckOuter.calls k _ _ t558 _ _ t561 true t565 _ ?side1 ?side2 ?side3 ?side4 A7.out).mono ?_); (case side1 => exact Qsc (Kd.R_reads' HO560.out).2.2); (case side2 => exact (Kd.R_reads' HO560.out).2.1); (case side3 => exact Qsc (Kd.R_reads' HO563.out).2.2); (case side4 => exact (Kd.R_reads' HO563.out).2.1); rintro e w83 ⟨rfl, hb⟩; refine ⟨_, rfl, ?_⟩; have n0_ := Aside0.mk (Kd.R_below (Qro HO553.out) hb); have n1_ := Aside0.mk (Kd.R_below (Qro HO557.out) hb); have n2_ := Aside0.mk (Kd.R_below (Qro HO560.out) hb); have n3_ := Aside0.mk (Kd.R_below (Qro HO563.out) hb); have n4_ := Aside0.mk (below_step (Qaw) hb); clear HO553; clear HO557; clear HO560; clear HO563; clear HB; have HO553 := n0_; have HO557 := n1_; have HO560 := n2_; have HO563 := n3_; have HB := n4_; clear n0_ n1_ n2_ n3_ n4_; (try clear hb); (try clear hb2); (try clear hk); (try clear hi)) | ((with_reducible refine gate_callee (f := 16) rfl ?_); refine goesL_ (some 26) rfl rfl Tryd.func16 (by kernel_rfl) rfl #[.slice A0 l0.length c0] rfl (Qls) ?_; (with_reducible refine (lampblackref07_Valid.calls k _ _ l0 false _ ?side1 ?side2 A8.out).mono ?_); (case side1 => exact Qsc (Kd.C_below HR0.out HB.out)); (case side2 => exact HC0.out); rintro e w' ⟨rfl, ⟨nd, rfl⟩⟩; refine ⟨_, rfl, ?_⟩; obtain ⟨Ao84, co84, eo84⟩ := Kd.R_slice HO557.out; subst eo84))
    go_ret
    exact ⟨by first | rfl | (simp [errW_none, errW_some] <;> rfl) | (simp [*, errW_none, errW_some] <;> rfl), by repeat (first | (with_reducible first | exact HB.out | apply below_alloc | apply pw_below_drewN | apply below_drew1) | exact HB.out)⟩
   ·replace c75 := Bool.eq_false_iff.mpr c75
    subst c75
    have H1 : (if t555 = 2 then (if t565 = 2 then ((lampblacklaw07_awake.f k).bind fun t567 => (some t567)) else (some false)) else (some false)) = some r := by rw [if_neg (show ¬ (false = true) by decide)] at H; exact H
    clear H
    have H := H1
    clear H1
    by_cases c85 : t555 = 2
    ·rw [if_pos c85] at H
     have c85b0 : (t555 == 2) = true := beq_iff_eq.mpr c85
     have c85b1 : (t555 != 2) = false := bne_eq_false_iff_eq.mpr c85
     clear c85
     by_cases c86 : t565 = 2
     ·rw [if_pos c86] at H
      have c86b0 : (t565 == 2) = true := beq_iff_eq.mpr c86
      have c86b1 : (t565 != 2) = false := bne_eq_false_iff_eq.mpr c86
      clear c86
      replace H := Option.bind_eq_some_iff.mp H
      obtain ⟨t567, A870, H⟩ := H
      replace H : (some t567) = some r := H
      have A87 := Aside0.mk A870
      clear A870
      obtain rfl := Option.some.inj H
      go_enter Tryd.func9, Tryd.ntmps9
      go_wp2_with (first | ((with_reducible refine gate_callee (f := 22) rfl ?_); refine goesL_ (some 13) rfl rfl Tryd.func22 (by kernel_rfl) rfl #[.slice A0 l0.length c0] rfl (Qls) ?_; (with_reducible refine (lampblacklaw07_Few.calls _ _ l0 t551 _ ?side1 ?side2 A3.out).mono ?_); (case side1 => exact Qsc HR0.out); (case side2 => exact HC0.out); rintro e w88 ⟨v552, rfl, ho0, hb⟩; refine ⟨_, rfl, ?_⟩; have n0_ := Aside0.mk (Kd.R_lower ho0 (below_size (Qaw))); have n1_ := Aside0.mk (below_step (Qaw) hb); clear HB; have HO553 := n0_; have HB := n1_; clear n0_ n1_; (try clear hb); (try clear hb2); (try clear hk); (try clear hi); (try clear ho0); obtain ⟨Ao89, co89, eo89⟩ := Kd.R_slice HO553.out; subst eo89) | ((with_reducible refine gate_callee (f := 47) rfl ?_); refine goesL_ (some 14) rfl rfl Tryd.func47 (by kernel_rfl) rfl #[.slice Ao89 t551.length co89] rfl (Qls) ?_; (with_reducible refine (minor_Outer.calls (hGL := (Qlg)) _ _ t551 t554 t555 _ ?side1 ?side2 A4.out).mono ?_); (case side1 => exact Qsc (Kd.R_reads' HO553.out).2.2); (case side2 => exact (Kd.R_reads' HO553.out).2.1); rintro e w90 ⟨v556, rfl, ho0, hb⟩; refine ⟨_, rfl, ?_⟩; have n0_ := Aside0.mk (Kd.R_elder' (Qro HO553.out) (Kd.R_base ho0) hb); have n1_ := Aside0.mk (Kd.R_lower (Kd.R_new' ho0 (Kd.R_lt (Qro HO553.out))) (below_size (Qaw))); have n2_ := Aside0.mk (below_step (Qaw) hb); clear HO553; clear HB; have HO553 := n0_; have HO557 := n1_; have HB := n2_; clear n0_ n1_ n2_; (try clear hb); (try clear hb2); (try clear hk); (try clear hi); (try clear ho0)) | ((with_reducible refine gate_callee (f := 22) rfl ?_); refine goesL_ (some 19) rfl rfl Tryd.func22 (by kernel_rfl) rfl #[.slice A0 l0.length c0] rfl (Qls) ?_; (with_reducible refine (lampblacklaw07_Few.calls _ _ l0 t558 _ ?side1 ?side2 A5.out).mono ?_); (case side1 => exact Qsc (Kd.C_below HR0.out HB.out)); (case side2 => exact HC0.out); rintro e w91 ⟨v559, rfl, ho0, hb⟩; refine ⟨_, rfl, ?_⟩; have n0_ := Aside0.mk (Kd.R_elder' (Qro HO553.out) (Kd.R_base ho0) hb); have n1_ := Aside0.mk (Kd.R_elder' (Qro HO557.out) (Kd.R_base ho0) hb); have n2_ := Aside0.mk (Kd.R_lower (Kd.R_new' (Kd.R_new' ho0 (Kd.R_lt (Qro HO553.out))) (Kd.R_lt (Qro HO557.out))) (below_size (Qaw))); have n3_ := Aside0.mk (below_step (Qaw) hb); clear HO553; clear HO557; clear HB; have HO553 := n0_; have HO557 := n1_; have HO560 := n2_; have HB := n3_; clear n0_ n1_ n2_ n3_; (try clear hb); (try clear hb2); (try clear hk); (try clear hi); (try clear ho0)) | ((with_reducible refine gate_callee (f := 24) rfl ?_); refine goesL_ (some 21) rfl rfl Tryd.func24 (by kernel_rfl) rfl #[.slice A1 l1.length c1] rfl (Qls) ?_; (with_reducible refine (lampblacklaw07_list.calls _ _ l1 t561 _ ?side1 ?side2 A6.out).mono ?_); (case side1 => exact Qsc (Kd.C_below HR1.out HB.out)); (case side2 => exact HC1.out); rintro e w92 ⟨v562, rfl, ho0, hb⟩; refine ⟨_, rfl, ?_⟩; have n0_ := Aside0.mk (Kd.R_elder' (Qro HO553.out) (Kd.R_base ho0) hb); have n1_ := Aside0.mk (Kd.R_elder' (Qro HO557.out) (Kd.R_base ho0) hb); have n2_ := Aside0.mk (Kd.R_elder' (Qro HO560.out) (Kd.R_base ho0) hb); have n3_ := Aside0.mk (Kd.R_lower (Kd.R_new' (Kd.R_new' (Kd.R_new' ho0 (Kd.R_lt (Qro HO553.out))) (Kd.R_lt (Qro HO557.out))) (Kd.R_lt (Qro HO560.out))) (below_size (Qaw))); have n4_ := Aside0.mk (below_step (Qaw) hb); clear HO553; clear HO557; clear HO560; clear HB; have HO553 := n0_; have HO557 := n1_; have HO560 := n2_; have HO563 := n3_; have HB := n4_; clear n0_ n1_ n2_ n3_ n4_; (try clear hb); (try clear hb2); (try clear hk); (try clear hi); (try clear ho0); obtain ⟨Ao93, co93, eo93⟩ := Kd.R_slice HO560.out; subst eo93; obtain ⟨Ao94, co94, eo94⟩ := Kd.R_slice HO563.out; subst eo94) | ((with_reducible refine gate_callee (f := 48) rfl ?_); refine goesL_ (some 22) rfl rfl Tryd.func48 (by kernel_rfl) rfl #[.slice Ao93 t558.length co93, .slice Ao94 t561.length co94] rfl (Qls) ?_; (with_reducible refine (minor_CheckOuter.calls k _ _ t558 _ _ t561 false t565 _ ?side1 ?side2 ?side3 ?side4 A7.out).mono ?_); (case side1 => exact Qsc (Kd.R_reads' HO560.out).2.2); (case side2 => exact (Kd.R_reads' HO560.out).2.1); (case side3 => exact Qsc (Kd.R_reads' HO563.out).2.2); (case side4 => exact (Kd.R_reads' HO563.out).2.1); rintro e w95 ⟨rfl, hb⟩; refine ⟨_, rfl, ?_⟩; have n0_ := Aside0.mk (Kd.R_below (Qro HO553.out) hb); have n1_ := Aside0.mk (Kd.R_below (Qro HO557.out) hb); have n2_ := Aside0.mk (Kd.R_below (Qro HO560.out) hb); have n3_ := Aside0.mk (Kd.R_below (Qro HO563.out) hb); have n4_ := Aside0.mk (below_step (Qaw) hb); clear HO553; clear HO557; clear HO560; clear HO563; clear HB; have HO553 := n0_; have HO557 := n1_; have HO560 := n2_; have HO563 := n3_; have HB := n4_; clear n0_ n1_ n2_ n3_ n4_; (try clear hb); (try clear hb2); (try clear hk); (try clear hi)) | ((with_reducible refine gate_callee (f := 16) rfl ?_); refine goesL_ (some 26) rfl rfl Tryd.func16 (by kernel_rfl) rfl #[.slice A0 l0.length c0] rfl (Qls) ?_; (with_reducible refine (lampblackref07_Valid.calls k _ _ l0 false _ ?side1 ?side2 A8.out).mono ?_); (case side1 => exact Qsc (Kd.C_below HR0.out HB.out)); (case side2 => exact HC0.out); rintro e w' ⟨rfl, ⟨nd, rfl⟩⟩; refine ⟨_, rfl, ?_⟩; obtain ⟨Ao96, co96, eo96⟩ := Kd.R_slice HO557.out; subst eo96) | (go_at_call 17; (with_reducible refine (lampblacklaw07_awake.calls (hGL := (Qlg)) k  t567 _ A87.out).mono ?_); rintro e w97 ⟨rfl, hb⟩; have n0_ := Aside0.mk (Kd.R_below (Qro HO553.out) hb); have n1_ := Aside0.mk (Kd.R_below (Qro HO557.out) hb); have n2_ := Aside0.mk (Kd.R_below (Qro HO560.out) hb); have n3_ := Aside0.mk (Kd.R_below (Qro HO563.out) hb); have n4_ := Aside0.mk (below_step (Qaw) hb); clear HO553; clear HO557; clear HO560; clear HO563; clear HB; have HO553 := n0_; have HO557 := n1_; have HO560 := n2_; have HO563 := n3_; have HB := n4_; clear n0_ n1_ n2_ n3_ n4_; (try clear hb); (try clear hb2); (try clear hk); (try clear hi)))
      go_ret
      exact ⟨by first | rfl | (simp [errW_none, errW_some] <;> rfl) | (simp [*, errW_none, errW_some] <;> rfl), by repeat (first | (with_reducible first | exact HB.out | apply below_alloc | apply pw_below_drewN | apply below_drew1) | exact HB.out)⟩
     ·rw [if_neg c86] at H
      have c86b0 : (t565 == 2) = false := beq_eq_false_iff_ne.mpr c86
      have c86b1 : (t565 != 2) = true := bne_iff_ne.mpr c86
      obtain rfl := Option.some.inj H
      go_enter Tryd.func9, Tryd.ntmps9
      go_wp2_with (first | ((with_reducible refine gate_callee (f := 22) rfl ?_); refine goesL_ (some 13) rfl rfl Tryd.func22 (by kernel_rfl) rfl #[.slice A0 l0.length c0] rfl (Qls) ?_; (with_reducible refine (lampblacklaw07_Few.calls _ _ l0 t551 _ ?side1 ?side2 A3.out).mono ?_); (case side1 => exact Qsc HR0.out); (case side2 => exact HC0.out); rintro e w98 ⟨v552, rfl, ho0, hb⟩; refine ⟨_, rfl, ?_⟩; have n0_ := Aside0.mk (Kd.R_lower ho0 (below_size (Qaw))); have n1_ := Aside0.mk (below_step (Qaw) hb); clear HB; have HO553 := n0_; have HB := n1_; clear n0_ n1_; (try clear hb); (try clear hb2); (try clear hk); (try clear hi); (try clear ho0); obtain ⟨Ao99, co99, eo99⟩ := Kd.R_slice HO553.out; subst eo99) | ((with_reducible refine gate_callee (f := 47) rfl ?_); refine goesL_ (some 14) rfl rfl Tryd.func47 (by kernel_rfl) rfl #[.slice Ao99 t551.length co99] rfl (Qls) ?_; (with_reducible refine (minor_Outer.calls (hGL := (Qlg)) _ _ t551 t554 t555 _ ?side1 ?side2 A4.out).mono ?_); (case side1 => exact Qsc (Kd.R_reads' HO553.out).2.2); (case side2 => exact (Kd.R_reads' HO553.out).2.1); rintro e w100 ⟨v556, rfl, ho0, hb⟩; refine ⟨_, rfl, ?_⟩; have n0_ := Aside0.mk (Kd.R_elder' (Qro HO553.out) (Kd.R_base ho0) hb); have n1_ := Aside0.mk (Kd.R_lower (Kd.R_new' ho0 (Kd.R_lt (Qro HO553.out))) (below_size (Qaw))); have n2_ := Aside0.mk (below_step (Qaw) hb); clear HO553; clear HB; have HO553 := n0_; have HO557 := n1_; have HB := n2_; clear n0_ n1_ n2_; (try clear hb); (try clear hb2); (try clear hk); (try clear hi); (try clear ho0)) | ((with_reducible refine gate_callee (f := 22) rfl ?_); refine goesL_ (some 19) rfl rfl Tryd.func22 (by kernel_rfl) rfl #[.slice A0 l0.length c0] rfl (Qls) ?_; (with_reducible refine (lampblacklaw07_Few.calls _ _ l0 t558 _ ?side1 ?side2 A5.out).mono ?_); (case side1 => exact Qsc (Kd.C_below HR0.out HB.out)); (case side2 => exact HC0.out); rintro e w101 ⟨v559, rfl, ho0, hb⟩; refine ⟨_, rfl, ?_⟩; have n0_ := Aside0.mk (Kd.R_elder' (Qro HO553.out) (Kd.R_base ho0) hb); have n1_ := Aside0.mk (Kd.R_elder' (Qro HO557.out) (Kd.R_base ho0) hb); have n2_ := Aside0.mk (Kd.R_lower (Kd.R_new' (Kd.R_new' ho0 (Kd.R_lt (Qro HO553.out))) (Kd.R_lt (Qro HO557.out))) (below_size (Qaw))); have n3_ := Aside0.mk (below_step (Qaw) hb); clear HO553; clear HO557; clear HB; have HO553 := n0_; have HO557 := n1_; have HO560 := n2_; have HB := n3_; clear n0_ n1_ n2_ n3_; (try clear hb); (try clear hb2); (try clear hk); (try clear hi); (try clear ho0)) | ((with_reducible refine gate_callee (f := 24) rfl ?_); refine goesL_ (some 21) rfl rfl Tryd.func24 (by kernel_rfl) rfl #[.slice A1 l1.length c1] rfl (Qls) ?_; (with_reducible refine (lampblacklaw07_list.calls _ _ l1 t561 _ ?side1 ?side2 A6.out).mono ?_); (case side1 => exact Qsc (Kd.C_below HR1.out HB.out)); (case side2 => exact HC1.out); rintro e w102 ⟨v562, rfl, ho0, hb⟩; refine ⟨_, rfl, ?_⟩; have n0_ := Aside0.mk (Kd.R_elder' (Qro HO553.out) (Kd.R_base ho0) hb); have n1_ := Aside0.mk (Kd.R_elder' (Qro HO557.out) (Kd.R_base ho0) hb); have n2_ := Aside0.mk (Kd.R_elder' (Qro HO560.out) (Kd.R_base ho0) hb); have n3_ := Aside0.mk (Kd.R_lower (Kd.R_new' (Kd.R_new' (Kd.R_new' ho0 (Kd.R_lt (Qro HO553.out))) (Kd.R_lt (Qro HO557.out))) (Kd.R_lt (Qro HO560.out))) (below_size (Qaw))); have n4_ := Aside0.mk (below_step (Qaw) hb); clear HO553; clear HO557; clear HO560; clear HB; have HO553 := n0_; have HO557 := n1_; have HO560 := n2_; have HO563 := n3_; have HB := n4_; clear n0_ n1_ n2_ n3_ n4_; (try clear hb); (try clear hb2); (try clear hk); (try clear hi); (try clear ho0); obtain ⟨Ao103, co103, eo103⟩ := Kd.R_slice HO560.out; subst eo103; obtain ⟨Ao104, co104, eo104⟩ := Kd.R_slice HO563.out; subst eo104) | ((with_reducible refine gate_callee (f := 48) rfl ?_); refine goesL_ (some 22) rfl rfl Tryd.func48 (by kernel_rfl) rfl #[.slice Ao103 t558.length co103, .slice Ao104 t561.length co104] rfl (Qls) ?_; (with_reducible refine (minor_CheckOuter.calls k _ _ t558 _ _ t561 false t565 _ ?side1 ?side2 ?side3 ?side4 A7.out).mono ?_); (case side1 => exact Qsc (Kd.R_reads' HO560.out).2.2); (case side2 => exact (Kd.R_reads' HO560.out).2.1); (case side3 => exact Qsc (Kd.R_reads' HO563.out).2.2); (case side4 => exact (Kd.R_reads' HO563.out).2.1); rintro e w105 ⟨rfl, hb⟩; refine ⟨_, rfl, ?_⟩; have n0_ := Aside0.mk (Kd.R_below (Qro HO553.out) hb); have n1_ := Aside0.mk (Kd.R_below (Qro HO557.out) hb); have n2_ := Aside0.mk (Kd.R_below (Qro HO560.out) hb); have n3_ := Aside0.mk (Kd.R_below (Qro HO563.out) hb); have n4_ := Aside0.mk (below_step (Qaw) hb); clear HO553; clear HO557; clear HO560; clear HO563; clear HB; have HO553 := n0_; have HO557 := n1_; have HO560 := n2_; have HO563 := n3_; have HB := n4_; clear n0_ n1_ n2_ n3_ n4_; (try clear hb); (try clear hb2); (try clear hk); (try clear hi)) | ((with_reducible refine gate_callee (f := 16) rfl ?_); refine goesL_ (some 26) rfl rfl Tryd.func16 (by kernel_rfl) rfl #[.slice A0 l0.length c0] rfl (Qls) ?_; (with_reducible refine (lampblackref07_Valid.calls k _ _ l0 false _ ?side1 ?side2 A8.out).mono ?_); (case side1 => exact Qsc (Kd.C_below HR0.out HB.out)); (case side2 => exact HC0.out); rintro e w' ⟨rfl, ⟨nd, rfl⟩⟩; refine ⟨_, rfl, ?_⟩; obtain ⟨Ao106, co106, eo106⟩ := Kd.R_slice HO557.out; subst eo106))
      go_ret
      exact ⟨by first | rfl | (simp [errW_none, errW_some] <;> rfl) | (simp [*, errW_none, errW_some] <;> rfl), by repeat (first | (with_reducible first | exact HB.out | apply below_alloc | apply pw_below_drewN | apply below_drew1) | exact HB.out)⟩
    ·rw [if_neg c85] at H
     have c85b0 : (t555 == 2) = false := beq_eq_false_iff_ne.mpr c85
     have c85b1 : (t555 != 2) = true := bne_iff_ne.mpr c85
     obtain rfl := Option.some.inj H
     go_enter Tryd.func9, Tryd.ntmps9
     go_wp2_with (first | ((with_reducible refine gate_callee (f := 22) rfl ?_); refine goesL_ (some 13) rfl rfl Tryd.func22 (by kernel_rfl) rfl #[.slice A0 l0.length c0] rfl (Qls) ?_; (with_reducible refine (lampblacklaw07_Few.calls _ _ l0 t551 _ ?side1 ?side2 A3.out).mono ?_); (case side1 => exact Qsc HR0.out); (case side2 => exact HC0.out); rintro e w107 ⟨v552, rfl, ho0, hb⟩; refine ⟨_, rfl, ?_⟩; have n0_ := Aside0.mk (Kd.R_lower ho0 (below_size (Qaw))); have n1_ := Aside0.mk (below_step (Qaw) hb); clear HB; have HO553 := n0_; have HB := n1_; clear n0_ n1_; (try clear hb); (try clear hb2); (try clear hk); (try clear hi); (try clear ho0); obtain ⟨Ao108, co108, eo108⟩ := Kd.R_slice HO553.out; subst eo108) | ((with_reducible refine gate_callee (f := 47) rfl ?_); refine goesL_ (some 14) rfl rfl Tryd.func47 (by kernel_rfl) rfl #[.slice Ao108 t551.length co108] rfl (Qls) ?_; (with_reducible refine (minor_Outer.calls (hGL := (Qlg)) _ _ t551 t554 t555 _ ?side1 ?side2 A4.out).mono ?_); (case side1 => exact Qsc (Kd.R_reads' HO553.out).2.2); (case side2 => exact (Kd.R_reads' HO553.out).2.1); rintro e w109 ⟨v556, rfl, ho0, hb⟩; refine ⟨_, rfl, ?_⟩; have n0_ := Aside0.mk (Kd.R_elder' (Qro HO553.out) (Kd.R_base ho0) hb); have n1_ := Aside0.mk (Kd.R_lower (Kd.R_new' ho0 (Kd.R_lt (Qro HO553.out))) (below_size (Qaw))); have n2_ := Aside0.mk (below_step (Qaw) hb); clear HO553; clear HB; have HO553 := n0_; have HO557 := n1_; have HB := n2_; clear n0_ n1_ n2_; (try clear hb); (try clear hb2); (try clear hk); (try clear hi); (try clear ho0)) | ((with_reducible refine gate_callee (f := 22) rfl ?_); refine goesL_ (some 19) rfl rfl Tryd.func22 (by kernel_rfl) rfl #[.slice A0 l0.length c0] rfl (Qls) ?_; (with_reducible refine (lampblacklaw07_Few.calls _ _ l0 t558 _ ?side1 ?side2 A5.out).mono ?_); (case side1 => exact Qsc (Kd.C_below HR0.out HB.out)); (case side2 => exact HC0.out); rintro e w110 ⟨v559, rfl, ho0, hb⟩; refine ⟨_, rfl, ?_⟩; have n0_ := Aside0.mk (Kd.R_elder' (Qro HO553.out) (Kd.R_base ho0) hb); have n1_ := Aside0.mk (Kd.R_elder' (Qro HO557.out) (Kd.R_base ho0) hb); have n2_ := Aside0.mk (Kd.R_lower (Kd.R_new' (Kd.R_new' ho0 (Kd.R_lt (Qro HO553.out))) (Kd.R_lt (Qro HO557.out))) (below_size (Qaw))); have n3_ := Aside0.mk (below_step (Qaw) hb); clear HO553; clear HO557; clear HB; have HO553 := n0_; have HO557 := n1_; have HO560 := n2_; have HB := n3_; clear n0_ n1_ n2_ n3_; (try clear hb); (try clear hb2); (try clear hk); (try clear hi); (try clear ho0)) | ((with_reducible refine gate_callee (f := 24) rfl ?_); refine goesL_ (some 21) rfl rfl Tryd.func24 (by kernel_rfl) rfl #[.slice A1 l1.length c1] rfl (Qls) ?_; (with_reducible refine (lampblacklaw07_list.calls _ _ l1 t561 _ ?side1 ?side2 A6.out).mono ?_); (case side1 => exact Qsc (Kd.C_below HR1.out HB.out)); (case side2 => exact HC1.out); rintro e w111 ⟨v562, rfl, ho0, hb⟩; refine ⟨_, rfl, ?_⟩; have n0_ := Aside0.mk (Kd.R_elder' (Qro HO553.out) (Kd.R_base ho0) hb); have n1_ := Aside0.mk (Kd.R_elder' (Qro HO557.out) (Kd.R_base ho0) hb); have n2_ := Aside0.mk (Kd.R_elder' (Qro HO560.out) (Kd.R_base ho0) hb); have n3_ := Aside0.mk (Kd.R_lower (Kd.R_new' (Kd.R_new' (Kd.R_new' ho0 (Kd.R_lt (Qro HO553.out))) (Kd.R_lt (Qro HO557.out))) (Kd.R_lt (Qro HO560.out))) (below_size (Qaw))); have n4_ := Aside0.mk (below_step (Qaw) hb); clear HO553; clear HO557; clear HO560; clear HB; have HO553 := n0_; have HO557 := n1_; have HO560 := n2_; have HO563 := n3_; have HB := n4_; clear n0_ n1_ n2_ n3_ n4_; (try clear hb); (try clear hb2); (try clear hk); (try clear hi); (try clear ho0); obtain ⟨Ao112, co112, eo112⟩ := Kd.R_slice HO560.out; subst eo112; obtain ⟨Ao113, co113, eo113⟩ := Kd.R_slice HO563.out; subst eo113) | ((with_reducible refine gate_callee (f := 48) rfl ?_); refine goesL_ (some 22) rfl rfl Tryd.func48 (by kernel_rfl) rfl #[.slice Ao112 t558.length co112, .slice Ao113 t561.length co113] rfl (Qls) ?_; (with_reducible refine (minor_CheckOuter.calls k _ _ t558 _ _ t561 false t565 _ ?side1 ?side2 ?side3 ?side4 A7.out).mono ?_); (case side1 => exact Qsc (Kd.R_reads' HO560.out).2.2); (case side2 => exact (Kd.R_reads' HO560.out).2.1); (case side3 => exact Qsc (Kd.R_reads' HO563.out).2.2); (case side4 => exact (Kd.R_reads' HO563.out).2.1); rintro e w114 ⟨rfl, hb⟩; refine ⟨_, rfl, ?_⟩; have n0_ := Aside0.mk (Kd.R_below (Qro HO553.out) hb); have n1_ := Aside0.mk (Kd.R_below (Qro HO557.out) hb); have n2_ := Aside0.mk (Kd.R_below (Qro HO560.out) hb); have n3_ := Aside0.mk (Kd.R_below (Qro HO563.out) hb); have n4_ := Aside0.mk (below_step (Qaw) hb); clear HO553; clear HO557; clear HO560; clear HO563; clear HB; have HO553 := n0_; have HO557 := n1_; have HO560 := n2_; have HO563 := n3_; have HB := n4_; clear n0_ n1_ n2_ n3_ n4_; (try clear hb); (try clear hb2); (try clear hk); (try clear hi)) | ((with_reducible refine gate_callee (f := 16) rfl ?_); refine goesL_ (some 26) rfl rfl Tryd.func16 (by kernel_rfl) rfl #[.slice A0 l0.length c0] rfl (Qls) ?_; (with_reducible refine (lampblackref07_Valid.calls k _ _ l0 false _ ?side1 ?side2 A8.out).mono ?_); (case side1 => exact Qsc (Kd.C_below HR0.out HB.out)); (case side2 => exact HC0.out); rintro e w' ⟨rfl, ⟨nd, rfl⟩⟩; refine ⟨_, rfl, ?_⟩; obtain ⟨Ao115, co115, eo115⟩ := Kd.R_slice HO557.out; subst eo115))
     go_ret
     exact ⟨by first | rfl | (simp [errW_none, errW_some] <;> rfl) | (simp [*, errW_none, errW_some] <;> rfl), by repeat (first | (with_reducible first | exact HB.out | apply below_alloc | apply pw_below_drewN | apply below_drew1) | exact HB.out)⟩
  ·rw [if_neg c74] at H
   have c74b0 : ((t554.length : Int) == 0) = false := beq_eq_false_iff_ne.mpr c74
   have c74b1 : ((t554.length : Int) != 0) = true := bne_iff_ne.mpr c74
   have c74b2 : ¬ (t554 = []) := fun h_ => c74 (by rw [h_]; rfl)
   obtain rfl := Option.some.inj H
   go_enter Tryd.func9, Tryd.ntmps9
   go_wp2_with (first | ((with_reducible refine gate_callee (f := 22) rfl ?_); refine goesL_ (some 13) rfl rfl Tryd.func22 (by kernel_rfl) rfl #[.slice A0 l0.length c0] rfl (Qls) ?_; (with_reducible refine (lampblacklaw07_Few.calls _ _ l0 t551 _ ?side1 ?side2 A3.out).mono ?_); (case side1 => exact Qsc HR0.out); (case side2 => exact HC0.out); rintro e w116 ⟨v552, rfl, ho0, hb⟩; refine ⟨_, rfl, ?_⟩; have n0_ := Aside0.mk (Kd.R_lower ho0 (below_size (Qaw))); have n1_ := Aside0.mk (below_step (Qaw) hb); clear HB; have HO553 := n0_; have HB := n1_; clear n0_ n1_; (try clear hb); (try clear hb2); (try clear hk); (try clear hi); (try clear ho0); obtain ⟨Ao117, co117, eo117⟩ := Kd.R_slice HO553.out; subst eo117) | ((with_reducible refine gate_callee (f := 47) rfl ?_); refine goesL_ (some 14) rfl rfl Tryd.func47 (by kernel_rfl) rfl #[.slice Ao117 t551.length co117] rfl (Qls) ?_; (with_reducible refine (minor_Outer.calls (hGL := (Qlg)) _ _ t551 t554 t555 _ ?side1 ?side2 A4.out).mono ?_); (case side1 => exact Qsc (Kd.R_reads' HO553.out).2.2); (case side2 => exact (Kd.R_reads' HO553.out).2.1); rintro e w118 ⟨v556, rfl, ho0, hb⟩; refine ⟨_, rfl, ?_⟩; have n0_ := Aside0.mk (Kd.R_elder' (Qro HO553.out) (Kd.R_base ho0) hb); have n1_ := Aside0.mk (Kd.R_lower (Kd.R_new' ho0 (Kd.R_lt (Qro HO553.out))) (below_size (Qaw))); have n2_ := Aside0.mk (below_step (Qaw) hb); clear HO553; clear HB; have HO553 := n0_; have HO557 := n1_; have HB := n2_; clear n0_ n1_ n2_; (try clear hb); (try clear hb2); (try clear hk); (try clear hi); (try clear ho0)) | ((with_reducible refine gate_callee (f := 22) rfl ?_); refine goesL_ (some 19) rfl rfl Tryd.func22 (by kernel_rfl) rfl #[.slice A0 l0.length c0] rfl (Qls) ?_; (with_reducible refine (lampblacklaw07_Few.calls _ _ l0 t558 _ ?side1 ?side2 A5.out).mono ?_); (case side1 => exact Qsc (Kd.C_below HR0.out HB.out)); (case side2 => exact HC0.out); rintro e w119 ⟨v559, rfl, ho0, hb⟩; refine ⟨_, rfl, ?_⟩; have n0_ := Aside0.mk (Kd.R_elder' (Qro HO553.out) (Kd.R_base ho0) hb); have n1_ := Aside0.mk (Kd.R_elder' (Qro HO557.out) (Kd.R_base ho0) hb); have n2_ := Aside0.mk (Kd.R_lower (Kd.R_new' (Kd.R_new' ho0 (Kd.R_lt (Qro HO553.out))) (Kd.R_lt (Qro HO557.out))) (below_size (Qaw))); have n3_ := Aside0.mk (below_step (Qaw) hb); clear HO553; clear HO557; clear HB; have HO553 := n0_; have HO557 := n1_; have HO560 := n2_; have HB := n3_; clear n0_ n1_ n2_ n3_; (try clear hb); (try clear hb2); (try clear hk); (try clear hi); (try clear ho0)) | ((with_reducible refine gate_callee (f := 24) rfl ?_); refine goesL_ (some 21) rfl rfl Tryd.func24 (by kernel_rfl) rfl #[.slice A1 l1.length c1] rfl (Qls) ?_; (with_reducible refine (lampblacklaw07_list.calls _ _ l1 t561 _ ?side1 ?side2 A6.out).mono ?_); (case side1 => exact Qsc (Kd.C_below HR1.out HB.out)); (case side2 => exact HC1.out); rintro e w120 ⟨v562, rfl, ho0, hb⟩; refine ⟨_, rfl, ?_⟩; have n0_ := Aside0.mk (Kd.R_elder' (Qro HO553.out) (Kd.R_base ho0) hb); have n1_ := Aside0.mk (Kd.R_elder' (Qro HO557.out) (Kd.R_base ho0) hb); have n2_ := Aside0.mk (Kd.R_elder' (Qro HO560.out) (Kd.R_base ho0) hb); have n3_ := Aside0.mk (Kd.R_lower (Kd.R_new' (Kd.R_new' (Kd.R_new' ho0 (Kd.R_lt (Qro HO553.out))) (Kd.R_lt (Qro HO557.out))) (Kd.R_lt (Qro HO560.out))) (below_size (Qaw))); have n4_ := Aside0.mk (below_step (Qaw) hb); clear HO553; clear HO557; clear HO560; clear HB; have HO553 := n0_; have HO557 := n1_; have HO560 := n2_; have HO563 := n3_; have HB := n4_; clear n0_ n1_ n2_ n3_ n4_; (try clear hb); (try clear hb2); (try clear hk); (try clear hi); (try clear ho0); obtain ⟨Ao121, co121, eo121⟩ := Kd.R_slice HO560.out; subst eo121; obtain ⟨Ao122, co122, eo122⟩ := Kd.R_slice HO563.out; subst eo122) | ((with_reducible refine gate_callee (f := 48) rfl ?_); refine goesL_ (some 22) rfl rfl Tryd.func48 (by kernel_rfl) rfl #[.slice Ao121 t558.length co121, .slice Ao122 t561.length co122] rfl (Qls) ?_; (with_reducible refine (minor_CheckOuter.calls k _ _ t558 _ _ t561 t564 t565 _ ?side1 ?side2 ?side3 ?side4 A7.out).mono ?_); (case side1 => exact Qsc (Kd.R_reads' HO560.out).2.2); (case side2 => exact (Kd.R_reads' HO560.out).2.1); (case side3 => exact Qsc (Kd.R_reads' HO563.out).2.2); (case side4 => exact (Kd.R_reads' HO563.out).2.1); rintro e w123 ⟨rfl, hb⟩; refine ⟨_, rfl, ?_⟩; have n0_ := Aside0.mk (Kd.R_below (Qro HO553.out) hb); have n1_ := Aside0.mk (Kd.R_below (Qro HO557.out) hb); have n2_ := Aside0.mk (Kd.R_below (Qro HO560.out) hb); have n3_ := Aside0.mk (Kd.R_below (Qro HO563.out) hb); have n4_ := Aside0.mk (below_step (Qaw) hb); clear HO553; clear HO557; clear HO560; clear HO563; clear HB; have HO553 := n0_; have HO557 := n1_; have HO560 := n2_; have HO563 := n3_; have HB := n4_; clear n0_ n1_ n2_ n3_ n4_; (try clear hb); (try clear hb2); (try clear hk); (try clear hi)) | ((with_reducible refine gate_callee (f := 16) rfl ?_); refine goesL_ (some 26) rfl rfl Tryd.func16 (by kernel_rfl) rfl #[.slice A0 l0.length c0] rfl (Qls) ?_; (with_reducible refine (lampblackref07_Valid.calls k _ _ l0 false _ ?side1 ?side2 A8.out).mono ?_); (case side1 => exact Qsc (Kd.C_below HR0.out HB.out)); (case side2 => exact HC0.out); rintro e w' ⟨rfl, ⟨nd, rfl⟩⟩; refine ⟨_, rfl, ?_⟩; obtain ⟨Ao124, co124, eo124⟩ := Kd.R_slice HO557.out; subst eo124))
   go_ret
   exact ⟨by first | rfl | (simp [errW_none, errW_some] <;> rfl) | (simp [*, errW_none, errW_some] <;> rfl), by repeat (first | (with_reducible first | exact HB.out | apply below_alloc | apply pw_below_drewN | apply below_drew1) | exact HB.out)⟩
end Go.Proofs.YtjloppfdagfpmaaDoor.X
end
section
namespace Go.Proofs.YtjloppfdagfpmaaDoor.X
open Go.RowKit YtjloppfdagfpmaaDoorW.PrintWords YtjloppfdagfpmaaDoorW.PrintLast YtjloppfdagfpmaaDoorW.PrintMore
attribute [local go_sem] max2_int min2_int max_two min_two max_three min_three max_four min_four
/-! ### minor_town_without: function 76 -/
def minor_town_without.l0 : Nat → Int → List Int → List Int → Int → Int → Option (List Int)
 | 0, _, _, _, _, _ => none
 | k + 1, x1, x5, x8, x9, x10 => if x10 < x9 then (if 0 ≤ x10 then (if x10 < (x8.length : Int) then (if x10 = x1 then (minor_town_without.l0 k x1 x5 x8 x9 (wrap64 (x10 + 1))) else (if 0 ≤ x1 then (if 0 ≤ (wrap64 (x1 + 1)) then (if x5.length < 17592186044416 then (minor_town_without.l0 k x1 (x5 ++ [Go.bits .or .i64 (Go.bits .and .i64 (rd x8 x10) (wrap64 ((shl .i64 1 x1) - 1))) (shl .i64 (shr .i64 (rd x8 x10) (wrap64 (x1 + 1))) x1)]) x8 x9 (wrap64 (x10 + 1))) else (none)) else (none)) else (none))) else (none)) else (none)) else (some x5)
def minor_town_without.f (k : Nat) (l0 : List Int) (a1 : Int) : Option (List Int) := minor_town_without.l0 k a1 ([] : List Int) l0 (l0.length : Int) 0
end Go.Proofs.YtjloppfdagfpmaaDoor.X
end
section
namespace Go.Proofs.YtjloppfdagfpmaaDoor.X
open Go.RowKit YtjloppfdagfpmaaDoorW.PrintWords YtjloppfdagfpmaaDoorW.PrintLast YtjloppfdagfpmaaDoorW.PrintMore
attribute [local go_sem] max2_int min2_int max_two min_two max_three min_three max_four min_four
/-! ### minor_town_int: function 77 -/
def minor_town_int.f (l0 : List Int) : Option (List Int) := (some (([] : List Int) : List Int)).bind fun y302 => (if y302.length + l0.length < 17592186044416 then (some (y302 ++ l0)) else (none))
end Go.Proofs.YtjloppfdagfpmaaDoor.X
end
section
namespace Go.Proofs.YtjloppfdagfpmaaDoor.X
open Go.RowKit YtjloppfdagfpmaaDoorW.PrintWords YtjloppfdagfpmaaDoorW.PrintLast YtjloppfdagfpmaaDoorW.PrintMore
attribute [local go_sem] max2_int min2_int max_two min_two max_three min_three max_four min_four
/-! ### minor_town_join: function 62 -/
def minor_town_join.f (l0 : List Int) (a1 : Int) (a2 : Int) : Option (List Int) := if 0 ≤ a1 then (if a1 < (l0.length : Int) then (if 0 ≤ a2 then ((some (l0.set (a1 : Int).toNat (Go.bits .or .i64 (rd l0 a1) (shl .i64 1 a2)) : List Int)).bind fun y146 => (if a2 < (l0.length : Int) then (some (y146.set (a2 : Int).toNat (Go.bits .or .i64 (rd y146 a2) (shl .i64 1 a1)))) else (none))) else (none)) else (none)) else (none)
end Go.Proofs.YtjloppfdagfpmaaDoor.X
end
section
namespace Go.Proofs.YtjloppfdagfpmaaDoor.X
open Go.RowKit YtjloppfdagfpmaaDoorW.PrintWords YtjloppfdagfpmaaDoorW.PrintLast YtjloppfdagfpmaaDoorW.PrintMore
attribute [local go_sem] max2_int min2_int max_two min_two max_three min_three max_four min_four
/-! ### minor_Contract: function 36 -/
mutual
def minor_Contract.j0 : Nat → Int → Int → List Int → Bool → Option (List Int × Int)
 | 0, _, _, _, _ => none
 | k + 1, x1, x2, x8, x44 => if x44 = true then (some (([] : List Int), 2)) else ((minor_town_int.f x8).bind fun t313 => (if 0 ≤ x2 then (if x2 < (x8.length : Int) then (if 0 ≤ x1 then ((minor_nodes.f k (Go.bits .andNot .i64 (rd x8 x2) (shl .i64 1 x1))).bind fun t317 => (minor_Contract.l0 k x1 x2 t313 t317 (t317.length : Int) 0)) else (none)) else (none)) else (none)))
def minor_Contract.l0 : Nat → Int → Int → List Int → List Int → Int → Int → Option (List Int × Int)
 | 0, _, _, _, _, _, _ => none
 | k + 1, x1, x2, x10, x54, x55, x56 => if x56 < x55 then (if 0 ≤ x56 then (if x56 < (x54.length : Int) then ((minor_town_join.f x10 x1 (rd x54 x56)).bind fun t321 => (minor_Contract.l0 k x1 x2 t321 x54 x55 (wrap64 (x56 + 1)))) else (none)) else (none)) else ((minor_town_without.f k x10 x2).bind fun t322 => (some (t322, 0)))
end
end Go.Proofs.YtjloppfdagfpmaaDoor.X
end
section
namespace Go.Proofs.YtjloppfdagfpmaaDoor.X
open Go.RowKit YtjloppfdagfpmaaDoorW.PrintWords YtjloppfdagfpmaaDoorW.PrintLast YtjloppfdagfpmaaDoorW.PrintMore
attribute [local go_sem] max2_int min2_int max_two min_two max_three min_three max_four min_four
/-! ### lampblackref07_Delete: function 37 -/
def lampblackref07_Delete.l0 : Nat → Int → List Int → List Int → Int → Int → Option (List Int)
 | 0, _, _, _, _, _ => none
 | k + 1, x1, x5, x8, x9, x10 => if x10 < x9 then (if 0 ≤ x10 then (if x10 < (x8.length : Int) then (if x10 = x1 then (lampblackref07_Delete.l0 k x1 x5 x8 x9 (wrap64 (x10 + 1))) else (if 0 ≤ x1 then (if 0 ≤ (wrap64 (x1 + 1)) then (if x5.length < 17592186044416 then (lampblackref07_Delete.l0 k x1 (x5 ++ [Go.bits .or .i64 (Go.bits .and .i64 (rd x8 x10) (wrap64 ((shl .i64 1 x1) - 1))) (shl .i64 (shr .i64 (rd x8 x10) (wrap64 (x1 + 1))) x1)]) x8 x9 (wrap64 (x10 + 1))) else (none)) else (none)) else (none))) else (none)) else (none)) else (some x5)
def lampblackref07_Delete.f (k : Nat) (l0 : List Int) (a1 : Int) : Option (List Int) := lampblackref07_Delete.l0 k a1 ([] : List Int) l0 (l0.length : Int) 0
end Go.Proofs.YtjloppfdagfpmaaDoor.X
end
section
namespace Go.Proofs.YtjloppfdagfpmaaDoor.X
open Go.RowKit YtjloppfdagfpmaaDoorW.PrintWords YtjloppfdagfpmaaDoorW.PrintLast YtjloppfdagfpmaaDoorW.PrintMore
attribute [local go_sem] max2_int min2_int max_two min_two max_three min_three max_four min_four
/-! ### lampblackref07_Contract: function 38 -/
def lampblackref07_Contract.l0 : Nat → List Int → Int → Int → List Int → Int → Int → Option (List Int)
 | 0, _, _, _, _, _, _ => none
 | k + 1, x0, x1, x2, x7, x13, x14 => if x14 < x13 then (if 0 ≤ x2 then (if x2 < (x0.length : Int) then (if 0 ≤ x14 then (if (Go.bits .and .i64 (shr .i64 (rd x0 x2) x14) 1) = 1 then (if x14 = x1 then (lampblackref07_Contract.l0 k x0 x1 x2 x7 x13 (wrap64 (x14 + 1))) else ((lampblackref07_join.f x7 x1 x14).bind fun t336 => (lampblackref07_Contract.l0 k x0 x1 x2 t336 x13 (wrap64 (x14 + 1))))) else (lampblackref07_Contract.l0 k x0 x1 x2 x7 x13 (wrap64 (x14 + 1)))) else (none)) else (none)) else (none)) else ((lampblackref07_Delete.f k x7 x2).bind fun t337 => (some t337))
end Go.Proofs.YtjloppfdagfpmaaDoor.X
end
section
/- (minor) A node less, and two neighbours made one. -/
namespace Go.Proofs.YtjloppfdagfpmaaDoor.X
open Go.RowKit YtjloppfdagfpmaaDoorW.PrintWords YtjloppfdagfpmaaDoorW.PrintLast YtjloppfdagfpmaaDoorW.PrintMore YtjloppfdagfpmaaDoor.T
theorem read_yesE (G : List Nat) (hG : Gr 8 G) : Ev (fun k => minor_read.f k (gi G) 8) (gi G, true) := by
 have := read_ev 8 (by omega) (gi G) (by rw [gi_length]; have := hG.most; omega)
 rw [(chk_iff 8 (by omega) _).2 ⟨G, rfl, hG⟩] at this
 exact this
theorem read_noE (g : List Int) (hl : g.length < 2 ^ 60) (h : chk 8 g = false) : Ev (fun k => minor_read.f k g 8) (([] : List Int), false) := by
 have := read_ev 8 (by omega) g hl
 rw [h] at this
 exact this
end Go.Proofs.YtjloppfdagfpmaaDoor.X
end
section
/- (minor) Check in plain words: what it accepts are the models; a beginning of any length; a node less and two nodes made one keep a graph a graph. -/
namespace Go.Proofs.YtjloppfdagfpmaaDoor.X
open Go.RowKit YtjloppfdagfpmaaDoorW.PrintWords YtjloppfdagfpmaaDoorW.PrintLast YtjloppfdagfpmaaDoorW.PrintMore YtjloppfdagfpmaaDoor.T
theorem list_eq (l : List Int) (hl : l.length < 2 ^ 44) : lampblacklaw07_list.f l = some (l.take 12) := by
 have hm : mn (l.length : Int) 12 = ((min l.length 12 : Nat) : Int) := mn_nat l.length 12
 unfold lampblacklaw07_list.f slices_Clone_int_int.f
 simp only [hm, Int.toNat_natCast]
 rw [if_pos (by omega), if_pos (by omega)]
 simp only [Option.bind_some, List.length_nil, List.nil_append]
 rw [if_pos (by rw [List.length_take]; omega), Option.bind_some]
 congr 1
 by_cases h : l.length ≤ 12
 ·rw [Nat.min_eq_left h, List.take_length, List.take_of_length_le h]
 ·rw [Nat.min_eq_right (by omega)]
/-! Graphs stay graphs. -/
end Go.Proofs.YtjloppfdagfpmaaDoor.X
end
section
/- Lists that have the numbers below n, each once. -/
namespace Go.Proofs.YtjloppfdagfpmaaDoor.T
open Go.RowKit YtjloppfdagfpmaaDoorW.PrintWords YtjloppfdagfpmaaDoorW.PrintLast YtjloppfdagfpmaaDoorW.PrintMore
def IsOrd (n : Nat) (l : List Int) : Prop := ∃ P : List Nat, l = gi P ∧ P.Nodup ∧ (∀ v ∈ P, v < n) ∧ P.length = n
theorem gi_inj {a b : List Nat} (h : gi a = gi b) : a = b := by
 induction a generalizing b with
 | nil => cases b with
  | nil => rfl
  | cons => simp [gi] at h
 | cons x a ih => cases b with
  | nil => simp [gi] at h
  | cons y b =>
   simp only [gi, List.map_cons, List.cons.injEq] at h
   rw [ih (show gi a = gi b from h.2)]
   congr 1
   omega
theorem gi_take (P : List Nat) (i : Nat) : (gi P).take i = gi (P.take i) := by simp [gi, List.map_take]
theorem gi_snoc (P : List Nat) (v : Nat) : gi P ++ [(v : Int)] = gi (P ++ [v]) := by simp [gi]
theorem covers_of_nodup {P : List Nat} {n : Nat} (hl : P.length = n) (hn : P.Nodup) (h : ∀ v ∈ P, v < n) (j : Nat) (hj : j < n) : j ∈ P := by
 apply Classical.byContradiction
 intro hno
 have := nodup_le (List.nodup_cons.2 ⟨hno, hn⟩) (m := List.range n) fun x hx => by
  rcases List.mem_cons.1 hx with e | e
  ·subst e; exact List.mem_range.2 hj
  ·exact List.mem_range.2 (h x e)
 simp at this
 omega
def lset : List Nat → Nat
 | [] => 0
 | v :: P => lset P ||| 2 ^ v
theorem lset_bit (P : List Nat) (j : Nat) : bset (lset P) j ↔ j ∈ P := by
 induction P with
 | nil => simp [lset, bset]
 | cons v P ih => rw [lset, or_bset, ih, two_pow_bit, List.mem_cons]; exact Or.comm
theorem lset_lt {P : List Nat} {n : Nat} (h : ∀ v ∈ P, v < n) : lset P < 2 ^ n := lt_of_bits fun j hj => h j ((lset_bit P j).1 hj)
theorem lset_snoc (P : List Nat) (v : Nat) : lset (P ++ [v]) = lset P ||| 2 ^ v := eq_of_bits fun j => by
 show bset _ _ ↔ bset _ _
 rw [lset_bit, or_bset, lset_bit, two_pow_bit, List.mem_append, List.mem_singleton]
theorem take_snoc {l : List Int} {i : Nat} {P : List Nat} (h : l.take i = gi P) (hi : i < l.length) (v : Nat) (hv : rd l (i : Int) = (v : Int)) : l.take (i + 1) = gi (P ++ [v]) := by
 rw [List.take_add_one, h, ← gi_snoc]
 congr 1
 unfold rd at hv
 rw [Int.toNat_natCast, List.getD_eq_getElem?_getD, List.getElem?_eq_getElem hi] at hv
 rw [List.getElem?_eq_getElem hi]
 simp at hv ⊢
 exact hv
theorem IsOrd.get {n : Nat} {l : List Int} (h : IsOrd n l) (i : Nat) (hi : i < l.length) : ∃ v : Nat, rd l (i : Int) = (v : Int) ∧ v < n := by
 obtain ⟨P, rfl, _, h3, _⟩ := h
 rw [gi_length] at hi
 refine ⟨P.getD i 0, rd_gi P i, h3 _ ?_⟩
 rw [List.getD_eq_getElem?_getD, List.getElem?_eq_getElem hi]
 exact List.getElem_mem hi
theorem IsOrd.fresh {n : Nat} {l : List Int} (h : IsOrd n l) {i : Nat} (hi : i < l.length) {P : List Nat} (hP : l.take i = gi P) {v : Nat} (hv : rd l (i : Int) = (v : Int)) : v ∉ P := by
 obtain ⟨Q, rfl, h2, _, _⟩ := h
 have e : P = Q.take i := gi_inj (by rw [← hP, gi_take])
 rw [gi_length] at hi
 have hv' : Q.getD i 0 = v := by have := rd_gi Q i; rw [hv] at this; omega
 rw [List.getD_eq_getElem?_getD, List.getElem?_eq_getElem hi] at hv'
 have hv2 : Q[i] = v := hv'
 subst e
 intro hm
 rw [← List.take_append_drop i Q, List.nodup_append] at h2
 have hd : v ∈ Q.drop i := by rw [List.drop_eq_getElem_cons hi, hv2]; exact List.mem_cons_self
 exact h2.2.2 v hm v hd rfl
theorem IsOrd.of {n : Nat} {P : List Nat} (h1 : P.Nodup) (h2 : ∀ v ∈ P, v < n) : IsOrd n (gi P) ↔ P.length = n := by
 constructor
 ·rintro ⟨Q, e, _, _, h⟩
  rw [gi_inj e]; exact h
 ·intro h; exact ⟨P, rfl, h1, h2, h⟩
theorem IsOrd.length {n : Nat} {l : List Int} (h : IsOrd n l) : l.length = n := by
 obtain ⟨P, rfl, _, _, h⟩ := h
 rw [gi_length, h]
end Go.Proofs.YtjloppfdagfpmaaDoor.T
end
section
/- (minor) IsOrder, IsOuter and CheckOuter: what they compute; the reference's search is the program's. -/
namespace Go.Proofs.YtjloppfdagfpmaaDoor.X
open Go.RowKit YtjloppfdagfpmaaDoorW.PrintWords YtjloppfdagfpmaaDoorW.PrintLast YtjloppfdagfpmaaDoorW.PrintMore YtjloppfdagfpmaaDoor.T
theorem bit_bset (a i : Nat) (ha : a < 2 ^ 62) (hi : i < 62) : Go.bits .and .i64 (shr .i64 (a : Int) (i : Int)) 1 = 1 ↔ bset a i := bit_one a i ha hi
theorem isOrder_l0 (l : List Int) (n : Nat) (hn : n ≤ 9) (hl : l.length < 2 ^ 60) : ∀ (d i : Nat) (P : List Nat), i + d = l.length → l.take i = gi P → P.Nodup → (∀ v ∈ P, v < n) →
  ∃ r, Ev (fun k => lampblackref02_IsOrder.l0 k l (n : Int) ((lset P : Nat) : Int) l (l.length : Int) (i : Int)) r ∧ (r = true ↔ IsOrd n l) := by
 intro d
 induction d with
 | zero =>
  intro i P hi hP h1 h2
  have e : l = gi P := by rw [← hP, List.take_of_length_le (by omega)]
  refine ⟨((l.length : Int) == (n : Int)), Ev.step (f := fun _ => some ((l.length : Int) == (n : Int))) (fun k => by rw [lampblackref02_IsOrder.l0, if_neg (by omega)]) (Ev.some rfl), ?_⟩
  rw [e, IsOrd.of h1 h2, gi_length, beq_iff_eq]
  omega
 | succ d ih =>
  intro i P hi hP h1 h2
  have hil : i < l.length := by omega
  have hP62 : lset P < 2 ^ 62 := Nat.lt_of_lt_of_le (lset_lt h2) (Nat.pow_le_pow_right (by omega) (by omega))
  by_cases h3 : rd l (i : Int) < 0
  ·refine ⟨false, Ev.step (f := fun _ => some false) (fun k => by rw [lampblackref02_IsOrder.l0, if_pos (by omega), if_pos (by omega), if_pos (by omega), if_pos h3]) (Ev.some rfl), ?_⟩
   simp only [Bool.false_eq_true, false_iff]
   intro h
   obtain ⟨v, hv, _⟩ := h.get i hil
   omega
  ·by_cases h4 : rd l (i : Int) ≥ (n : Int)
   ·refine ⟨false, Ev.step (f := fun _ => some false) (fun k => by rw [lampblackref02_IsOrder.l0, if_pos (by omega), if_pos (by omega), if_pos (by omega), if_neg h3, if_pos h4]) (Ev.some rfl), ?_⟩
    simp only [Bool.false_eq_true, false_iff]
    intro h
    obtain ⟨v, hv, hv2⟩ := h.get i hil
    omega
   ·obtain ⟨v, hv⟩ : ∃ v : Nat, rd l (i : Int) = (v : Int) := ⟨(rd l (i : Int)).toNat, by omega⟩
    have hvn : v < n := by omega
    by_cases h5 : v ∈ P
    ·refine ⟨false, Ev.step (f := fun _ => some false) (fun k => ?_) (Ev.some rfl), ?_⟩
     ·rw [lampblackref02_IsOrder.l0, if_pos (by omega), if_pos (by omega), if_pos (by omega), if_neg h3, if_neg h4, if_pos (by omega), hv, if_pos ((bit_bset _ _ hP62 (by omega)).2 ((lset_bit P v).2 h5))]
     ·simp only [Bool.false_eq_true, false_iff]
      intro h
      exact h.fresh hil hP hv h5
    ·have hb : ¬ Go.bits .and .i64 (shr .i64 ((lset P : Nat) : Int) (v : Int)) 1 = 1 := fun h => h5 ((lset_bit P v).1 ((bit_bset _ _ hP62 (by omega)).1 h))
     obtain ⟨r, h6, h7⟩ := ih (i + 1) (P ++ [v]) (by omega) (take_snoc hP hil v hv) (List.nodup_append.2 ⟨h1, by simp, by simp; intro a ha; exact fun e => h5 (e ▸ ha)⟩) (by
      intro x hx
      rcases List.mem_append.1 hx with h | h
      ·exact h2 x h
      ·rw [List.mem_singleton.1 h]; exact hvn)
     refine ⟨r, Ev.step (fun k => ?_) h6, h7⟩
     have e2 : 2 ^ v < 2 ^ 62 := Nat.pow_lt_pow_right (by omega) (by omega)
     rw [lampblackref02_IsOrder.l0, if_pos (by omega), if_pos (by omega), if_pos (by omega), if_neg h3, if_neg h4, if_pos (by omega), hv, if_neg hb, s_one v (by omega), b_or _ _ hP62 e2, wrap_succ i (by omega), lset_snoc]
theorem isOrder_ev (l : List Int) (n : Nat) (hn : n ≤ 9) (hl : l.length < 2 ^ 60) : ∃ r, Ev (fun k => lampblackref02_IsOrder.f k l (n : Int)) r ∧ (r = true ↔ IsOrd n l) :=
 isOrder_l0 l n hn hl l.length 0 [] (by omega) (by simp [gi]) List.nodup_nil (by simp)
def IsOut (G : List Nat) (l : List Int) : Prop := ∃ P : List Nat, l = gi P ∧ P.Nodup ∧ (∀ v ∈ P, v < G.length) ∧ P.length = G.length ∧ ∀ m, m < P.length → ¬ CrossAt G P m
theorem cr_take {G P : List Nat} {t i j : Nat} (hi : i < t) (hj : j < t) : cr G (P.take t) i j = cr G P i j := by
 unfold cr
 simp only [List.getD_eq_getElem?_getD, List.getElem?_take_of_lt hi, List.getElem?_take_of_lt hj]
theorem cross_take {G P : List Nat} {t m : Nat} (hm : m < t) : CrossAt G (P.take t) m ↔ CrossAt G P m := by
 constructor
 ·rintro ⟨i, j, k, h1, h2, h3, h4, h5⟩
  exact ⟨i, j, k, h1, h2, h3, by rwa [cr_take (by omega) (by omega)] at h4, by rwa [cr_take (by omega) (by omega)] at h5⟩
 ·rintro ⟨i, j, k, h1, h2, h3, h4, h5⟩
  exact ⟨i, j, k, h1, h2, h3, by rwa [cr_take (by omega) (by omega)], by rwa [cr_take (by omega) (by omega)]⟩
theorem cross_snoc {G P : List Nat} {v m : Nat} (hm : m < P.length) : CrossAt G (P ++ [v]) m ↔ CrossAt G P m := by
 rw [← cross_take (P := P ++ [v]) (t := P.length) hm, List.take_left]
section
variable {G l : List Nat} (hn : G.length ≤ 9) (hG : ∀ x ∈ G, x < 512) (hl : ∀ x ∈ l, x < G.length) (hll : l.length ≤ 1000)
include hn hG hl hll
theorem isOuter_l3 (m : Nat) (hm : m < l.length) (k j : Nat) (hkm : k < m) (hjk : j < k) (X : Bool)
  (hyes : (∃ i, i < j ∧ cr G l i k = true ∧ cr G l j m = true) → X = false)
  (hno : (∀ i, i < j → cr G l i k = true → cr G l j m = false) → Ev (fun n => lampblackref07_IsOuter.l2 n (gi G) (gi l) (m : Int) (k : Int) (l.length : Int) (m : Int) (m : Int) (k : Int) (k : Int) ((j + 1 : Nat) : Int)) X) :
  ∀ d i, i + d = j → (∀ i', i' < i → cr G l i' k = true → cr G l j m = false) → Ev (fun n => lampblackref07_IsOuter.l3 n (gi G) (gi l) (m : Int) (k : Int) (j : Int) (l.length : Int) (m : Int) (m : Int) (k : Int) (k : Int) (j : Int) (j : Int) (i : Int)) X := by
 intro d
 induction d with
 | zero =>
  intro i hi hbe
  exact Ev.step (fun n => by rw [lampblackref07_IsOuter.l3, if_neg (by omega), wrap_succ j (by omega)]) (hno fun i' h1 => hbe i' (by omega))
 | succ d ih =>
  intro i hi hbe
  have hi1 := rd_in hl (show i < l.length by omega)
  have hk1 := rd_in hl (show k < l.length by omega)
  have hj1 := rd_in hl (show j < l.length by omega)
  have hm1 := rd_in hl hm
  have hb := cr_int hn hG hl (show i < l.length by omega) (show k < l.length by omega)
  have hb2 := cr_int hn hG hl (show j < l.length by omega) hm
  have hgl := gi_length l
  have next : (cr G l i k = true → cr G l j m = false) → Ev (fun n => lampblackref07_IsOuter.l3 n (gi G) (gi l) (m : Int) (k : Int) (j : Int) (l.length : Int) (m : Int) (m : Int) (k : Int) (k : Int) (j : Int) (j : Int) ((i + 1 : Nat) : Int)) X := fun h => ih (i + 1) (by omega) fun i' h1 h2 => by
   by_cases e : i' = i
   ·subst e; exact h h2
   ·exact hbe i' (by omega) h2
  by_cases h : cr G l i k = true
  ·by_cases h2 : cr G l j m = true
   ·rw [hyes ⟨i, by omega, h, h2⟩]
    refine Ev.step (f := fun _ => some false) (fun n => ?_) (Ev.some rfl)
    rw [lampblackref07_IsOuter.l3, if_pos (by omega), if_pos (by omega), if_pos (by omega), if_pos hi1.1, if_pos hi1.2, if_pos (by omega), if_pos (by omega), if_pos hk1.1, if_pos (hb.1.2 h), if_pos (by omega), if_pos (by omega), if_pos hj1.1, if_pos hj1.2, if_pos (by omega), if_pos (by omega), if_pos hm1.1, if_pos (hb2.1.2 h2)]
   ·refine Ev.step (fun n => ?_) (next fun _ => by simpa using h2)
    rw [lampblackref07_IsOuter.l3, if_pos (by omega), if_pos (by omega), if_pos (by omega), if_pos hi1.1, if_pos hi1.2, if_pos (by omega), if_pos (by omega), if_pos hk1.1, if_pos (hb.1.2 h), if_pos (by omega), if_pos (by omega), if_pos hj1.1, if_pos hj1.2, if_pos (by omega), if_pos (by omega), if_pos hm1.1, if_neg (fun e => h2 (hb2.1.1 e)), wrap_succ i (by omega)]
  ·refine Ev.step (fun n => ?_) (next fun e => absurd e h)
   rw [lampblackref07_IsOuter.l3, if_pos (by omega), if_pos (by omega), if_pos (by omega), if_pos hi1.1, if_pos hi1.2, if_pos (by omega), if_pos (by omega), if_pos hk1.1, if_neg (fun e => h (hb.1.1 e)), wrap_succ i (by omega)]
theorem isOuter_l2 (m : Nat) (hm : m < l.length) (k : Nat) (hkm : k < m) (X : Bool)
  (hyes : (∃ i j, i < j ∧ j < k ∧ cr G l i k = true ∧ cr G l j m = true) → X = false)
  (hno : (∀ i j, i < j → j < k → cr G l i k = true → cr G l j m = false) → Ev (fun n => lampblackref07_IsOuter.l1 n (gi G) (gi l) (m : Int) (l.length : Int) (m : Int) (m : Int) ((k + 1 : Nat) : Int)) X) :
  ∀ d j, j + d = k → (∀ i' j', i' < j' → j' < j → cr G l i' k = true → cr G l j' m = false) → Ev (fun n => lampblackref07_IsOuter.l2 n (gi G) (gi l) (m : Int) (k : Int) (l.length : Int) (m : Int) (m : Int) (k : Int) (k : Int) (j : Int)) X := by
 intro d
 induction d with
 | zero =>
  intro j hj hbe
  exact Ev.step (fun n => by rw [lampblackref07_IsOuter.l2, if_neg (by omega), wrap_succ k (by omega)]) (hno fun i' j' h1 h2 => hbe i' j' h1 (by omega))
 | succ d ih =>
  intro j hj hbe
  refine Ev.step (fun n => by rw [lampblackref07_IsOuter.l2, if_pos (by omega)]) ?_
  refine isOuter_l3 hn hG hl hll m hm k j hkm (by omega) X (fun ⟨i, h1, h2, h3⟩ => hyes ⟨i, j, h1, by omega, h2, h3⟩) (fun hf => ih (j + 1) (by omega) fun i' j' h1 h2 h3 => ?_) j 0 (by omega) (fun _ h => by omega)
  by_cases e : j' = j
  ·subst e; exact hf i' h1 h3
  ·exact hbe i' j' h1 (by omega) h3
theorem isOuter_l1 (m : Nat) (hm : m < l.length) (X : Bool) (hyes : CrossAt G l m → X = false)
  (hno : ¬ CrossAt G l m → Ev (fun n => lampblackref07_IsOuter.l0 n (gi G) (gi l) (l.length : Int) ((m + 1 : Nat) : Int)) X) :
  ∀ d k, k + d = m → (∀ i' j' k', i' < j' → j' < k' → k' < k → cr G l i' k' = true → cr G l j' m = false) → Ev (fun n => lampblackref07_IsOuter.l1 n (gi G) (gi l) (m : Int) (l.length : Int) (m : Int) (m : Int) (k : Int)) X := by
 intro d
 induction d with
 | zero =>
  intro k hk hbe
  exact Ev.step (fun n => by rw [lampblackref07_IsOuter.l1, if_neg (by omega), wrap_succ m (by omega)]) (hno fun ⟨i, j, k', h1, h2, h3, h4, h5⟩ => by rw [hbe i j k' h1 h2 (by omega) h4] at h5; cases h5)
 | succ d ih =>
  intro k hk hbe
  refine Ev.step (fun n => by rw [lampblackref07_IsOuter.l1, if_pos (by omega)]) ?_
  refine isOuter_l2 hn hG hl hll m hm k (by omega) X (fun ⟨i, j, h1, h2, h3, h4⟩ => hyes ⟨i, j, k, h1, h2, by omega, h3, h4⟩) (fun hf => ih (k + 1) (by omega) fun i' j' k' h1 h2 h3 h4 => ?_) k 0 (by omega) (fun _ _ _ h => by omega)
  by_cases e : k' = k
  ·subst e; exact hf i' j' h1 h2 h4
  ·exact hbe i' j' k' h1 h2 (by omega) h4
theorem isOuter_l0 : ∀ d m, m + d = l.length → (∀ m', m' < m → ¬ CrossAt G l m') → ∃ r, Ev (fun n => lampblackref07_IsOuter.l0 n (gi G) (gi l) (l.length : Int) (m : Int)) r ∧ (r = true ↔ ∀ m', m' < l.length → ¬ CrossAt G l m') := by
 intro d
 induction d with
 | zero =>
  intro m hm hbe
  exact ⟨true, Ev.step (f := fun _ => some true) (fun n => by rw [lampblackref07_IsOuter.l0, if_neg (by omega)]) (Ev.some rfl), ⟨fun _ m' h => hbe m' (by omega), fun _ => rfl⟩⟩
 | succ d ih =>
  intro m hm hbe
  by_cases hc : CrossAt G l m
  ·refine ⟨false, Ev.step (fun n => by rw [lampblackref07_IsOuter.l0, if_pos (by omega)]; rfl) (isOuter_l1 hn hG hl hll m (by omega) false (fun _ => rfl) (fun h => absurd hc h) m 0 (by omega) (fun _ _ _ _ _ h => by omega)), ⟨fun h => (by cases h), fun h => absurd hc (h m (by omega))⟩⟩
  ·obtain ⟨r, h1, h2⟩ := ih (m + 1) (by omega) fun m' h => by
    by_cases e : m' = m
    ·subst e; exact hc
    ·exact hbe m' (by omega)
   exact ⟨r, Ev.step (fun n => by rw [lampblackref07_IsOuter.l0, if_pos (by omega)]; rfl) (isOuter_l1 hn hG hl hll m (by omega) r (fun h => absurd h hc) (fun _ => h1) m 0 (by omega) (fun _ _ _ _ _ h => by omega)), h2⟩
end
theorem rows_small {G : List Nat} (hG : Gr 9 G) : ∀ x ∈ G, x < 512 := fun x hx => by
 obtain ⟨i, hi, rfl⟩ := List.mem_iff_getElem.1 hx
 have := hG.lt i hi
 rw [List.getD_eq_getElem?_getD, List.getElem?_eq_getElem hi] at this
 exact small G hG.most this
theorem isOuter_ev {G : List Nat} (hG : Gr 9 G) (l : List Int) (hl : l.length < 2 ^ 60) : ∃ r, Ev (fun k => lampblackref07_IsOuter.f k (gi G) l) r ∧ (r = true ↔ IsOut G l) := by
 obtain ⟨r, h1, h2⟩ := isOrder_ev l G.length hG.most hl
 unfold lampblackref07_IsOuter.f
 rw [gi_length]
 cases r with
 | false =>
  refine ⟨false, Ev.bind h1 (Ev.if_neg (by simp) (Ev.some rfl)), ⟨fun h => (by cases h), fun ⟨P, h3, h4, h5, h6, _⟩ => ?_⟩⟩
  exact absurd (h2.2 ⟨P, h3, h4, h5, h6⟩) (by simp)
 | true =>
  obtain ⟨P, rfl, h4, h5, h6⟩ := h2.1 rfl
  obtain ⟨r, h7, h8⟩ := isOuter_l0 hG.most (rows_small hG) h5 (by have := hG.most; omega) P.length 0 (by omega) (fun _ h => by omega)
  refine ⟨r, Ev.bind h1 (Ev.if_pos rfl (by rw [gi_length]; exact h7)), ?_⟩
  rw [h8]
  constructor
  ·intro h; exact ⟨P, rfl, h4, h5, h6, h⟩
  ·rintro ⟨Q, e, _, _, _, h⟩
   obtain rfl : P = Q := by
    have := congrArg (List.map Int.toNat) e
    rwa [gi_toNat, gi_toNat] at this
   exact h
theorem lset_full {P : List Nat} {n : Nat} (h1 : P.Nodup) (h2 : ∀ v ∈ P, v < n) : lset P = 2 ^ n - 1 ↔ P.length = n := by
 constructor
 ·intro h
  apply Nat.le_antisymm
  ·have := nodup_le h1 (m := List.range n) fun x hx => List.mem_range.2 (h2 x hx)
   simpa using this
  ·have := nodup_le (List.nodup_range (n := n)) (m := P) fun x hx => (lset_bit P x).1 (by rw [h]; exact (all_bit n x).2 (List.mem_range.1 hx))
   simpa using this
 ·intro h
  refine eq_of_bits fun j => ?_
  show bset _ _ ↔ bset _ _
  rw [lset_bit]
  have := all_bit n j
  constructor
  ·intro hj; exact this.2 (h2 j hj)
  ·intro hj; exact covers_of_nodup h h1 h2 j (this.1 hj)
theorem checkOuter_l0 {G : List Nat} (hG : Gr 8 G) (l : List Int) (hl : l.length ≤ 1000) : ∀ (d i : Nat) (P : List Nat), i + d = l.length → l.take i = gi P → P.Nodup → (∀ v ∈ P, v < G.length) → (∀ m, m < P.length → ¬ CrossAt G P m) →
  ∃ r, Ev (fun k => minor_CheckOuter.l0 k l (gi G) ((lset P : Nat) : Int) l (l.length : Int) (i : Int)) (r, 0) ∧ (r = true ↔ IsOut G l) := by
 have hn := hG.most
 intro d
 induction d with
 | zero =>
  intro i P hi hP h1 h2 h3
  have e : l = gi P := by rw [← hP, List.take_of_length_le (by omega)]
  refine ⟨((lset P : Nat) : Int) == ((2 ^ G.length - 1 : Nat) : Int), Ev.step (fun k => by rw [minor_CheckOuter.l0, if_neg (by omega)]) (Ev.bind1 (all_eq G (by omega)) (Ev.some rfl)), ?_⟩
  rw [beq_iff_eq]
  constructor
  ·intro h
   exact ⟨P, e, h1, h2, (lset_full h1 h2).1 (by omega), h3⟩
  ·rintro ⟨Q, e2, _, _, h5, _⟩
   obtain rfl : P = Q := by
    have := congrArg (List.map Int.toNat) (e.symm.trans e2)
    rwa [gi_toNat, gi_toNat] at this
   rw [(lset_full h1 h2).2 h5]
 | succ d ih =>
  intro i P hi hP h1 h2 h3
  have hil : i < l.length := by omega
  have hPl : P.length = i := by
   have := congrArg List.length hP
   rw [gi_length, List.length_take] at this
   omega
  have hP62 : lset P < 2 ^ 62 := Nat.lt_of_lt_of_le (lset_lt h2) (Nat.pow_le_pow_right (by omega) (by omega))
  have hgl := gi_length G
  have noOrd : (¬ ∃ P, l = gi P ∧ P.Nodup ∧ (∀ v ∈ P, v < G.length) ∧ P.length = G.length) → ¬ IsOut G l := fun h ⟨P, a, b, c, d, _⟩ => h ⟨P, a, b, c, d⟩
  by_cases h3' : rd l (i : Int) < 0
  ·refine ⟨false, Ev.step (f := fun _ => some (false, (0 : Int))) (fun k => by rw [minor_CheckOuter.l0, if_pos (by omega), if_pos (by omega), if_pos (by omega), if_pos h3']) (Ev.some rfl), ?_⟩
   simp only [Bool.false_eq_true, false_iff]
   refine noOrd fun h => ?_
   obtain ⟨v, hv, _⟩ := IsOrd.get h i hil
   omega
  ·by_cases h4 : rd l (i : Int) ≥ (G.length : Int)
   ·refine ⟨false, Ev.step (f := fun _ => some (false, (0 : Int))) (fun k => by rw [minor_CheckOuter.l0, if_pos (by omega), if_pos (by omega), if_pos (by omega), if_neg h3', if_pos (by omega)]) (Ev.some rfl), ?_⟩
    simp only [Bool.false_eq_true, false_iff]
    refine noOrd fun h => ?_
    obtain ⟨v, hv, hv2⟩ := IsOrd.get h i hil
    omega
   ·obtain ⟨v, hv⟩ : ∃ v : Nat, rd l (i : Int) = (v : Int) := ⟨(rd l (i : Int)).toNat, by omega⟩
    have hvn : v < G.length := by omega
    by_cases h5 : v ∈ P
    ·refine ⟨false, Ev.step (f := fun _ => some (false, (0 : Int))) (fun k => ?_) (Ev.some rfl), ?_⟩
     ·rw [minor_CheckOuter.l0, if_pos (by omega), if_pos (by omega), if_pos (by omega), if_neg h3', if_neg (by omega), if_pos (by omega), hv, if_pos ((bit_bset _ _ hP62 (by omega)).2 ((lset_bit P v).2 h5))]
     ·simp only [Bool.false_eq_true, false_iff]
      refine noOrd fun h => ?_
      exact IsOrd.fresh h hil hP hv h5
    ·have hb : ¬ Go.bits .and .i64 (shr .i64 ((lset P : Nat) : Int) (v : Int)) 1 = 1 := fun h => h5 ((lset_bit P v).1 ((bit_bset _ _ hP62 (by omega)).1 h))
     have ht := take_snoc hP hil v hv
     have hnd : (P ++ [v]).Nodup := List.nodup_append.2 ⟨h1, by simp, by simp; intro a ha; exact fun e => h5 (e ▸ ha)⟩
     have hin : ∀ x ∈ P ++ [v], x < G.length := fun x hx => by
      rcases List.mem_append.1 hx with h | h
      ·exact h2 x h
      ·rw [List.mem_singleton.1 h]; exact hvn
     have hcr := crosses_ev (G := G) (l := P ++ [v]) (by omega) (rows_small (gr_mono hG (by omega))) hin (by simp; omega) (by simp)
     have e1 : wrap64 ((i : Int) + 1) = ((i + 1 : Nat) : Int) := wrap_succ i (by omega)
     have e2 : 2 ^ v < 2 ^ 62 := Nat.pow_lt_pow_right (by omega) (by omega)
     have head : ∀ k, minor_CheckOuter.l0 (k + 1) l (gi G) ((lset P : Nat) : Int) l (l.length : Int) (i : Int) = (minor_town_crosses.f k (gi G) (gi (P ++ [v]))).bind fun t => if t = true then some (false, 0) else minor_CheckOuter.l0 k l (gi G) ((lset (P ++ [v]) : Nat) : Int) l (l.length : Int) ((i + 1 : Nat) : Int) := fun k => by
      rw [minor_CheckOuter.l0, if_pos (by omega), if_pos (by omega), if_pos (by omega), if_neg h3', if_neg (by omega), if_pos (by omega), hv, if_neg hb, e1, if_pos (by omega), if_pos (by omega), Int.toNat_natCast, ht, s_one v (by omega), b_or _ _ hP62 e2, lset_snoc]
     cases hc : crossB G (P ++ [v])
     ·rw [hc] at hcr
      obtain ⟨r, h6, h7⟩ := ih (i + 1) (P ++ [v]) (by omega) ht hnd hin fun m hm hx => by
       by_cases e : m < P.length
       ·exact h3 m e ((cross_snoc e).1 hx)
       ·have : crossB G (P ++ [v]) = true := (crossB_iff _ _).2 (by rw [List.length_append, List.length_singleton]; simp at hm; rw [show P.length + 1 - 1 = m by omega]; exact hx)
        rw [hc] at this; cases this
      exact ⟨r, Ev.step head (Ev.bind hcr (Ev.if_neg (by simp) h6)), h7⟩
     ·rw [hc] at hcr
      refine ⟨false, Ev.step head (Ev.bind hcr (Ev.if_pos rfl (Ev.some rfl))), ?_⟩
      simp only [Bool.false_eq_true, false_iff]
      rintro ⟨Q, rfl, q1, q2, q3, q4⟩
      have hx := (crossB_iff _ _).1 hc
      rw [List.length_append, List.length_singleton, show P.length + 1 - 1 = i by omega] at hx
      have hpq : P ++ [v] = Q.take (i + 1) := by
       rw [gi_take] at ht
       have := congrArg (List.map Int.toNat) ht
       rw [gi_toNat, gi_toNat] at this
       exact this.symm
      rw [hpq, cross_take (by omega)] at hx
      exact q4 i (by rw [gi_length] at hil; exact hil) hx
theorem CheckOuter_ev {G : List Nat} (hG : Gr 8 G) (l : List Int) (hl : l.length ≤ 1000) : ∃ r, Ev (fun k => minor_CheckOuter.f k (gi G) l) (r, 0) ∧ (r = true ↔ IsOut G l) := by
 obtain ⟨r, h1, h2⟩ := checkOuter_l0 hG l hl l.length 0 [] (by omega) (by simp [gi]) List.nodup_nil (by simp) (fun _ h => by simp at h)
 refine ⟨r, ?_, h2⟩
 unfold minor_CheckOuter.f
 exact Ev.bind (read_yesE G hG) (Ev.if_pos rfl h1)
theorem CheckOuter_bad (g l : List Int) (hl : g.length < 2 ^ 60) (h : chk 8 g = false) : Ev (fun k => minor_CheckOuter.f k g l) (false, 2) := by
 unfold minor_CheckOuter.f
 exact Ev.bind (read_noE g hl h) (Ev.if_neg (by simp) (Ev.some rfl))
/-! The reference's search is the program's. -/
theorem findSome_filterO {α β : Type} (p : α → Bool) (f : α → Option β) : ∀ l : List α, (l.filter p).findSome? f = l.findSome? fun v => if p v = true then f v else none
 | [] => rfl
 | a :: l => by
  cases h : p a
  ·rw [List.filter_cons_of_neg (by simp [h]), List.findSome?_cons, h, findSome_filterO p f l]
   rfl
  ·rw [List.filter_cons_of_pos h, List.findSome?_cons, List.findSome?_cons, h, findSome_filterO p f l]
   rfl
theorem findSome_congrO {α β : Type} {f g : α → Option β} : ∀ {l : List α}, (∀ v ∈ l, f v = g v) → l.findSome? f = l.findSome? g
 | [], _ => rfl
 | a :: l, h => by
  rw [List.findSome?_cons, List.findSome?_cons, h a List.mem_cons_self, findSome_congrO fun v hv => h v (List.mem_cons_of_mem _ hv)]
theorem els_nine {q n : Nat} (h : q < 2 ^ n) (hn : n ≤ 9) : els q 9 = els q n := by
 have : ∀ d, els q (n + d) = els q n := by
  intro d
  induction d with
  | zero => rfl
  | succ d ih =>
   have hb : q.testBit (n + d) = false := Nat.testBit_lt_two_pow (Nat.lt_of_lt_of_le h (Nat.pow_le_pow_right (by omega) (by omega)))
   rw [← ih]
   unfold els
   rw [show n + (d + 1) = n + d + 1 by omega, List.range_succ, List.filter_append]
   simp [hb]
 have := this (9 - n)
 rwa [show n + (9 - n) = 9 by omega] at this
theorem rO_out {G : List Nat} (hn : G.length ≤ 9) : ∀ (d : Nat) (M : List Nat) (left : Nat), left < 2 ^ G.length → (∀ v, v < G.length → (left.testBit v = true ↔ v ∉ M)) → rO G d M = if crossB G M = true then none else outN G d M left
 | 0, M, left, _, _ => by rw [rO, outN]
 | d + 1, M, left, hl, hM => by
  rw [rO, outN]
  congr 1
  rw [els_nine hl hn]
  unfold els
  rw [findSome_filterO]
  refine findSome_congrO fun v hv => ?_
  have hvn := List.mem_range.1 hv
  by_cases hb : left.testBit v = true
  ·have hvM := (hM v hvn).1 hb
   rw [if_neg (by rw [List.contains_iff_mem]; exact hvM), if_pos hb]
   refine rO_out hn d (M ++ [v]) (diff left (2 ^ v)) (Nat.lt_of_le_of_lt (diff_le _ _) hl) fun u hu => ?_
   have := diff_bset left (2 ^ v) u
   unfold bset at this
   rw [this, hM u hu, List.mem_append, List.mem_singleton]
   have h2 := two_pow_bit v u
   unfold bset at h2
   rw [h2]
   exact ⟨fun ⟨a, b⟩ c => c.elim a b, fun h => ⟨fun a => h (.inl a), fun b => h (.inr b)⟩⟩
  ·have hvM : v ∈ M := Classical.byContradiction fun h => hb ((hM v hvn).2 h)
   rw [if_pos (by rw [List.contains_iff_mem]; exact hvM), if_neg hb]
theorem pc_all : ∀ i : Fin 10, pc (2 ^ i.val - 1) 9 = i.val := by decide
theorem refOut_eq {m : Nat} {G : List Nat} (hG : Gr m G) (hm : m ≤ 9) : rO G G.length [] = outF G (2 ^ G.length - 1) := by
 have hn := hG.most
 have h0 : crossB G [] = false := by
  cases h : crossB G []
  ·rfl
  ·obtain ⟨i, j, k, _, _, h3, _⟩ := (crossB_iff G []).1 h
   simp at h3
 rw [rO_out (by omega) G.length [] (2 ^ G.length - 1) (by have := Nat.two_pow_pos G.length; omega) (fun v hv => ?_), h0]
 ·unfold outF
  have := pc_all ⟨G.length, by omega⟩
  simp only at this
  rw [this]
  rfl
 ·have := all_bit G.length v
  unfold bset at this
  rw [this]
  simp [hv]
end Go.Proofs.YtjloppfdagfpmaaDoor.X
end
section
/- MinorOuters, without Go and memory: Outer returns the first outer order, and CheckOuter accepts exactly outer orders, or the documented error. -/
namespace Go.Proofs.YtjloppfdagfpmaaDoor.Pure
open Go.RowKit YtjloppfdagfpmaaDoorW.PrintWords YtjloppfdagfpmaaDoorW.PrintLast YtjloppfdagfpmaaDoorW.PrintMore YtjloppfdagfpmaaDoor.T YtjloppfdagfpmaaDoor.X
def outP (G : List Nat) : List Int × Int := (outF G (2 ^ G.length - 1)).elim ([], 4) fun M => (gi M, 0)
theorem outP_len (G : List Nat) (hn : G.length ≤ 9) : (outP G).1.length ≤ 9 := by
 unfold outP
 cases h : outF G (2 ^ G.length - 1) with
 | none => simp
 | some M =>
  have := outN_len G _ _ _ _ h
  have h2 := pc_le (2 ^ G.length - 1) 9
  simp only [List.length_nil] at this
  show (gi M).length ≤ 9
  rw [gi_length]; omega
theorem Outer_eq {G : List Nat} (hG : Gr 8 G) : minor_Outer.f (gi G) = some (outP G) := by
 have h1 := hG.most
 unfold minor_Outer.f
 rw [gi_length, if_pos (by omega), (chk_iff 8 (by omega) _).2 ⟨G, rfl, hG⟩, gi_toNat]
 rfl
theorem Outer_bad (g : List Int) (hl : g.length < 1000) (h : chk 8 g = false) : minor_Outer.f g = some ([], 2) := by
 unfold minor_Outer.f
 rw [if_pos hl, h]
 rfl
theorem refOuter_eq {G : List Nat} (hG : Gr 8 G) : lampblackref07_Outer.f (gi G) = some (outP G) := by
 have h9 := gr_mono hG (show 8 ≤ 9 by omega)
 unfold lampblackref07_Outer.f
 rw [gi_length, (chk_iff 9 (by omega) _).2 ⟨G, rfl, h9⟩, gi_toNat, refOut_eq h9 (by omega)]
 rfl
theorem isOut_len {G : List Nat} {l : List Int} (h : IsOut G l) : l.length = G.length := by
 obtain ⟨P, rfl, _, _, h4, _⟩ := h
 rw [gi_length, h4]
theorem outers_law (g l : List Int) (hg : g.length < 2 ^ 44) (hl : l.length < 2 ^ 44) : Ev (fun k => lampblacklaw07_MinorOuters.f k g l) true := by
 obtain ⟨h, e, e1, e2, e3⟩ := few_eq g hg
 have hv := valid_ev g (by omega)
 have hli := list_eq l hl
 have h12 : (l.take 12).length ≤ 12 := by rw [List.length_take]; omega
 unfold lampblacklaw07_MinorOuters.f
 refine Ev.bind1 e ?_
 by_cases hc : chk 8 g = true
 ·obtain ⟨G, rfl, hG⟩ := (chk_iff 8 (by omega) _).1 hc
  rw [e1 hc] at e ⊢
  rw [hc] at hv
  have hn := hG.most
  obtain ⟨a, ha, ha2⟩ := CheckOuter_ev hG (l.take 12) (by omega)
  obtain ⟨b, hb, hb2⟩ := isOuter_ev (gr_mono hG (show 8 ≤ 9 by omega)) l (by omega)
  have hab : a = b := by
   have : a = true ↔ b = true := by
    rw [ha2, hb2]
    by_cases h : l.length ≤ 12
    ·rw [List.take_of_length_le h]
    ·constructor
     ·intro h2; have := isOut_len h2; rw [List.length_take] at this; omega
     ·intro h2; have := isOut_len h2; omega
   cases a <;> cases b <;> simp_all
  subst hab
  have hol := outP_len G (by omega)
  refine Ev.bind1 (Outer_eq hG) (Ev.bind1 e (Ev.bind1 hli (Ev.bind ha (Ev.bind hv (Ev.if_pos rfl (Ev.bind1 (refOuter_eq hG) (Ev.bind (equal_same _ (by omega)) (Ev.if_pos rfl (Ev.if_pos rfl (Ev.bind hb ?_))))))))))
  exact Ev.if_pos (by simp) (Ev.if_pos rfl (Ev.bind awake_ev (Ev.some rfl)))
 ·have hc' : chk 8 g = false := by simpa using hc
  rw [hc'] at hv
  exact Ev.bind1 (Outer_bad h (by omega) (e2 hc')) (Ev.bind1 e (Ev.bind1 hli (Ev.bind (CheckOuter_bad h _ (by omega) (e2 hc')) (Ev.bind hv (Ev.if_neg (by simp) (Ev.if_pos rfl (Ev.if_neg (by simp) (Ev.if_pos rfl (Ev.if_pos rfl (Ev.bind awake_ev (Ev.some rfl)))))))))))
theorem MinorOuters : ∀ (l0 l1 : List Int), l0.length ≤ maxLen → l0.length * 8 ≤ 140737488351232 → (∀ x ∈ l0, (Lit.int .i64 x).wf = true) → l1.length ≤ maxLen → l1.length * 8 ≤ 140737488351232 → (∀ x ∈ l1, (Lit.int .i64 x).wf = true) → ∃ k, lampblacklaw07_MinorOuters.f k l0 l1 = some true := by
 intro g l _ hg _ _ hl _
 exact Ev.rounds (outers_law g l (by omega) (by omega))
end Go.Proofs.YtjloppfdagfpmaaDoor.Pure
end
