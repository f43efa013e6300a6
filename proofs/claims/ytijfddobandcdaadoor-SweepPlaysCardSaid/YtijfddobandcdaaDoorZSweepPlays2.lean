/- Part 2 of what SweepPlays rests on: contracts of the functions that it reaches, and what they compute, in plain words. -/
import Derived.Test.YtijfddobandcdaaDoorZSweepPlays0
import Derived.Test.YtijfddobandcdaaDoorZSweepPlays1
import Derived.WalkSpells
import Derived.Deep.Slices
import Derived.Deep.Fields
import Derived.ChangeSame
import Derived.ChangeArms
set_option linter.unusedVariables false
set_option linter.unusedSimpArgs false
section
namespace Go.Proofs.YtijfddobandcdaaDoor.X
open Go.RowKit YtijfddobandcdaaDoorW.PrintWords YtijfddobandcdaaDoorW.PrintLast YtijfddobandcdaaDoorW.PrintMore
attribute [local go_sem] max2_int min2_int max_two min_two max_three min_three max_four min_four
/-! ### lampblacklaw03_SweepPlays: function 10 -/
def lampblacklaw03_SweepPlays.f (k : Nat) (l0 : List Int) (l1 : List (S70)) : Option (Bool) := (lampblacklaw03_Few.f l0).bind fun t412 => ((lampblacklaw03_plan.f k l1).bind fun t415 => ((sweep_Play.f t412 t415).bind fun bt418 => ((lampblackref03_Valid.f k l0).bind fun t422 => (if t422 = true then ((lampblackref03_Play.f l0 l1).bind fun bt423 => (if bt418.1 = bt423.1 then (if (bt418.2.1 == bt423.2.1) = true then (if (bt418.2.2.1 == bt423.2.2) = true then (if bt418.2.2.2 = 0 then ((lampblacklaw03_awake.f k).bind fun t426 => (some t426)) else (some false)) else (some false)) else (some false)) else (some false))) else (if bt418.1 = 0 then (if bt418.2.1 = true then (some false) else (if bt418.2.2.1 = true then (some false) else (if bt418.2.2.2 = 2 then ((lampblacklaw03_awake.f k).bind fun t427 => (some t427)) else (some false)))) else (some false))))))
set_option maxHeartbeats 8000000 in
set_option maxRecDepth 100000 in
theorem lampblacklaw03_SweepPlays.calls (k : Nat) (A0 : Option Addr) (c0 : Nat) (l0 : List Int) (A1 : Option Addr) (c1 : Nat) (l1 : List (S70)) (r : Bool) (w : World) (hGL : GL w) (hr0 : Kd.C (Kd.int .i64) w A0 l0.length l0) (hc0 : l0.length ≤ c0) (hr1 : Kd.C k70 w A1 l1.length l1) (hc1 : l1.length ≤ c1) (h : lampblacklaw03_SweepPlays.f k l0 l1 = some r) :
  Calls Tryd.prog 10 #[.slice A0 l0.length c0, .slice A1 l1.length c1] w fun e w' => e = .returned (.bool r) ∧ Below w.heap.size w w' := by
 have HGL := Aside0.mk hGL
 clear hGL
 have HR0 := Aside0.mk hr0
 have HC0 := Aside0.mk hc0
 clear hr0 hc0
 have HR1 := Aside0.mk hr1
 have HC1 := Aside0.mk hc1
 clear hr1 hc1
 have HB := Aside0.mk (Below.refl w.heap.size w)
 have H : ((lampblacklaw03_Few.f l0).bind fun t412 => ((lampblacklaw03_plan.f k l1).bind fun t415 => ((sweep_Play.f t412 t415).bind fun bt418 => ((lampblackref03_Valid.f k l0).bind fun t422 => (if t422 = true then ((lampblackref03_Play.f l0 l1).bind fun bt423 => (if bt418.1 = bt423.1 then (if (bt418.2.1 == bt423.2.1) = true then (if (bt418.2.2.1 == bt423.2.2) = true then (if bt418.2.2.2 = 0 then ((lampblacklaw03_awake.f k).bind fun t426 => (some t426)) else (some false)) else (some false)) else (some false)) else (some false))) else (if bt418.1 = 0 then (if bt418.2.1 = true then (some false) else (if bt418.2.2.1 = true then (some false) else (if bt418.2.2.2 = 2 then ((lampblacklaw03_awake.f k).bind fun t427 => (some t427)) else (some false)))) else (some false))))))) = some r := h
 clear h
 replace H := Option.bind_eq_some_iff.mp H
 obtain ⟨t412, A30, H⟩ := H
 replace H : ((lampblacklaw03_plan.f k l1).bind fun t415 => ((sweep_Play.f t412 t415).bind fun bt418 => ((lampblackref03_Valid.f k l0).bind fun t422 => (if t422 = true then ((lampblackref03_Play.f l0 l1).bind fun bt423 => (if bt418.1 = bt423.1 then (if (bt418.2.1 == bt423.2.1) = true then (if (bt418.2.2.1 == bt423.2.2) = true then (if bt418.2.2.2 = 0 then ((lampblacklaw03_awake.f k).bind fun t426 => (some t426)) else (some false)) else (some false)) else (some false)) else (some false))) else (if bt418.1 = 0 then (if bt418.2.1 = true then (some false) else (if bt418.2.2.1 = true then (some false) else (if bt418.2.2.2 = 2 then ((lampblacklaw03_awake.f k).bind fun t427 => (some t427)) else (some false)))) else (some false)))))) = some r := H
 have A3 := Aside0.mk A30
 clear A30
 replace H := Option.bind_eq_some_iff.mp H
 obtain ⟨t415, A40, H⟩ := H
 replace H : ((sweep_Play.f t412 t415).bind fun bt418 => ((lampblackref03_Valid.f k l0).bind fun t422 => (if t422 = true then ((lampblackref03_Play.f l0 l1).bind fun bt423 => (if bt418.1 = bt423.1 then (if (bt418.2.1 == bt423.2.1) = true then (if (bt418.2.2.1 == bt423.2.2) = true then (if bt418.2.2.2 = 0 then ((lampblacklaw03_awake.f k).bind fun t426 => (some t426)) else (some false)) else (some false)) else (some false)) else (some false))) else (if bt418.1 = 0 then (if bt418.2.1 = true then (some false) else (if bt418.2.2.1 = true then (some false) else (if bt418.2.2.2 = 2 then ((lampblacklaw03_awake.f k).bind fun t427 => (some t427)) else (some false)))) else (some false))))) = some r := H
 have A4 := Aside0.mk A40
 clear A40
 replace H := Option.bind_eq_some_iff.mp H
 obtain ⟨⟨t418, t419, t420, t421⟩, A50, H⟩ := H
 replace H : ((lampblackref03_Valid.f k l0).bind fun t422 => (if t422 = true then ((lampblackref03_Play.f l0 l1).bind fun bt423 => (if t418 = bt423.1 then (if (t419 == bt423.2.1) = true then (if (t420 == bt423.2.2) = true then (if t421 = 0 then ((lampblacklaw03_awake.f k).bind fun t426 => (some t426)) else (some false)) else (some false)) else (some false)) else (some false))) else (if t418 = 0 then (if t419 = true then (some false) else (if t420 = true then (some false) else (if t421 = 2 then ((lampblacklaw03_awake.f k).bind fun t427 => (some t427)) else (some false)))) else (some false)))) = some r := H
 have A5 := Aside0.mk A50
 clear A50
 replace H := Option.bind_eq_some_iff.mp H
 obtain ⟨t422, A60, H⟩ := H
 replace H : (if t422 = true then ((lampblackref03_Play.f l0 l1).bind fun bt423 => (if t418 = bt423.1 then (if (t419 == bt423.2.1) = true then (if (t420 == bt423.2.2) = true then (if t421 = 0 then ((lampblacklaw03_awake.f k).bind fun t426 => (some t426)) else (some false)) else (some false)) else (some false)) else (some false))) else (if t418 = 0 then (if t419 = true then (some false) else (if t420 = true then (some false) else (if t421 = 2 then ((lampblacklaw03_awake.f k).bind fun t427 => (some t427)) else (some false)))) else (some false))) = some r := H
 have A6 := Aside0.mk A60
 clear A60
 by_cases c7 : t422 = true
 ·subst c7
  have H1 : ((lampblackref03_Play.f l0 l1).bind fun bt423 => (if t418 = bt423.1 then (if (t419 == bt423.2.1) = true then (if (t420 == bt423.2.2) = true then (if t421 = 0 then ((lampblacklaw03_awake.f k).bind fun t426 => (some t426)) else (some false)) else (some false)) else (some false)) else (some false))) = some r := by rw [if_pos rfl] at H; exact H
  clear H
  have H := H1
  clear H1
  replace H := Option.bind_eq_some_iff.mp H
  obtain ⟨⟨t423, t424, t425⟩, A80, H⟩ := H
  replace H : (if t418 = t423 then (if (t419 == t424) = true then (if (t420 == t425) = true then (if t421 = 0 then ((lampblacklaw03_awake.f k).bind fun t426 => (some t426)) else (some false)) else (some false)) else (some false)) else (some false)) = some r := H
  have A8 := Aside0.mk A80
  clear A80
  by_cases c9 : t418 = t423
  ·rw [if_pos c9] at H
   have c9b0 : (t418 == t423) = true := beq_iff_eq.mpr c9
   have c9b1 : (t418 != t423) = false := bne_eq_false_iff_eq.mpr c9
   clear c9
   by_cases c10 : (t419 == t424) = true
   ·rw [if_pos c10] at H
    have c10b0 : (t419 == t424) = true := c10
    (try (have c10b1 : decide (t419 = t424) = true := by simpa using c10))
    (try (have c10b2 : (t419 == t424) = true := by simpa using c10))
    clear c10
    by_cases c11 : (t420 == t425) = true
    ·rw [if_pos c11] at H
     have c11b0 : (t420 == t425) = true := c11
     (try (have c11b1 : decide (t420 = t425) = true := by simpa using c11))
     (try (have c11b2 : (t420 == t425) = true := by simpa using c11))
     clear c11
     by_cases c12 : t421 = 0
     ·rw [if_pos c12] at H
      have c12b0 : (t421 == 0) = true := beq_iff_eq.mpr c12
      have c12b1 : (t421 != 0) = false := bne_eq_false_iff_eq.mpr c12
      clear c12
      replace H := Option.bind_eq_some_iff.mp H
      obtain ⟨t426, A130, H⟩ := H
      replace H : (some t426) = some r := H
      have A13 := Aside0.mk A130
      clear A130
      obtain rfl := Option.some.inj H
      go_enter Tryd.func10, Tryd.ntmps10
      go_wp2_with (first | ((with_reducible refine gate_callee (f := 18) rfl ?_); refine goesL_ (some 14) rfl rfl Tryd.func18 (by kernel_rfl) rfl #[.slice A0 l0.length c0] rfl (Qls) ?_; (with_reducible refine (lampblacklaw03_Few.calls _ _ l0 t412 _ ?side1 ?side2 A3.out).mono ?_); (case side1 => exact Qsc HR0.out); (case side2 => exact HC0.out); rintro e w14 ⟨v413, rfl, ho0, hb⟩; refine ⟨_, rfl, ?_⟩; have n0_ := Aside0.mk (Kd.R_lower ho0 (below_size (Qaw))); have n1_ := Aside0.mk (below_step (Qaw) hb); clear HB; have HO414 := n0_; have HB := n1_; clear n0_ n1_; (try clear hb); (try clear hb2); (try clear hk); (try clear hi); (try clear ho0)) | ((with_reducible refine gate_callee (f := 39) rfl ?_); refine goesL_ (some 16) rfl rfl Tryd.func39 (by kernel_rfl) rfl #[.slice A1 l1.length c1] rfl (Qls) ?_; (with_reducible refine (lampblacklaw03_plan.calls k _ _ l1 t415 _ ?side1 ?side2 A4.out).mono ?_); (case side1 => exact Qsc (Kd.C_below HR1.out HB.out)); (case side2 => exact HC1.out); rintro e w15 ⟨v416, rfl, ho0, hb⟩; refine ⟨_, rfl, ?_⟩; have n0_ := Aside0.mk (Kd.R_below (Qro HO414.out) hb); have n1_ := Aside0.mk (Kd.R_lower ho0 (below_size (Qaw))); have n2_ := Aside0.mk (below_step (Qaw) hb); clear HO414; clear HB; have HO414 := n0_; have HO417 := n1_; have HB := n2_; clear n0_ n1_ n2_; (try clear hb); (try clear hb2); (try clear hk); (try clear hi); (try clear ho0); obtain ⟨Ao16, co16, eo16⟩ := Kd.R_slice HO414.out; subst eo16; obtain ⟨Ao17, co17, eo17⟩ := Kd.R_slice HO417.out; subst eo17) | ((with_reducible refine gate_callee (f := 38) rfl ?_); refine goesL_ (some 17) rfl rfl Tryd.func38 (by kernel_rfl) rfl #[.slice Ao16 t412.length co16, .slice Ao17 t415.length co17] rfl (Qls) ?_; (with_reducible refine (sweep_Play.calls (hGL := (Qlg)) _ _ t412 _ _ t415 t418 t419 t420 t421 _ ?side1 ?side2 ?side3 ?side4 A5.out).mono ?_); (case side1 => exact Qsc (Kd.R_reads' HO414.out).2.2); (case side2 => exact (Kd.R_reads' HO414.out).2.1); (case side3 => exact Qsc (Kd.R_reads' HO417.out).2.2); (case side4 => exact (Kd.R_reads' HO417.out).2.1); rintro e w18 ⟨rfl, hb⟩; refine ⟨_, rfl, ?_⟩; have n0_ := Aside0.mk (Kd.R_below (Qro HO414.out) hb); have n1_ := Aside0.mk (Kd.R_below (Qro HO417.out) hb); have n2_ := Aside0.mk (below_step (Qaw) hb); clear HO414; clear HO417; clear HB; have HO414 := n0_; have HO417 := n1_; have HB := n2_; clear n0_ n1_ n2_; (try clear hb); (try clear hb2); (try clear hk); (try clear hi)) | ((with_reducible refine gate_callee (f := 19) rfl ?_); refine goesL_ (some 23) rfl rfl Tryd.func19 (by kernel_rfl) rfl #[.slice A0 l0.length c0] rfl (Qls) ?_; (with_reducible refine (lampblackref03_Valid.calls k _ _ l0 true _ ?side1 ?side2 A6.out).mono ?_); (case side1 => exact Qsc (Kd.C_below HR0.out HB.out)); (case side2 => exact HC0.out); rintro e w' ⟨rfl, ⟨nd, rfl⟩⟩; refine ⟨_, rfl, ?_⟩) | ((with_reducible refine gate_callee (f := 24) rfl ?_); refine goesL_ (some 45) rfl rfl Tryd.func24 (by kernel_rfl) rfl #[.slice A0 l0.length c0, .slice A1 l1.length c1] rfl (Qls) ?_; (with_reducible refine (lampblackref03_Play.calls _ _ l0 _ _ l1 t423 t424 t425 _ ?side1 ?side2 ?side3 ?side4 A8.out).mono ?_); (case side1 => repeat (first | exact (Kd.C_below HR0.out (Qaw)) | (with_reducible refine Kd.C_alloc ?_ _) | (with_reducible refine Kd.C_drewN ?_ _) | (with_reducible refine Kd.C_drew ?_))); (case side2 => exact HC0.out); (case side3 => repeat (first | exact (Kd.C_below HR1.out (Qaw)) | (with_reducible refine Kd.C_alloc ?_ _) | (with_reducible refine Kd.C_drewN ?_ _) | (with_reducible refine Kd.C_drew ?_))); (case side4 => exact HC1.out); rintro e w19 ⟨rfl, hb⟩; refine ⟨_, rfl, ?_⟩; have n0_ := Aside0.mk (Kd.R_below (Qro HO414.out) hb); have n1_ := Aside0.mk (Kd.R_below (Qro HO417.out) hb); have n2_ := Aside0.mk (below_step (Qaw) hb); clear HO414; clear HO417; clear HB; have HO414 := n0_; have HO417 := n1_; have HB := n2_; clear n0_ n1_ n2_; (try clear hb); (try clear hb2); (try clear hk); (try clear hi)) | (go_at_call 20; (with_reducible refine (lampblacklaw03_awake.calls (hGL := (Qlg)) k  t426 _ A13.out).mono ?_); rintro e w20 ⟨rfl, hb⟩; have n0_ := Aside0.mk (Kd.R_below (Qro HO414.out) hb); have n1_ := Aside0.mk (Kd.R_below (Qro HO417.out) hb); have n2_ := Aside0.mk (below_step (Qaw) hb); clear HO414; clear HO417; clear HB; have HO414 := n0_; have HO417 := n1_; have HB := n2_; clear n0_ n1_ n2_; (try clear hb); (try clear hb2); (try clear hk); (try clear hi)))
      go_ret
      exact ⟨by first | rfl | (simp [errW_none, errW_some] <;> rfl) | (simp [*, errW_none, errW_some] <;> rfl), by repeat (first | (with_reducible first | exact HB.out | apply below_alloc | apply pw_below_drewN | apply below_drew1) | exact HB.out)⟩
     ·rw [if_neg c12] at H
      have c12b0 : (t421 == 0) = false := beq_eq_false_iff_ne.mpr c12
      have c12b1 : (t421 != 0) = true := bne_iff_ne.mpr c12
      obtain rfl := Option.some.inj H
      go_enter Tryd.func10, Tryd.ntmps10
      go_wp2_with (first | ((with_reducible refine gate_callee (f := 18) rfl ?_); refine goesL_ (some 14) rfl rfl Tryd.func18 (by kernel_rfl) rfl #[.slice A0 l0.length c0] rfl (Qls) ?_; (with_reducible refine (lampblacklaw03_Few.calls _ _ l0 t412 _ ?side1 ?side2 A3.out).mono ?_); (case side1 => exact Qsc HR0.out); (case side2 => exact HC0.out); rintro e w21 ⟨v413, rfl, ho0, hb⟩; refine ⟨_, rfl, ?_⟩; have n0_ := Aside0.mk (Kd.R_lower ho0 (below_size (Qaw))); have n1_ := Aside0.mk (below_step (Qaw) hb); clear HB; have HO414 := n0_; have HB := n1_; clear n0_ n1_; (try clear hb); (try clear hb2); (try clear hk); (try clear hi); (try clear ho0)) | ((with_reducible refine gate_callee (f := 39) rfl ?_); refine goesL_ (some 16) rfl rfl Tryd.func39 (by kernel_rfl) rfl #[.slice A1 l1.length c1] rfl (Qls) ?_; (with_reducible refine (lampblacklaw03_plan.calls k _ _ l1 t415 _ ?side1 ?side2 A4.out).mono ?_); (case side1 => exact Qsc (Kd.C_below HR1.out HB.out)); (case side2 => exact HC1.out); rintro e w22 ⟨v416, rfl, ho0, hb⟩; refine ⟨_, rfl, ?_⟩; have n0_ := Aside0.mk (Kd.R_below (Qro HO414.out) hb); have n1_ := Aside0.mk (Kd.R_lower ho0 (below_size (Qaw))); have n2_ := Aside0.mk (below_step (Qaw) hb); clear HO414; clear HB; have HO414 := n0_; have HO417 := n1_; have HB := n2_; clear n0_ n1_ n2_; (try clear hb); (try clear hb2); (try clear hk); (try clear hi); (try clear ho0); obtain ⟨Ao23, co23, eo23⟩ := Kd.R_slice HO414.out; subst eo23; obtain ⟨Ao24, co24, eo24⟩ := Kd.R_slice HO417.out; subst eo24) | ((with_reducible refine gate_callee (f := 38) rfl ?_); refine goesL_ (some 17) rfl rfl Tryd.func38 (by kernel_rfl) rfl #[.slice Ao23 t412.length co23, .slice Ao24 t415.length co24] rfl (Qls) ?_; (with_reducible refine (sweep_Play.calls (hGL := (Qlg)) _ _ t412 _ _ t415 t418 t419 t420 t421 _ ?side1 ?side2 ?side3 ?side4 A5.out).mono ?_); (case side1 => exact Qsc (Kd.R_reads' HO414.out).2.2); (case side2 => exact (Kd.R_reads' HO414.out).2.1); (case side3 => exact Qsc (Kd.R_reads' HO417.out).2.2); (case side4 => exact (Kd.R_reads' HO417.out).2.1); rintro e w25 ⟨rfl, hb⟩; refine ⟨_, rfl, ?_⟩; have n0_ := Aside0.mk (Kd.R_below (Qro HO414.out) hb); have n1_ := Aside0.mk (Kd.R_below (Qro HO417.out) hb); have n2_ := Aside0.mk (below_step (Qaw) hb); clear HO414; clear HO417; clear HB; have HO414 := n0_; have HO417 := n1_; have HB := n2_; clear n0_ n1_ n2_; (try clear hb); (try clear hb2); (try clear hk); (try clear hi)) | ((with_reducible refine gate_callee (f := 19) rfl ?_); refine goesL_ (some 23) rfl rfl Tryd.func19 (by kernel_rfl) rfl #[.slice A0 l0.length c0] rfl (Qls) ?_; (with_reducible refine (lampblackref03_Valid.calls k _ _ l0 true _ ?side1 ?side2 A6.out).mono ?_); (case side1 => exact Qsc (Kd.C_below HR0.out HB.out)); (case side2 => exact HC0.out); rintro e w' ⟨rfl, ⟨nd, rfl⟩⟩; refine ⟨_, rfl, ?_⟩) | ((with_reducible refine gate_callee (f := 24) rfl ?_); refine goesL_ (some 45) rfl rfl Tryd.func24 (by kernel_rfl) rfl #[.slice A0 l0.length c0, .slice A1 l1.length c1] rfl (Qls) ?_; (with_reducible refine (lampblackref03_Play.calls _ _ l0 _ _ l1 t423 t424 t425 _ ?side1 ?side2 ?side3 ?side4 A8.out).mono ?_); (case side1 => repeat (first | exact (Kd.C_below HR0.out (Qaw)) | (with_reducible refine Kd.C_alloc ?_ _) | (with_reducible refine Kd.C_drewN ?_ _) | (with_reducible refine Kd.C_drew ?_))); (case side2 => exact HC0.out); (case side3 => repeat (first | exact (Kd.C_below HR1.out (Qaw)) | (with_reducible refine Kd.C_alloc ?_ _) | (with_reducible refine Kd.C_drewN ?_ _) | (with_reducible refine Kd.C_drew ?_))); (case side4 => exact HC1.out); rintro e w26 ⟨rfl, hb⟩; refine ⟨_, rfl, ?_⟩; have n0_ := Aside0.mk (Kd.R_below (Qro HO414.out) hb); have n1_ := Aside0.mk (Kd.R_below (Qro HO417.out) hb); have n2_ := Aside0.mk (below_step (Qaw) hb); clear HO414; clear HO417; clear HB; have HO414 := n0_; have HO417 := n1_; have HB := n2_; clear n0_ n1_ n2_; (try clear hb); (try clear hb2); (try clear hk); (try clear hi)))
      go_ret
      exact ⟨by first | rfl | (simp [errW_none, errW_some] <;> rfl) | (simp [*, errW_none, errW_some] <;> rfl), by repeat (first | (with_reducible first | exact HB.out | apply below_alloc | apply pw_below_drewN | apply below_drew1) | exact HB.out)⟩
    ·rw [if_neg c11] at H
     have c11b0 : (t420 == t425) = false := by simpa using c11
     (try (have c11b1 : decide (t420 = t425) = false := by simpa using c11))
     (try (have c11b2 : (t420 == t425) = false := by simpa using c11))
     (try (have c11b3 : ¬ (t420 = t425) := by simpa using c11))
     clear c11
     obtain rfl := Option.some.inj H
     go_enter Tryd.func10, Tryd.ntmps10
     go_wp2_with (first | ((with_reducible refine gate_callee (f := 18) rfl ?_); refine goesL_ (some 14) rfl rfl Tryd.func18 (by kernel_rfl) rfl #[.slice A0 l0.length c0] rfl (Qls) ?_; (with_reducible refine (lampblacklaw03_Few.calls _ _ l0 t412 _ ?side1 ?side2 A3.out).mono ?_); (case side1 => exact Qsc HR0.out); (case side2 => exact HC0.out); rintro e w27 ⟨v413, rfl, ho0, hb⟩; refine ⟨_, rfl, ?_⟩; have n0_ := Aside0.mk (Kd.R_lower ho0 (below_size (Qaw))); have n1_ := Aside0.mk (below_step (Qaw) hb); clear HB; have HO414 := n0_; have HB := n1_; clear n0_ n1_; (try clear hb); (try clear hb2); (try clear hk); (try clear hi); (try clear ho0)) | ((with_reducible refine gate_callee (f := 39) rfl ?_); refine goesL_ (some 16) rfl rfl Tryd.func39 (by kernel_rfl) rfl #[.slice A1 l1.length c1] rfl (Qls) ?_; (with_reducible refine (lampblacklaw03_plan.calls k _ _ l1 t415 _ ?side1 ?side2 A4.out).mono ?_); (case side1 => exact Qsc (Kd.C_below HR1.out HB.out)); (case side2 => exact HC1.out); rintro e w28 ⟨v416, rfl, ho0, hb⟩; refine ⟨_, rfl, ?_⟩; have n0_ := Aside0.mk (Kd.R_below (Qro HO414.out) hb); have n1_ := Aside0.mk (Kd.R_lower ho0 (below_size (Qaw))); have n2_ := Aside0.mk (below_step (Qaw) hb); clear HO414; clear HB; have HO414 := n0_; have HO417 := n1_; have HB := n2_; clear n0_ n1_ n2_; (try clear hb); (try clear hb2); (try clear hk); (try clear hi); (try clear ho0); obtain ⟨Ao29, co29, eo29⟩ := Kd.R_slice HO414.out; subst eo29; obtain ⟨Ao30, co30, eo30⟩ := Kd.R_slice HO417.out; subst eo30) | ((with_reducible refine gate_callee (f := 38) rfl ?_); refine goesL_ (some 17) rfl rfl Tryd.func38 (by kernel_rfl) rfl #[.slice Ao29 t412.length co29, .slice Ao30 t415.length co30] rfl (Qls) ?_; (with_reducible refine (sweep_Play.calls (hGL := (Qlg)) _ _ t412 _ _ t415 t418 t419 t420 t421 _ ?side1 ?side2 ?side3 ?side4 A5.out).mono ?_); (case side1 => exact Qsc (Kd.R_reads' HO414.out).2.2); (case side2 => exact (Kd.R_reads' HO414.out).2.1); (case side3 => exact Qsc (Kd.R_reads' HO417.out).2.2); (case side4 => exact (Kd.R_reads' HO417.out).2.1); rintro e w31 ⟨rfl, hb⟩; refine ⟨_, rfl, ?_⟩; have n0_ := Aside0.mk (Kd.R_below (Qro HO414.out) hb); have n1_ := Aside0.mk (Kd.R_below (Qro HO417.out) hb); have n2_ := Aside0.mk (below_step (Qaw) hb); clear HO414; clear HO417; clear HB; have HO414 := n0_; have HO417 := n1_; have HB := n2_; clear n0_ n1_ n2_; (try clear hb); (try clear hb2); (try clear hk); (try clear hi)) | ((with_reducible refine gate_callee (f := 19) rfl ?_); refine goesL_ (some 23) rfl rfl Tryd.func19 (by kernel_rfl) rfl #[.slice A0 l0.length c0] rfl (Qls) ?_; (with_reducible refine (lampblackref03_Valid.calls k _ _ l0 true _ ?side1 ?side2 A6.out).mono ?_); (case side1 => exact Qsc (Kd.C_below HR0.out HB.out)); (case side2 => exact HC0.out); rintro e w' ⟨rfl, ⟨nd, rfl⟩⟩; refine ⟨_, rfl, ?_⟩) | ((with_reducible refine gate_callee (f := 24) rfl ?_); refine goesL_ (some 45) rfl rfl Tryd.func24 (by kernel_rfl) rfl #[.slice A0 l0.length c0, .slice A1 l1.length c1] rfl (Qls) ?_; (with_reducible refine (lampblackref03_Play.calls _ _ l0 _ _ l1 t423 t424 t425 _ ?side1 ?side2 ?side3 ?side4 A8.out).mono ?_); (case side1 => repeat (first | exact (Kd.C_below HR0.out (Qaw)) | (with_reducible refine Kd.C_alloc ?_ _) | (with_reducible refine Kd.C_drewN ?_ _) | (with_reducible refine Kd.C_drew ?_))); (case side2 => exact HC0.out); (case side3 => repeat (first | exact (Kd.C_below HR1.out (Qaw)) | (with_reducible refine Kd.C_alloc ?_ _) | (with_reducible refine Kd.C_drewN ?_ _) | (with_reducible refine Kd.C_drew ?_))); (case side4 => exact HC1.out); rintro e w32 ⟨rfl, hb⟩; refine ⟨_, rfl, ?_⟩; have n0_ := Aside0.mk (Kd.R_below (Qro HO414.out) hb); have n1_ := Aside0.mk (Kd.R_below (Qro HO417.out) hb); have n2_ := Aside0.mk (below_step (Qaw) hb); clear HO414; clear HO417; clear HB; have HO414 := n0_; have HO417 := n1_; have HB := n2_; clear n0_ n1_ n2_; (try clear hb); (try clear hb2); (try clear hk); (try clear hi)))
     go_ret
     exact ⟨by first | rfl | (simp [errW_none, errW_some] <;> rfl) | (simp [*, errW_none, errW_some] <;> rfl), by repeat (first | (with_reducible first | exact HB.out | apply below_alloc | apply pw_below_drewN | apply below_drew1) | exact HB.out)⟩
   ·rw [if_neg c10] at H
    have c10b0 : (t419 == t424) = false := by simpa using c10
    (try (have c10b1 : decide (t419 = t424) = false := by simpa using c10))
    (try (have c10b2 : (t419 == t424) = false := by simpa using c10))
    (try (have c10b3 : ¬ (t419 = t424) := by simpa using c10))
    clear c10
    obtain rfl := Option.some.inj H
    go_enter Tryd.func10, Tryd.ntmps10
    go_wp2_with (first | ((with_reducible refine gate_callee (f := 18) rfl ?_); refine goesL_ (some 14) rfl rfl Tryd.func18 (by kernel_rfl) rfl #[.slice A0 l0.length c0] rfl (Qls) ?_; (with_reducible refine (lampblacklaw03_Few.calls _ _ l0 t412 _ ?side1 ?side2 A3.out).mono ?_); (case side1 => exact Qsc HR0.out); (case side2 => exact HC0.out); rintro e w33 ⟨v413, rfl, ho0, hb⟩; refine ⟨_, rfl, ?_⟩; have n0_ := Aside0.mk (Kd.R_lower ho0 (below_size (Qaw))); have n1_ := Aside0.mk (below_step (Qaw) hb); clear HB; have HO414 := n0_; have HB := n1_; clear n0_ n1_; (try clear hb); (try clear hb2); (try clear hk); (try clear hi); (try clear ho0)) | ((with_reducible refine gate_callee (f := 39) rfl ?_); refine goesL_ (some 16) rfl rfl Tryd.func39 (by kernel_rfl) rfl #[.slice A1 l1.length c1] rfl (Qls) ?_; (with_reducible refine (lampblacklaw03_plan.calls k _ _ l1 t415 _ ?side1 ?side2 A4.out).mono ?_); (case side1 => exact Qsc (Kd.C_below HR1.out HB.out)); (case side2 => exact HC1.out); rintro e w34 ⟨v416, rfl, ho0, hb⟩; refine ⟨_, rfl, ?_⟩; have n0_ := Aside0.mk (Kd.R_below (Qro HO414.out) hb); have n1_ := Aside0.mk (Kd.R_lower ho0 (below_size (Qaw))); have n2_ := Aside0.mk (below_step (Qaw) hb); clear HO414; clear HB; have HO414 := n0_; have HO417 := n1_; have HB := n2_; clear n0_ n1_ n2_; (try clear hb); (try clear hb2); (try clear hk); (try clear hi); (try clear ho0); obtain ⟨Ao35, co35, eo35⟩ := Kd.R_slice HO414.out; subst eo35; obtain ⟨Ao36, co36, eo36⟩ := Kd.R_slice HO417.out; subst eo36) | ((with_reducible refine gate_callee (f := 38) rfl ?_); refine goesL_ (some 17) rfl rfl Tryd.func38 (by kernel_rfl) rfl #[.slice Ao35 t412.length co35, .slice Ao36 t415.length co36] rfl (Qls) ?_; (with_reducible refine (sweep_Play.calls (hGL := (Qlg)) _ _ t412 _ _ t415 t418 t419 t420 t421 _ ?side1 ?side2 ?side3 ?side4 A5.out).mono ?_); (case side1 => exact Qsc (Kd.R_reads' HO414.out).2.2); (case side2 => exact (Kd.R_reads' HO414.out).2.1); (case side3 => exact Qsc (Kd.R_reads' HO417.out).2.2); (case side4 => exact (Kd.R_reads' HO417.out).2.1); rintro e w37 ⟨rfl, hb⟩; refine ⟨_, rfl, ?_⟩; have n0_ := Aside0.mk (Kd.R_below (Qro HO414.out) hb); have n1_ := Aside0.mk (Kd.R_below (Qro HO417.out) hb); have n2_ := Aside0.mk (below_step (Qaw) hb); clear HO414; clear HO417; clear HB; have HO414 := n0_; have HO417 := n1_; have HB := n2_; clear n0_ n1_ n2_; (try clear hb); (try clear hb2); (try clear hk); (try clear hi)) | ((with_reducible refine gate_callee (f := 19) rfl ?_); refine goesL_ (some 23) rfl rfl Tryd.func19 (by kernel_rfl) rfl #[.slice A0 l0.length c0] rfl (Qls) ?_; (with_reducible refine (lampblackref03_Valid.calls k _ _ l0 true _ ?side1 ?side2 A6.out).mono ?_); (case side1 => exact Qsc (Kd.C_below HR0.out HB.out)); (case side2 => exact HC0.out); rintro e w' ⟨rfl, ⟨nd, rfl⟩⟩; refine ⟨_, rfl, ?_⟩) | ((with_reducible refine gate_callee (f := 24) rfl ?_); refine goesL_ (some 45) rfl rfl Tryd.func24 (by kernel_rfl) rfl #[.slice A0 l0.length c0, .slice A1 l1.length c1] rfl (Qls) ?_; (with_reducible refine (lampblackref03_Play.calls _ _ l0 _ _ l1 t423 t424 t425 _ ?side1 ?side2 ?side3 ?side4 A8.out).mono ?_); (case side1 => repeat (first | exact (Kd.C_below HR0.out (Qaw)) | (with_reducible refine Kd.C_alloc ?_ _) | (with_reducible refine Kd.C_drewN ?_ _) | (with_reducible refine Kd.C_drew ?_))); (case side2 => exact HC0.out); (case side3 => repeat (first | exact (Kd.C_below HR1.out (Qaw)) | (with_reducible refine Kd.C_alloc ?_ _) | (with_reducible refine Kd.C_drewN ?_ _) | (with_reducible refine Kd.C_drew ?_))); (case side4 => exact HC1.out); rintro e w38 ⟨rfl, hb⟩; refine ⟨_, rfl, ?_⟩; have n0_ := Aside0.mk (Kd.R_below (Qro HO414.out) hb); have n1_ := Aside0.mk (Kd.R_below (Qro HO417.out) hb); have n2_ := Aside0.mk (below_step (Qaw) hb); clear HO414; clear HO417; clear HB; have HO414 := n0_; have HO417 := n1_; have HB := n2_; clear n0_ n1_ n2_; (try clear hb); (try clear hb2); (try clear hk); (try clear hi)))
    go_ret
    exact ⟨by first | rfl | (simp [errW_none, errW_some] <;> rfl) | (simp [*, errW_none, errW_some] <;> rfl), by repeat (first | (with_reducible first | exact HB.out | apply below_alloc | apply pw_below_drewN | apply below_drew1) | exact HB.out)⟩
  ·rw [if_neg c9] at H
   have c9b0 : (t418 == t423) = false := beq_eq_false_iff_ne.mpr c9
   have c9b1 : (t418 != t423) = true := bne_iff_ne.mpr c9
   obtain rfl := Option.some.inj H
   go_enter Tryd.func10, Tryd.ntmps10
   go_wp2_with (first | ((with_reducible refine gate_callee (f := 18) rfl ?_); refine goesL_ (some 14) rfl rfl Tryd.func18 (by kernel_rfl) rfl #[.slice A0 l0.length c0] rfl (Qls) ?_; (with_reducible refine (lampblacklaw03_Few.calls _ _ l0 t412 _ ?side1 ?side2 A3.out).mono ?_); (case side1 => exact Qsc HR0.out); (case side2 => exact HC0.out); rintro e w39 ⟨v413, rfl, ho0, hb⟩; refine ⟨_, rfl, ?_⟩; have n0_ := Aside0.mk (Kd.R_lower ho0 (below_size (Qaw))); have n1_ := Aside0.mk (below_step (Qaw) hb); clear HB; have HO414 := n0_; have HB := n1_; clear n0_ n1_; (try clear hb); (try clear hb2); (try clear hk); (try clear hi); (try clear ho0)) | ((with_reducible refine gate_callee (f := 39) rfl ?_); refine goesL_ (some 16) rfl rfl Tryd.func39 (by kernel_rfl) rfl #[.slice A1 l1.length c1] rfl (Qls) ?_; (with_reducible refine (lampblacklaw03_plan.calls k _ _ l1 t415 _ ?side1 ?side2 A4.out).mono ?_); (case side1 => exact Qsc (Kd.C_below HR1.out HB.out)); (case side2 => exact HC1.out); rintro e w40 ⟨v416, rfl, ho0, hb⟩; refine ⟨_, rfl, ?_⟩; have n0_ := Aside0.mk (Kd.R_below (Qro HO414.out) hb); have n1_ := Aside0.mk (Kd.R_lower ho0 (below_size (Qaw))); have n2_ := Aside0.mk (below_step (Qaw) hb); clear HO414; clear HB; have HO414 := n0_; have HO417 := n1_; have HB := n2_; clear n0_ n1_ n2_; (try clear hb); (try clear hb2); (try clear hk); (try clear hi); (try clear ho0); obtain ⟨Ao41, co41, eo41⟩ := Kd.R_slice HO414.out; subst eo41; obtain ⟨Ao42, co42, eo42⟩ := Kd.R_slice HO417.out; subst eo42) | ((with_reducible refine gate_callee (f := 38) rfl ?_); refine goesL_ (some 17) rfl rfl Tryd.func38 (by kernel_rfl) rfl #[.slice Ao41 t412.length co41, .slice Ao42 t415.length co42] rfl (Qls) ?_; (with_reducible refine (sweep_Play.calls (hGL := (Qlg)) _ _ t412 _ _ t415 t418 t419 t420 t421 _ ?side1 ?side2 ?side3 ?side4 A5.out).mono ?_); (case side1 => exact Qsc (Kd.R_reads' HO414.out).2.2); (case side2 => exact (Kd.R_reads' HO414.out).2.1); (case side3 => exact Qsc (Kd.R_reads' HO417.out).2.2); (case side4 => exact (Kd.R_reads' HO417.out).2.1); rintro e w43 ⟨rfl, hb⟩; refine ⟨_, rfl, ?_⟩; have n0_ := Aside0.mk (Kd.R_below (Qro HO414.out) hb); have n1_ := Aside0.mk (Kd.R_below (Qro HO417.out) hb); have n2_ := Aside0.mk (below_step (Qaw) hb); clear HO414; clear HO417; clear HB; have HO414 := n0_; have HO417 := n1_; have HB := n2_; clear n0_ n1_ n2_; (try clear hb); (try clear hb2); (try clear hk); (try clear hi)) | ((with_reducible refine gate_callee (f := 19) rfl ?_); refine goesL_ (some 23) rfl rfl Tryd.func19 (by kernel_rfl) rfl #[.slice A0 l0.length c0] rfl (Qls) ?_; (with_reducible refine (lampblackref03_Valid.calls k _ _ l0 true _ ?side1 ?side2 A6.out).mono ?_); (case side1 => exact Qsc (Kd.C_below HR0.out HB.out)); (case side2 => exact HC0.out); rintro e w' ⟨rfl, ⟨nd, rfl⟩⟩; refine ⟨_, rfl, ?_⟩) | ((with_reducible refine gate_callee (f := 24) rfl ?_); refine goesL_ (some 45) rfl rfl Tryd.func24 (by kernel_rfl) rfl #[.slice A0 l0.length c0, .slice A1 l1.length c1] rfl (Qls) ?_; (with_reducible refine (lampblackref03_Play.calls _ _ l0 _ _ l1 t423 t424 t425 _ ?side1 ?side2 ?side3 ?side4 A8.out).mono ?_); (case side1 => repeat (first | exact (Kd.C_below HR0.out (Qaw)) | (with_reducible refine Kd.C_alloc ?_ _) | (with_reducible refine Kd.C_drewN ?_ _) | (with_reducible refine Kd.C_drew ?_))); (case side2 => exact HC0.out); (case side3 => repeat (first | exact (Kd.C_below HR1.out (Qaw)) | (with_reducible refine Kd.C_alloc ?_ _) | (with_reducible refine Kd.C_drewN ?_ _) | (with_reducible refine Kd.C_drew ?_))); (case side4 => exact HC1.out); rintro e w44 ⟨rfl, hb⟩; refine ⟨_, rfl, ?_⟩; have n0_ := Aside0.mk (Kd.R_below (Qro HO414.out) hb); have n1_ := Aside0.mk (Kd.R_below (Qro HO417.out) hb); have n2_ := Aside0.mk (below_step (Qaw) hb); clear HO414; clear HO417; clear HB; have HO414 := n0_; have HO417 := n1_; have HB := n2_; clear n0_ n1_ n2_; (try clear hb); (try clear hb2); (try clear hk); (try clear hi)))
   go_ret
   exact ⟨by first | rfl | (simp [errW_none, errW_some] <;> rfl) | (simp [*, errW_none, errW_some] <;> rfl), by repeat (first | (with_reducible first | exact HB.out | apply below_alloc | apply pw_below_drewN | apply below_drew1) | exact HB.out)⟩
 ·replace c7 := Bool.eq_false_iff.mpr c7
  subst c7
  have H1 : (if t418 = 0 then (if t419 = true then (some false) else (if t420 = true then (some false) else (if t421 = 2 then ((lampblacklaw03_awake.f k).bind fun t427 => (some t427)) else (some false)))) else (some false)) = some r := by rw [if_neg (show ¬ (false = true) by decide)] at H; exact H
  clear H
  have H := H1
  clear H1
  by_cases c45 : t418 = 0
  ·rw [if_pos c45] at H
   have c45b0 : (t418 == 0) = true := beq_iff_eq.mpr c45
   have c45b1 : (t418 != 0) = false := bne_eq_false_iff_eq.mpr c45
   clear c45
   by_cases c46 : t419 = true
   ·subst c46
    have H1 : (some false) = some r := by rw [if_pos rfl] at H; exact H
    clear H
    have H := H1
    clear H1
    obtain rfl := Option.some.inj H
    go_enter Tryd.func10, Tryd.ntmps10
    go_wp2_with (first | ((with_reducible refine gate_callee (f := 18) rfl ?_); refine goesL_ (some 14) rfl rfl Tryd.func18 (by kernel_rfl) rfl #[.slice A0 l0.length c0] rfl (Qls) ?_; (with_reducible refine (lampblacklaw03_Few.calls _ _ l0 t412 _ ?side1 ?side2 A3.out).mono ?_); (case side1 => exact Qsc HR0.out); (case side2 => exact HC0.out); rintro e w47 ⟨v413, rfl, ho0, hb⟩; refine ⟨_, rfl, ?_⟩; have n0_ := Aside0.mk (Kd.R_lower ho0 (below_size (Qaw))); have n1_ := Aside0.mk (below_step (Qaw) hb); clear HB; have HO414 := n0_; have HB := n1_; clear n0_ n1_; (try clear hb); (try clear hb2); (try clear hk); (try clear hi); (try clear ho0)) | ((with_reducible refine gate_callee (f := 39) rfl ?_); refine goesL_ (some 16) rfl rfl Tryd.func39 (by kernel_rfl) rfl #[.slice A1 l1.length c1] rfl (Qls) ?_; (with_reducible refine (lampblacklaw03_plan.calls k _ _ l1 t415 _ ?side1 ?side2 A4.out).mono ?_); (case side1 => exact Qsc (Kd.C_below HR1.out HB.out)); (case side2 => exact HC1.out); rintro e w48 ⟨v416, rfl, ho0, hb⟩; refine ⟨_, rfl, ?_⟩; have n0_ := Aside0.mk (Kd.R_below (Qro HO414.out) hb); have n1_ := Aside0.mk (Kd.R_lower ho0 (below_size (Qaw))); have n2_ := Aside0.mk (below_step (Qaw) hb); clear HO414; clear HB; have HO414 := n0_; have HO417 := n1_; have HB := n2_; clear n0_ n1_ n2_; (try clear hb); (try clear hb2); (try clear hk); (try clear hi); (try clear ho0); obtain ⟨Ao49, co49, eo49⟩ := Kd.R_slice HO414.out; subst eo49; obtain ⟨Ao50, co50, eo50⟩ := Kd.R_slice HO417.out; subst eo50) | ((with_reducible refine gate_callee (f := 38) rfl ?_); refine goesL_ (some 17) rfl rfl Tryd.func38 (by kernel_rfl) rfl #[.slice Ao49 t412.length co49, .slice Ao50 t415.length co50] rfl (Qls) ?_; (with_reducible refine (sweep_Play.calls (hGL := (Qlg)) _ _ t412 _ _ t415 t418 true t420 t421 _ ?side1 ?side2 ?side3 ?side4 A5.out).mono ?_); (case side1 => exact Qsc (Kd.R_reads' HO414.out).2.2); (case side2 => exact (Kd.R_reads' HO414.out).2.1); (case side3 => exact Qsc (Kd.R_reads' HO417.out).2.2); (case side4 => exact (Kd.R_reads' HO417.out).2.1); rintro e w51 ⟨rfl, hb⟩; refine ⟨_, rfl, ?_⟩; have n0_ := Aside0.mk (Kd.R_below (Qro HO414.out) hb); have n1_ := Aside0.mk (Kd.R_below (Qro HO417.out) hb); have n2_ := Aside0.mk (below_step (Qaw) hb); clear HO414; clear HO417; clear HB; have HO414 := n0_; have HO417 := n1_; have HB := n2_; clear n0_ n1_ n2_; (try clear hb); (try clear hb2); (try clear hk); (try clear hi)) | ((with_reducible refine gate_callee (f := 19) rfl ?_); refine goesL_ (some 23) rfl rfl Tryd.func19 (by kernel_rfl) rfl #[.slice A0 l0.length c0] rfl (Qls) ?_; (with_reducible refine (lampblackref03_Valid.calls k _ _ l0 false _ ?side1 ?side2 A6.out).mono ?_); (case side1 => exact Qsc (Kd.C_below HR0.out HB.out)); (case side2 => exact HC0.out); rintro e w' ⟨rfl, ⟨nd, rfl⟩⟩; refine ⟨_, rfl, ?_⟩))
    go_ret
    exact ⟨by first | rfl | (simp [errW_none, errW_some] <;> rfl) | (simp [*, errW_none, errW_some] <;> rfl), by repeat (first | (with_reducible first | exact HB.out | apply below_alloc | apply pw_below_drewN | apply below_drew1) | exact HB.out)⟩
   ·replace c46 := Bool.eq_false_iff.mpr c46
    subst c46
    have H1 : (if t420 = true then (some false) else (if t421 = 2 then ((lampblacklaw03_awake.f k).bind fun t427 => (some t427)) else (some false))) = some r := by rw [if_neg (show ¬ (false = true) by decide)] at H; exact H
    clear H
    have H := H1
    clear H1
    by_cases c52 : t420 = true
    ·subst c52
     have H1 : (some false) = some r := by rw [if_pos rfl] at H; exact H
     clear H
     have H := H1
     clear H1
     obtain rfl := Option.some.inj H
     go_enter Tryd.func10, Tryd.ntmps10
     go_wp2_with (first | ((with_reducible refine gate_callee (f := 18) rfl ?_); refine goesL_ (some 14) rfl rfl Tryd.func18 (by kernel_rfl) rfl #[.slice A0 l0.length c0] rfl (Qls) ?_; (with_reducible refine (lampblacklaw03_Few.calls _ _ l0 t412 _ ?side1 ?side2 A3.out).mono ?_); (case side1 => exact Qsc HR0.out); (case side2 => exact HC0.out); rintro e w53 ⟨v413, rfl, ho0, hb⟩; refine ⟨_, rfl, ?_⟩; have n0_ := Aside0.mk (Kd.R_lower ho0 (below_size (Qaw))); have n1_ := Aside0.mk (below_step (Qaw) hb); clear HB; have HO414 := n0_; have HB := n1_; clear n0_ n1_; (try clear hb); (try clear hb2); (try clear hk); (try clear hi); (try clear ho0)) | ((with_reducible refine gate_callee (f := 39) rfl ?_); refine goesL_ (some 16) rfl rfl Tryd.func39 (by kernel_rfl) rfl #[.slice A1 l1.length c1] rfl (Qls) ?_; (with_reducible refine (lampblacklaw03_plan.calls k _ _ l1 t415 _ ?side1 ?side2 A4.out).mono ?_); (case side1 => exact Qsc (Kd.C_below HR1.out HB.out)); (case side2 => exact HC1.out); rintro e w54 ⟨v416, rfl, ho0, hb⟩; refine ⟨_, rfl, ?_⟩; have n0_ := Aside0.mk (Kd.R_below (Qro HO414.out) hb); have n1_ := Aside0.mk (Kd.R_lower ho0 (below_size (Qaw))); have n2_ := Aside0.mk (below_step (Qaw) hb); clear HO414; clear HB; have HO414 := n0_; have HO417 := n1_; have HB := n2_; clear n0_ n1_ n2_; (try clear hb); (try clear hb2); (try clear hk); (try clear hi); (try clear ho0); obtain ⟨Ao55, co55, eo55⟩ := Kd.R_slice HO414.out; subst eo55; obtain ⟨Ao56, co56, eo56⟩ := Kd.R_slice HO417.out; subst eo56) | ((with_reducible refine gate_callee (f := 38) rfl ?_); refine goesL_ (some 17) rfl rfl Tryd.func38 (by kernel_rfl) rfl #[.slice Ao55 t412.length co55, .slice Ao56 t415.length co56] rfl (Qls) ?_; (with_reducible refine (sweep_Play.calls (hGL := (Qlg)) _ _ t412 _ _ t415 t418 false true t421 _ ?side1 ?side2 ?side3 ?side4 A5.out).mono ?_); (case side1 => exact Qsc (Kd.R_reads' HO414.out).2.2); (case side2 => exact (Kd.R_reads' HO414.out).2.1); (case side3 => exact Qsc (Kd.R_reads' HO417.out).2.2); (case side4 => exact (Kd.R_reads' HO417.out).2.1); rintro e w57 ⟨rfl, hb⟩; refine ⟨_, rfl, ?_⟩; have n0_ := Aside0.mk (Kd.R_below (Qro HO414.out) hb); have n1_ := Aside0.mk (Kd.R_below (Qro HO417.out) hb); have n2_ := Aside0.mk (below_step (Qaw) hb); clear HO414; clear HO417; clear HB; have HO414 := n0_; have HO417 := n1_; have HB := n2_; clear n0_ n1_ n2_; (try clear hb); (try clear hb2); (try clear hk); (try clear hi)) | ((with_reducible refine gate_callee (f := 19) rfl ?_); refine goesL_ (some 23) rfl rfl Tryd.func19 (by kernel_rfl) rfl #[.slice A0 l0.length c0] rfl (Qls) ?_; (with_reducible refine (lampblackref03_Valid.calls k _ _ l0 false _ ?side1 ?side2 A6.out).mono ?_); (case side1 => exact Qsc (Kd.C_below HR0.out HB.out)); (case side2 => exact HC0.out); rintro e w' ⟨rfl, ⟨nd, rfl⟩⟩; refine ⟨_, rfl, ?_⟩))
     go_ret
     exact ⟨by first | rfl | (simp [errW_none, errW_some] <;> rfl) | (simp [*, errW_none, errW_some] <;> rfl), by repeat (first | (with_reducible first | exact HB.out | apply below_alloc | apply pw_below_drewN | apply below_drew1) | exact HB.out)⟩
    ·replace c52 := Bool.eq_false_iff.mpr c52
     subst c52
     have H1 : (if t421 = 2 then ((lampblacklaw03_awake.f k).bind fun t427 => (some t427)) else (some false)) = some r := by rw [if_neg (show ¬ (false = true) by decide)] at H; exact H
     clear H
     have H := H1
     clear H1
     by_cases c58 : t421 = 2
     ·rw [if_pos c58] at H
      have c58b0 : (t421 == 2) = true := beq_iff_eq.mpr c58
      have c58b1 : (t421 != 2) = false := bne_eq_false_iff_eq.mpr c58
      clear c58
      replace H := Option.bind_eq_some_iff.mp H
      obtain ⟨t427, A590, H⟩ := H
      replace H : (some t427) = some r := H
      have A59 := Aside0.mk A590
      clear A590
      obtain rfl := Option.some.inj H
      go_enter Tryd.func10, Tryd.ntmps10
      go_wp2_with (first | ((with_reducible refine gate_callee (f := 18) rfl ?_); refine goesL_ (some 14) rfl rfl Tryd.func18 (by kernel_rfl) rfl #[.slice A0 l0.length c0] rfl (Qls) ?_; (with_reducible refine (lampblacklaw03_Few.calls _ _ l0 t412 _ ?side1 ?side2 A3.out).mono ?_); (case side1 => exact Qsc HR0.out); (case side2 => exact HC0.out); rintro e w60 ⟨v413, rfl, ho0, hb⟩; refine ⟨_, rfl, ?_⟩; have n0_ := Aside0.mk (Kd.R_lower ho0 (below_size (Qaw))); have n1_ := Aside0.mk (below_step (Qaw) hb); clear HB; have HO414 := n0_; have HB := n1_; clear n0_ n1_; (try clear hb); (try clear hb2); (try clear hk); (try clear hi); (try clear ho0)) | ((with_reducible refine gate_callee (f := 39) rfl ?_); refine goesL_ (some 16) rfl rfl Tryd.func39 (by kernel_rfl) rfl #[.slice A1 l1.length c1] rfl (Qls) ?_; (with_reducible refine (lampblacklaw03_plan.calls k _ _ l1 t415 _ ?side1 ?side2 A4.out).mono ?_); (case side1 => exact Qsc (Kd.C_below HR1.out HB.out)); (case side2 => exact HC1.out); rintro e w61 ⟨v416, rfl, ho0, hb⟩; refine ⟨_, rfl, ?_⟩; have n0_ := Aside0.mk (Kd.R_below (Qro HO414.out) hb); have n1_ := Aside0.mk (Kd.R_lower ho0 (below_size (Qaw))); have n2_ := Aside0.mk (below_step (Qaw) hb); clear HO414; clear HB; have HO414 := n0_; have HO417 := n1_; have HB := n2_; clear n0_ n1_ n2_; (try clear hb); (try clear hb2); (try clear hk); (try clear hi); (try clear ho0); obtain ⟨Ao62, co62, eo62⟩ := Kd.R_slice HO414.out; subst eo62; obtain ⟨Ao63, co63, eo63⟩ := Kd.R_slice HO417.out; subst eo63) | ((with_reducible refine gate_callee (f := 38) rfl ?_); refine goesL_ (some 17) rfl rfl Tryd.func38 (by kernel_rfl) rfl #[.slice Ao62 t412.length co62, .slice Ao63 t415.length co63] rfl (Qls) ?_; (with_reducible refine (sweep_Play.calls (hGL := (Qlg)) _ _ t412 _ _ t415 t418 false false t421 _ ?side1 ?side2 ?side3 ?side4 A5.out).mono ?_); (case side1 => exact Qsc (Kd.R_reads' HO414.out).2.2); (case side2 => exact (Kd.R_reads' HO414.out).2.1); (case side3 => exact Qsc (Kd.R_reads' HO417.out).2.2); (case side4 => exact (Kd.R_reads' HO417.out).2.1); rintro e w64 ⟨rfl, hb⟩; refine ⟨_, rfl, ?_⟩; have n0_ := Aside0.mk (Kd.R_below (Qro HO414.out) hb); have n1_ := Aside0.mk (Kd.R_below (Qro HO417.out) hb); have n2_ := Aside0.mk (below_step (Qaw) hb); clear HO414; clear HO417; clear HB; have HO414 := n0_; have HO417 := n1_; have HB := n2_; clear n0_ n1_ n2_; (try clear hb); (try clear hb2); (try clear hk); (try clear hi)) | ((with_reducible refine gate_callee (f := 19) rfl ?_); refine goesL_ (some 23) rfl rfl Tryd.func19 (by kernel_rfl) rfl #[.slice A0 l0.length c0] rfl (Qls) ?_; (with_reducible refine (lampblackref03_Valid.calls k _ _ l0 false _ ?side1 ?side2 A6.out).mono ?_); (case side1 => exact Qsc (Kd.C_below HR0.out HB.out)); (case side2 => exact HC0.out); rintro e w' ⟨rfl, ⟨nd, rfl⟩⟩; refine ⟨_, rfl, ?_⟩) | (go_at_call 20; (with_reducible refine (lampblacklaw03_awake.calls (hGL := (Qlg)) k  t427 _ A59.out).mono ?_); rintro e w65 ⟨rfl, hb⟩; have n0_ := Aside0.mk (Kd.R_below (Qro HO414.out) hb); have n1_ := Aside0.mk (Kd.R_below (Qro HO417.out) hb); have n2_ := Aside0.mk (below_step (Qaw) hb); clear HO414; clear HO417; clear HB; have HO414 := n0_; have HO417 := n1_; have HB := n2_; clear n0_ n1_ n2_; (try clear hb); (try clear hb2); (try clear hk); (try clear hi)))
      go_ret
      exact ⟨by first | rfl | (simp [errW_none, errW_some] <;> rfl) | (simp [*, errW_none, errW_some] <;> rfl), by repeat (first | (with_reducible first | exact HB.out | apply below_alloc | apply pw_below_drewN | apply below_drew1) | exact HB.out)⟩
     ·rw [if_neg c58] at H
      have c58b0 : (t421 == 2) = false := beq_eq_false_iff_ne.mpr c58
      have c58b1 : (t421 != 2) = true := bne_iff_ne.mpr c58
      obtain rfl := Option.some.inj H
      go_enter Tryd.func10, Tryd.ntmps10
      go_wp2_with (first | ((with_reducible refine gate_callee (f := 18) rfl ?_); refine goesL_ (some 14) rfl rfl Tryd.func18 (by kernel_rfl) rfl #[.slice A0 l0.length c0] rfl (Qls) ?_; (with_reducible refine (lampblacklaw03_Few.calls _ _ l0 t412 _ ?side1 ?side2 A3.out).mono ?_); (case side1 => exact Qsc HR0.out); (case side2 => exact HC0.out); rintro e w66 ⟨v413, rfl, ho0, hb⟩; refine ⟨_, rfl, ?_⟩; have n0_ := Aside0.mk (Kd.R_lower ho0 (below_size (Qaw))); have n1_ := Aside0.mk (below_step (Qaw) hb); clear HB; have HO414 := n0_; have HB := n1_; clear n0_ n1_; (try clear hb); (try clear hb2); (try clear hk); (try clear hi); (try clear ho0)) | ((with_reducible refine gate_callee (f := 39) rfl ?_); refine goesL_ (some 16) rfl rfl Tryd.func39 (by kernel_rfl) rfl #[.slice A1 l1.length c1] rfl (Qls) ?_; (with_reducible refine (lampblacklaw03_plan.calls k _ _ l1 t415 _ ?side1 ?side2 A4.out).mono ?_); (case side1 => exact Qsc (Kd.C_below HR1.out HB.out)); (case side2 => exact HC1.out); rintro e w67 ⟨v416, rfl, ho0, hb⟩; refine ⟨_, rfl, ?_⟩; have n0_ := Aside0.mk (Kd.R_below (Qro HO414.out) hb); have n1_ := Aside0.mk (Kd.R_lower ho0 (below_size (Qaw))); have n2_ := Aside0.mk (below_step (Qaw) hb); clear HO414; clear HB; have HO414 := n0_; have HO417 := n1_; have HB := n2_; clear n0_ n1_ n2_; (try clear hb); (try clear hb2); (try clear hk); (try clear hi); (try clear ho0); obtain ⟨Ao68, co68, eo68⟩ := Kd.R_slice HO414.out; subst eo68; obtain ⟨Ao69, co69, eo69⟩ := Kd.R_slice HO417.out; subst eo69) | ((with_reducible refine gate_callee (f := 38) rfl ?_); refine goesL_ (some 17) rfl rfl Tryd.func38 (by kernel_rfl) rfl #[.slice Ao68 t412.length co68, .slice Ao69 t415.length co69] rfl (Qls) ?_; (with_reducible refine (sweep_Play.calls (hGL := (Qlg)) _ _ t412 _ _ t415 t418 false false t421 _ ?side1 ?side2 ?side3 ?side4 A5.out).mono ?_); (case side1 => exact Qsc (Kd.R_reads' HO414.out).2.2); (case side2 => exact (Kd.R_reads' HO414.out).2.1); (case side3 => exact Qsc (Kd.R_reads' HO417.out).2.2); (case side4 => exact (Kd.R_reads' HO417.out).2.1); rintro e w70 ⟨rfl, hb⟩; refine ⟨_, rfl, ?_⟩; have n0_ := Aside0.mk (Kd.R_below (Qro HO414.out) hb); have n1_ := Aside0.mk (Kd.R_below (Qro HO417.out) hb); have n2_ := Aside0.mk (below_step (Qaw) hb); clear HO414; clear HO417; clear HB; have HO414 := n0_; have HO417 := n1_; have HB := n2_; clear n0_ n1_ n2_; (try clear hb); (try clear hb2); (try clear hk); (try clear hi)) | ((with_reducible refine gate_callee (f := 19) rfl ?_); refine goesL_ (some 23) rfl rfl Tryd.func19 (by kernel_rfl) rfl #[.slice A0 l0.length c0] rfl (Qls) ?_; (with_reducible refine (lampblackref03_Valid.calls k _ _ l0 false _ ?side1 ?side2 A6.out).mono ?_); (case side1 => exact Qsc (Kd.C_below HR0.out HB.out)); (case side2 => exact HC0.out); rintro e w' ⟨rfl, ⟨nd, rfl⟩⟩; refine ⟨_, rfl, ?_⟩))
      go_ret
      exact ⟨by first | rfl | (simp [errW_none, errW_some] <;> rfl) | (simp [*, errW_none, errW_some] <;> rfl), by repeat (first | (with_reducible first | exact HB.out | apply below_alloc | apply pw_below_drewN | apply below_drew1) | exact HB.out)⟩
  ·rw [if_neg c45] at H
   have c45b0 : (t418 == 0) = false := beq_eq_false_iff_ne.mpr c45
   have c45b1 : (t418 != 0) = true := bne_iff_ne.mpr c45
   obtain rfl := Option.some.inj H
   go_enter Tryd.func10, Tryd.ntmps10
   go_wp2_with (first | ((with_reducible refine gate_callee (f := 18) rfl ?_); refine goesL_ (some 14) rfl rfl Tryd.func18 (by kernel_rfl) rfl #[.slice A0 l0.length c0] rfl (Qls) ?_; (with_reducible refine (lampblacklaw03_Few.calls _ _ l0 t412 _ ?side1 ?side2 A3.out).mono ?_); (case side1 => exact Qsc HR0.out); (case side2 => exact HC0.out); rintro e w71 ⟨v413, rfl, ho0, hb⟩; refine ⟨_, rfl, ?_⟩; have n0_ := Aside0.mk (Kd.R_lower ho0 (below_size (Qaw))); have n1_ := Aside0.mk (below_step (Qaw) hb); clear HB; have HO414 := n0_; have HB := n1_; clear n0_ n1_; (try clear hb); (try clear hb2); (try clear hk); (try clear hi); (try clear ho0)) | ((with_reducible refine gate_callee (f := 39) rfl ?_); refine goesL_ (some 16) rfl rfl Tryd.func39 (by kernel_rfl) rfl #[.slice A1 l1.length c1] rfl (Qls) ?_; (with_reducible refine (lampblacklaw03_plan.calls k _ _ l1 t415 _ ?side1 ?side2 A4.out).mono ?_); (case side1 => exact Qsc (Kd.C_below HR1.out HB.out)); (case side2 => exact HC1.out); rintro e w72 ⟨v416, rfl, ho0, hb⟩; refine ⟨_, rfl, ?_⟩; have n0_ := Aside0.mk (Kd.R_below (Qro HO414.out) hb); have n1_ := Aside0.mk (Kd.R_lower ho0 (below_size (Qaw))); have n2_ := Aside0.mk (below_step (Qaw) hb); clear HO414; clear HB; have HO414 := n0_; have HO417 := n1_; have HB := n2_; clear n0_ n1_ n2_; (try clear hb); (try clear hb2); (try clear hk); (try clear hi); (try clear ho0); obtain ⟨Ao73, co73, eo73⟩ := Kd.R_slice HO414.out; subst eo73; obtain ⟨Ao74, co74, eo74⟩ := Kd.R_slice HO417.out; subst eo74) | ((with_reducible refine gate_callee (f := 38) rfl ?_); refine goesL_ (some 17) rfl rfl Tryd.func38 (by kernel_rfl) rfl #[.slice Ao73 t412.length co73, .slice Ao74 t415.length co74] rfl (Qls) ?_; (with_reducible refine (sweep_Play.calls (hGL := (Qlg)) _ _ t412 _ _ t415 t418 t419 t420 t421 _ ?side1 ?side2 ?side3 ?side4 A5.out).mono ?_); (case side1 => exact Qsc (Kd.R_reads' HO414.out).2.2); (case side2 => exact (Kd.R_reads' HO414.out).2.1); (case side3 => exact Qsc (Kd.R_reads' HO417.out).2.2); (case side4 => exact (Kd.R_reads' HO417.out).2.1); rintro e w75 ⟨rfl, hb⟩; refine ⟨_, rfl, ?_⟩; have n0_ := Aside0.mk (Kd.R_below (Qro HO414.out) hb); have n1_ := Aside0.mk (Kd.R_below (Qro HO417.out) hb); have n2_ := Aside0.mk (below_step (Qaw) hb); clear HO414; clear HO417; clear HB; have HO414 := n0_; have HO417 := n1_; have HB := n2_; clear n0_ n1_ n2_; (try clear hb); (try clear hb2); (try clear hk); (try clear hi)) | ((with_reducible refine gate_callee (f := 19) rfl ?_); refine goesL_ (some 23) rfl rfl Tryd.func19 (by kernel_rfl) rfl #[.slice A0 l0.length c0] rfl (Qls) ?_; (with_reducible refine (lampblackref03_Valid.calls k _ _ l0 false _ ?side1 ?side2 A6.out).mono ?_); (case side1 => exact Qsc (Kd.C_below HR0.out HB.out)); (case side2 => exact HC0.out); rintro e w' ⟨rfl, ⟨nd, rfl⟩⟩; refine ⟨_, rfl, ?_⟩))
   go_ret
   exact ⟨by first | rfl | (simp [errW_none, errW_some] <;> rfl) | (simp [*, errW_none, errW_some] <;> rfl), by repeat (first | (with_reducible first | exact HB.out | apply below_alloc | apply pw_below_drewN | apply below_drew1) | exact HB.out)⟩
end Go.Proofs.YtijfddobandcdaaDoor.X
end
section
/- Lists that have the numbers below n, each once. -/
namespace Go.Proofs.YtijfddobandcdaaDoor.T
open Go.RowKit YtijfddobandcdaaDoorW.PrintWords YtijfddobandcdaaDoorW.PrintLast YtijfddobandcdaaDoorW.PrintMore
def IsOrd (n : Nat) (l : List Int) : Prop := ∃ P : List Nat, l = gi P ∧ P.Nodup ∧ (∀ v ∈ P, v < n) ∧ P.length = n
theorem gi_inj {a b : List Nat} (h : gi a = gi b) : a = b := by
 induction a generalizing b with
 | nil => cases b with
  | nil => rfl
  | cons => simp [gi] at h
 | cons x a ih => cases b with
  | nil => simp [gi] at h
  | cons y b =>
   simp only [gi, List.map_cons, List.cons.injEq] at h
   rw [ih (show gi a = gi b from h.2)]
   congr 1
   omega
theorem IsOrd.of {n : Nat} {P : List Nat} (h1 : P.Nodup) (h2 : ∀ v ∈ P, v < n) : IsOrd n (gi P) ↔ P.length = n := by
 constructor
 ·rintro ⟨Q, e, _, _, h⟩
  rw [gi_inj e]; exact h
 ·intro h; exact ⟨P, rfl, h1, h2, h⟩
theorem IsOrd.length {n : Nat} {l : List Int} (h : IsOrd n l) : l.length = n := by
 obtain ⟨P, rfl, _, _, h⟩ := h
 rw [gi_length, h]
end Go.Proofs.YtijfddobandcdaaDoor.T
end
section
/- Path decompositions: bags in a row; the runs of a node; backward. -/
namespace Go.Proofs.YtijfddobandcdaaDoor.T
open Go.RowKit YtijfddobandcdaaDoorW.PrintWords YtijfddobandcdaaDoorW.PrintLast YtijfddobandcdaaDoorW.PrintMore
def marks (v : Nat) (B : List Nat) : List Bool := B.map fun b => b.testBit v
def left (v : Nat) : Nat → List Nat → Nat
 | s, [] => s
 | s, b :: B => left v (if b.testBit v then diff s b else s) B
end Go.Proofs.YtijfddobandcdaaDoor.T
end
section
namespace Go.Proofs.YtijfddobandcdaaDoor.X
open Go.RowKit YtijfddobandcdaaDoorW.PrintWords YtijfddobandcdaaDoorW.PrintLast YtijfddobandcdaaDoorW.PrintMore
attribute [local go_sem] max2_int min2_int max_two min_two max_three min_three max_four min_four
/-! ### slices_Max_int_int: function 76 -/
def slices_Max_int_int.l0 : Nat → List Int → Int → Int → Option (Int)
 | 0, _, _, _ => none
 | k + 1, x0, x3, x4 => if x4 < (x0.length : Int) then (if 0 ≤ x4 then (slices_Max_int_int.l0 k x0 (mx x3 (rd x0 x4)) (wrap64 (x4 + 1))) else (none)) else (some x3)
end Go.Proofs.YtijfddobandcdaaDoor.X
end
section
namespace Go.Proofs.YtijfddobandcdaaDoor.X
open Go.RowKit YtijfddobandcdaaDoorW.PrintWords YtijfddobandcdaaDoorW.PrintLast YtijfddobandcdaaDoorW.PrintMore
attribute [local go_sem] max2_int min2_int max_two min_two max_three min_three max_four min_four
/-! ### slices_Min_int_int: function 75 -/
def slices_Min_int_int.l0 : Nat → List Int → Int → Int → Option (Int)
 | 0, _, _, _ => none
 | k + 1, x0, x3, x4 => if x4 < (x0.length : Int) then (if 0 ≤ x4 then (slices_Min_int_int.l0 k x0 (mn x3 (rd x0 x4)) (wrap64 (x4 + 1))) else (none)) else (some x3)
end Go.Proofs.YtijfddobandcdaaDoor.X
end
section
namespace Go.Proofs.YtijfddobandcdaaDoor.X
open Go.RowKit YtijfddobandcdaaDoorW.PrintWords YtijfddobandcdaaDoorW.PrintLast YtijfddobandcdaaDoorW.PrintMore
attribute [local go_sem] max2_int min2_int max_two min_two max_three min_three max_four min_four
/-! ### sweep_town_isPath: function 62 -/
mutual
def sweep_town_isPath.j0 : Nat → List Int → List Int → Bool → Option (Bool)
 | 0, _, _, _ => none
 | k + 1, x0, x1, x29 => if x29 = true then (some false) else (sweep_town_isPath.l0 k x1 x0 (x0.length : Int) 0)
def sweep_town_isPath.l0 : Nat → List Int → List Int → Int → Int → Option (Bool)
 | 0, _, _, _, _ => none
 | k + 1, x1, x30, x31, x32 => if x32 < x31 then (if 0 ≤ x32 then (if x32 < (x30.length : Int) then (sweep_town_isPath.l1 k x1 x32 (rd x30 x32) 0 x30 x31 x32 x1 (x1.length : Int) 0) else (none)) else (none)) else (some true)
def sweep_town_isPath.l1 : Nat → List Int → Int → Int → Int → List Int → Int → Int → List Int → Int → Int → Option (Bool)
 | 0, _, _, _, _, _, _, _, _, _, _ => none
 | k + 1, x1, x5, x6, x7, x30, x31, x32, x37, x38, x39 => if x39 < x38 then (if 0 ≤ x39 then (if x39 < (x37.length : Int) then (if 0 ≤ x5 then (if (Go.bits .and .i64 (shr .i64 (rd x37 x39) x5) 1) = 1 then (if x39 = 0 then (sweep_town_isPath.j3 k x1 x5 x6 x7 (rd x37 x39) x30 x31 x32 x37 x38 x39 true) else (if 0 ≤ (wrap64 (x39 - 1)) then (if (wrap64 (x39 - 1)) < (x1.length : Int) then (sweep_town_isPath.j3 k x1 x5 x6 x7 (rd x37 x39) x30 x31 x32 x37 x38 x39 ((Go.bits .and .i64 (shr .i64 (rd x1 (wrap64 (x39 - 1))) x5) 1) == 0)) else (none)) else (none))) else (sweep_town_isPath.j3 k x1 x5 x6 x7 (rd x37 x39) x30 x31 x32 x37 x38 x39 false)) else (none)) else (none)) else (none)) else (if x7 = 1 then (if x6 = 0 then (sweep_town_isPath.l0 k x1 x30 x31 (wrap64 (x32 + 1))) else (some false)) else (some false))
def sweep_town_isPath.j3 : Nat → List Int → Int → Int → Int → Int → List Int → Int → Int → List Int → Int → Int → Bool → Option (Bool)
 | 0, _, _, _, _, _, _, _, _, _, _, _, _ => none
 | k + 1, x1, x5, x6, x7, x9, x30, x31, x32, x37, x38, x39, x63 => if x63 = true then (if 0 ≤ x5 then (if (Go.bits .and .i64 (shr .i64 x9 x5) 1) = 1 then (sweep_town_isPath.l1 k x1 x5 (Go.bits .andNot .i64 x6 x9) (wrap64 (x7 + 1)) x30 x31 x32 x37 x38 (wrap64 (x39 + 1))) else (sweep_town_isPath.l1 k x1 x5 x6 (wrap64 (x7 + 1)) x30 x31 x32 x37 x38 (wrap64 (x39 + 1)))) else (none)) else (if 0 ≤ x5 then (if (Go.bits .and .i64 (shr .i64 x9 x5) 1) = 1 then (sweep_town_isPath.l1 k x1 x5 (Go.bits .andNot .i64 x6 x9) x7 x30 x31 x32 x37 x38 (wrap64 (x39 + 1))) else (sweep_town_isPath.l1 k x1 x5 x6 x7 x30 x31 x32 x37 x38 (wrap64 (x39 + 1)))) else (none))
end
end Go.Proofs.YtijfddobandcdaaDoor.X
end
section
namespace Go.Proofs.YtijfddobandcdaaDoor.X
open Go.RowKit YtijfddobandcdaaDoorW.PrintWords YtijfddobandcdaaDoorW.PrintLast YtijfddobandcdaaDoorW.PrintMore
attribute [local go_sem] max2_int min2_int max_two min_two max_three min_three max_four min_four
/-! ### sweep_Check: function 36 -/
def sweep_Check.l0 : Nat → Int → List Int → Int → Int → Option (Int × Bool × Int)
 | 0, _, _, _, _ => none
 | k + 1, x9, x23, x24, x25 => if x25 < x24 then (if 0 ≤ x25 then (if x25 < (x23.length : Int) then ((sweep_count.f (rd x23 x25)).bind fun t365 => (sweep_Check.l0 k (mx x9 t365) x23 x24 (wrap64 (x25 + 1)))) else (none)) else (none)) else (some (wrap64 (x9 - 1), true, 0))
end Go.Proofs.YtijfddobandcdaaDoor.X
end
section
namespace Go.Proofs.YtijfddobandcdaaDoor.X
open Go.RowKit YtijfddobandcdaaDoorW.PrintWords YtijfddobandcdaaDoorW.PrintLast YtijfddobandcdaaDoorW.PrintMore
attribute [local go_sem] max2_int min2_int max_two min_two max_three min_three max_four min_four
/-! ### sweep_town_isLayout: function 55 -/
def sweep_town_isLayout.l0 : Nat → List Int → List Int → Int → List Int → Int → Int → Option (Bool)
 | 0, _, _, _, _, _, _ => none
 | k + 1, x0, x1, x5, x8, x9, x10 => if x10 < x9 then (if 0 ≤ x10 then (if x10 < (x8.length : Int) then (if (rd x8 x10) < 0 then (some false) else (if (rd x8 x10) ≥ (x0.length : Int) then (some false) else (if 0 ≤ (rd x8 x10) then (sweep_town_isLayout.l0 k x0 x1 (Go.bits .or .i64 x5 (shl .i64 1 (rd x8 x10))) x8 x9 (wrap64 (x10 + 1))) else (none)))) else (none)) else (none)) else (if (x1.length : Int) = (x0.length : Int) then ((sweep_town_all.f x0).bind fun t235 => (some (x5 == t235))) else (some false))
end Go.Proofs.YtijfddobandcdaaDoor.X
end
section
namespace Go.Proofs.YtijfddobandcdaaDoor.X
open Go.RowKit YtijfddobandcdaaDoorW.PrintWords YtijfddobandcdaaDoorW.PrintLast YtijfddobandcdaaDoorW.PrintMore
attribute [local go_sem] max2_int min2_int max_two min_two max_three min_three max_four min_four
/-! ### sweep_town_bags: function 52 -/
def sweep_town_bags.l0 : Nat → List Int → List Int → Int → List Int → Int → Int → Option (List Int)
 | 0, _, _, _, _, _, _ => none
 | k + 1, x0, x5, x6, x9, x10, x11 => if x11 < x10 then (if 0 ≤ x11 then (if x11 < (x9.length : Int) then ((sweep_town_border.f x0 x6).bind fun t194 => (if 0 ≤ (rd x9 x11) then (if x5.length < 17592186044416 then (sweep_town_bags.l0 k x0 (x5 ++ [Go.bits .or .i64 t194 (shl .i64 1 (rd x9 x11))]) (Go.bits .or .i64 x6 (shl .i64 1 (rd x9 x11))) x9 x10 (wrap64 (x11 + 1))) else (none)) else (none))) else (none)) else (none)) else (some x5)
end Go.Proofs.YtijfddobandcdaaDoor.X
end
section
namespace Go.Proofs.YtijfddobandcdaaDoor.X
open Go.RowKit YtijfddobandcdaaDoorW.PrintWords YtijfddobandcdaaDoorW.PrintLast YtijfddobandcdaaDoorW.PrintMore
attribute [local go_sem] max2_int min2_int max_two min_two max_three min_three max_four min_four
/-! ### lampblackref02_IsOrder: function 30 -/
def lampblackref02_IsOrder.l0 : Nat → List Int → Int → Int → List Int → Int → Int → Option (Bool)
 | 0, _, _, _, _, _, _ => none
 | k + 1, x0, x1, x5, x8, x9, x10 => if x10 < x9 then (if 0 ≤ x10 then (if x10 < (x8.length : Int) then (if (rd x8 x10) < 0 then (some false) else (if (rd x8 x10) ≥ x1 then (some false) else (if 0 ≤ (rd x8 x10) then (if (Go.bits .and .i64 (shr .i64 x5 (rd x8 x10)) 1) = 1 then (some false) else (lampblackref02_IsOrder.l0 k x0 x1 (Go.bits .or .i64 x5 (shl .i64 1 (rd x8 x10))) x8 x9 (wrap64 (x10 + 1)))) else (none)))) else (none)) else (none)) else (some ((x0.length : Int) == x1))
end Go.Proofs.YtijfddobandcdaaDoor.X
end
section
namespace Go.Proofs.YtijfddobandcdaaDoor.X
open Go.RowKit YtijfddobandcdaaDoorW.PrintWords YtijfddobandcdaaDoorW.PrintLast YtijfddobandcdaaDoorW.PrintMore
attribute [local go_sem] max2_int min2_int max_two min_two max_three min_three max_four min_four
/-! ### lampblackref03_Bags: function 33 -/
def lampblackref03_Bags.l0 : Nat → List Int → List Int → Int → List Int → Int → Int → Option (List Int)
 | 0, _, _, _, _, _, _ => none
 | k + 1, x0, x5, x6, x9, x10, x11 => if x11 < x10 then (if 0 ≤ x11 then (if x11 < (x9.length : Int) then ((lampblackref03_Border.f k x0 x6).bind fun t287 => (if 0 ≤ (rd x9 x11) then (if x5.length < 17592186044416 then (lampblackref03_Bags.l0 k x0 (x5 ++ [Go.bits .or .i64 t287 (shl .i64 1 (rd x9 x11))]) (Go.bits .or .i64 x6 (shl .i64 1 (rd x9 x11))) x9 x10 (wrap64 (x11 + 1))) else (none)) else (none))) else (none)) else (none)) else (some x5)
end Go.Proofs.YtijfddobandcdaaDoor.X
end
section
namespace Go.Proofs.YtijfddobandcdaaDoor.X
open Go.RowKit YtijfddobandcdaaDoorW.PrintWords YtijfddobandcdaaDoorW.PrintLast YtijfddobandcdaaDoorW.PrintMore
attribute [local go_sem] max2_int min2_int max_two min_two max_three min_three max_four min_four
/-! ### slices_Equal_int_int: function 29 -/
def slices_Equal_int_int.l0 : Nat → List Int → List Int → Int → Int → Option (Bool)
 | 0, _, _, _, _ => none
 | k + 1, x0, x1, x12, x13 => if x13 < x12 then (if 0 ≤ x13 then (if x13 < (x0.length : Int) then (if x13 < (x1.length : Int) then (if (rd x0 x13) = (rd x1 x13) then (slices_Equal_int_int.l0 k x0 x1 x12 (wrap64 (x13 + 1))) else (some false)) else (none)) else (none)) else (none)) else (some true)
end Go.Proofs.YtijfddobandcdaaDoor.X
end
section
namespace Go.Proofs.YtijfddobandcdaaDoor.X
open Go.RowKit YtijfddobandcdaaDoorW.PrintWords YtijfddobandcdaaDoorW.PrintLast YtijfddobandcdaaDoorW.PrintMore
attribute [local go_sem] max2_int min2_int max_two min_two max_three min_three max_four min_four
/-! ### sweep_town_breadth: function 56 -/
def sweep_town_breadth.l0 : Nat → List Int → Int → Int → List Int → Int → Int → Option (Int)
 | 0, _, _, _, _, _, _ => none
 | k + 1, x0, x5, x6, x9, x10, x11 => if x11 < x10 then (if 0 ≤ x11 then (if x11 < (x9.length : Int) then (if 0 ≤ (rd x9 x11) then ((sweep_town_border.f x0 (Go.bits .or .i64 x5 (shl .i64 1 (rd x9 x11)))).bind fun t237 => ((sweep_count.f t237).bind fun t238 => (sweep_town_breadth.l0 k x0 (Go.bits .or .i64 x5 (shl .i64 1 (rd x9 x11))) (mx x6 t238) x9 x10 (wrap64 (x11 + 1))))) else (none)) else (none)) else (none)) else (some x6)
end Go.Proofs.YtijfddobandcdaaDoor.X
end
section
/- The bags of a layout are a path decomposition, whose width is the breadth; Breadth. -/
namespace Go.Proofs.YtijfddobandcdaaDoor.X
open Go.RowKit YtijfddobandcdaaDoorW.PrintWords YtijfddobandcdaaDoorW.PrintLast YtijfddobandcdaaDoorW.PrintMore YtijfddobandcdaaDoor.T
/-! A layout's bags, as they go on behind S: S and the nodes of P are all nodes. -/
structure Goes (n S : Nat) (P : List Nat) : Prop where
 nodup : P.Nodup
 new : ∀ v ∈ P, v < n ∧ ¬ bset S v
 all : ∀ j, j < n → bset S j ∨ j ∈ P
theorem Goes.tail {n S v : Nat} {P : List Nat} (h : Goes n S (v :: P)) : Goes n (S ||| 2 ^ v) P where
 nodup := (List.nodup_cons.1 h.nodup).2
 new := fun u hu => ⟨(h.new u (List.mem_cons_of_mem _ hu)).1, fun hb => by
  rcases (or_bset _ _ _).1 hb with h1 | h1
  ·exact (h.new u (List.mem_cons_of_mem _ hu)).2 h1
  ·rw [(two_pow_bit v u).1 h1] at hu; exact (List.nodup_cons.1 h.nodup).1 hu⟩
 all := fun j hj => by
  rcases h.all j hj with h1 | h1
  ·exact .inl ((or_bset _ _ _).2 (.inl h1))
  ·rcases List.mem_cons.1 h1 with e | e
   ·exact .inl ((or_bset _ _ _).2 (.inr ((two_pow_bit v j).2 e)))
   ·exact .inr e
end Go.Proofs.YtijfddobandcdaaDoor.X
end
section
namespace Go.Proofs.YtijfddobandcdaaDoor.X
open Go.RowKit YtijfddobandcdaaDoorW.PrintWords YtijfddobandcdaaDoorW.PrintLast YtijfddobandcdaaDoorW.PrintMore
attribute [local go_sem] max2_int min2_int max_two min_two max_three min_three max_four min_four
/-! ### lampblackref03_IsPath: function 42 -/
mutual
def lampblackref03_IsPath.j0 : Nat → List Int → List Int → Bool → Option (Int × Bool)
 | 0, _, _, _ => none
 | k + 1, x0, x1, x21 => if x21 = true then (some (0, false)) else (lampblackref03_IsPath.l0 k x0 x1 0 x1 (x1.length : Int) 0)
def lampblackref03_IsPath.l0 : Nat → List Int → List Int → Int → List Int → Int → Int → Option (Int × Bool)
 | 0, _, _, _, _, _, _ => none
 | k + 1, x0, x1, x6, x22, x23, x24 => if x24 < x23 then (if 0 ≤ x24 then (if x24 < (x22.length : Int) then (if (rd x22 x24) < 0 then (some (0, false)) else (if (rd x22 x24) ≥ (shl .i64 1 (x0.length : Int)) then (some (0, false)) else ((lampblackref02_Size.f k (rd x22 x24)).bind fun t486 => (lampblackref03_IsPath.l0 k x0 x1 (mx x6 t486) x22 x23 (wrap64 (x24 + 1)))))) else (none)) else (none)) else (lampblackref03_IsPath.l1 k x0 x1 x6 (x0.length : Int) 0)
def lampblackref03_IsPath.l1 : Nat → List Int → List Int → Int → Int → Int → Option (Int × Bool)
 | 0, _, _, _, _, _ => none
 | k + 1, x0, x1, x6, x43, x44 => if x44 < x43 then (lampblackref03_IsPath.l2 k x0 x1 x6 x44 0 0 x43 x44 x1 (x1.length : Int) 0) else (some (wrap64 (x6 - 1), true))
def lampblackref03_IsPath.l2 : Nat → List Int → List Int → Int → Int → Int → Int → Int → Int → List Int → Int → Int → Option (Int × Bool)
 | 0, _, _, _, _, _, _, _, _, _, _, _ => none
 | k + 1, x0, x1, x6, x9, x10, x11, x43, x44, x47, x48, x49 => if x49 < x48 then (if 0 ≤ x49 then (if x49 < (x47.length : Int) then (if 0 ≤ x9 then (if (Go.bits .and .i64 (shr .i64 (rd x47 x49) x9) 1) = 0 then (lampblackref03_IsPath.l2 k x0 x1 x6 x9 x10 x11 x43 x44 x47 x48 (wrap64 (x49 + 1))) else (if x49 = 0 then (lampblackref03_IsPath.l2 k x0 x1 x6 x9 (wrap64 (x10 + 1)) (Go.bits .or .i64 x11 (rd x47 x49)) x43 x44 x47 x48 (wrap64 (x49 + 1))) else (if 0 ≤ (wrap64 (x49 - 1)) then (if (wrap64 (x49 - 1)) < (x1.length : Int) then (if (Go.bits .and .i64 (shr .i64 (rd x1 (wrap64 (x49 - 1))) x9) 1) = 0 then (lampblackref03_IsPath.l2 k x0 x1 x6 x9 (wrap64 (x10 + 1)) (Go.bits .or .i64 x11 (rd x47 x49)) x43 x44 x47 x48 (wrap64 (x49 + 1))) else (lampblackref03_IsPath.l2 k x0 x1 x6 x9 x10 (Go.bits .or .i64 x11 (rd x47 x49)) x43 x44 x47 x48 (wrap64 (x49 + 1)))) else (none)) else (none)))) else (none)) else (none)) else (none)) else (if x10 = 1 then (if 0 ≤ x9 then (if x9 < (x0.length : Int) then (if (Go.bits .andNot .i64 (rd x0 x9) x11) = 0 then (lampblackref03_IsPath.l1 k x0 x1 x6 x43 (wrap64 (x44 + 1))) else (some (0, false))) else (none)) else (none)) else (some (0, false)))
end
end Go.Proofs.YtijfddobandcdaaDoor.X
end
section
namespace Go.Proofs.YtijfddobandcdaaDoor.X
open Go.RowKit YtijfddobandcdaaDoorW.PrintWords YtijfddobandcdaaDoorW.PrintLast YtijfddobandcdaaDoorW.PrintMore
attribute [local go_sem] max2_int min2_int max_two min_two max_three min_three max_four min_four
/-! ### lampblackref03_Follow: function 44 -/
mutual
def lampblackref03_Follow.l0 : Nat → List Int → List (S70) → Int → List Int → Int → Int → Option ((List (S70)))
 | 0, _, _, _, _, _, _ => none
 | k + 1, x0, x5, x6, x15, x16, x17 => if x17 < x16 then (if 0 ≤ x17 then (if x17 < (x15.length : Int) then (lampblackref03_Follow.l1 k x0 x5 x6 (rd x15 x17) x15 x16 x17 (x0.length : Int) 0) else (none)) else (none)) else (some x5)
def lampblackref03_Follow.l1 : Nat → List Int → List (S70) → Int → Int → List Int → Int → Int → Int → Int → Option ((List (S70)))
 | 0, _, _, _, _, _, _, _, _, _ => none
 | k + 1, x0, x5, x6, x8, x15, x16, x17, x22, x23 => if x23 < x22 then (if 0 ≤ x23 then (if (Go.bits .and .i64 (shr .i64 (Go.bits .andNot .i64 x6 x8) x23) 1) = 1 then (if x5.length < 8796093022208 then (lampblackref03_Follow.l1 k x0 (x5 ++ [(⟨false, x23⟩ : S70)]) x6 x8 x15 x16 x17 x22 (wrap64 (x23 + 1))) else (none)) else (lampblackref03_Follow.l1 k x0 x5 x6 x8 x15 x16 x17 x22 (wrap64 (x23 + 1)))) else (none)) else (lampblackref03_Follow.l2 k x0 x5 x6 x8 x15 x16 x17 (x0.length : Int) 0)
def lampblackref03_Follow.l2 : Nat → List Int → List (S70) → Int → Int → List Int → Int → Int → Int → Int → Option ((List (S70)))
 | 0, _, _, _, _, _, _, _, _, _ => none
 | k + 1, x0, x5, x6, x8, x15, x16, x17, x40, x41 => if x41 < x40 then (if 0 ≤ x41 then (if (Go.bits .and .i64 (shr .i64 (Go.bits .andNot .i64 x8 x6) x41) 1) = 1 then (if x5.length < 8796093022208 then (lampblackref03_Follow.l2 k x0 (x5 ++ [(⟨true, x41⟩ : S70)]) x6 x8 x15 x16 x17 x40 (wrap64 (x41 + 1))) else (none)) else (lampblackref03_Follow.l2 k x0 x5 x6 x8 x15 x16 x17 x40 (wrap64 (x41 + 1)))) else (none)) else (lampblackref03_Follow.l0 k x0 x5 x8 x15 x16 (wrap64 (x17 + 1)))
end
end Go.Proofs.YtijfddobandcdaaDoor.X
end
section
namespace Go.Proofs.YtijfddobandcdaaDoor.X
open Go.RowKit YtijfddobandcdaaDoorW.PrintWords YtijfddobandcdaaDoorW.PrintLast YtijfddobandcdaaDoorW.PrintMore
attribute [local go_sem] max2_int min2_int max_two min_two max_three min_three max_four min_four
theorem eqA70 (d : Nat) (w : World) (x0 y0 : Bool) (x1 y1 : Int) :
  (Op.equalIn (d + 2) 70 (.agg #[.bool x0, .int .i64 x1]) (.agg #[.bool y0, .int .i64 y1])).run Tryd.prog w = .ok (x0 == y0 && (x1 == y1)) w := by
 refine eqA_of Tryd.underlying70 (by kernel_rfl) ?_
 refine eqf_cons (by rfl) (by go_simp; rfl) (by go_simp; rfl) (by go_simp) ?_
 exact eqf_last (by rfl) (by go_simp; rfl) (by go_simp; rfl) (by go_simp)
end Go.Proofs.YtijfddobandcdaaDoor.X
end
section
namespace Go.Proofs.YtijfddobandcdaaDoor.X
open Go.RowKit YtijfddobandcdaaDoorW.PrintWords YtijfddobandcdaaDoorW.PrintLast YtijfddobandcdaaDoorW.PrintMore
attribute [local go_sem] max2_int min2_int max_two min_two max_three min_three max_four min_four
attribute [local go_sem high] eqA70
/-! ### lampblackref03_Act: function 43 -/
def lampblackref03_Act.l0 : Nat → List (S70) → List (S70) → Int → Int → Option (Bool)
 | 0, _, _, _, _ => none
 | k + 1, x0, x1, x12, x13 => if x13 < x12 then (if 0 ≤ x13 then (if x13 < (x0.length : Int) then (if x13 < (x1.length : Int) then (if (!(((rd_T70 x0 x13).f0) == ((rd_T70 x1 x13).f0)) || (!(((rd_T70 x0 x13).f1) == ((rd_T70 x1 x13).f1)))) = true then (some false) else (lampblackref03_Act.l0 k x0 x1 x12 (wrap64 (x13 + 1)))) else (none)) else (none)) else (none)) else (some true)
end Go.Proofs.YtijfddobandcdaaDoor.X
end
section
namespace Go.Proofs.YtijfddobandcdaaDoor.X
open Go.RowKit YtijfddobandcdaaDoorW.PrintWords YtijfddobandcdaaDoorW.PrintLast YtijfddobandcdaaDoorW.PrintMore
attribute [local go_sem] max2_int min2_int max_two min_two max_three min_three max_four min_four
/-! ### lampblacklaw03_own: function 25 -/
def lampblacklaw03_own.l0 : Nat → List (S70) → List (S85) → Int → Int → Option ((List (S70)))
 | 0, _, _, _, _ => none
 | k + 1, x3, x6, x7, x8 => if x8 < x7 then (if 0 ≤ x8 then (if x8 < (x6.length : Int) then (if x3.length < 8796093022208 then (lampblacklaw03_own.l0 k (x3 ++ [(⟨(rd_T85 x6 x8).f0, (rd_T85 x6 x8).f1⟩ : S70)]) x6 x7 (wrap64 (x8 + 1))) else (none)) else (none)) else (none)) else (some x3)
end Go.Proofs.YtijfddobandcdaaDoor.X
end
section
/- The reference's IsPath and Follow, and the program's follow: what they compute. -/
namespace Go.Proofs.YtijfddobandcdaaDoor.X
open Go.RowKit YtijfddobandcdaaDoorW.PrintWords YtijfddobandcdaaDoorW.PrintLast YtijfddobandcdaaDoorW.PrintMore YtijfddobandcdaaDoor.T
def conv (p : S85) : S70 := ⟨p.f0, p.f1⟩
end Go.Proofs.YtijfddobandcdaaDoor.X
end
section
/- A plan played street by street (the reference's Play): what a step does to the marks; the plan of a layout's bags is right and never goes back. -/
namespace Go.Proofs.YtijfddobandcdaaDoor.X
open Go.RowKit YtijfddobandcdaaDoorW.PrintWords YtijfddobandcdaaDoorW.PrintLast YtijfddobandcdaaDoorW.PrintMore YtijfddobandcdaaDoor.T
def mk (C : List Bool) (a b : Nat) : Prop := C.getD (a * 8 + b) false = true
theorem getD_setB (C : List Bool) (i j : Nat) (x : Bool) (hi : i < C.length) : (C.set i x).getD j false = if j = i then x else C.getD j false := by
 rw [List.getD_eq_getElem?_getD, List.getElem?_set, List.getD_eq_getElem?_getD]
 by_cases e : i = j
 ·subst e; rw [if_pos rfl, if_pos rfl, if_pos hi]; rfl
 ·rw [if_neg e, if_neg (fun h => e h.symm)]
theorem mk_set (C : List Bool) (x y a b : Nat) (v : Bool) (hC : C.length = 64) (hx : x < 8) (hy : y < 8) (hb : b < 8) : mk (C.set (x * 8 + y) v) a b ↔ if a = x ∧ b = y then v = true else mk C a b := by
 unfold mk
 rw [getD_setB _ _ _ _ (by omega)]
 by_cases h : a = x ∧ b = y
 ·obtain ⟨rfl, rfl⟩ := h
  rw [if_pos rfl, if_pos ⟨rfl, rfl⟩]
 ·rw [if_neg h, if_neg (by omega)]
theorem row1_mk {G : List Nat} (hG : Gr 7 G) (gd x : Nat) (hx : x < G.length) : ∀ (d y : Nat) (C : List Bool), y + d = G.length → C.length = 64 → ∀ a b, b < 8 →
  (mk (row1 G gd x d y C) a b ↔ mk C a b ∨ (a = x ∧ y ≤ b ∧ Adj G x b ∧ bset gd x ∧ bset gd b)) := by
 have hn := hG.most
 intro d
 induction d with
 | zero =>
  intro y C hy hC a b hb
  simp only [row1]
  exact ⟨.inl, fun h => h.resolve_right fun ⟨_, h1, h2, _⟩ => by have := hG.adj_lt h2; omega⟩
 | succ d ih =>
  intro y C hy hC a b hb
  simp only [row1]
  by_cases hc : ((G.getD x 0).testBit y && gd.testBit x && gd.testBit y) = true
  ·rw [if_pos hc, ih (y + 1) _ (by omega) (by simpa using hC) a b hb, mk_set _ _ _ _ _ _ hC (by omega) (by omega) hb]
   simp only [Bool.and_eq_true] at hc
   by_cases e : a = x ∧ b = y
   ·obtain ⟨rfl, rfl⟩ := e
    rw [if_pos ⟨rfl, rfl⟩]
    exact ⟨fun _ => .inr ⟨rfl, Nat.le_refl _, hc.1.1, hc.1.2, hc.2⟩, fun _ => .inl rfl⟩
   ·rw [if_neg e]
    exact or_congr_right ⟨fun ⟨h1, h2, h3⟩ => ⟨h1, by omega, h3⟩, fun ⟨h1, h2, h3⟩ => ⟨h1, by omega, h3⟩⟩
  ·rw [if_neg hc, ih (y + 1) _ (by omega) hC a b hb]
   refine or_congr_right ⟨fun ⟨h1, h2, h3⟩ => ⟨h1, by omega, h3⟩, fun ⟨h1, h2, h3, h4, h5⟩ => ⟨h1, ?_, h3, h4, h5⟩⟩
   by_cases e : b = y
   ·subst e
    exact (hc (by simp only [Bool.and_eq_true]; exact ⟨⟨h3, h4⟩, h5⟩)).elim
   ·omega
theorem all1_mk {G : List Nat} (hG : Gr 7 G) (gd : Nat) : ∀ (d x : Nat) (C : List Bool), x + d = G.length → C.length = 64 → ∀ a b, b < 8 →
  (mk (all1 G gd d x C) a b ↔ mk C a b ∨ (x ≤ a ∧ Adj G a b ∧ bset gd a ∧ bset gd b)) := by
 intro d
 induction d with
 | zero =>
  intro x C hx hC a b hb
  simp only [all1]
  exact ⟨.inl, fun h => h.resolve_right fun ⟨h1, h2, _⟩ => by have := hG.adj_lt' h2; omega⟩
 | succ d ih =>
  intro x C hx hC a b hb
  simp only [all1]
  rw [ih (x + 1) _ (by omega) (by rw [row1_len]; exact hC) a b hb, row1_mk hG gd x (by omega) G.length 0 C (by omega) hC a b hb, or_assoc]
  refine or_congr_right ⟨?_, ?_⟩
  ·rintro (⟨rfl, _, h⟩ | ⟨h1, h2⟩)
   ·exact ⟨Nat.le_refl _, h⟩
   ·exact ⟨by omega, h2⟩
  ·rintro ⟨h1, h2⟩
   by_cases e : a = x
   ·subst e; exact .inl ⟨rfl, Nat.zero_le _, h2⟩
   ·exact .inr ⟨by omega, h2⟩
theorem all1_len (G : List Nat) (gd : Nat) : ∀ d x C, (all1 G gd d x C).length = C.length
 | 0, _, _ => rfl
 | d + 1, x, C => by rw [all1, all1_len G gd d, row1_len]
theorem smk_iff {G : List Nat} (hG : Gr 7 G) (C : List Bool) (gd x : Nat) : ∀ d y, y + d = G.length → (smk G C gd x d y = true ↔ ¬ bset gd x ∧ ∃ z, y ≤ z ∧ Adj G x z ∧ ¬ mk C x z) := by
 intro d
 induction d with
 | zero =>
  intro y hy
  simp only [smk]
  exact ⟨(fun h => by cases h), fun ⟨_, z, h1, h2, _⟩ => by have := hG.adj_lt h2; omega⟩
 | succ d ih =>
  intro y hy
  simp only [smk]
  by_cases hc : ((G.getD x 0).testBit y && !C.getD (x * 8 + y) false) = true
  ·rw [if_pos hc]
   simp only [Bool.and_eq_true, Bool.not_eq_true'] at hc
   have h2 : ¬ mk C x y := fun h => by unfold mk at h; rw [hc.2] at h; cases h
   have e : (!gd.testBit x) = true ↔ ¬ bset gd x := by unfold bset; cases gd.testBit x <;> simp
   rw [e]
   exact ⟨fun h => ⟨h, y, Nat.le_refl _, hc.1, h2⟩, fun h => h.1⟩
  ·rw [if_neg hc, ih (y + 1) (by omega)]
   refine and_congr_right fun _ => ⟨fun ⟨z, h1, h2⟩ => ⟨z, by omega, h2⟩, fun ⟨z, h1, h2, h3⟩ => ⟨z, ?_, h2, h3⟩⟩
   by_cases e : z = y
   ·subst e
    refine (hc ?_).elim
    simp only [Bool.and_eq_true, Bool.not_eq_true']
    exact ⟨h2, by cases hh : C.getD (x * 8 + z) false; rfl; exact (h3 hh).elim⟩
   ·omega
def Still (G : List Nat) (C : List Bool) (gd : Nat) : Prop := ∀ x y, Adj G x y → mk C x y → smk G C gd x G.length 0 = false ∧ smk G C gd y G.length 0 = false
theorem row2_still {G : List Nat} {C : List Bool} {gd : Nat} (h : Still G C gd) (x : Nat) (b : Bool) : ∀ d y, row2 G gd x d y (C, b) = (C, b)
 | 0, _ => rfl
 | d + 1, y => by
  rw [row2]
  rw [if_neg]
  ·exact row2_still h x b d (y + 1)
  ·simp only [Bool.and_eq_true, not_and]
   intro ⟨h1, h2⟩
   have := h x y h1 h2
   simp only [this.1, this.2]
   simp
theorem all2_still {G : List Nat} {C : List Bool} {gd : Nat} (h : Still G C gd) (b : Bool) : ∀ d x, all2 G gd d x (C, b) = (C, b)
 | 0, _ => rfl
 | d + 1, x => by rw [all2, row2_still h, all2_still h b d]
theorem iter2_still {G : List Nat} {C : List Bool} {gd : Nat} (h : Still G C gd) (b : Bool) : ∀ d, iter2 G gd d (C, b) = (C, b)
 | 0 => rfl
 | d + 1 => by rw [iter2, all2_still h, iter2_still h b d]
theorem getD_false (j : Nat) : (List.replicate 64 false).getD j false = false := by
 rw [List.getD_eq_getElem?_getD, List.getElem?_replicate]
 split <;> rfl
end Go.Proofs.YtijfddobandcdaaDoor.X
end
section
/- The program's Play is the reference's: both let smoke into the same streets. -/
namespace Go.Proofs.YtijfddobandcdaaDoor.X
open Go.RowKit YtijfddobandcdaaDoorW.PrintWords YtijfddobandcdaaDoorW.PrintLast YtijfddobandcdaaDoorW.PrintMore YtijfddobandcdaaDoor.T
structure Red (G : List Nat) (gd : Nat) (s t : List Bool × Bool) : Prop where
 len : t.1.length = 64
 sub : ∀ a b, Adj G a b → X.mk t.1 a b → X.mk s.1 a b
 sym : ∀ a b, Adj G a b → X.mk t.1 a b → X.mk t.1 b a
 great : ∀ D : Nat → Nat → Prop, (∀ a b, D a b → D b a) → (∀ a b z, Adj G a b → D a b → Adj G a z → ¬ bset gd a → D a z) → (∀ a b, Adj G a b → D a b → X.mk s.1 a b) → ∀ a b, Adj G a b → D a b → X.mk t.1 a b
 bk : t.2 = true ↔ s.2 = true ∨ ∃ a b, Adj G a b ∧ X.mk s.1 a b ∧ ¬ X.mk t.1 a b
 cnt : cntT t.1 ≤ cntT s.1
theorem Red.refl (G : List Nat) (gd : Nat) (s : List Bool × Bool) (h1 : s.1.length = 64) (h2 : ∀ a b, Adj G a b → X.mk s.1 a b → X.mk s.1 b a) : Red G gd s s :=
 ⟨h1, fun _ _ _ h => h, h2, fun _ _ _ h => h, ⟨.inl, fun h => h.resolve_right fun ⟨a, b, _, p, q⟩ => q p⟩, Nat.le_refl _⟩
theorem Red.trans {G : List Nat} {gd : Nat} {s t u : List Bool × Bool} (h : Red G gd s t) (h2 : Red G gd t u) : Red G gd s u := by
 refine ⟨h2.len, fun a b p q => h.sub a b p (h2.sub a b p q), h2.sym, fun D d1 d2 d3 => h2.great D d1 d2 (h.great D d1 d2 d3), ?_, Nat.le_trans h2.cnt h.cnt⟩
 rw [h2.bk, h.bk]
 constructor
 ·rintro ((q | ⟨a, b, p, q, r⟩) | ⟨a, b, p, q, r⟩)
  ·exact .inl q
  ·exact .inr ⟨a, b, p, q, fun hu => r (h2.sub a b p hu)⟩
  ·exact .inr ⟨a, b, p, h.sub a b p q, r⟩
 ·rintro (q | ⟨a, b, p, q, r⟩)
  ·exact .inl (.inl q)
  ·by_cases ht : X.mk t.1 a b
   ·exact .inr ⟨a, b, p, ht, r⟩
   ·exact .inl (.inr ⟨a, b, p, q, ht⟩)
def hit (G : List Nat) (gd : Nat) (C : List Bool) (x y : Nat) : Bool := (G.getD x 0).testBit y && C.getD (x * 8 + y) false && (smk G C gd x G.length 0 || smk G C gd y G.length 0)
theorem red_hit {G : List Nat} (hG : Gr 7 G) (gd : Nat) (C : List Bool) (b : Bool) (x y : Nat) (h1 : C.length = 64) (h2 : ∀ a b, Adj G a b → X.mk C a b → X.mk C b a) (hh : hit G gd C x y = true) :
  Red G gd (C, b) ((C.set (x * 8 + y) false).set (y * 8 + x) false, true) ∧ cntT ((C.set (x * 8 + y) false).set (y * 8 + x) false) < cntT C := by
 unfold hit at hh
 simp only [Bool.and_eq_true, Bool.or_eq_true] at hh
 obtain ⟨⟨ha, hm⟩, hs⟩ := hh
 have ha : Adj G x y := ha
 have hn := hG.most
 have hy := hG.adj_lt ha
 have hx := hG.adj_lt' ha
 have hmk : ∀ a b, b < 8 → (X.mk ((C.set (x * 8 + y) false).set (y * 8 + x) false) a b ↔ X.mk C a b ∧ ¬ (a = x ∧ b = y) ∧ ¬ (a = y ∧ b = x)) := fun a b hb => by
  rw [mk_set _ _ _ _ _ _ (by rw [List.length_set]; exact h1) (by omega) (by omega) hb, mk_set _ _ _ _ _ _ h1 (by omega) (by omega) hb]
  by_cases e : a = y ∧ b = x
  ·rw [if_pos e]; simp [e]
  ·rw [if_neg e]
   by_cases e2 : a = x ∧ b = y
   ·rw [if_pos e2]; simp [e2]
   ·rw [if_neg e2]; simp [e, e2]
 have hlt := cntT_lt C _ hm
 refine ⟨⟨by simp [h1], fun a b p q => ?_, fun a b p q => ?_, fun D d1 d2 d3 a b p q => ?_, ⟨fun _ => .inr ⟨x, y, ha, hm, fun q => ?_⟩, fun _ => rfl⟩, Nat.le_of_lt (Nat.lt_of_le_of_lt (cntT_set _ _) hlt)⟩, Nat.lt_of_le_of_lt (cntT_set _ _) hlt⟩
 ·exact ((hmk a b (by have := hG.adj_lt p; omega)).1 q).1
 ·obtain ⟨q1, q2, q3⟩ := (hmk a b (by have := hG.adj_lt p; omega)).1 q
  exact (hmk b a (by have := hG.adj_lt' p; omega)).2 ⟨h2 a b p q1, fun e => q3 ⟨e.2, e.1⟩, fun e => q2 ⟨e.2, e.1⟩⟩
 ·have key : ¬ D x y := fun hD => by
   rcases hs with hs | hs
   ·obtain ⟨g1, z, _, g2, g3⟩ := (smk_iff hG C gd x G.length 0 (by omega)).1 hs
    exact g3 (d3 x z g2 (d2 x y z ha hD g2 g1))
   ·obtain ⟨g1, z, _, g2, g3⟩ := (smk_iff hG C gd y G.length 0 (by omega)).1 hs
    exact g3 (d3 y z g2 (d2 y x z (hG.adj_symm ha) (d1 _ _ hD) g2 g1))
  refine (hmk a b (by have := hG.adj_lt p; omega)).2 ⟨d3 a b p q, ?_, ?_⟩
  ·rintro ⟨rfl, rfl⟩; exact key q
  ·rintro ⟨rfl, rfl⟩; exact key (d1 _ _ q)
 ·exact ((hmk x y (by omega)).1 q).2.1 ⟨rfl, rfl⟩
theorem row2_red {G : List Nat} (hG : Gr 7 G) (gd x : Nat) : ∀ (d y : Nat) (s : List Bool × Bool), s.1.length = 64 → (∀ a b, Adj G a b → X.mk s.1 a b → X.mk s.1 b a) → Red G gd s (row2 G gd x d y s) ∧ (cntT s.1 ≤ cntT (row2 G gd x d y s).1 → row2 G gd x d y s = s ∧ ∀ y', y ≤ y' → y' < y + d → hit G gd s.1 x y' = false)
 | 0, y, s, h1, h2 => ⟨Red.refl G gd s h1 h2, fun _ => ⟨rfl, fun y' _ _ => by omega⟩⟩
 | d + 1, y, s, h1, h2 => by
  obtain ⟨C, b⟩ := s
  rw [row2]
  by_cases hh : hit G gd C x y = true
  ·obtain ⟨r1, r2⟩ := red_hit hG gd C b x y h1 h2 hh
   unfold hit at hh
   rw [if_pos hh]
   obtain ⟨r3, _⟩ := row2_red hG gd x d (y + 1) _ r1.len r1.sym
   exact ⟨r1.trans r3, fun hc => by have := r3.cnt; dsimp only at hc this; omega⟩
  ·have hh' := hh
   unfold hit at hh
   rw [if_neg hh]
   obtain ⟨r3, r4⟩ := row2_red hG gd x d (y + 1) (C, b) h1 h2
   refine ⟨r3, fun hc => ?_⟩
   obtain ⟨q1, q2⟩ := r4 hc
   refine ⟨q1, fun y' h3 h4 => ?_⟩
   by_cases e : y' = y
   ·subst e
    simpa using hh'
   ·exact q2 y' (by omega) (by omega)
theorem all2_red {G : List Nat} (hG : Gr 7 G) (gd : Nat) : ∀ (d x : Nat) (s : List Bool × Bool), s.1.length = 64 → (∀ a b, Adj G a b → X.mk s.1 a b → X.mk s.1 b a) → Red G gd s (all2 G gd d x s) ∧ (cntT s.1 ≤ cntT (all2 G gd d x s).1 → ∀ x', x ≤ x' → x' < x + d → ∀ y', y' < G.length → hit G gd s.1 x' y' = false)
 | 0, x, s, h1, h2 => ⟨Red.refl G gd s h1 h2, fun _ x' _ _ => by omega⟩
 | d + 1, x, s, h1, h2 => by
  rw [all2]
  obtain ⟨r1, r2⟩ := row2_red hG gd x G.length 0 s h1 h2
  obtain ⟨r3, r4⟩ := all2_red hG gd d (x + 1) _ r1.len r1.sym
  refine ⟨r1.trans r3, fun hc x' h3 h4 y' hy => ?_⟩
  have c1 := r3.cnt
  have c2 := r1.cnt
  obtain ⟨q1, q2⟩ := r2 (by omega)
  rw [q1] at r4 hc
  by_cases e : x' = x
  ·subst e
   exact q2 y' (Nat.zero_le _) (by omega)
  ·exact r4 hc x' (by omega) (by omega) y' hy
theorem still_no {G : List Nat} (hG : Gr 7 G) {gd : Nat} {C : List Bool} (h : ∀ x y, x < G.length → y < G.length → hit G gd C x y = false) : Still G C gd := by
 intro x y ha hm
 have := h x y (hG.adj_lt' ha) (hG.adj_lt ha)
 unfold hit at this
 have ha' : (G.getD x 0).testBit y = true := ha
 have hm' : C.getD (x * 8 + y) false = true := hm
 rw [ha', hm'] at this
 simpa using this
theorem iter2_red {G : List Nat} (hG : Gr 7 G) (gd : Nat) : ∀ (n : Nat) (s : List Bool × Bool), s.1.length = 64 → (∀ a b, Adj G a b → X.mk s.1 a b → X.mk s.1 b a) → cntT s.1 ≤ n → Red G gd s (iter2 G gd n s) ∧ Still G (iter2 G gd n s).1 gd
 | 0, s, h1, h2, hc => ⟨Red.refl G gd s h1 h2, fun x y _ hm => by
   have := cntT_zero s.1 (by omega) (x * 8 + y)
   have hm' : s.1.getD (x * 8 + y) false = true := hm
   rw [this] at hm'
   cases hm'⟩
 | n + 1, s, h1, h2, hc => by
  rw [iter2]
  obtain ⟨r1, r2⟩ := all2_red hG gd G.length 0 s h1 h2
  by_cases hl : cntT s.1 ≤ cntT (all2 G gd G.length 0 s).1
  ·have hst := still_no hG fun x y hx hy => r2 hl x (Nat.zero_le _) (by omega) y hy
   have e : all2 G gd G.length 0 s = s := all2_still hst s.2 G.length 0
   rw [e]
   have e2 : iter2 G gd n s = s := iter2_still hst s.2 n
   rw [e2]
   exact ⟨Red.refl G gd s h1 h2, hst⟩
  ·obtain ⟨r3, r4⟩ := iter2_red hG gd n _ r1.len r1.sym (by omega)
   exact ⟨r1.trans r3, r4⟩
/-! The program's. -/
theorem endsOf_bit (E : List (Nat × Nat)) (i j : Nat) : bset (endsOf E i) j ↔ j = (E.getD i (0, 0)).1 ∨ j = (E.getD i (0, 0)).2 := by
 unfold endsOf
 rw [or_bset, two_pow_bit, two_pow_bit]
theorem zero_iff (x : Nat) : x = 0 ↔ ∀ j, ¬ bset x j := by
 constructor
 ·rintro rfl j h; unfold bset at h; simp at h
 ·intro h
  exact eq_of_bits fun j => ⟨fun hb => (h j hb).elim, fun hb => by simp at hb⟩
theorem marksO_get (E : List (Nat × Nat)) (gd : Nat) : ∀ (d i : Nat) (C : List Bool), C.length = E.length → i + d = E.length → ∀ j, j < E.length → ((marksO E gd d i C).getD j false = true ↔ C.getD j false = true ∨ (i ≤ j ∧ bset gd (E.getD j (0, 0)).1 ∧ bset gd (E.getD j (0, 0)).2))
 | 0, i, C, hC, hi, j, hj => by
  simp only [marksO]
  exact ⟨.inl, fun h => h.resolve_right fun h => by omega⟩
 | d + 1, i, C, hC, hi, j, hj => by
  simp only [marksO]
  rw [marksO_get E gd d (i + 1) _ (by rw [List.length_set]; exact hC) (by omega) j hj, getD_setB _ _ _ _ (by omega)]
  by_cases e : j = i
  ·subst e
   rw [if_pos rfl, Bool.or_eq_true, beq_iff_eq, zero_iff]
   refine ⟨fun h => ?_, fun h => ?_⟩
   ·rcases h with (h | h) | h
    ·exact .inl h
    ·refine .inr ⟨Nat.le_refl _, ?_, ?_⟩
     ·exact Classical.byContradiction fun hb => h _ ((diff_bset _ _ _).2 ⟨(endsOf_bit E j _).2 (.inl rfl), hb⟩)
     ·exact Classical.byContradiction fun hb => h _ ((diff_bset _ _ _).2 ⟨(endsOf_bit E j _).2 (.inr rfl), hb⟩)
    ·omega
   ·rcases h with h | ⟨_, h1, h2⟩
    ·exact .inl (.inl h)
    ·refine .inl (.inr fun z hz => ?_)
     obtain ⟨q1, q2⟩ := (diff_bset _ _ _).1 hz
     rcases (endsOf_bit E j z).1 q1 with rfl | rfl
     ·exact q2 h1
     ·exact q2 h2
  ·rw [if_neg e]
   exact or_congr_right ⟨fun h => ⟨by omega, h.2⟩, fun h => ⟨by omega, h.2⟩⟩
theorem comes_iff (E : List (Nat × Nat)) (gd : Nat) (C : List Bool) (i k : Nat) : comes E gd C i k = true ↔ C.getD i false = true ∧ ¬ C.getD k false = true ∧ ∃ j, ¬ bset gd j ∧ (j = (E.getD i (0, 0)).1 ∨ j = (E.getD i (0, 0)).2) ∧ (j = (E.getD k (0, 0)).1 ∨ j = (E.getD k (0, 0)).2) := by
 unfold comes
 simp only [Bool.and_eq_true, Bool.not_eq_true', Bool.not_eq_true, and_assoc]
 refine and_congr_right fun _ => and_congr_right fun _ => ?_
 rw [beq_eq_false_iff_ne, ne_eq, zero_iff]
 constructor
 ·intro h
  obtain ⟨j, hj⟩ := Classical.not_forall.1 h
  have hj := Classical.not_not.1 hj
  obtain ⟨q1, q2⟩ := (diff_bset _ _ _).1 hj
  obtain ⟨q3, q4⟩ := (and_bset _ _ _).1 q1
  exact ⟨j, q2, (endsOf_bit E i j).1 q3, (endsOf_bit E k j).1 q4⟩
 ·rintro ⟨j, q2, q3, q4⟩ h
  exact h j ((diff_bset _ _ _).2 ⟨(and_bset _ _ _).2 ⟨(endsOf_bit E i j).2 q3, (endsOf_bit E k j).2 q4⟩, q2⟩)
theorem spIn_iff (E : List (Nat × Nat)) (gd : Nat) (C : List Bool) (i : Nat) : ∀ d k, spIn E gd C i d k = true ↔ ∃ k', k ≤ k' ∧ k' < k + d ∧ comes E gd C i k' = true
 | 0, k => ⟨fun h => absurd h (by simp [spIn]), fun ⟨k', h1, h2, _⟩ => by omega⟩
 | d + 1, k => by
  simp only [spIn]
  by_cases h : comes E gd C i k = true
  ·rw [if_pos h]
   exact ⟨fun _ => ⟨k, Nat.le_refl _, by omega, h⟩, fun _ => rfl⟩
  ·rw [if_neg h, spIn_iff E gd C i d (k + 1)]
   refine ⟨fun ⟨k', h1, h2, h3⟩ => ⟨k', by omega, by omega, h3⟩, fun ⟨k', h1, h2, h3⟩ => ⟨k', ?_, by omega, h3⟩⟩
   by_cases e : k' = k
   ·subst e; exact (h h3).elim
   ·omega
theorem spOut_none (E : List (Nat × Nat)) (gd : Nat) (C : List Bool) : ∀ d i, spOut E gd C d i = none → ∀ j, i ≤ j → j < i + d → spIn E gd C j E.length 0 = false
 | 0, i, _, j, h1, h2 => by omega
 | d + 1, i, h, j, h1, h2 => by
  simp only [spOut] at h
  split at h
  ·cases h
  ·rename_i hs
   by_cases e : j = i
   ·subst e; simpa using hs
   ·exact spOut_none E gd C d (i + 1) h j (by omega) (by omega)
theorem spOut_some (E : List (Nat × Nat)) (gd : Nat) (C : List Bool) : ∀ d i j, spOut E gd C d i = some j → i ≤ j ∧ j < i + d ∧ spIn E gd C j E.length 0 = true
 | 0, i, j, h => by cases h
 | d + 1, i, j, h => by
  simp only [spOut] at h
  split at h
  ·rename_i hs
   cases h
   exact ⟨Nat.le_refl _, by omega, hs⟩
  ·obtain ⟨h1, h2, h3⟩ := spOut_some E gd C d (i + 1) j h
   exact ⟨by omega, by omega, h3⟩
theorem spAll_spec {E : List (Nat × Nat)} {gd : Nat} : ∀ (n : Nat) (s : List Bool × Bool), s.1.length = E.length → cntT s.1 < n →
  spOut E gd (spAll E gd n s).1 E.length 0 = none ∧ (∀ i, (spAll E gd n s).1.getD i false = true → s.1.getD i false = true) ∧
  (∀ K : Nat → Prop, (∀ i k, i < E.length → k < E.length → K i → ¬ K k → ¬ ∃ j, ¬ bset gd j ∧ (j = (E.getD i (0, 0)).1 ∨ j = (E.getD i (0, 0)).2) ∧ (j = (E.getD k (0, 0)).1 ∨ j = (E.getD k (0, 0)).2)) → (∀ i, i < E.length → K i → s.1.getD i false = true) → ∀ i, i < E.length → K i → (spAll E gd n s).1.getD i false = true) ∧
  ((spAll E gd n s).2 = true ↔ s.2 = true ∨ ∃ i, i < E.length ∧ s.1.getD i false = true ∧ ¬ (spAll E gd n s).1.getD i false = true)
 | 0, s, _, h => by omega
 | n + 1, s, hl, hc => by
  rw [spAll]
  cases hs : spOut E gd s.1 E.length 0 with
  | none => exact ⟨hs, fun _ h => h, fun K _ h => h, ⟨.inl, fun h => h.resolve_right fun ⟨i, _, p, q⟩ => q p⟩⟩
  | some i =>
   obtain ⟨_, hi, hin⟩ := spOut_some E gd s.1 _ _ _ hs
   obtain ⟨k, _, hk, hco⟩ := (spIn_iff E gd s.1 i _ _).1 hin
   obtain ⟨h1, h2, h3⟩ := (comes_iff E gd s.1 i k).1 hco
   have hcl := cntT_lt s.1 i h1
   obtain ⟨r1, r2, r3, r4⟩ := spAll_spec (E := E) (gd := gd) n (s.1.set i false, true) (by rw [List.length_set]; exact hl) (by dsimp only; omega)
   have hset : ∀ j, (s.1.set i false).getD j false = true ↔ s.1.getD j false = true ∧ j ≠ i := fun j => by
    rw [getD_setB _ _ _ _ (by omega)]
    by_cases e : j = i
    ·subst e; rw [if_pos rfl]; simp
    ·rw [if_neg e]; simp [e]
   refine ⟨r1, fun j hj => ((hset j).1 (r2 j hj)).1, fun K k1 k2 => r3 K k1 fun j hj hK => (hset j).2 ⟨k2 j hj hK, ?_⟩, ?_⟩
   ·rintro rfl
    exact k1 j k (by omega) (by omega) hK (fun hk2 => h2 (k2 k (by omega) hk2)) h3
   ·rw [r4]
    constructor
    ·intro _
     exact .inr ⟨i, by omega, h1, fun hj => ((hset i).1 (r2 i hj)).2 rfl⟩
    ·intro _; exact .inl rfl
structure Same (G : List Nat) (s : PS) (o : OS) : Prop where
 gd : o.gd = s.gd
 had : o.had = s.had
 bk : o.bk = s.bk
 len : s.C.length = 64
 olen : o.C.length = (streets G).length
 sym : ∀ a b, Adj G a b → X.mk s.C a b → X.mk s.C b a
 cl : ∀ i, i < (streets G).length → (o.C.getD i false = true ↔ X.mk s.C ((streets G).getD i (0, 0)).1 ((streets G).getD i (0, 0)).2)
theorem edge_of {G : List Nat} (hG : Gr 7 G) {a b : Nat} (h : Adj G a b) : ∃ i, i < (streets G).length ∧ ((streets G).getD i (0, 0) = (a, b) ∨ (streets G).getD i (0, 0) = (b, a)) := by
 by_cases hab : a < b
 ·obtain ⟨i, h1, h2⟩ := streets_of hG h hab
  exact ⟨i, h1, .inl h2⟩
 ·have : a ≠ b := fun e => by subst e; exact hG.adj_irr h
  obtain ⟨i, h1, h2⟩ := streets_of hG (hG.adj_symm h) (by omega)
  exact ⟨i, h1, .inr h2⟩
theorem Same.step {G : List Nat} (hG : Gr 7 G) {s : PS} {o : OS} (h : Same G s o) (v : Nat) : Same G (stepP G s v) (stepO (streets G) o v) := by
 have hn := hG.most
 unfold stepP stepO
 rw [h.gd, h.had, h.bk]
 obtain ⟨g, hg⟩ : ∃ g, s.gd ^^^ 2 ^ v = g := ⟨_, rfl⟩
 rw [hg]
 obtain ⟨C0, hC0⟩ : ∃ C, all1 G g G.length 0 s.C = C := ⟨_, rfl⟩
 obtain ⟨c0, hc0⟩ : ∃ C, marksO (streets G) g (streets G).length 0 o.C = C := ⟨_, rfl⟩
 have h64 : C0.length = 64 := by rw [← hC0, all1_len]; exact h.len
 have hol : c0.length = (streets G).length := by rw [← hc0, marksO_len]; exact h.olen
 have hm0 : ∀ a b, Adj G a b → (X.mk C0 a b ↔ X.mk s.C a b ∨ (bset g a ∧ bset g b)) := fun a b ha => by
  rw [← hC0, all1_mk hG g G.length 0 s.C (by omega) h.len a b (by have := hG.adj_lt ha; omega)]
  exact or_congr_right ⟨fun q => q.2.2, fun q => ⟨Nat.zero_le _, ha, q⟩⟩
 have hsym : ∀ a b, Adj G a b → X.mk C0 a b → X.mk C0 b a := fun a b ha q => by
  rw [hm0 b a (hG.adj_symm ha)]
  exact ((hm0 a b ha).1 q).imp (h.sym a b ha) fun q => ⟨q.2, q.1⟩
 have hcl : ∀ i, i < (streets G).length → (c0.getD i false = true ↔ X.mk C0 ((streets G).getD i (0, 0)).1 ((streets G).getD i (0, 0)).2) := fun i hi => by
  rw [← hc0, marksO_get (streets G) g (streets G).length 0 o.C h.olen (by omega) i hi, h.cl i hi, hm0 _ _ (streets_at hG hi).2]
  exact or_congr_right ⟨fun q => q.2, fun q => ⟨Nat.zero_le _, q⟩⟩
 rw [hC0, hc0]
 obtain ⟨r1, r2⟩ := iter2_red hG g 64 (C0, s.bk) h64 hsym (by have := cntT_le C0; dsimp only; omega)
 obtain ⟨t, ht⟩ : ∃ t, iter2 G g 64 (C0, s.bk) = t := ⟨_, rfl⟩
 rw [ht] at r1 r2 ⊢
 obtain ⟨p1, p2, p3, p4⟩ := spAll_spec (E := streets G) (gd := g) ((streets G).length + 1) (c0, s.bk) hol (by have := cntT_le c0; dsimp only; omega)
 have p5 := spAll_len (streets G) g ((streets G).length + 1) (c0, s.bk)
 obtain ⟨u, hu⟩ : ∃ u, spAll (streets G) g ((streets G).length + 1) (c0, s.bk) = u := ⟨_, rfl⟩
 rw [hu] at p1 p2 p3 p4 p5 ⊢
 have hst : ∀ a b z, Adj G a b → X.mk t.1 a b → Adj G a z → ¬ bset g a → X.mk t.1 a z := fun a b z ha hm hz hga => Classical.byContradiction fun hno => by
  have := (r2 a b ha hm).1
  rw [(smk_iff hG t.1 g a G.length 0 (by omega)).2 ⟨hga, z, Nat.zero_le _, hz, hno⟩] at this
  cases this
 have hboth : ∀ i, i < (streets G).length → (u.1.getD i false = true ↔ X.mk t.1 ((streets G).getD i (0, 0)).1 ((streets G).getD i (0, 0)).2) := by
  intro i hi
  constructor
  ·-- what the program keeps, the reference keeps
   intro hiu
   have hedge := (streets_at hG hi).2
   refine r1.great (fun a b => ∃ i, i < (streets G).length ∧ u.1.getD i false = true ∧ ((streets G).getD i (0, 0) = (a, b) ∨ (streets G).getD i (0, 0) = (b, a))) ?_ ?_ ?_ _ _ hedge ⟨i, hi, hiu, .inl rfl⟩
   ·rintro a b ⟨i, q1, q2, q3⟩
    exact ⟨i, q1, q2, q3.symm⟩
   ·rintro a b z ha ⟨i, q1, q2, q3⟩ hz hga
    obtain ⟨k, k1, k2⟩ := edge_of hG hz
    refine ⟨k, k1, Classical.byContradiction fun hk => ?_, k2⟩
    have hno := spOut_none (streets G) g u.1 _ _ p1 i (Nat.zero_le _) (by omega)
    rw [(spIn_iff (streets G) g u.1 i _ _).2 ⟨k, Nat.zero_le _, by omega, (comes_iff _ _ _ _ _).2 ⟨q2, hk, a, hga, ?_, ?_⟩⟩] at hno
    ·cases hno
    ·rcases q3 with e | e <;> rw [e]
     ·exact .inl rfl
     ·exact .inr rfl
    ·rcases k2 with e | e <;> rw [e]
     ·exact .inl rfl
     ·exact .inr rfl
   ·rintro a b ha ⟨i, q1, q2, q3⟩
    have := (hcl i q1).1 (p2 i q2)
    rcases q3 with e | e <;> rw [e] at this
    ·exact this
    ·exact hsym b a (hG.adj_symm ha) this
  ·-- what the reference keeps, the program keeps
   intro hm
   refine p3 (fun i => i < (streets G).length ∧ X.mk t.1 ((streets G).getD i (0, 0)).1 ((streets G).getD i (0, 0)).2) ?_ ?_ i hi ⟨hi, hm⟩
   ·rintro i k hi hk ⟨_, q⟩ hno ⟨j, hj, hj1, hj2⟩
    have ei := (streets_at hG hi).2
    have ek := (streets_at hG hk).2
    obtain ⟨b, hab, hmb⟩ : ∃ b, Adj G j b ∧ X.mk t.1 j b := by
     rcases hj1 with e | e
     ·exact ⟨_, by rw [e]; exact ei, by rw [e]; exact q⟩
     ·exact ⟨_, by rw [e]; exact hG.adj_symm ei, by rw [e]; exact r1.sym _ _ ei q⟩
    rcases hj2 with e | e
    ·exact hno ⟨hk, by
      have := hst j b ((streets G).getD k (0, 0)).2 hab hmb (by rw [e]; exact ek) hj
      rwa [e] at this⟩
    ·exact hno ⟨hk, by
      have := hst j b ((streets G).getD k (0, 0)).1 hab hmb (by rw [e]; exact hG.adj_symm ek) hj
      rw [e] at this
      exact r1.sym _ _ (hG.adj_symm ek) this⟩
   ·rintro i hi ⟨_, q⟩
    exact (hcl i hi).2 (r1.sub _ _ (streets_at hG hi).2 q)
 refine ⟨rfl, rfl, ?_, r1.len, by rw [p5]; exact hol, r1.sym, hboth⟩
 show u.2 = t.2
 have : u.2 = true ↔ t.2 = true := by
  rw [p4, r1.bk]
  refine or_congr_right ⟨?_, ?_⟩
  ·rintro ⟨i, q1, q2, q3⟩
   exact ⟨_, _, (streets_at hG q1).2, (hcl i q1).1 q2, fun q => q3 ((hboth i q1).2 q)⟩
  ·rintro ⟨a, b, q1, q2, q3⟩
   obtain ⟨i, k1, k2⟩ := edge_of hG q1
   refine ⟨i, k1, (hcl i k1).2 ?_, fun q => q3 ?_⟩
   ·rcases k2 with e | e <;> rw [e]
    ·exact q2
    ·exact hsym _ _ q1 q2
   ·have := (hboth i k1).1 q
    rcases k2 with e | e <;> rw [e] at this
    ·exact this
    ·exact r1.sym _ _ (hG.adj_symm q1) this
 cases hu2 : u.2 <;> cases ht2 : t.2 <;> simp_all
theorem all3_iff {G : List Nat} (hG : Gr 7 G) (C : List Bool) : all3 G C G.length 0 = true ↔ ∀ a b, Adj G a b → X.mk C a b := by
 have row : ∀ x d y, y + d = G.length → (row3 G C x d y = true ↔ ∀ b, y ≤ b → Adj G x b → X.mk C x b) := by
  intro x d
  induction d with
  | zero => intro y hy; exact ⟨fun _ b h1 h2 => by have := hG.adj_lt h2; omega, fun _ => rfl⟩
  | succ d ih =>
   intro y hy
   simp only [row3]
   by_cases hc : ((G.getD x 0).testBit y && !C.getD (x * 8 + y) false) = true
   ·rw [if_pos hc]
    simp only [Bool.and_eq_true, Bool.not_eq_true'] at hc
    exact ⟨fun h => absurd h (by decide), fun h => by
     have : C.getD (x * 8 + y) false = true := h y (Nat.le_refl _) hc.1
     rw [hc.2] at this
     cases this⟩
   ·rw [if_neg hc, ih (y + 1) (by omega)]
    refine ⟨fun h b h1 h2 => ?_, fun h b h1 h2 => h b (by omega) h2⟩
    by_cases e : b = y
    ·subst e
     simp only [Bool.and_eq_true, Bool.not_eq_true', not_and] at hc
     have := hc h2
     show C.getD (x * 8 + b) false = true
     simpa using this
    ·exact h b (by omega) h2
 have all : ∀ d x, x + d = G.length → (all3 G C d x = true ↔ ∀ a b, x ≤ a → Adj G a b → X.mk C a b) := by
  intro d
  induction d with
  | zero => intro x hx; exact ⟨fun _ a b h1 h2 => by have := hG.adj_lt' h2; omega, fun _ => rfl⟩
  | succ d ih =>
   intro x hx
   simp only [all3]
   rw [Bool.and_eq_true, row x G.length 0 (by omega), ih (x + 1) (by omega)]
   refine ⟨fun ⟨h1, h2⟩ a b h3 h4 => ?_, fun h => ⟨fun b _ h2 => h x b (Nat.le_refl _) h2, fun a b h3 h4 => h a b (by omega) h4⟩⟩
   by_cases e : a = x
   ·subst e; exact h1 b (Nat.zero_le _) h4
   ·exact h2 a b (by omega) h4
 rw [all G.length 0 (by omega)]
 exact ⟨fun h a b ha => h a b (Nat.zero_le _) ha, fun h a b _ ha => h a b ha⟩
theorem Same.fin {G : List Nat} (hG : Gr 7 G) {s : PS} {o : OS} (h : Same G s o) : o.C.contains false = !all3 G s.C G.length 0 := by
 have : (o.C.contains false = true) ↔ ¬ (all3 G s.C G.length 0 = true) := by
  rw [all3_iff hG, List.contains_iff_mem, List.mem_iff_getElem]
  constructor
  ·rintro ⟨i, hi, e⟩ hall
   have hi2 : i < (streets G).length := by rw [← h.olen]; exact hi
   have := (h.cl i hi2).2 (hall _ _ (streets_at hG hi2).2)
   rw [List.getD_eq_getElem?_getD, List.getElem?_eq_getElem hi, e] at this
   cases this
  ·intro hno
   apply Classical.byContradiction
   intro hex
   refine hno fun a b ha => ?_
   obtain ⟨i, k1, k2⟩ := edge_of hG ha
   have hi : i < o.C.length := by rw [h.olen]; exact k1
   have : o.C.getD i false = true := by
    rw [List.getD_eq_getElem?_getD, List.getElem?_eq_getElem hi]
    cases he : o.C[i]
    ·exact (hex ⟨i, hi, he⟩).elim
    ·simp [he]
   have := (h.cl i k1).1 this
   rcases k2 with e | e <;> rw [e] at this
   ·exact this
   ·exact h.sym _ _ (hG.adj_symm ha) this
 cases h1 : o.C.contains false <;> cases h2 : all3 G s.C G.length 0 <;> simp_all
theorem ownTo_same {G : List Nat} (hG : Gr 7 G) : ∀ (l : List S85) (s : PS) (o : OS), Same G s o → finO G (ownTo G.length (streets G) l o s.most) = finP G (playTo G (l.map conv) s)
 | [], s, o, h => by
  simp only [ownTo, List.map_nil, playTo, finO, finP]
  rw [h.fin hG, h.had, h.bk]
  cases all3 G s.C G.length 0
  ·simp
  ·simp
 | a :: l, s, o, h => by
  simp only [ownTo, List.map_cons, playTo, conv]
  by_cases h0 : a.f1 < 0
  ·rw [if_pos h0, if_pos h0]; rfl
  ·rw [if_neg h0, if_neg h0]
   by_cases h1 : (G.length : Int) ≤ a.f1
   ·rw [if_pos h1, if_pos h1]; rfl
   ·rw [if_neg h1, if_neg h1]
    unfold doO
    rw [h.gd]
    by_cases h2 : (s.gd.testBit a.f1.toNat == a.f0) = true
    ·rw [if_pos h2, if_pos h2]; rfl
    ·rw [if_neg h2, if_neg h2, Option.bind_some]
     have := ownTo_same hG l _ _ (h.step hG a.f1.toNat)
     rw [← this]
     congr 2
     show max s.most (pc (o.gd ^^^ 2 ^ a.f1.toNat) 9) = max s.most (pc (s.gd ^^^ 2 ^ a.f1.toNat) 9)
     rw [h.gd]
theorem same_start (G : List Nat) : Same G p0 (o0 (streets G)) := by
 have z : ∀ a b, ¬ X.mk p0.C a b := fun a b q => by
  unfold X.mk at q
  rw [show p0.C = List.replicate 64 false from rfl, getD_false] at q
  cases q
 refine ⟨rfl, rfl, rfl, rfl, by simp [o0], fun a b _ q => (z a b q).elim, fun i hi => ⟨fun q => ?_, fun q => (z _ _ q).elim⟩⟩
 unfold o0 at q
 dsimp only at q
 rw [List.getD_eq_getElem?_getD, List.getElem?_replicate] at q
 split at q <;> cases q
theorem ownPlay_eq {G : List Nat} (hG : Gr 7 G) (l : List S85) : ownPlay G l = refPlay G (l.map conv) := by
 unfold ownPlay refPlay
 rw [List.length_map]
 by_cases h : 100 < l.length
 ·rw [if_pos h, if_pos h]
 ·rw [if_neg h, if_neg h]
  exact ownTo_same hG l p0 _ (same_start G)
end Go.Proofs.YtijfddobandcdaaDoor.X
end
section
/- What Play answers, told by the reference's; the laws' plan. -/
namespace Go.Proofs.YtijfddobandcdaaDoor.X
open Go.RowKit YtijfddobandcdaaDoorW.PrintWords YtijfddobandcdaaDoorW.PrintLast YtijfddobandcdaaDoorW.PrintMore YtijfddobandcdaaDoor.T
def unconv (p : S70) : S85 := ⟨p.f0, p.f1⟩
theorem conv_unconv (l : List S70) : (l.map unconv).map conv = l := by
 rw [List.map_map]
 conv => rhs; rw [← List.map_id l]
 exact List.map_congr_left fun x _ => rfl
theorem lawplan_l0 (l : List S70) (hl : l.length ≤ maxLen) : ∀ (d i : Nat), i + d = l.length → Ev (fun k => lampblacklaw03_plan.l0 k (((l.take 110).take i).map unconv) l (l.length : Int) (i : Int)) ((l.take 110).map unconv) := by
 intro d
 have hm : maxLen ≤ 9223372036854775807 := by decide
 induction d with
 | zero =>
  intro i hi
  refine Ev.step (f := fun _ => some (((l.take 110).take i).map unconv)) (fun k => by rw [lampblacklaw03_plan.l0, if_neg (by omega)]) (Ev.some ?_)
  rw [List.take_of_length_le (by rw [List.length_take]; omega)]
 | succ d ih =>
  intro i hi
  have hi' : i < l.length := by omega
  have hr : rd_T70 l (i : Int) = l[i] := by unfold rd_T70; rw [Int.toNat_natCast, List.getD_eq_getElem?_getD, List.getElem?_eq_getElem hi']; rfl
  have hw : wrap64 ((i : Int) + 1) = ((i + 1 : Nat) : Int) := by unfold wrap64; omega
  by_cases h110 : i < 110
  ·have e : ((l.take 110).take i).map unconv ++ [(⟨(rd_T70 l (i : Int)).f0, (rd_T70 l (i : Int)).f1⟩ : S85)] = ((l.take 110).take (i + 1)).map unconv := by
    have hi2 : i < (l.take 110).length := by rw [List.length_take]; omega
    rw [hr, List.take_add_one (l := l.take 110), List.getElem?_eq_getElem hi2, List.map_append, List.getElem_take]
    rfl
   refine Ev.step (fun k => by rw [lampblacklaw03_plan.l0, if_pos (by omega), if_pos (by omega), if_pos (by omega), if_pos (by omega), if_pos (by rw [List.length_map, List.length_take, List.length_take]; omega), e, hw]) (ih (i + 1) (by omega))
  ·have e : ((l.take 110).take i).map unconv = ((l.take 110).take (i + 1)).map unconv := by
    have hl1 : (l.take 110).length ≤ i := by rw [List.length_take]; omega
    rw [List.take_of_length_le hl1, List.take_of_length_le (Nat.le_trans hl1 (Nat.le_succ i))]
   refine Ev.step (fun k => by rw [lampblacklaw03_plan.l0, if_pos (by omega), if_pos (by omega), if_pos (by omega), if_neg (by omega), e, hw]) (ih (i + 1) (by omega))
theorem lawplan_ev (l : List S70) (hl : l.length ≤ maxLen) : Ev (fun k => lampblacklaw03_plan.f k l) ((l.take 110).map unconv) := by
 unfold lampblacklaw03_plan.f
 have := lawplan_l0 l hl l.length 0 (by omega)
 simpa using this
theorem Play_eq (G : List Nat) (hG : Gr 7 G) (l : List S85) : sweep_Play.f (gi G) l = some ((refPlay G (l.map conv)).1, (refPlay G (l.map conv)).2.1, (refPlay G (l.map conv)).2.2, 0) := by
 unfold sweep_Play.f
 rw [if_pos (by rw [gi_length]; have := hG.most; omega), if_pos ((chk_iff 7 (by omega) _).2 ⟨G, rfl, hG⟩), gi_toNat, ownPlay_eq hG]
theorem Play_bad (g : List Int) (l : List S85) (hl : g.length < 2 ^ 60) (h : chk 7 g = false) : sweep_Play.f g l = some (0, false, false, 2) := by
 unfold sweep_Play.f
 rw [if_pos hl, if_neg (by rw [h]; simp)]
theorem refPlay_cut (G : List Nat) (l : List S70) : refPlay G (((l.take 110).map unconv).map conv) = refPlay G l := by
 rw [conv_unconv]
 by_cases h : l.length ≤ 110
 ·rw [List.take_of_length_le h]
 ·unfold refPlay
  rw [if_pos (by rw [List.length_take]; omega), if_pos (by omega)]
theorem Play_cut (G : List Nat) (hG : Gr 7 G) (l : List S70) : sweep_Play.f (gi G) ((l.take 110).map unconv) = some ((refPlay G l).1, (refPlay G l).2.1, (refPlay G l).2.2, 0) := by
 rw [Play_eq G hG, refPlay_cut]
end Go.Proofs.YtijfddobandcdaaDoor.X
end
section
/- SweepPlays, without Go and memory: Play returns the guards of a right plan, and whether a clear street becomes smoky in it, and false of everything else, or the documented error. -/
namespace Go.Proofs.YtijfddobandcdaaDoor.Pure
open Go.RowKit YtijfddobandcdaaDoorW.PrintWords YtijfddobandcdaaDoorW.PrintLast YtijfddobandcdaaDoorW.PrintMore YtijfddobandcdaaDoor.T YtijfddobandcdaaDoor.X
theorem SweepPlays : ∀ (l0 : List Int) (l1 : List S70), l0.length ≤ maxLen → l0.length * 8 ≤ 140737488351232 → (∀ x ∈ l0, (Lit.int .i64 x).wf = true) → l1.length ≤ maxLen → ∃ k, lampblacklaw03_SweepPlays.f k l0 l1 = some true := by
 intro g l _ hg _ hl
 apply Ev.rounds
 obtain ⟨h, e, e1, e2, e3⟩ := few_eq g (by omega)
 have hv := valid_ev g (by omega)
 unfold lampblacklaw03_SweepPlays.f
 refine Ev.bind1 e (Ev.bind (lawplan_ev l hl) ?_)
 by_cases hc : chk 7 g = true
 ·obtain ⟨G, rfl, hG⟩ := (chk_iff 7 (by omega) _).1 hc
  rw [hc] at hv
  rw [e1 hc]
  have hrp : lampblackref03_Play.f (gi G) l = some (refPlay G l) := by
   unfold lampblackref03_Play.f
   rw [if_pos hc, gi_toNat]
  exact Ev.bind1 (Play_cut G hG l) (Ev.bind hv (Ev.if_pos rfl (Ev.bind1 hrp (Ev.if_pos rfl (Ev.if_pos (by simp) (Ev.if_pos (by simp) (Ev.if_pos rfl (Ev.bind awake_ev (Ev.some rfl)))))))))
 ·have hc' : chk 7 g = false := by simpa using hc
  rw [hc'] at hv
  exact Ev.bind1 (Play_bad h _ (by omega) (e2 hc')) (Ev.bind hv (Ev.if_neg (by simp) (Ev.if_pos rfl (Ev.if_neg (by simp) (Ev.if_neg (by simp) (Ev.if_pos rfl (Ev.bind awake_ev (Ev.some rfl))))))))
end Go.Proofs.YtijfddobandcdaaDoor.Pure
end
section
/- An argument that is a slice of acts, opened to its cells. -/
namespace Go.Proofs.YtijfddobandcdaaDoor.X
open Go.RowKit Go.ChangeShapes Go.WideShapes Go.Deep YtijfddobandcdaaDoorW.PrintWords
theorem list_of {α : Type} (d : α) (Q : Nat → α → Prop) : ∀ n : Nat, (∀ i, i < n → ∃ z, Q i z) → ∃ zs : List α, zs.length = n ∧ ∀ i, i < n → Q i (zs.getD i d)
 | 0, _ => ⟨[], rfl, fun i h => by omega⟩
 | n + 1, h => by
  obtain ⟨zs, h1, h2⟩ := list_of d Q n (fun i hi => h i (by omega))
  obtain ⟨z, hz⟩ := h n (by omega)
  refine ⟨zs ++ [z], by simp [h1], fun i hi => ?_⟩
  by_cases e : i = n
  ·subst e
   rw [List.getD_eq_getElem?_getD, List.getElem?_append_right (by omega), h1]
   simpa using hz
  ·have := h2 i (by omega)
   rw [List.getD_eq_getElem?_getD] at this ⊢
   rwa [List.getElem?_append_left (by omega)]
def IsRowS (w : World) (a : Option Addr) (len cap : Nat) (zs : List S70) : Prop :=
 (a = none ∧ len = 0 ∧ cap = 0 ∧ zs = []) ∨
 ∃ x, a = some x ∧ len ≤ cap ∧ cap ≤ maxLen ∧ zs.length = len ∧ ∀ i, i < len → w.cell? (x.add (i * 2)) = some (.bool (zs.getD i z70).f0) ∧ w.cell? (x.add (i * 2 + 1)) = some (.int .i64 (zs.getD i z70).f1)
theorem rowS_C {w : World} {a : Option Addr} {len cap : Nat} {zs : List S70} (h : IsRowS w a len cap zs) : zs.length = len ∧ len ≤ cap ∧ len ≤ maxLen ∧ Kd.C k70 w a len zs := by
 rcases h with ⟨rfl, rfl, rfl, rfl⟩ | ⟨x, rfl, h1, h2, h3, h4⟩
 ·exact ⟨rfl, Nat.le_refl _, Nat.zero_le _, rfl, by omega, fun h0 => by omega⟩
 ·have hm : maxLen ≤ 9223372036854775807 := by decide
  refine ⟨h3, h1, by omega, h3, by omega, fun h0 => ⟨x, rfl, fun j p hj => ⟨[.bool p.f0, .int .i64 p.f1], rfl, k70_mk w p, fun i u hu => ?_⟩⟩⟩
  obtain ⟨q1, q2⟩ := List.getElem?_eq_some_iff.1 hj
  obtain ⟨c1, c2⟩ := h4 j (by omega)
  rw [List.getD_eq_getElem?_getD, hj] at c1 c2
  show w.cell? (x.add (j * 2 + i)) = some u
  match i, hu with
  | 0, hu =>
   have hu' : Value.bool p.f0 = u := by simpa using hu
   rw [← hu']; exact c1
  | 1, hu =>
   have hu' : Value.int .i64 p.f1 = u := by simpa using hu
   rw [← hu']; exact c2
section
variable {H : Type} {enc : TypeId × Value → H} {P : Program} {w : World} {base : Nat} {spare : Nat → Bool} {held : Bool}
theorem open_acts {t e : TypeId} {f0 f1 : Field} {fuel : Nat} {a : Option Addr} {len cap : Nat} {x : DataW H × List MemPlace} (ht : P.underlying t = some (.slice e)) (he : P.underlying e = some (.struct #[f0, f1]))
  (hone : oneCellFields P #[f0, f1] = true) (hC : P.cellsOf e = 2) (h0 : P.underlying f0.type = some .bool) (h1 : P.underlying f1.type = some (.int .i64)) (h : DataW.trod enc P w base spare held fuel t [.slice a len cap] = some x) : ∃ zs, IsRowS w a len cap zs := by
 rcases open_slice ht h with ⟨hn, _⟩ | ⟨ad, l, c, m, n, D, Pl, hcs, _, hl, hm, hmm, _, hi⟩
 ·simp only [List.cons.injEq, Value.slice.injEq, and_true] at hn
  obtain ⟨rfl, rfl, rfl⟩ := hn
  exact ⟨[], .inl ⟨rfl, rfl, rfl, rfl⟩⟩
 ·simp only [List.cons.injEq, Value.slice.injEq, and_true] at hcs
  obtain ⟨rfl, rfl, rfl⟩ := hcs
  have hlm : len ≤ m := by rw [hmm]; split <;> omega
  obtain ⟨zs, z1, z2⟩ := list_of z70 (fun i z => w.cell? (ad.add (i * 2)) = some (.bool z.f0) ∧ w.cell? (ad.add (i * 2 + 1)) = some (.int .i64 z.f1)) len fun i hil => by
   obtain ⟨cs, hc, htr⟩ := hi i (by omega)
   rw [hC] at hc
   obtain ⟨_, hcl, hat⟩ := World.cells?_some hc
   obtain ⟨ys, n2, _, _, _, hyl, hf⟩ := DataW.trod_struct he htr
   obtain ⟨o0, k0⟩ := hone_of hone 0 f0 rfl
   obtain ⟨o1, k1⟩ := hone_of hone 1 f1 rfl
   match cs, hcl with
   | [c0, c1], _ =>
    have g0 := hf 0 f0 rfl
    have g1 := hf 1 f1 rfl
    rw [o0, k0] at g0
    rw [o1, k1] at g1
    have y0 : ys[0]? = some (ys[0]'(by rw [hyl]; show 0 < 2; omega)) := List.getElem?_eq_getElem _
    have y1 : ys[1]? = some (ys[1]'(by rw [hyl]; show 1 < 2; omega)) := List.getElem?_eq_getElem _
    obtain ⟨b, hb, _⟩ := DataW.trod_bool h0 (g0.trans y0)
    obtain ⟨v, hv0, _⟩ := DataW.trod_int h1 (g1.trans y1)
    have hv : c1 = .int .i64 v := by simpa using hv0
    have hb' : c0 = .bool b := by simpa using hb
    refine ⟨⟨b, v⟩, ?_, ?_⟩
    ·exact (hat 0 (by omega)).trans (by simp [hb'])
    ·rw [← Go.Deep.add_add]
     exact (hat 1 (by omega)).trans (by simp [hv])
  exact ⟨zs, .inr ⟨ad, rfl, hl, hm, z1, z2⟩⟩
end
end Go.Proofs.YtijfddobandcdaaDoor.X
end
