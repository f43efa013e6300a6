/- Part 3 of what WidthColours rests on: contracts of the functions that it reaches, and what they compute, in plain words. -/
import Derived.Test.YtoffehihicabcaaDoorZWidthColours0
import Derived.Test.YtoffehihicabcaaDoorZWidthColours2
import Derived.Test.YtoffehihicabcaaDoorZWidthColours1
import Derived.Outline
import Derived.ChangeSlices
import Derived.ChangeArms
import Derived.WideShapes
set_option linter.unusedVariables false
set_option linter.unusedSimpArgs false
section
namespace Go.Proofs.YtoffehihicabcaaDoor.X
open Go.RowKit YtoffehihicabcaaDoorW.PrintWords YtoffehihicabcaaDoorW.PrintLast YtoffehihicabcaaDoorW.PrintMore
attribute [local go_sem] max2_int min2_int max_two min_two max_three min_three max_four min_four
noncomputable section
def lampblacklaw02_WidthColours.j0 : Nat → List Int → Int → Int → List Int → List Int → List Int → List Int → Option (Bool)
 | 0, _, _, _, _, _, _, _ => none
 | k + 1, x0, x2, x10, x716000, x716001, x727000, x727001 => (lampblacklaw02_Few.f x0).bind fun t738 => ((width_Count.f t738 x727000 x727001 x2).bind fun bt741 => ((lampblacklaw02_Few.f x0).bind fun t743 => ((lampblacklaw02_Of.f x716000 x716001).bind fun bt746 => ((width_Count.f t743 bt746.1 bt746.2 x2).bind fun bt752 => (if x10 = 0 then (if bt752.2 = 2 then (if bt741.2 = 0 then ((lampblacklaw02_awake.f k).bind fun t754 => (some t754)) else (if bt741.2 = 2 then ((lampblacklaw02_awake.f k).bind fun t755 => (some t755)) else (if bt752.2 = 0 then (some false) else (some false)))) else (if bt752.2 = 0 then (if bt741.2 = 0 then (if bt741.1 = bt752.1 then ((lampblacklaw02_awake.f k).bind fun t756 => (some t756)) else (some false)) else (some false)) else (some false))) else (some false))))))
def lampblacklaw02_WidthColours.f (k : Nat) (l0 : List Int) (l1_0 : List Int) (l1_1 : List Int) (a2 : Int) : Option (Bool) := (lampblacklaw02_Few.f l0).bind fun t716 => ((width_Decompose.f k t716).bind fun bt719 => ((lampblacklaw02_Few.f l0).bind fun t727 => ((width_Width.f k t727).bind fun bt730 => (if bt719.2.2 = 0 then (if bt730.1 < 6 then ((lampblacklaw02_Few.f l0).bind fun t733 => ((width_Count.f t733 bt719.1 bt719.2.1 (wrap64 (bt730.1 + 1))).bind fun bt736 => (if bt736.2 = 0 then (if bt736.1 < 1 then (some false) else (lampblacklaw02_WidthColours.j0 k l0 a2 bt730.2 l1_0 l1_1 bt719.1 bt719.2.1)) else (some false)))) else (lampblacklaw02_WidthColours.j0 k l0 a2 bt730.2 l1_0 l1_1 bt719.1 bt719.2.1)) else (if bt719.2.2 = 2 then (if bt730.2 = 2 then ((lampblacklaw02_awake.f k).bind fun t732 => (some t732)) else (some false)) else (some false))))))
def lampblacklaw02_WidthColours.T6 : Bool × List (List Nat × List Nat) := (true, [([], []), ([0], [0]), ([], []), ([], []), ([3], [3]), ([1, 2, 4, 1], [1, 2, 4]), ([5], [5]), ([6], [6]), ([6], [6]), ([7, 5, 0, 1, 2, 3, 4, 5, 6, 7], [7]), ([8, 9, 0, 1, 2, 3, 4, 5, 6, 7, 8, 9], [8])])
def lampblacklaw02_WidthColours.B6 : List Nat := [0, 1, 0, 0, 8, 31, 63, 127, 127, 255, 1023]
theorem lampblacklaw02_WidthColours.tab6 : rtab .any (opsOf Tryd.f15 6) = lampblacklaw02_WidthColours.T6 := by kernel_rfl
theorem lampblacklaw02_WidthColours.bits6 : waitsOk lampblacklaw02_WidthColours.T6.2 lampblacklaw02_WidthColours.B6 = true := by kernel_rfl
def lampblacklaw02_WidthColours.T9 : Bool × List (List Nat × List Nat) := (true, [([], []), ([0], [0]), ([], []), ([], []), ([1, 2, 3, 1], [1, 2, 3]), ([4], [4]), ([5], [5]), ([5], [5]), ([6, 4, 0, 1, 2, 3, 4, 5, 6], [6]), ([7, 8, 0, 1, 2, 3, 4, 5, 6, 7, 8], [7])])
def lampblacklaw02_WidthColours.B9 : List Nat := [0, 1, 0, 0, 15, 31, 63, 63, 127, 511]
theorem lampblacklaw02_WidthColours.tab9 : rtab .any (opsOf Tryd.f15 9) = lampblacklaw02_WidthColours.T9 := by kernel_rfl
theorem lampblacklaw02_WidthColours.bits9 : waitsOk lampblacklaw02_WidthColours.T9.2 lampblacklaw02_WidthColours.B9 = true := by kernel_rfl
def lampblacklaw02_WidthColours.T10 : Bool × List (List Nat × List Nat) := (true, [([], []), ([0], [0]), ([], []), ([2, 1], [2]), ([], []), ([1, 3, 4, 3], [1, 3, 4]), ([5], [5]), ([6], [6]), ([6], [6]), ([7, 5, 0, 1, 2, 3, 4, 5, 6, 7], [7]), ([8, 9, 0, 1, 2, 3, 4, 5, 6, 7, 8, 9], [8])])
def lampblacklaw02_WidthColours.B10 : List Nat := [0, 1, 0, 7, 0, 31, 63, 127, 127, 255, 1023]
theorem lampblacklaw02_WidthColours.tab10 : rtab .any (opsOf Tryd.f15 10) = lampblacklaw02_WidthColours.T10 := by kernel_rfl
theorem lampblacklaw02_WidthColours.bits10 : waitsOk lampblacklaw02_WidthColours.T10.2 lampblacklaw02_WidthColours.B10 = true := by kernel_rfl
set_option maxHeartbeats 8000000 in
set_option maxRecDepth 100000 in
theorem lampblacklaw02_WidthColours.calls (k : Nat) (A0 : Option Addr) (c0 : Nat) (l0 : List Int) (A1_0 : Option Addr) (c1_0 : Nat) (l1_0 : List Int) (A1_1 : Option Addr) (c1_1 : Nat) (l1_1 : List Int) (a2 : Int) (r : Bool) (w : World) (hGL : GL w) (hr0 : Kd.C (Kd.int .i64) w A0 l0.length l0) (hc0 : l0.length ≤ c0) (hr1_0 : Kd.C (Kd.int .i64) w A1_0 l1_0.length l1_0) (hc1_0 : l1_0.length ≤ c1_0) (hr1_1 : Kd.C (Kd.int .i64) w A1_1 l1_1.length l1_1) (hc1_1 : l1_1.length ≤ c1_1) (h : lampblacklaw02_WidthColours.f k l0 l1_0 l1_1 a2 = some r) (hrt : r = true) :
  Calls Tryd.prog 15 #[.slice A0 l0.length c0, .agg #[.slice A1_0 l1_0.length c1_0, .slice A1_1 l1_1.length c1_1], .int .i64 a2] w fun e w' => e = .returned (.bool r) ∧ Below w.heap.size w w' := by
 have HRT := Aside0.mk hrt
 clear hrt
 have HGL := Aside0.mk hGL
 clear hGL
 have hu52 := Tryd.underlying52
 have hu53 := Tryd.underlying53
 have HR0 := Aside0.mk hr0
 have HC0 := Aside0.mk hc0
 clear hr0 hc0
 have HR1_0 := Aside0.mk hr1_0
 have HC1_0 := Aside0.mk hc1_0
 clear hr1_0 hc1_0
 have HR1_1 := Aside0.mk hr1_1
 have HC1_1 := Aside0.mk hc1_1
 clear hr1_1 hc1_1
 have HB := Aside0.mk (Below.refl w.heap.size w)
 have H : ((lampblacklaw02_Few.f l0).bind fun t716 => ((width_Decompose.f k t716).bind fun bt719 => ((lampblacklaw02_Few.f l0).bind fun t727 => ((width_Width.f k t727).bind fun bt730 => (if bt719.2.2 = 0 then (if bt730.1 < 6 then ((lampblacklaw02_Few.f l0).bind fun t733 => ((width_Count.f t733 bt719.1 bt719.2.1 (wrap64 (bt730.1 + 1))).bind fun bt736 => (if bt736.2 = 0 then (if bt736.1 < 1 then (some false) else (lampblacklaw02_WidthColours.j0 k l0 a2 bt730.2 l1_0 l1_1 bt719.1 bt719.2.1)) else (some false)))) else (lampblacklaw02_WidthColours.j0 k l0 a2 bt730.2 l1_0 l1_1 bt719.1 bt719.2.1)) else (if bt719.2.2 = 2 then (if bt730.2 = 2 then ((lampblacklaw02_awake.f k).bind fun t732 => (some t732)) else (some false)) else (some false))))))) = some r := h
 clear h
 replace H := Option.bind_eq_some_iff.mp H
 obtain ⟨t716, A40, H⟩ := H
 replace H : ((width_Decompose.f k t716).bind fun bt719 => ((lampblacklaw02_Few.f l0).bind fun t727 => ((width_Width.f k t727).bind fun bt730 => (if bt719.2.2 = 0 then (if bt730.1 < 6 then ((lampblacklaw02_Few.f l0).bind fun t733 => ((width_Count.f t733 bt719.1 bt719.2.1 (wrap64 (bt730.1 + 1))).bind fun bt736 => (if bt736.2 = 0 then (if bt736.1 < 1 then (some false) else (lampblacklaw02_WidthColours.j0 k l0 a2 bt730.2 l1_0 l1_1 bt719.1 bt719.2.1)) else (some false)))) else (lampblacklaw02_WidthColours.j0 k l0 a2 bt730.2 l1_0 l1_1 bt719.1 bt719.2.1)) else (if bt719.2.2 = 2 then (if bt730.2 = 2 then ((lampblacklaw02_awake.f k).bind fun t732 => (some t732)) else (some false)) else (some false)))))) = some r := H
 have A4 := Aside0.mk A40
 clear A40
 replace H := Option.bind_eq_some_iff.mp H
 obtain ⟨⟨t719, t722, t725⟩, A50, H⟩ := H
 replace H : ((lampblacklaw02_Few.f l0).bind fun t727 => ((width_Width.f k t727).bind fun bt730 => (if t725 = 0 then (if bt730.1 < 6 then ((lampblacklaw02_Few.f l0).bind fun t733 => ((width_Count.f t733 t719 t722 (wrap64 (bt730.1 + 1))).bind fun bt736 => (if bt736.2 = 0 then (if bt736.1 < 1 then (some false) else (lampblacklaw02_WidthColours.j0 k l0 a2 bt730.2 l1_0 l1_1 t719 t722)) else (some false)))) else (lampblacklaw02_WidthColours.j0 k l0 a2 bt730.2 l1_0 l1_1 t719 t722)) else (if t725 = 2 then (if bt730.2 = 2 then ((lampblacklaw02_awake.f k).bind fun t732 => (some t732)) else (some false)) else (some false))))) = some r := H
 have A5 := Aside0.mk A50
 clear A50
 replace H := Option.bind_eq_some_iff.mp H
 obtain ⟨t727, A60, H⟩ := H
 replace H : ((width_Width.f k t727).bind fun bt730 => (if t725 = 0 then (if bt730.1 < 6 then ((lampblacklaw02_Few.f l0).bind fun t733 => ((width_Count.f t733 t719 t722 (wrap64 (bt730.1 + 1))).bind fun bt736 => (if bt736.2 = 0 then (if bt736.1 < 1 then (some false) else (lampblacklaw02_WidthColours.j0 k l0 a2 bt730.2 l1_0 l1_1 t719 t722)) else (some false)))) else (lampblacklaw02_WidthColours.j0 k l0 a2 bt730.2 l1_0 l1_1 t719 t722)) else (if t725 = 2 then (if bt730.2 = 2 then ((lampblacklaw02_awake.f k).bind fun t732 => (some t732)) else (some false)) else (some false)))) = some r := H
 have A6 := Aside0.mk A60
 clear A60
 replace H := Option.bind_eq_some_iff.mp H
 obtain ⟨⟨t730, t731⟩, A70, H⟩ := H
 replace H : (if t725 = 0 then (if t730 < 6 then ((lampblacklaw02_Few.f l0).bind fun t733 => ((width_Count.f t733 t719 t722 (wrap64 (t730 + 1))).bind fun bt736 => (if bt736.2 = 0 then (if bt736.1 < 1 then (some false) else (lampblacklaw02_WidthColours.j0 k l0 a2 t731 l1_0 l1_1 t719 t722)) else (some false)))) else (lampblacklaw02_WidthColours.j0 k l0 a2 t731 l1_0 l1_1 t719 t722)) else (if t725 = 2 then (if t731 = 2 then ((lampblacklaw02_awake.f k).bind fun t732 => (some t732)) else (some false)) else (some false))) = some r := H
 have A7 := Aside0.mk A70
 clear A70
 by_cases c8 : t725 = 0
 ·rw [if_pos c8] at H
  have c8b0 : (t725 == 0) = true := beq_iff_eq.mpr c8
  have c8b1 : (t725 != 0) = false := bne_eq_false_iff_eq.mpr c8
  clear c8
  have HC9 := Aside0.mk H
  clear H
  go_enter Tryd.func15, Tryd.ntmps15
  go_upto_if 40 with (first | ((with_reducible refine gate_dst (N := 4) rfl ?_); refine box_event ?hg (N := 4) ?hd (cs := #[.slice A1_0 l1_0.length c1_0, .slice A1_1 l1_1.length c1_1]) (t := 52) ?hr ?_; (case hd => rfl); (case hg => rfl); (case hr => first | (go_simp; done) | (go_simp; rfl)); intro gb715 hg w10 hbox hb; have n0_ := Aside0.mk (below_step (Qaw) hb); have n1_ := Aside0.mk (hbox); have n2_ := Aside0.mk ((by rw [hg]; exact (below_size (Qaw)) : w.heap.size ≤ gb715)); have n3_ := Aside0.mk ((by rw [hg]; exact (below_size (Qaw)) : w.heap.size ≤ gb715)); clear HB; have HB := n0_; have BK715 := n1_; have GW715 := n2_; have GE715 := n3_; clear n0_ n1_ n2_ n3_; clear hb hbox hg) | ((with_reducible refine gate_callee (f := 19) rfl ?_); refine goesL_ (some 18) rfl rfl Tryd.func19 (by kernel_rfl) rfl #[.slice A0 l0.length c0] rfl (Qls) ?_; (with_reducible refine (lampblacklaw02_Few.calls _ _ l0 t716 _ ?side1 ?side2 A4.out).mono ?_); (case side1 => exact Qsc (Kd.C_below HR0.out HB.out)); (case side2 => exact HC0.out); rintro e w11 ⟨v717, rfl, ho0, hb⟩; refine ⟨_, rfl, ?_⟩; have n0_ := Aside0.mk (Kd.R_lower ho0 (below_size (Qag GE715.out))); have n1_ := Aside0.mk (blk_below (g := gb715) (o := .cells #[.slice A1_0 l1_0.length c1_0, .slice A1_1 l1_1.length c1_1] 52 (0, 0)) (Qbl BK715.out) hb); have n2_ := Aside0.mk (below_step (Qag GE715.out) hb); clear BK715; clear HB; have HO718 := n0_; have BK715 := n1_; have HB := n2_; clear n0_ n1_ n2_; (try clear hb); (try clear hb2); (try clear hk); (try clear hi); (try clear ho0); obtain ⟨Ao12, co12, eo12⟩ := Kd.R_slice HO718.out; subst eo12) | ((with_reducible refine gate_callee (f := 52) rfl ?_); refine goesL_ (some 19) rfl rfl Tryd.func52 (by kernel_rfl) rfl #[.slice Ao12 t716.length co12] rfl (Qls) ?_; (with_reducible refine (width_Decompose.calls (hGL := (by repeat (first | (with_reducible exact HGL.out) | (with_reducible exact GL_below HGL.out HB.out) | (refine GL_below HGL.out (Qaw)) | (with_reducible refine GL_alloc ?_ _) | (with_reducible refine GL_drewN ?_ _) | (with_reducible refine GL_drew ?_)))) k _ _ t716 t719 t722 t725 _ ?side1 ?side2 A5.out).mono ?_); (case side1 => exact Qsc (Kd.R_reads' HO718.out).2.2); (case side2 => exact (Kd.R_reads' HO718.out).2.1); rintro e w13 ⟨v720, v723, rfl, ho0, ho1, hb⟩; refine ⟨_, rfl, ?_⟩; have n0_ := Aside0.mk (Kd.R_mono (Kd.R_told (Kd.R_told (Kd.R_old (Qro HO718.out) hb) (Kd.R_base ho0)) (Kd.R_base ho1)) (fun _ h_ => h_.1)); have n1_ := Aside0.mk (Kd.R_lower (Kd.R_new' ho0 (Kd.R_lt (Qro HO718.out))) (below_size (Qag GE715.out))); have n2_ := Aside0.mk (Kd.R_lower (Kd.R_new' ho1 (Kd.R_lt (Qro HO718.out))) (below_size (Qag GE715.out))); have n3_ := Aside0.mk (blk_below (g := gb715) (o := .cells #[.slice A1_0 l1_0.length c1_0, .slice A1_1 l1_1.length c1_1] 52 (0, 0)) (Qbl BK715.out) hb); have n4_ := Aside0.mk (below_step (Qag GE715.out) hb); clear HO718; clear BK715; clear HB; have HO718 := n0_; have HO721 := n1_; have HO724 := n2_; have BK715 := n3_; have HB := n4_; clear n0_ n1_ n2_ n3_ n4_; (try clear hb); (try clear hb2); (try clear hk); (try clear hi); (try clear ho0); (try clear ho1)) | ((with_reducible refine gate_dst (N := 7) rfl ?_); refine box_event ?hg (N := 7) ?hd (cs := #[.slice none 0 0, .slice none 0 0]) (t := 53) ?hr ?_; (case hd => rfl); (case hg => rfl); (case hr => first | (go_simp; done) | (go_simp; rfl)); intro gb726 hg w14 hbox hb; have n0_ := Aside0.mk (Kd.R_below (Qro HO718.out) hb); have n1_ := Aside0.mk (Kd.R_below (Qro HO721.out) hb); have n2_ := Aside0.mk (Kd.R_below (Qro HO724.out) hb); have n3_ := Aside0.mk (blk_below (g := gb715) (o := .cells #[.slice A1_0 l1_0.length c1_0, .slice A1_1 l1_1.length c1_1] 52 (0, 0)) (Qbl BK715.out) hb); have n4_ := Aside0.mk (below_step (Qag GE715.out) hb); have n5_ := Aside0.mk (hbox); have n6_ := Aside0.mk ((by rw [hg]; exact (below_size (Qag GE715.out)) : w.heap.size ≤ gb726)); have n7_ := Aside0.mk ((by rw [hg]; exact (below_size (Qag GE715.out)) : w.heap.size ≤ gb726)); have n8_ := Aside0.mk ((by rw [hg]; exact Nat.ne_of_lt (blk_lt (g := gb715) (o := .cells #[.slice A1_0 l1_0.length c1_0, .slice A1_1 l1_1.length c1_1] 52 (0, 0)) (Qbl BK715.out)) : gb715 ≠ gb726)); have n9_ := Aside0.mk ((by rw [hg]; exact Nat.ne_of_gt (blk_lt (g := gb715) (o := .cells #[.slice A1_0 l1_0.length c1_0, .slice A1_1 l1_1.length c1_1] 52 (0, 0)) (Qbl BK715.out)) : gb726 ≠ gb715)); clear HO718; clear HO721; clear HO724; clear BK715; clear HB; have HO718 := n0_; have HO721 := n1_; have HO724 := n2_; have BK715 := n3_; have HB := n4_; have BK726 := n5_; have GW726 := n6_; have GE726 := n7_; have NB715_726 := n8_; have NB726_715 := n9_; clear n0_ n1_ n2_ n3_ n4_ n5_ n6_ n7_ n8_ n9_; clear hb hbox hg; obtain ⟨Ao15, co15, eo15⟩ := Kd.R_slice HO721.out; subst eo15; have hnb16 := NB726_715.out; have hnc16 := NB715_726.out; have hcz17_0 : w14.cell? ⟨gb726, 0, none⟩ = some (.slice none 0 0) := (blk_cell BK726.out 0).trans rfl; have hcz17_1 : w14.cell? ⟨gb726, 1, none⟩ = some (.slice none 0 0) := (blk_cell BK726.out 1).trans rfl; have hfz17_0 := blk_frozen BK726.out 0; have hfz17_1 := blk_frozen BK726.out 1; obtain ⟨Ao18, co18, eo18⟩ := Kd.R_slice HO724.out; subst eo18) | ((with_reducible refine gate_callee (f := 19) rfl ?_); refine goesL_ (some 24) rfl rfl Tryd.func19 (by kernel_rfl) rfl #[.slice A0 l0.length c0] rfl (Qls) ?_; (with_reducible refine (lampblacklaw02_Few.calls _ _ l0 t727 _ ?side1 ?side2 A6.out).mono ?_); (case side1 => exact Kd.C_below HR0.out (Qah GE715.out GE726.out)); (case side2 => exact HC0.out); rintro e w19 ⟨v728, rfl, ho0, hb⟩; refine ⟨_, rfl, ?_⟩; have n0_ := Aside0.mk (Kd.R_elder' (by (with_reducible repeat (first | apply Kd.R_alloc | apply Kd.R_drewN | apply Kd.R_drew)); exact (Kd.R_mono (Kd.R_far (p := ⟨gb726, 1, none⟩) (Kd.R_far (p := ⟨gb726, 0, none⟩) (Kd.R_types HO718.out BK726.out (by decide)) (fun _ hk => hk.2) (.slice Ao15 t719.length co15)) (fun _ hk => hk.2) (.slice Ao18 t722.length co18)) (fun _ h_ => h_.1))) (Kd.R_base ho0) hb); have n1_ := Aside0.mk (Kd.R_elder' (by (with_reducible repeat (first | apply Kd.R_alloc | apply Kd.R_drewN | apply Kd.R_drew)); exact (Kd.R_mono (Kd.R_far (p := ⟨gb726, 1, none⟩) (Kd.R_far (p := ⟨gb726, 0, none⟩) (Kd.R_types HO721.out BK726.out (by decide)) (fun _ hk => hk.2) (.slice Ao15 t719.length co15)) (fun _ hk => hk.2) (.slice Ao18 t722.length co18)) (fun _ h_ => h_.1))) (Kd.R_base ho0) hb); have n2_ := Aside0.mk (Kd.R_elder' (by (with_reducible repeat (first | apply Kd.R_alloc | apply Kd.R_drewN | apply Kd.R_drew)); exact (Kd.R_mono (Kd.R_far (p := ⟨gb726, 1, none⟩) (Kd.R_far (p := ⟨gb726, 0, none⟩) (Kd.R_types HO724.out BK726.out (by decide)) (fun _ hk => hk.2) (.slice Ao15 t719.length co15)) (fun _ hk => hk.2) (.slice Ao18 t722.length co18)) (fun _ h_ => h_.1))) (Kd.R_base ho0) hb); have n3_ := Aside0.mk (Kd.R_lower (Kd.R_new' (Kd.R_new' (Kd.R_new' ho0 (Kd.R_lt (by (with_reducible repeat (first | apply Kd.R_alloc | apply Kd.R_drewN | apply Kd.R_drew)); exact (Kd.R_mono (Kd.R_far (p := ⟨gb726, 1, none⟩) (Kd.R_far (p := ⟨gb726, 0, none⟩) (Kd.R_types HO718.out BK726.out (by decide)) (fun _ hk => hk.2) (.slice Ao15 t719.length co15)) (fun _ hk => hk.2) (.slice Ao18 t722.length co18)) (fun _ h_ => h_.1))))) (Kd.R_lt (by (with_reducible repeat (first | apply Kd.R_alloc | apply Kd.R_drewN | apply Kd.R_drew)); exact (Kd.R_mono (Kd.R_far (p := ⟨gb726, 1, none⟩) (Kd.R_far (p := ⟨gb726, 0, none⟩) (Kd.R_types HO721.out BK726.out (by decide)) (fun _ hk => hk.2) (.slice Ao15 t719.length co15)) (fun _ hk => hk.2) (.slice Ao18 t722.length co18)) (fun _ h_ => h_.1))))) (Kd.R_lt (by (with_reducible repeat (first | apply Kd.R_alloc | apply Kd.R_drewN | apply Kd.R_drew)); exact (Kd.R_mono (Kd.R_far (p := ⟨gb726, 1, none⟩) (Kd.R_far (p := ⟨gb726, 0, none⟩) (Kd.R_types HO724.out BK726.out (by decide)) (fun _ hk => hk.2) (.slice Ao15 t719.length co15)) (fun _ hk => hk.2) (.slice Ao18 t722.length co18)) (fun _ h_ => h_.1))))) (below_size (Qah GE715.out GE726.out))); have n4_ := Aside0.mk (blk_below (g := gb715) (o := .cells #[.slice A1_0 l1_0.length c1_0, .slice A1_1 l1_1.length c1_1] 52 (0, 0)) (by (with_reducible repeat (first | refine blk_drewN ?_ _ | refine blk_drew ?_ | refine blk_alloc ?_ _)); refine blk_far ?_ NB715_726.out _; (with_reducible repeat (first | refine blk_drewN ?_ _ | refine blk_drew ?_ | refine blk_alloc ?_ _)); refine blk_far ?_ NB715_726.out _; (with_reducible repeat (first | refine blk_drewN ?_ _ | refine blk_drew ?_ | refine blk_alloc ?_ _)); exact BK715.out) hb); have n5_ := Aside0.mk (blk_below (g := gb726) (o := .cells #[.slice Ao15 t719.length co15, .slice Ao18 t722.length co18] 53 (0, 0)) (by (with_reducible repeat (first | refine blk_drewN ?_ _ | refine blk_drew ?_ | refine blk_alloc ?_ _)); refine blk_put (cs := #[.slice Ao15 t719.length co15, .slice none 0 0]) ?_ 1 _ rfl; (with_reducible repeat (first | refine blk_drewN ?_ _ | refine blk_drew ?_ | refine blk_alloc ?_ _)); refine blk_put (cs := #[.slice none 0 0, .slice none 0 0]) ?_ 0 _ rfl; (with_reducible repeat (first | refine blk_drewN ?_ _ | refine blk_drew ?_ | refine blk_alloc ?_ _)); exact BK726.out) hb); have n6_ := Aside0.mk (below_step (Qah GE715.out GE726.out) hb); clear HO718; clear HO721; clear HO724; clear BK715; clear BK726; clear HB; have HO718 := n0_; have HO721 := n1_; have HO724 := n2_; have HO729 := n3_; have BK715 := n4_; have BK726 := n5_; have HB := n6_; clear n0_ n1_ n2_ n3_ n4_ n5_ n6_; (try clear hb); (try clear hb2); (try clear hk); (try clear hi); (try clear ho0); obtain ⟨Ao20, co20, eo20⟩ := Kd.R_slice HO729.out; subst eo20) | ((with_reducible refine gate_callee (f := 18) rfl ?_); refine goesL_ (some 25) rfl rfl Tryd.func18 (by kernel_rfl) rfl #[.slice Ao20 t727.length co20] rfl (Qls) ?_; (with_reducible refine (width_Width.calls (hGL := (by repeat (first | (with_reducible exact HGL.out) | (with_reducible exact GL_below HGL.out HB.out) | (refine GL_below HGL.out (Qaw)) | (with_reducible refine GL_alloc ?_ _) | (with_reducible refine GL_drewN ?_ _) | (with_reducible refine GL_drew ?_)))) k _ _ t727 t730 t731 _ ?side1 ?side2 A7.out).mono ?_); (case side1 => exact Qsc (Kd.R_reads' HO729.out).2.2); (case side2 => exact (Kd.R_reads' HO729.out).2.1); rintro e w21 ⟨rfl, hb⟩; refine ⟨_, rfl, ?_⟩; have n0_ := Aside0.mk (Kd.R_below (Qro HO718.out) hb); have n1_ := Aside0.mk (Kd.R_below (Qro HO721.out) hb); have n2_ := Aside0.mk (Kd.R_below (Qro HO724.out) hb); have n3_ := Aside0.mk (Kd.R_below (Qro HO729.out) hb); have n4_ := Aside0.mk (blk_below (g := gb715) (o := .cells #[.slice A1_0 l1_0.length c1_0, .slice A1_1 l1_1.length c1_1] 52 (0, 0)) (Qbl BK715.out) hb); have n5_ := Aside0.mk (blk_below (g := gb726) (o := .cells #[.slice Ao15 t719.length co15, .slice Ao18 t722.length co18] 53 (0, 0)) (Qbl BK726.out) hb); have n6_ := Aside0.mk (below_step (Qah GE715.out GE726.out) hb); clear HO718; clear HO721; clear HO724; clear HO729; clear BK715; clear BK726; clear HB; have HO718 := n0_; have HO721 := n1_; have HO724 := n2_; have HO729 := n3_; have BK715 := n4_; have BK726 := n5_; have HB := n6_; clear n0_ n1_ n2_ n3_ n4_ n5_ n6_; (try clear hb); (try clear hb2); (try clear hk); (try clear hi)))
  (try simp only [Act.put, List.setIfInBounds_toArray, List.set_cons_zero, List.set_cons_succ])
  go_cut [] (fun wc => ∃ (kq : Nat), Aside0 (lampblacklaw02_WidthColours.j0 kq l0 a2 t731 l1_0 l1_1 t719 t722 = some r) ∧ Aside0 (kq ≤ k) ∧ Aside0 (Kd.R (Kd.int .i64) 3 wc w.heap.size (fun k_ => some k_ ≠ ((.slice Ao18 t722.length co18) : Value).ownBlock) (.slice Ao15 t719.length co15) t719) ∧ Aside0 (Kd.R (Kd.int .i64) 3 wc w.heap.size (fun k_ => some k_ ≠ ((.slice Ao15 t719.length co15) : Value).ownBlock) (.slice Ao18 t722.length co18) t722) ∧ Aside0 (wc.heap[gb715]? = some (.cells #[(.slice A1_0 l1_0.length c1_0), (.slice A1_1 l1_1.length c1_1)] 52 (0, 0))) ∧ Aside0 (wc.heap[gb726]? = some (.cells #[(.slice Ao15 t719.length co15), (.slice Ao18 t722.length co18)] 53 (0, 0))) ∧ Aside0 (Below w.heap.size w wc))
  case first =>
   have H := HC9.out
   clear HC9
   by_cases c22 : t730 < 6
   ·rw [if_pos c22] at H
    have c22b0 : decide (t730 < 6) = true := decide_eq_true c22
    clear c22
    (first | rw [c22b0] | (simp only [i64_w, i32_w]; rw [c22b0]) | skip)
    replace H := Option.bind_eq_some_iff.mp H
    obtain ⟨t733, A230, H⟩ := H
    replace H : ((width_Count.f t733 t719 t722 (wrap64 (t730 + 1))).bind fun bt736 => (if bt736.2 = 0 then (if bt736.1 < 1 then (some false) else (lampblacklaw02_WidthColours.j0 k l0 a2 t731 l1_0 l1_1 t719 t722)) else (some false))) = some r := H
    have A23 := Aside0.mk A230
    clear A230
    replace H := Option.bind_eq_some_iff.mp H
    obtain ⟨⟨t736, t737⟩, A240, H⟩ := H
    replace H : (if t737 = 0 then (if t736 < 1 then (some false) else (lampblacklaw02_WidthColours.j0 k l0 a2 t731 l1_0 l1_1 t719 t722)) else (some false)) = some r := H
    have A24 := Aside0.mk A240
    clear A240
    by_cases c25 : t737 = 0
    ·rw [if_pos c25] at H
     have c25b0 : (t737 == 0) = true := beq_iff_eq.mpr c25
     have c25b1 : (t737 != 0) = false := bne_eq_false_iff_eq.mpr c25
     clear c25
     by_cases c26 : t736 < 1
     ·rw [if_pos c26] at H
      have c26b0 : decide (t736 < 1) = true := decide_eq_true c26
      clear c26
      exact absurd ((Option.some.inj H).trans HRT.out) (by decide)
     ·rw [if_neg c26] at H
      have c26b0 : decide (t736 < 1) = false := decide_eq_false c26
      clear c26
      have H' := Aside0.mk H
      clear H
      try go_wp2
      have n0_ := Aside0.mk (Kd.R_drew HO718.out)
      have n1_ := Aside0.mk (Kd.R_drew HO721.out)
      have n2_ := Aside0.mk (Kd.R_drew HO724.out)
      have n3_ := Aside0.mk (Kd.R_drew HO729.out)
      have n4_ := Aside0.mk (blk_drew BK715.out)
      have n5_ := Aside0.mk (blk_drew BK726.out)
      have n6_ := Aside0.mk (below_drew1 HB.out)
      clear HO718
      clear HO721
      clear HO724
      clear HO729
      clear BK715
      clear BK726
      clear HB
      have HO718 := n0_
      have HO721 := n1_
      have HO724 := n2_
      have HO729 := n3_
      have BK715 := n4_
      have BK726 := n5_
      have HB := n6_
      clear n0_ n1_ n2_ n3_ n4_ n5_ n6_
      refine start_ (n := 11) (S := fun w' => w'.cell? ⟨gb726, 0, none⟩ = some (.slice Ao15 t719.length co15) ∧ w'.cell? ⟨gb726, 1, none⟩ = some (.slice Ao18 t722.length co18)) (ds := []) (Qbz 11 0) (by kernel_rfl) rfl rfl ⟨(blk_cell BK726.out 0).trans rfl, (blk_cell BK726.out 1).trans rfl⟩ (fun hHeld => ?_); refine with_tabW lampblacklaw02_WidthColours.tab6 lampblacklaw02_WidthColours.bits6 (fun HT_ HW_ => ?_)
      generalize w21.drew = w31 at HO718 HO721 HO724 HO729 BK715 BK726 HB hHeld ⊢
      refine pure_ (i := 0) (N := some 42) (v := ?_) (a' := ?_) (Qbz 11 1) rfl rfl (Qao) (fun _ _ _ h => h) (Or.inl ⟨by rfl, ?_⟩) ?_ ?_;rotate_left;(·intro w';go_simp;with_reducible rfl);rotate_left;(·simp only [Act.put, Qp1, Qp2, Qp3, i64_w, i32_w];rfl)
      refine pure_ (i := 3) (N := some 45) (v := ?_) (a' := ?_) (Qbz 11 9) rfl rfl (Qao) (fun _ _ _ h => h) (Or.inl ⟨by rfl, ?_⟩) ?_ ?_;rotate_left;(·intro w';go_simp;with_reducible rfl);rotate_left;(·simp only [Act.put, Qp1, Qp2, Qp3, i64_w, i32_w];rfl)
      refine pure_ (i := 4) (N := some 46) (v := ?_) (a' := ?_) (Qbz 11 25) rfl rfl (Qao) (fun _ _ _ h => h) (Or.inl ⟨by rfl, ?_⟩) ?_ ?_;rotate_left;(·intro w';go_simp;with_reducible rfl);rotate_left;(·simp only [Act.put, Qp1, Qp2, Qp3, i64_w, i32_w];rfl)
      refine take_ (i := 2) (N := some 44) (v := ?_) (a' := ?_) (Qbz 11 29) rfl rfl (take_ofW HT_.out HW_.out (by kernel_rfl)) (fun _ _ _ h => h) (Or.inl ⟨by rfl, ?_⟩) hHeld ?_ ?_;rotate_left;(·rintro w' ⟨s0, s1⟩;go_simp;with_reducible rfl);rotate_left;(·simp only [Act.put, Qp1, Qp2, Qp3, i64_w, i32_w];rfl)
      refine one_ (i := 1) (N := some 43) (Qbz 11 31) rfl rfl (one_of HT_.out (by kernel_rfl)) (by decide) (fun K hK => ?_)
      refine goes_ Tryd.func19 (by kernel_rfl) rfl #[.slice A0 l0.length c0] (by rfl) rfl rfl (Qls) ?_
      with_reducible refine (lampblacklaw02_Few.calls _ _ l0 t733 _ ?side1 ?side2 A23.out).mono ?_
      (case side1 => exact Qsc (Kd.C_below HR0.out HB.out))
      (case side2 => exact HC0.out)
      rintro e w32 ⟨v734, rfl, ho0, hb⟩
      refine ⟨_, rfl, ?_⟩
      have n0_ := Aside0.mk (Kd.R_elder' (Qro HO718.out) (Kd.R_base ho0) hb)
      have n1_ := Aside0.mk (Kd.R_elder' (Qro HO721.out) (Kd.R_base ho0) hb)
      have n2_ := Aside0.mk (Kd.R_elder' (Qro HO724.out) (Kd.R_base ho0) hb)
      have n3_ := Aside0.mk (Kd.R_elder' (Qro HO729.out) (Kd.R_base ho0) hb)
      have n4_ := Aside0.mk (Kd.R_lower (Kd.R_new' (Kd.R_new' (Kd.R_new' (Kd.R_new' ho0 (Kd.R_lt (Qro HO718.out))) (Kd.R_lt (Qro HO721.out))) (Kd.R_lt (Qro HO724.out))) (Kd.R_lt (Qro HO729.out))) (below_size (Qah GE715.out GE726.out)))
      have n5_ := Aside0.mk (blk_below (g := gb715) (o := .cells #[.slice A1_0 l1_0.length c1_0, .slice A1_1 l1_1.length c1_1] 52 (0, 0)) (Qbl BK715.out) hb)
      have n6_ := Aside0.mk (blk_below (g := gb726) (o := .cells #[.slice Ao15 t719.length co15, .slice Ao18 t722.length co18] 53 (0, 0)) (Qbl BK726.out) hb)
      have n7_ := Aside0.mk (below_step (Qah GE715.out GE726.out) hb)
      clear HO718
      clear HO721
      clear HO724
      clear HO729
      clear BK715
      clear BK726
      clear HB
      have HO718 := n0_
      have HO721 := n1_
      have HO724 := n2_
      have HO729 := n3_
      have HO735 := n4_
      have BK715 := n5_
      have BK726 := n6_
      have HB := n7_
      clear n0_ n1_ n2_ n3_ n4_ n5_ n6_ n7_
      (try clear hb)
      (try clear hb2)
      (try clear hk)
      (try clear hi)
      (try clear ho0)
      obtain ⟨Ao33, co33, eo33⟩ := Kd.R_slice HO735.out
      (first | subst eo33 | (injection eo33 with f1_ f2_ f3_; have f4_ := f1_.symm; have f5_ := f3_.symm; clear f1_ f2_ f3_; subst f4_; subst f5_))
      refine hK.out _ _ ⟨(blk_cell BK726.out 0).trans rfl, (blk_cell BK726.out 1).trans rfl⟩ (fun hHeld => ?_)
      clear hK K
      refine norm_ (a' := ?_) ?_ ?_
      rotate_left
      ·show Act.put _ (some 43) _ = _
       simp only [Act.put, Qp1, Qp2, Qp3, i64_w, i32_w]
       rfl
      refine one_ (i := 5) (N := some 47) (Qbz 11 63) rfl rfl (one_of HT_.out (by kernel_rfl)) (by decide) (fun K hK => ?_)
      refine goes_ Tryd.func56 (by kernel_rfl) rfl #[.slice Ao33 t733.length co33, .agg #[.slice Ao15 t719.length co15, .slice Ao18 t722.length co18], .int .i64 (wrap64 (t730 + 1))] (by rfl) rfl rfl (Qls) ?_
      with_reducible refine (width_Count.calls (hGL := (Qlg)) _ _ t733 _ _ t719 _ _ t722 (wrap64 (t730 + 1)) t736 t737 _ ?side1 ?side2 ?side3 ?side4 ?side5 ?side6 A24.out).mono ?_
      (case side1 => exact Qsc (Kd.R_reads' HO735.out).2.2)
      (case side2 => exact (Kd.R_reads' HO735.out).2.1)
      (case side3 => exact Qsc (Kd.R_reads' HO721.out).2.2)
      (case side4 => exact (Kd.R_reads' HO721.out).2.1)
      (case side5 => exact Qsc (Kd.R_reads' HO724.out).2.2)
      (case side6 => exact (Kd.R_reads' HO724.out).2.1)
      rintro e w34 ⟨rfl, hb⟩
      refine ⟨_, rfl, ?_⟩
      have n0_ := Aside0.mk (Kd.R_below (Qro HO718.out) hb)
      have n1_ := Aside0.mk (Kd.R_below (Qro HO721.out) hb)
      have n2_ := Aside0.mk (Kd.R_below (Qro HO724.out) hb)
      have n3_ := Aside0.mk (Kd.R_below (Qro HO729.out) hb)
      have n4_ := Aside0.mk (Kd.R_below (Qro HO735.out) hb)
      have n5_ := Aside0.mk (blk_below (g := gb715) (o := .cells #[.slice A1_0 l1_0.length c1_0, .slice A1_1 l1_1.length c1_1] 52 (0, 0)) (Qbl BK715.out) hb)
      have n6_ := Aside0.mk (blk_below (g := gb726) (o := .cells #[.slice Ao15 t719.length co15, .slice Ao18 t722.length co18] 53 (0, 0)) (Qbl BK726.out) hb)
      have n7_ := Aside0.mk (below_step (Qah GE715.out GE726.out) hb)
      clear HO718
      clear HO721
      clear HO724
      clear HO729
      clear HO735
      clear BK715
      clear BK726
      clear HB
      have HO718 := n0_
      have HO721 := n1_
      have HO724 := n2_
      have HO729 := n3_
      have HO735 := n4_
      have BK715 := n5_
      have BK726 := n6_
      have HB := n7_
      clear n0_ n1_ n2_ n3_ n4_ n5_ n6_ n7_
      (try clear hb)
      (try clear hb2)
      (try clear hk)
      (try clear hi)
      refine hK.out _ _ ⟨(blk_cell BK726.out 0).trans rfl, (blk_cell BK726.out 1).trans rfl⟩ (fun hHeld => ?_)
      clear hK K
      refine norm_ (a' := ?_) ?_ ?_
      rotate_left
      ·show Act.put _ (some 47) _ = _
       simp only [Act.put, Qp1, Qp2, Qp3, i64_w, i32_w]
       rfl
      refine pure_ (i := 6) (N := some 41) (v := ?_) (a' := ?_) (Qbz 11 127) rfl rfl (Qao) (fun _ _ _ h => h) (Or.inl ⟨by rfl, ?_⟩) ?_ ?_;rotate_left;(·intro w';go_simp;with_reducible rfl);rotate_left;(·simp only [Act.put, Qp1, Qp2, Qp3, i64_w, i32_w];rfl)
      refine pure_ (i := 7) (N := some 48) (v := ?_) (a' := ?_) (Qbz 11 255) rfl rfl (Qao) (fun _ _ _ h => h) (Or.inl ⟨by rfl, ?_⟩) ?_ ?_;rotate_left;(·intro w';go_simp;with_reducible rfl);rotate_left;(·simp only [Act.put, Qp1, Qp2, Qp3, i64_w, i32_w];rfl)
      refine pure_ (i := 8) (N := some 49) (v := ?_) (a' := ?_) (Qbz 11 511) rfl rfl (Qao) (fun _ _ _ h => h) (Or.inl ⟨by rfl, ?_⟩) ?_ ?_;rotate_left;(·intro w';go_simp;with_reducible rfl);rotate_left;(·simp only [Act.put, Qp1, Qp2, Qp3, i64_w, i32_w];rfl)
      refine pure_ (i := 9) (N := some 11) (v := ?_) (a' := ?_) (Qbz 11 1023) rfl rfl (Qao) (fun _ _ _ h => h) (Or.inl ⟨by rfl, ?_⟩) ?_ ?_;rotate_left;(·intro w';go_simp;with_reducible rfl);rotate_left;(·simp only [Act.put, Qp1, Qp2, Qp3, i64_w, i32_w];rfl)
      refine pure_ (i := 10) (N := some 12) (v := ?_) (a' := ?_) (Qbz 11 2047) rfl rfl (Qao) (fun _ _ _ h => h) (Or.inl ⟨by rfl, ?_⟩) ?_ ?_;rotate_left;(·intro w';go_simp;with_reducible rfl);rotate_left;(·simp only [Act.put, Qp1, Qp2, Qp3, i64_w, i32_w];rfl)
      refine done_ (done_of HT_.out (by kernel_rfl)) ?_
      try go_wp2
      go_meet
      case rel => exact ⟨_, H', ⟨by first | omega | exact Nat.le_refl _⟩, ⟨by (with_reducible repeat (first | apply Kd.R_alloc | apply Kd.R_drewN | apply Kd.R_drew)); exact Kd.R_mono HO721.out (fun _ hk => hk.1.1.1)⟩, ⟨by (with_reducible repeat (first | apply Kd.R_alloc | apply Kd.R_drewN | apply Kd.R_drew)); exact Kd.R_mono HO724.out (fun _ hk => hk.1.1.1)⟩, ⟨by (with_reducible repeat (first | refine blk_drewN ?_ _ | refine blk_drew ?_ | refine blk_alloc ?_ _)); exact BK715.out⟩, ⟨by (with_reducible repeat (first | refine blk_drewN ?_ _ | refine blk_drew ?_ | refine blk_alloc ?_ _)); exact BK726.out⟩, ⟨by repeat (first | (with_reducible first | exact HB.out | apply below_alloc | apply pw_below_drewN | apply below_drew1 | refine below_set ?_ GE715.out | refine below_set ?_ GE726.out) | exact HB.out)⟩⟩
    ·rw [if_neg c25] at H
     have c25b0 : (t737 == 0) = false := beq_eq_false_iff_ne.mpr c25
     have c25b1 : (t737 != 0) = true := bne_iff_ne.mpr c25
     exact absurd ((Option.some.inj H).trans HRT.out) (by decide)
   ·rw [if_neg c22] at H
    have c22b0 : decide (t730 < 6) = false := decide_eq_false c22
    clear c22
    (first | rw [c22b0] | (simp only [i64_w, i32_w]; rw [c22b0]) | skip)
    have H' := Aside0.mk H
    clear H
    go_wp2
    go_meet
    case rel => exact ⟨_, H', ⟨by first | omega | exact Nat.le_refl _⟩, ⟨by (with_reducible repeat (first | apply Kd.R_alloc | apply Kd.R_drewN | apply Kd.R_drew)); exact Kd.R_mono HO721.out (fun _ hk => hk.1.1)⟩, ⟨by (with_reducible repeat (first | apply Kd.R_alloc | apply Kd.R_drewN | apply Kd.R_drew)); exact Kd.R_mono HO724.out (fun _ hk => hk.1.1)⟩, ⟨by (with_reducible repeat (first | refine blk_drewN ?_ _ | refine blk_drew ?_ | refine blk_alloc ?_ _)); exact BK715.out⟩, ⟨by (with_reducible repeat (first | refine blk_drewN ?_ _ | refine blk_drew ?_ | refine blk_alloc ?_ _)); exact BK726.out⟩, ⟨by repeat (first | (with_reducible first | exact HB.out | apply below_alloc | apply pw_below_drewN | apply below_drew1 | refine below_set ?_ GE715.out | refine below_set ?_ GE726.out) | exact HB.out)⟩⟩
  case rest =>
   clear HC9
   try clear c1
   try clear c2
   try clear p2
   try clear c5
   try clear p6
   try clear c19
   try clear c22
   try clear c22b0
   try clear c25
   try clear c25b0
   try clear c25b1
   try clear c26
   try clear c26b0
   obtain ⟨kq, HA, HJ8, HO_727000, HO_727001, BK715, BK726, HB⟩ := hcut
   cases kq with
   | zero => exact absurd HA.out (by simp [lampblacklaw02_WidthColours.j0])
   | succ kj8 =>
    have H := HA.out
    clear HA
    simp only [lampblacklaw02_WidthColours.j0] at H
    replace H := Option.bind_eq_some_iff.mp H
    obtain ⟨t738, A390, H⟩ := H
    replace H : ((width_Count.f t738 t719 t722 a2).bind fun bt741 => ((lampblacklaw02_Few.f l0).bind fun t743 => ((lampblacklaw02_Of.f l1_0 l1_1).bind fun bt746 => ((width_Count.f t743 bt746.1 bt746.2 a2).bind fun bt752 => (if t731 = 0 then (if bt752.2 = 2 then (if bt741.2 = 0 then ((lampblacklaw02_awake.f kj8).bind fun t754 => (some t754)) else (if bt741.2 = 2 then ((lampblacklaw02_awake.f kj8).bind fun t755 => (some t755)) else (if bt752.2 = 0 then (some false) else (some false)))) else (if bt752.2 = 0 then (if bt741.2 = 0 then (if bt741.1 = bt752.1 then ((lampblacklaw02_awake.f kj8).bind fun t756 => (some t756)) else (some false)) else (some false)) else (some false))) else (some false)))))) = some r := H
    have A39 := Aside0.mk A390
    clear A390
    replace H := Option.bind_eq_some_iff.mp H
    obtain ⟨⟨t741, t742⟩, A400, H⟩ := H
    replace H : ((lampblacklaw02_Few.f l0).bind fun t743 => ((lampblacklaw02_Of.f l1_0 l1_1).bind fun bt746 => ((width_Count.f t743 bt746.1 bt746.2 a2).bind fun bt752 => (if t731 = 0 then (if bt752.2 = 2 then (if t742 = 0 then ((lampblacklaw02_awake.f kj8).bind fun t754 => (some t754)) else (if t742 = 2 then ((lampblacklaw02_awake.f kj8).bind fun t755 => (some t755)) else (if bt752.2 = 0 then (some false) else (some false)))) else (if bt752.2 = 0 then (if t742 = 0 then (if t741 = bt752.1 then ((lampblacklaw02_awake.f kj8).bind fun t756 => (some t756)) else (some false)) else (some false)) else (some false))) else (some false))))) = some r := H
    have A40 := Aside0.mk A400
    clear A400
    replace H := Option.bind_eq_some_iff.mp H
    obtain ⟨t743, A410, H⟩ := H
    replace H : ((lampblacklaw02_Of.f l1_0 l1_1).bind fun bt746 => ((width_Count.f t743 bt746.1 bt746.2 a2).bind fun bt752 => (if t731 = 0 then (if bt752.2 = 2 then (if t742 = 0 then ((lampblacklaw02_awake.f kj8).bind fun t754 => (some t754)) else (if t742 = 2 then ((lampblacklaw02_awake.f kj8).bind fun t755 => (some t755)) else (if bt752.2 = 0 then (some false) else (some false)))) else (if bt752.2 = 0 then (if t742 = 0 then (if t741 = bt752.1 then ((lampblacklaw02_awake.f kj8).bind fun t756 => (some t756)) else (some false)) else (some false)) else (some false))) else (some false)))) = some r := H
    have A41 := Aside0.mk A410
    clear A410
    replace H := Option.bind_eq_some_iff.mp H
    obtain ⟨⟨t746, t749⟩, A420, H⟩ := H
    replace H : ((width_Count.f t743 t746 t749 a2).bind fun bt752 => (if t731 = 0 then (if bt752.2 = 2 then (if t742 = 0 then ((lampblacklaw02_awake.f kj8).bind fun t754 => (some t754)) else (if t742 = 2 then ((lampblacklaw02_awake.f kj8).bind fun t755 => (some t755)) else (if bt752.2 = 0 then (some false) else (some false)))) else (if bt752.2 = 0 then (if t742 = 0 then (if t741 = bt752.1 then ((lampblacklaw02_awake.f kj8).bind fun t756 => (some t756)) else (some false)) else (some false)) else (some false))) else (some false))) = some r := H
    have A42 := Aside0.mk A420
    clear A420
    replace H := Option.bind_eq_some_iff.mp H
    obtain ⟨⟨t752, t753⟩, A430, H⟩ := H
    replace H : (if t731 = 0 then (if t753 = 2 then (if t742 = 0 then ((lampblacklaw02_awake.f kj8).bind fun t754 => (some t754)) else (if t742 = 2 then ((lampblacklaw02_awake.f kj8).bind fun t755 => (some t755)) else (if t753 = 0 then (some false) else (some false)))) else (if t753 = 0 then (if t742 = 0 then (if t741 = t752 then ((lampblacklaw02_awake.f kj8).bind fun t756 => (some t756)) else (some false)) else (some false)) else (some false))) else (some false)) = some r := H
    have A43 := Aside0.mk A430
    clear A430
    by_cases c44 : t731 = 0
    ·rw [if_pos c44] at H
     have c44b0 : (t731 == 0) = true := beq_iff_eq.mpr c44
     have c44b1 : (t731 != 0) = false := bne_eq_false_iff_eq.mpr c44
     clear c44
     by_cases c45 : t753 = 2
     ·rw [if_pos c45] at H
      have c45b0 : (t753 == 2) = true := beq_iff_eq.mpr c45
      have c45b1 : (t753 != 2) = false := bne_eq_false_iff_eq.mpr c45
      clear c45
      by_cases c46 : t742 = 0
      ·rw [if_pos c46] at H
       have c46b0 : (t742 == 0) = true := beq_iff_eq.mpr c46
       have c46b1 : (t742 != 0) = false := bne_eq_false_iff_eq.mpr c46
       clear c46
       replace H := Option.bind_eq_some_iff.mp H
       obtain ⟨t754, A470, H⟩ := H
       replace H : (some t754) = some r := H
       have A47 := Aside0.mk A470
       clear A470
       obtain rfl := Option.some.inj H
       try go_wp2
       have n0_ := Aside0.mk (Kd.R_drew HO_727000.out)
       have n1_ := Aside0.mk (Kd.R_drew HO_727001.out)
       have n2_ := Aside0.mk (blk_drew BK715.out)
       have n3_ := Aside0.mk (blk_drew BK726.out)
       have n4_ := Aside0.mk (below_drew1 HB.out)
       clear HO_727000
       clear HO_727001
       clear BK715
       clear BK726
       clear HB
       have HO_727000 := n0_
       have HO_727001 := n1_
       have BK715 := n2_
       have BK726 := n3_
       have HB := n4_
       clear n0_ n1_ n2_ n3_ n4_
       refine start_ (n := 10) (S := fun w' => w'.cell? ⟨gb726, 0, none⟩ = some (.slice Ao15 t719.length co15) ∧ w'.cell? ⟨gb726, 1, none⟩ = some (.slice Ao18 t722.length co18)) (ds := []) (Qbz 10 0) (by kernel_rfl) rfl rfl ⟨(blk_cell BK726.out 0).trans rfl, (blk_cell BK726.out 1).trans rfl⟩ (fun hHeld => ?_); refine with_tabW lampblacklaw02_WidthColours.tab9 lampblacklaw02_WidthColours.bits9 (fun HT_ HW_ => ?_)
       generalize wc.drew = w48 at HO_727000 HO_727001 BK715 BK726 HB hHeld ⊢
       refine pure_ (i := 0) (N := some 57) (v := ?_) (a' := ?_) (Qbz 10 1) rfl rfl (Qao) (fun _ _ _ h => h) (Or.inl ⟨by rfl, ?_⟩) ?_ ?_;rotate_left;(·intro w';go_simp;with_reducible rfl);rotate_left;(·simp only [Act.put, Qp1, Qp2, Qp3, i64_w, i32_w];rfl)
       refine pure_ (i := 3) (N := some 60) (v := ?_) (a' := ?_) (Qbz 10 9) rfl rfl (Qao) (fun _ _ _ h => h) (Or.inl ⟨by rfl, ?_⟩) ?_ ?_;rotate_left;(·intro w';go_simp;with_reducible rfl);rotate_left;(·simp only [Act.put, Qp1, Qp2, Qp3, i64_w, i32_w];rfl)
       refine take_ (i := 2) (N := some 59) (v := ?_) (a' := ?_) (Qbz 10 13) rfl rfl (take_ofW HT_.out HW_.out (by kernel_rfl)) (fun _ _ _ h => h) (Or.inl ⟨by rfl, ?_⟩) hHeld ?_ ?_;rotate_left;(·rintro w' ⟨s0, s1⟩;go_simp;with_reducible rfl);rotate_left;(·simp only [Act.put, Qp1, Qp2, Qp3, i64_w, i32_w];rfl)
       refine one_ (i := 1) (N := some 58) (Qbz 10 15) rfl rfl (one_of HT_.out (by kernel_rfl)) (by decide) (fun K hK => ?_)
       refine goes_ Tryd.func19 (by kernel_rfl) rfl #[.slice A0 l0.length c0] (by rfl) rfl rfl (Qls) ?_
       with_reducible refine (lampblacklaw02_Few.calls _ _ l0 t738 _ ?side1 ?side2 A39.out).mono ?_
       (case side1 => exact Qsc (Kd.C_below HR0.out HB.out))
       (case side2 => exact HC0.out)
       rintro e w49 ⟨v739, rfl, ho0, hb⟩
       refine ⟨_, rfl, ?_⟩
       have n0_ := Aside0.mk (Kd.R_elder' (Qro HO_727000.out) (Kd.R_base ho0) hb)
       have n1_ := Aside0.mk (Kd.R_elder' (Qro HO_727001.out) (Kd.R_base ho0) hb)
       have n2_ := Aside0.mk (Kd.R_lower (Kd.R_new' (Kd.R_new' ho0 (Kd.R_lt (Qro HO_727000.out))) (Kd.R_lt (Qro HO_727001.out))) (below_size (Qah GE715.out GE726.out)))
       have n3_ := Aside0.mk (blk_below (g := gb715) (o := .cells #[.slice A1_0 l1_0.length c1_0, .slice A1_1 l1_1.length c1_1] 52 (0, 0)) (Qbl BK715.out) hb)
       have n4_ := Aside0.mk (blk_below (g := gb726) (o := .cells #[.slice Ao15 t719.length co15, .slice Ao18 t722.length co18] 53 (0, 0)) (Qbl BK726.out) hb)
       have n5_ := Aside0.mk (below_step (Qah GE715.out GE726.out) hb)
       clear HO_727000
       clear HO_727001
       clear BK715
       clear BK726
       clear HB
       have HO_727000 := n0_
       have HO_727001 := n1_
       have HO740 := n2_
       have BK715 := n3_
       have BK726 := n4_
       have HB := n5_
       clear n0_ n1_ n2_ n3_ n4_ n5_
       (try clear hb)
       (try clear hb2)
       (try clear hk)
       (try clear hi)
       (try clear ho0)
       obtain ⟨Ao50, co50, eo50⟩ := Kd.R_slice HO740.out
       (first | subst eo50 | (injection eo50 with f1_ f2_ f3_; have f4_ := f1_.symm; have f5_ := f3_.symm; clear f1_ f2_ f3_; subst f4_; subst f5_))
       refine hK.out _ _ ⟨(blk_cell BK726.out 0).trans rfl, (blk_cell BK726.out 1).trans rfl⟩ (fun hHeld => ?_)
       clear hK K
       refine norm_ (a' := ?_) ?_ ?_
       rotate_left
       ·show Act.put _ (some 58) _ = _
        simp only [Act.put, Qp1, Qp2, Qp3, i64_w, i32_w]
        rfl
       refine one_ (i := 4) (N := some 61) (Qbz 10 31) rfl rfl (one_of HT_.out (by kernel_rfl)) (by decide) (fun K hK => ?_)
       refine goes_ Tryd.func56 (by kernel_rfl) rfl #[.slice Ao50 t738.length co50, .agg #[.slice Ao15 t719.length co15, .slice Ao18 t722.length co18], .int .i64 a2] (by rfl) rfl rfl (Qls) ?_
       with_reducible refine (width_Count.calls (hGL := (Qlg)) _ _ t738 _ _ t719 _ _ t722 a2 t741 t742 _ ?side1 ?side2 ?side3 ?side4 ?side5 ?side6 A40.out).mono ?_
       (case side1 => exact Qsc (Kd.R_reads' HO740.out).2.2)
       (case side2 => exact (Kd.R_reads' HO740.out).2.1)
       (case side3 => exact Qsc (Kd.R_reads' HO_727000.out).2.2)
       (case side4 => exact (Kd.R_reads' HO_727000.out).2.1)
       (case side5 => exact Qsc (Kd.R_reads' HO_727001.out).2.2)
       (case side6 => exact (Kd.R_reads' HO_727001.out).2.1)
       rintro e w51 ⟨rfl, hb⟩
       refine ⟨_, rfl, ?_⟩
       have n0_ := Aside0.mk (Kd.R_below (Qro HO_727000.out) hb)
       have n1_ := Aside0.mk (Kd.R_below (Qro HO_727001.out) hb)
       have n2_ := Aside0.mk (Kd.R_below (Qro HO740.out) hb)
       have n3_ := Aside0.mk (blk_below (g := gb715) (o := .cells #[.slice A1_0 l1_0.length c1_0, .slice A1_1 l1_1.length c1_1] 52 (0, 0)) (Qbl BK715.out) hb)
       have n4_ := Aside0.mk (blk_below (g := gb726) (o := .cells #[.slice Ao15 t719.length co15, .slice Ao18 t722.length co18] 53 (0, 0)) (Qbl BK726.out) hb)
       have n5_ := Aside0.mk (below_step (Qah GE715.out GE726.out) hb)
       clear HO_727000
       clear HO_727001
       clear HO740
       clear BK715
       clear BK726
       clear HB
       have HO_727000 := n0_
       have HO_727001 := n1_
       have HO740 := n2_
       have BK715 := n3_
       have BK726 := n4_
       have HB := n5_
       clear n0_ n1_ n2_ n3_ n4_ n5_
       (try clear hb)
       (try clear hb2)
       (try clear hk)
       (try clear hi)
       refine hK.out _ _ ⟨(blk_cell BK726.out 0).trans rfl, (blk_cell BK726.out 1).trans rfl⟩ (fun hHeld => ?_)
       clear hK K
       refine norm_ (a' := ?_) ?_ ?_
       rotate_left
       ·show Act.put _ (some 61) _ = _
        simp only [Act.put, Qp1, Qp2, Qp3, i64_w, i32_w]
        rfl
       refine pure_ (i := 5) (N := some 56) (v := ?_) (a' := ?_) (Qbz 10 63) rfl rfl (Qao) (fun _ _ _ h => h) (Or.inl ⟨by rfl, ?_⟩) ?_ ?_;rotate_left;(·intro w';go_simp;with_reducible rfl);rotate_left;(·simp only [Act.put, Qp1, Qp2, Qp3, i64_w, i32_w];rfl)
       refine pure_ (i := 6) (N := some 62) (v := ?_) (a' := ?_) (Qbz 10 127) rfl rfl (Qao) (fun _ _ _ h => h) (Or.inl ⟨by rfl, ?_⟩) ?_ ?_;rotate_left;(·intro w';go_simp;with_reducible rfl);rotate_left;(·simp only [Act.put, Qp1, Qp2, Qp3, i64_w, i32_w];rfl)
       refine pure_ (i := 7) (N := some 63) (v := ?_) (a' := ?_) (Qbz 10 255) rfl rfl (Qao) (fun _ _ _ h => h) (Or.inl ⟨by rfl, ?_⟩) ?_ ?_;rotate_left;(·intro w';go_simp;with_reducible rfl);rotate_left;(·simp only [Act.put, Qp1, Qp2, Qp3, i64_w, i32_w];rfl)
       refine pure_ (i := 8) (N := some 13) (v := ?_) (a' := ?_) (Qbz 10 511) rfl rfl (Qao) (fun _ _ _ h => h) (Or.inl ⟨by rfl, ?_⟩) ?_ ?_;rotate_left;(·intro w';go_simp;with_reducible rfl);rotate_left;(·simp only [Act.put, Qp1, Qp2, Qp3, i64_w, i32_w];rfl)
       refine pure_ (i := 9) (N := some 8) (v := ?_) (a' := ?_) (Qbz 10 1023) rfl rfl (Qao) (fun _ _ _ h => h) (Or.inl ⟨by rfl, ?_⟩) ?_ ?_;rotate_left;(·intro w';go_simp;with_reducible rfl);rotate_left;(·simp only [Act.put, Qp1, Qp2, Qp3, i64_w, i32_w];rfl)
       refine done_ (done_of HT_.out (by kernel_rfl)) ?_
       try go_wp2
       have n0_ := Aside0.mk (Kd.R_drew HO_727000.out)
       have n1_ := Aside0.mk (Kd.R_drew HO_727001.out)
       have n2_ := Aside0.mk (Kd.R_drew HO740.out)
       have n3_ := Aside0.mk (blk_drew BK715.out)
       have n4_ := Aside0.mk (blk_drew BK726.out)
       have n5_ := Aside0.mk (below_drew1 HB.out)
       clear HO_727000
       clear HO_727001
       clear HO740
       clear BK715
       clear BK726
       clear HB
       have HO_727000 := n0_
       have HO_727001 := n1_
       have HO740 := n2_
       have BK715 := n3_
       have BK726 := n4_
       have HB := n5_
       clear n0_ n1_ n2_ n3_ n4_ n5_
       refine start_ (n := 11) (S := fun w' => w'.cell? ⟨gb715, 0, none⟩ = some (.slice A1_0 l1_0.length c1_0) ∧ w'.cell? ⟨gb715, 1, none⟩ = some (.slice A1_1 l1_1.length c1_1)) (ds := []) (Qbz 11 0) (by kernel_rfl) rfl rfl ⟨(blk_cell BK715.out 0).trans rfl, (blk_cell BK715.out 1).trans rfl⟩ (fun hHeld => ?_); refine with_tabW lampblacklaw02_WidthColours.tab10 lampblacklaw02_WidthColours.bits10 (fun HT_ HW_ => ?_)
       generalize w51.drew = w52 at HO_727000 HO_727001 HO740 BK715 BK726 HB hHeld ⊢
       refine pure_ (i := 0) (N := some 65) (v := ?_) (a' := ?_) (Qbz 11 1) rfl rfl (Qao) (fun _ _ _ h => h) (Or.inl ⟨by rfl, ?_⟩) ?_ ?_;rotate_left;(·intro w';go_simp;with_reducible rfl);rotate_left;(·simp only [Act.put, Qp1, Qp2, Qp3, i64_w, i32_w];rfl)
       refine pure_ (i := 4) (N := some 69) (v := ?_) (a' := ?_) (Qbz 11 17) rfl rfl (Qao) (fun _ _ _ h => h) (Or.inl ⟨by rfl, ?_⟩) ?_ ?_;rotate_left;(·intro w';go_simp;with_reducible rfl);rotate_left;(·simp only [Act.put, Qp1, Qp2, Qp3, i64_w, i32_w];rfl)
       refine take_ (i := 2) (N := some 67) (v := ?_) (a' := ?_) (Qbz 11 21) rfl rfl (take_ofW HT_.out HW_.out (by kernel_rfl)) (fun _ _ _ h => h) (Or.inl ⟨by rfl, ?_⟩) hHeld ?_ ?_;rotate_left;(·rintro w' ⟨s0, s1⟩;go_simp;with_reducible rfl);rotate_left;(·simp only [Act.put, Qp1, Qp2, Qp3, i64_w, i32_w];rfl)
       refine one_ (i := 1) (N := some 66) (Qbz 11 23) rfl rfl (one_of HT_.out (by kernel_rfl)) (by decide) (fun K hK => ?_)
       refine goes_ Tryd.func19 (by kernel_rfl) rfl #[.slice A0 l0.length c0] (by rfl) rfl rfl (Qls) ?_
       with_reducible refine (lampblacklaw02_Few.calls _ _ l0 t743 _ ?side1 ?side2 A41.out).mono ?_
       (case side1 => exact Qsc (Kd.C_below HR0.out HB.out))
       (case side2 => exact HC0.out)
       rintro e w53 ⟨v744, rfl, ho0, hb⟩
       refine ⟨_, rfl, ?_⟩
       have n0_ := Aside0.mk (Kd.R_elder' (Qro HO_727000.out) (Kd.R_base ho0) hb)
       have n1_ := Aside0.mk (Kd.R_elder' (Qro HO_727001.out) (Kd.R_base ho0) hb)
       have n2_ := Aside0.mk (Kd.R_elder' (Qro HO740.out) (Kd.R_base ho0) hb)
       have n3_ := Aside0.mk (Kd.R_lower (Kd.R_new' (Kd.R_new' (Kd.R_new' ho0 (Kd.R_lt (Qro HO_727000.out))) (Kd.R_lt (Qro HO_727001.out))) (Kd.R_lt (Qro HO740.out))) (below_size (Qah GE715.out GE726.out)))
       have n4_ := Aside0.mk (blk_below (g := gb715) (o := .cells #[.slice A1_0 l1_0.length c1_0, .slice A1_1 l1_1.length c1_1] 52 (0, 0)) (Qbl BK715.out) hb)
       have n5_ := Aside0.mk (blk_below (g := gb726) (o := .cells #[.slice Ao15 t719.length co15, .slice Ao18 t722.length co18] 53 (0, 0)) (Qbl BK726.out) hb)
       have n6_ := Aside0.mk (below_step (Qah GE715.out GE726.out) hb)
       clear HO_727000
       clear HO_727001
       clear HO740
       clear BK715
       clear BK726
       clear HB
       have HO_727000 := n0_
       have HO_727001 := n1_
       have HO740 := n2_
       have HO745 := n3_
       have BK715 := n4_
       have BK726 := n5_
       have HB := n6_
       clear n0_ n1_ n2_ n3_ n4_ n5_ n6_
       (try clear hb)
       (try clear hb2)
       (try clear hk)
       (try clear hi)
       (try clear ho0)
       refine hK.out _ _ ⟨(blk_cell BK715.out 0).trans rfl, (blk_cell BK715.out 1).trans rfl⟩ (fun hHeld => ?_)
       clear hK K
       refine norm_ (a' := ?_) ?_ ?_
       rotate_left
       ·show Act.put _ (some 66) _ = _
        simp only [Act.put, Qp1, Qp2, Qp3, i64_w, i32_w]
        rfl
       refine one_ (i := 3) (N := some 68) (Qbz 11 31) rfl rfl (one_of HT_.out (by kernel_rfl)) (by decide) (fun K hK => ?_)
       refine goes_ Tryd.func44 (by kernel_rfl) rfl #[.agg #[.slice A1_0 l1_0.length c1_0, .slice A1_1 l1_1.length c1_1]] (by rfl) rfl rfl (Qls) ?_
       with_reducible refine (lampblacklaw02_Of.calls _ _ l1_0 _ _ l1_1 t746 t749 _ ?side1 ?side2 ?side3 ?side4 A42.out).mono ?_
       (case side1 => exact Qsc (Kd.C_below HR1_0.out HB.out))
       (case side2 => exact HC1_0.out)
       (case side3 => exact Qsc (Kd.C_below HR1_1.out HB.out))
       (case side4 => exact HC1_1.out)
       rintro e w54 ⟨v747, v750, rfl, ho0, ho1, hb⟩
       refine ⟨_, rfl, ?_⟩
       have n0_ := Aside0.mk (Kd.R_mono (Kd.R_told (Kd.R_told (Kd.R_old (Qro HO_727000.out) hb) (Kd.R_base ho0)) (Kd.R_base ho1)) (fun _ h_ => h_.1))
       have n1_ := Aside0.mk (Kd.R_mono (Kd.R_told (Kd.R_told (Kd.R_old (Qro HO_727001.out) hb) (Kd.R_base ho0)) (Kd.R_base ho1)) (fun _ h_ => h_.1))
       have n2_ := Aside0.mk (Kd.R_mono (Kd.R_told (Kd.R_told (Kd.R_old (Qro HO740.out) hb) (Kd.R_base ho0)) (Kd.R_base ho1)) (fun _ h_ => h_.1))
       have n3_ := Aside0.mk (Kd.R_mono (Kd.R_told (Kd.R_told (Kd.R_old (Qro HO745.out) hb) (Kd.R_base ho0)) (Kd.R_base ho1)) (fun _ h_ => h_.1))
       have n4_ := Aside0.mk (Kd.R_lower (Kd.R_new' (Kd.R_new' (Kd.R_new' (Kd.R_new' ho0 (Kd.R_lt (Qro HO_727000.out))) (Kd.R_lt (Qro HO_727001.out))) (Kd.R_lt (Qro HO740.out))) (Kd.R_lt (Qro HO745.out))) (below_size (Qah GE715.out GE726.out)))
       have n5_ := Aside0.mk (Kd.R_lower (Kd.R_new' (Kd.R_new' (Kd.R_new' (Kd.R_new' ho1 (Kd.R_lt (Qro HO_727000.out))) (Kd.R_lt (Qro HO_727001.out))) (Kd.R_lt (Qro HO740.out))) (Kd.R_lt (Qro HO745.out))) (below_size (Qah GE715.out GE726.out)))
       have n6_ := Aside0.mk (blk_below (g := gb715) (o := .cells #[.slice A1_0 l1_0.length c1_0, .slice A1_1 l1_1.length c1_1] 52 (0, 0)) (Qbl BK715.out) hb)
       have n7_ := Aside0.mk (blk_below (g := gb726) (o := .cells #[.slice Ao15 t719.length co15, .slice Ao18 t722.length co18] 53 (0, 0)) (Qbl BK726.out) hb)
       have n8_ := Aside0.mk (below_step (Qah GE715.out GE726.out) hb)
       clear HO_727000
       clear HO_727001
       clear HO740
       clear HO745
       clear BK715
       clear BK726
       clear HB
       have HO_727000 := n0_
       have HO_727001 := n1_
       have HO740 := n2_
       have HO745 := n3_
       have HO748 := n4_
       have HO751 := n5_
       have BK715 := n6_
       have BK726 := n7_
       have HB := n8_
       clear n0_ n1_ n2_ n3_ n4_ n5_ n6_ n7_ n8_
       (try clear hb)
       (try clear hb2)
       (try clear hk)
       (try clear hi)
       (try clear ho0)
       (try clear ho1)
       obtain ⟨Ao55, co55, eo55⟩ := Kd.R_slice HO745.out
       (first | subst eo55 | (injection eo55 with f1_ f2_ f3_; have f4_ := f1_.symm; have f5_ := f3_.symm; clear f1_ f2_ f3_; subst f4_; subst f5_))
       obtain ⟨Ao56, co56, eo56⟩ := Kd.R_slice HO748.out
       (first | subst eo56 | (injection eo56 with f1_ f2_ f3_; have f4_ := f1_.symm; have f5_ := f3_.symm; clear f1_ f2_ f3_; subst f4_; subst f5_))
       obtain ⟨Ao57, co57, eo57⟩ := Kd.R_slice HO751.out
       (first | subst eo57 | (injection eo57 with f1_ f2_ f3_; have f4_ := f1_.symm; have f5_ := f3_.symm; clear f1_ f2_ f3_; subst f4_; subst f5_))
       refine hK.out _ _ ⟨(blk_cell BK715.out 0).trans rfl, (blk_cell BK715.out 1).trans rfl⟩ (fun hHeld => ?_)
       clear hK K
       refine norm_ (a' := ?_) ?_ ?_
       rotate_left
       ·show Act.put _ (some 68) _ = _
        simp only [Act.put, Qp1, Qp2, Qp3, i64_w, i32_w]
        rfl
       refine one_ (i := 5) (N := some 70) (Qbz 11 63) rfl rfl (one_of HT_.out (by kernel_rfl)) (by decide) (fun K hK => ?_)
       refine goes_ Tryd.func56 (by kernel_rfl) rfl #[.slice Ao55 t743.length co55, .agg #[.slice Ao56 t746.length co56, .slice Ao57 t749.length co57], .int .i64 a2] (by rfl) rfl rfl (Qls) ?_
       with_reducible refine (width_Count.calls (hGL := (Qlg)) _ _ t743 _ _ t746 _ _ t749 a2 t752 t753 _ ?side1 ?side2 ?side3 ?side4 ?side5 ?side6 A43.out).mono ?_
       (case side1 => exact Qsc (Kd.R_reads' HO745.out).2.2)
       (case side2 => exact (Kd.R_reads' HO745.out).2.1)
       (case side3 => exact Qsc (Kd.R_reads' HO748.out).2.2)
       (case side4 => exact (Kd.R_reads' HO748.out).2.1)
       (case side5 => exact Qsc (Kd.R_reads' HO751.out).2.2)
       (case side6 => exact (Kd.R_reads' HO751.out).2.1)
       rintro e w58 ⟨rfl, hb⟩
       refine ⟨_, rfl, ?_⟩
       have n0_ := Aside0.mk (Kd.R_below (Qro HO_727000.out) hb)
       have n1_ := Aside0.mk (Kd.R_below (Qro HO_727001.out) hb)
       have n2_ := Aside0.mk (Kd.R_below (Qro HO740.out) hb)
       have n3_ := Aside0.mk (Kd.R_below (Qro HO745.out) hb)
       have n4_ := Aside0.mk (Kd.R_below (Qro HO748.out) hb)
       have n5_ := Aside0.mk (Kd.R_below (Qro HO751.out) hb)
       have n6_ := Aside0.mk (blk_below (g := gb715) (o := .cells #[.slice A1_0 l1_0.length c1_0, .slice A1_1 l1_1.length c1_1] 52 (0, 0)) (Qbl BK715.out) hb)
       have n7_ := Aside0.mk (blk_below (g := gb726) (o := .cells #[.slice Ao15 t719.length co15, .slice Ao18 t722.length co18] 53 (0, 0)) (Qbl BK726.out) hb)
       have n8_ := Aside0.mk (below_step (Qah GE715.out GE726.out) hb)
       clear HO_727000
       clear HO_727001
       clear HO740
       clear HO745
       clear HO748
       clear HO751
       clear BK715
       clear BK726
       clear HB
       have HO_727000 := n0_
       have HO_727001 := n1_
       have HO740 := n2_
       have HO745 := n3_
       have HO748 := n4_
       have HO751 := n5_
       have BK715 := n6_
       have BK726 := n7_
       have HB := n8_
       clear n0_ n1_ n2_ n3_ n4_ n5_ n6_ n7_ n8_
       (try clear hb)
       (try clear hb2)
       (try clear hk)
       (try clear hi)
       refine hK.out _ _ ⟨(blk_cell BK715.out 0).trans rfl, (blk_cell BK715.out 1).trans rfl⟩ (fun hHeld => ?_)
       clear hK K
       refine norm_ (a' := ?_) ?_ ?_
       rotate_left
       ·show Act.put _ (some 70) _ = _
        simp only [Act.put, Qp1, Qp2, Qp3, i64_w, i32_w]
        rfl
       refine pure_ (i := 6) (N := some 64) (v := ?_) (a' := ?_) (Qbz 11 127) rfl rfl (Qao) (fun _ _ _ h => h) (Or.inl ⟨by rfl, ?_⟩) ?_ ?_;rotate_left;(·intro w';go_simp;with_reducible rfl);rotate_left;(·simp only [Act.put, Qp1, Qp2, Qp3, i64_w, i32_w];rfl)
       refine pure_ (i := 7) (N := some 71) (v := ?_) (a' := ?_) (Qbz 11 255) rfl rfl (Qao) (fun _ _ _ h => h) (Or.inl ⟨by rfl, ?_⟩) ?_ ?_;rotate_left;(·intro w';go_simp;with_reducible rfl);rotate_left;(·simp only [Act.put, Qp1, Qp2, Qp3, i64_w, i32_w];rfl)
       refine pure_ (i := 8) (N := some 72) (v := ?_) (a' := ?_) (Qbz 11 511) rfl rfl (Qao) (fun _ _ _ h => h) (Or.inl ⟨by rfl, ?_⟩) ?_ ?_;rotate_left;(·intro w';go_simp;with_reducible rfl);rotate_left;(·simp only [Act.put, Qp1, Qp2, Qp3, i64_w, i32_w];rfl)
       refine pure_ (i := 9) (N := some 14) (v := ?_) (a' := ?_) (Qbz 11 1023) rfl rfl (Qao) (fun _ _ _ h => h) (Or.inl ⟨by rfl, ?_⟩) ?_ ?_;rotate_left;(·intro w';go_simp;with_reducible rfl);rotate_left;(·simp only [Act.put, Qp1, Qp2, Qp3, i64_w, i32_w];rfl)
       refine pure_ (i := 10) (N := some 15) (v := ?_) (a' := ?_) (Qbz 11 2047) rfl rfl (Qao) (fun _ _ _ h => h) (Or.inl ⟨by rfl, ?_⟩) ?_ ?_;rotate_left;(·intro w';go_simp;with_reducible rfl);rotate_left;(·simp only [Act.put, Qp1, Qp2, Qp3, i64_w, i32_w];rfl)
       refine done_ (done_of HT_.out (by kernel_rfl)) ?_
       try go_wp2_with (first | (go_at_call 20; (with_reducible refine (lampblacklaw02_awake.calls (hGL := (by repeat (first | (with_reducible exact HGL.out) | (with_reducible exact GL_below HGL.out HB.out) | (refine GL_below HGL.out (Qah GE715.out GE726.out)) | (with_reducible refine GL_alloc ?_ _) | (with_reducible refine GL_drewN ?_ _) | (with_reducible refine GL_drew ?_)))) kj8  t754 _ A47.out).mono ?_); rintro e w59 ⟨rfl, hb⟩; have n0_ := Aside0.mk (Kd.R_below (Qro HO_727000.out) hb); have n1_ := Aside0.mk (Kd.R_below (Qro HO_727001.out) hb); have n2_ := Aside0.mk (Kd.R_below (Qro HO740.out) hb); have n3_ := Aside0.mk (Kd.R_below (Qro HO745.out) hb); have n4_ := Aside0.mk (Kd.R_below (Qro HO748.out) hb); have n5_ := Aside0.mk (Kd.R_below (Qro HO751.out) hb); have n6_ := Aside0.mk (blk_below (g := gb715) (o := .cells #[.slice A1_0 l1_0.length c1_0, .slice A1_1 l1_1.length c1_1] 52 (0, 0)) (Qbl BK715.out) hb); have n7_ := Aside0.mk (blk_below (g := gb726) (o := .cells #[.slice Ao15 t719.length co15, .slice Ao18 t722.length co18] 53 (0, 0)) (Qbl BK726.out) hb); have n8_ := Aside0.mk (below_step (Qah GE715.out GE726.out) hb); clear HO_727000; clear HO_727001; clear HO740; clear HO745; clear HO748; clear HO751; clear BK715; clear BK726; clear HB; have HO_727000 := n0_; have HO_727001 := n1_; have HO740 := n2_; have HO745 := n3_; have HO748 := n4_; have HO751 := n5_; have BK715 := n6_; have BK726 := n7_; have HB := n8_; clear n0_ n1_ n2_ n3_ n4_ n5_ n6_ n7_ n8_; (try clear hb); (try clear hb2); (try clear hk); (try clear hi)))
       go_ret
       exact ⟨by first | rfl | (simp [errW_none, errW_some] <;> rfl) | (simp [*, errW_none, errW_some] <;> rfl), by repeat (first | (with_reducible first | exact HB.out | apply below_alloc | apply pw_below_drewN | apply below_drew1 | refine below_set ?_ GE715.out | refine below_set ?_ GE726.out) | exact HB.out)⟩
      ·rw [if_neg c46] at H
       have c46b0 : (t742 == 0) = false := beq_eq_false_iff_ne.mpr c46
       have c46b1 : (t742 != 0) = true := bne_iff_ne.mpr c46
       by_cases c60 : t742 = 2
       ·rw [if_pos c60] at H
        have c60b0 : (t742 == 2) = true := beq_iff_eq.mpr c60
        have c60b1 : (t742 != 2) = false := bne_eq_false_iff_eq.mpr c60
        clear c60
        replace H := Option.bind_eq_some_iff.mp H
        obtain ⟨t755, A610, H⟩ := H
        replace H : (some t755) = some r := H
        have A61 := Aside0.mk A610
        clear A610
        obtain rfl := Option.some.inj H
        try go_wp2
        have n0_ := Aside0.mk (Kd.R_drew HO_727000.out)
        have n1_ := Aside0.mk (Kd.R_drew HO_727001.out)
        have n2_ := Aside0.mk (blk_drew BK715.out)
        have n3_ := Aside0.mk (blk_drew BK726.out)
        have n4_ := Aside0.mk (below_drew1 HB.out)
        clear HO_727000
        clear HO_727001
        clear BK715
        clear BK726
        clear HB
        have HO_727000 := n0_
        have HO_727001 := n1_
        have BK715 := n2_
        have BK726 := n3_
        have HB := n4_
        clear n0_ n1_ n2_ n3_ n4_
        refine start_ (n := 10) (S := fun w' => w'.cell? ⟨gb726, 0, none⟩ = some (.slice Ao15 t719.length co15) ∧ w'.cell? ⟨gb726, 1, none⟩ = some (.slice Ao18 t722.length co18)) (ds := []) (Qbz 10 0) (by kernel_rfl) rfl rfl ⟨(blk_cell BK726.out 0).trans rfl, (blk_cell BK726.out 1).trans rfl⟩ (fun hHeld => ?_); refine with_tabW lampblacklaw02_WidthColours.tab9 lampblacklaw02_WidthColours.bits9 (fun HT_ HW_ => ?_)
        generalize wc.drew = w62 at HO_727000 HO_727001 BK715 BK726 HB hHeld ⊢
        refine pure_ (i := 0) (N := some 57) (v := ?_) (a' := ?_) (Qbz 10 1) rfl rfl (Qao) (fun _ _ _ h => h) (Or.inl ⟨by rfl, ?_⟩) ?_ ?_;rotate_left;(·intro w';go_simp;with_reducible rfl);rotate_left;(·simp only [Act.put, Qp1, Qp2, Qp3, i64_w, i32_w];rfl)
        refine pure_ (i := 3) (N := some 60) (v := ?_) (a' := ?_) (Qbz 10 9) rfl rfl (Qao) (fun _ _ _ h => h) (Or.inl ⟨by rfl, ?_⟩) ?_ ?_;rotate_left;(·intro w';go_simp;with_reducible rfl);rotate_left;(·simp only [Act.put, Qp1, Qp2, Qp3, i64_w, i32_w];rfl)
        refine take_ (i := 2) (N := some 59) (v := ?_) (a' := ?_) (Qbz 10 13) rfl rfl (take_ofW HT_.out HW_.out (by kernel_rfl)) (fun _ _ _ h => h) (Or.inl ⟨by rfl, ?_⟩) hHeld ?_ ?_;rotate_left;(·rintro w' ⟨s0, s1⟩;go_simp;with_reducible rfl);rotate_left;(·simp only [Act.put, Qp1, Qp2, Qp3, i64_w, i32_w];rfl)
        refine one_ (i := 1) (N := some 58) (Qbz 10 15) rfl rfl (one_of HT_.out (by kernel_rfl)) (by decide) (fun K hK => ?_)
        refine goes_ Tryd.func19 (by kernel_rfl) rfl #[.slice A0 l0.length c0] (by rfl) rfl rfl (Qls) ?_
        with_reducible refine (lampblacklaw02_Few.calls _ _ l0 t738 _ ?side1 ?side2 A39.out).mono ?_
        (case side1 => exact Qsc (Kd.C_below HR0.out HB.out))
        (case side2 => exact HC0.out)
        rintro e w63 ⟨v739, rfl, ho0, hb⟩
        refine ⟨_, rfl, ?_⟩
        have n0_ := Aside0.mk (Kd.R_elder' (Qro HO_727000.out) (Kd.R_base ho0) hb)
        have n1_ := Aside0.mk (Kd.R_elder' (Qro HO_727001.out) (Kd.R_base ho0) hb)
        have n2_ := Aside0.mk (Kd.R_lower (Kd.R_new' (Kd.R_new' ho0 (Kd.R_lt (Qro HO_727000.out))) (Kd.R_lt (Qro HO_727001.out))) (below_size (Qah GE715.out GE726.out)))
        have n3_ := Aside0.mk (blk_below (g := gb715) (o := .cells #[.slice A1_0 l1_0.length c1_0, .slice A1_1 l1_1.length c1_1] 52 (0, 0)) (Qbl BK715.out) hb)
        have n4_ := Aside0.mk (blk_below (g := gb726) (o := .cells #[.slice Ao15 t719.length co15, .slice Ao18 t722.length co18] 53 (0, 0)) (Qbl BK726.out) hb)
        have n5_ := Aside0.mk (below_step (Qah GE715.out GE726.out) hb)
        clear HO_727000
        clear HO_727001
        clear BK715
        clear BK726
        clear HB
        have HO_727000 := n0_
        have HO_727001 := n1_
        have HO740 := n2_
        have BK715 := n3_
        have BK726 := n4_
        have HB := n5_
        clear n0_ n1_ n2_ n3_ n4_ n5_
        (try clear hb)
        (try clear hb2)
        (try clear hk)
        (try clear hi)
        (try clear ho0)
        obtain ⟨Ao64, co64, eo64⟩ := Kd.R_slice HO740.out
        (first | subst eo64 | (injection eo64 with f1_ f2_ f3_; have f4_ := f1_.symm; have f5_ := f3_.symm; clear f1_ f2_ f3_; subst f4_; subst f5_))
        refine hK.out _ _ ⟨(blk_cell BK726.out 0).trans rfl, (blk_cell BK726.out 1).trans rfl⟩ (fun hHeld => ?_)
        clear hK K
        refine norm_ (a' := ?_) ?_ ?_
        rotate_left
        ·show Act.put _ (some 58) _ = _
         simp only [Act.put, Qp1, Qp2, Qp3, i64_w, i32_w]
         rfl
        refine one_ (i := 4) (N := some 61) (Qbz 10 31) rfl rfl (one_of HT_.out (by kernel_rfl)) (by decide) (fun K hK => ?_)
        refine goes_ Tryd.func56 (by kernel_rfl) rfl #[.slice Ao64 t738.length co64, .agg #[.slice Ao15 t719.length co15, .slice Ao18 t722.length co18], .int .i64 a2] (by rfl) rfl rfl (Qls) ?_
        with_reducible refine (width_Count.calls (hGL := (Qlg)) _ _ t738 _ _ t719 _ _ t722 a2 t741 t742 _ ?side1 ?side2 ?side3 ?side4 ?side5 ?side6 A40.out).mono ?_
        (case side1 => exact Qsc (Kd.R_reads' HO740.out).2.2)
        (case side2 => exact (Kd.R_reads' HO740.out).2.1)
        (case side3 => exact Qsc (Kd.R_reads' HO_727000.out).2.2)
        (case side4 => exact (Kd.R_reads' HO_727000.out).2.1)
        (case side5 => exact Qsc (Kd.R_reads' HO_727001.out).2.2)
        (case side6 => exact (Kd.R_reads' HO_727001.out).2.1)
        rintro e w65 ⟨rfl, hb⟩
        refine ⟨_, rfl, ?_⟩
        have n0_ := Aside0.mk (Kd.R_below (Qro HO_727000.out) hb)
        have n1_ := Aside0.mk (Kd.R_below (Qro HO_727001.out) hb)
        have n2_ := Aside0.mk (Kd.R_below (Qro HO740.out) hb)
        have n3_ := Aside0.mk (blk_below (g := gb715) (o := .cells #[.slice A1_0 l1_0.length c1_0, .slice A1_1 l1_1.length c1_1] 52 (0, 0)) (Qbl BK715.out) hb)
        have n4_ := Aside0.mk (blk_below (g := gb726) (o := .cells #[.slice Ao15 t719.length co15, .slice Ao18 t722.length co18] 53 (0, 0)) (Qbl BK726.out) hb)
        have n5_ := Aside0.mk (below_step (Qah GE715.out GE726.out) hb)
        clear HO_727000
        clear HO_727001
        clear HO740
        clear BK715
        clear BK726
        clear HB
        have HO_727000 := n0_
        have HO_727001 := n1_
        have HO740 := n2_
        have BK715 := n3_
        have BK726 := n4_
        have HB := n5_
        clear n0_ n1_ n2_ n3_ n4_ n5_
        (try clear hb)
        (try clear hb2)
        (try clear hk)
        (try clear hi)
        refine hK.out _ _ ⟨(blk_cell BK726.out 0).trans rfl, (blk_cell BK726.out 1).trans rfl⟩ (fun hHeld => ?_)
        clear hK K
        refine norm_ (a' := ?_) ?_ ?_
        rotate_left
        ·show Act.put _ (some 61) _ = _
         simp only [Act.put, Qp1, Qp2, Qp3, i64_w, i32_w]
         rfl
        refine pure_ (i := 5) (N := some 56) (v := ?_) (a' := ?_) (Qbz 10 63) rfl rfl (Qao) (fun _ _ _ h => h) (Or.inl ⟨by rfl, ?_⟩) ?_ ?_;rotate_left;(·intro w';go_simp;with_reducible rfl);rotate_left;(·simp only [Act.put, Qp1, Qp2, Qp3, i64_w, i32_w];rfl)
        refine pure_ (i := 6) (N := some 62) (v := ?_) (a' := ?_) (Qbz 10 127) rfl rfl (Qao) (fun _ _ _ h => h) (Or.inl ⟨by rfl, ?_⟩) ?_ ?_;rotate_left;(·intro w';go_simp;with_reducible rfl);rotate_left;(·simp only [Act.put, Qp1, Qp2, Qp3, i64_w, i32_w];rfl)
        refine pure_ (i := 7) (N := some 63) (v := ?_) (a' := ?_) (Qbz 10 255) rfl rfl (Qao) (fun _ _ _ h => h) (Or.inl ⟨by rfl, ?_⟩) ?_ ?_;rotate_left;(·intro w';go_simp;with_reducible rfl);rotate_left;(·simp only [Act.put, Qp1, Qp2, Qp3, i64_w, i32_w];rfl)
        refine pure_ (i := 8) (N := some 13) (v := ?_) (a' := ?_) (Qbz 10 511) rfl rfl (Qao) (fun _ _ _ h => h) (Or.inl ⟨by rfl, ?_⟩) ?_ ?_;rotate_left;(·intro w';go_simp;with_reducible rfl);rotate_left;(·simp only [Act.put, Qp1, Qp2, Qp3, i64_w, i32_w];rfl)
        refine pure_ (i := 9) (N := some 8) (v := ?_) (a' := ?_) (Qbz 10 1023) rfl rfl (Qao) (fun _ _ _ h => h) (Or.inl ⟨by rfl, ?_⟩) ?_ ?_;rotate_left;(·intro w';go_simp;with_reducible rfl);rotate_left;(·simp only [Act.put, Qp1, Qp2, Qp3, i64_w, i32_w];rfl)
        refine done_ (done_of HT_.out (by kernel_rfl)) ?_
        try go_wp2
        have n0_ := Aside0.mk (Kd.R_drew HO_727000.out)
        have n1_ := Aside0.mk (Kd.R_drew HO_727001.out)
        have n2_ := Aside0.mk (Kd.R_drew HO740.out)
        have n3_ := Aside0.mk (blk_drew BK715.out)
        have n4_ := Aside0.mk (blk_drew BK726.out)
        have n5_ := Aside0.mk (below_drew1 HB.out)
        clear HO_727000
        clear HO_727001
        clear HO740
        clear BK715
        clear BK726
        clear HB
        have HO_727000 := n0_
        have HO_727001 := n1_
        have HO740 := n2_
        have BK715 := n3_
        have BK726 := n4_
        have HB := n5_
        clear n0_ n1_ n2_ n3_ n4_ n5_
        refine start_ (n := 11) (S := fun w' => w'.cell? ⟨gb715, 0, none⟩ = some (.slice A1_0 l1_0.length c1_0) ∧ w'.cell? ⟨gb715, 1, none⟩ = some (.slice A1_1 l1_1.length c1_1)) (ds := []) (Qbz 11 0) (by kernel_rfl) rfl rfl ⟨(blk_cell BK715.out 0).trans rfl, (blk_cell BK715.out 1).trans rfl⟩ (fun hHeld => ?_); refine with_tabW lampblacklaw02_WidthColours.tab10 lampblacklaw02_WidthColours.bits10 (fun HT_ HW_ => ?_)
        generalize w65.drew = w66 at HO_727000 HO_727001 HO740 BK715 BK726 HB hHeld ⊢
        refine pure_ (i := 0) (N := some 65) (v := ?_) (a' := ?_) (Qbz 11 1) rfl rfl (Qao) (fun _ _ _ h => h) (Or.inl ⟨by rfl, ?_⟩) ?_ ?_;rotate_left;(·intro w';go_simp;with_reducible rfl);rotate_left;(·simp only [Act.put, Qp1, Qp2, Qp3, i64_w, i32_w];rfl)
        refine pure_ (i := 4) (N := some 69) (v := ?_) (a' := ?_) (Qbz 11 17) rfl rfl (Qao) (fun _ _ _ h => h) (Or.inl ⟨by rfl, ?_⟩) ?_ ?_;rotate_left;(·intro w';go_simp;with_reducible rfl);rotate_left;(·simp only [Act.put, Qp1, Qp2, Qp3, i64_w, i32_w];rfl)
        refine take_ (i := 2) (N := some 67) (v := ?_) (a' := ?_) (Qbz 11 21) rfl rfl (take_ofW HT_.out HW_.out (by kernel_rfl)) (fun _ _ _ h => h) (Or.inl ⟨by rfl, ?_⟩) hHeld ?_ ?_;rotate_left;(·rintro w' ⟨s0, s1⟩;go_simp;with_reducible rfl);rotate_left;(·simp only [Act.put, Qp1, Qp2, Qp3, i64_w, i32_w];rfl)
        refine one_ (i := 1) (N := some 66) (Qbz 11 23) rfl rfl (one_of HT_.out (by kernel_rfl)) (by decide) (fun K hK => ?_)
        refine goes_ Tryd.func19 (by kernel_rfl) rfl #[.slice A0 l0.length c0] (by rfl) rfl rfl (Qls) ?_
        with_reducible refine (lampblacklaw02_Few.calls _ _ l0 t743 _ ?side1 ?side2 A41.out).mono ?_
        (case side1 => exact Qsc (Kd.C_below HR0.out HB.out))
        (case side2 => exact HC0.out)
        rintro e w67 ⟨v744, rfl, ho0, hb⟩
        refine ⟨_, rfl, ?_⟩
        have n0_ := Aside0.mk (Kd.R_elder' (Qro HO_727000.out) (Kd.R_base ho0) hb)
        have n1_ := Aside0.mk (Kd.R_elder' (Qro HO_727001.out) (Kd.R_base ho0) hb)
        have n2_ := Aside0.mk (Kd.R_elder' (Qro HO740.out) (Kd.R_base ho0) hb)
        have n3_ := Aside0.mk (Kd.R_lower (Kd.R_new' (Kd.R_new' (Kd.R_new' ho0 (Kd.R_lt (Qro HO_727000.out))) (Kd.R_lt (Qro HO_727001.out))) (Kd.R_lt (Qro HO740.out))) (below_size (Qah GE715.out GE726.out)))
        have n4_ := Aside0.mk (blk_below (g := gb715) (o := .cells #[.slice A1_0 l1_0.length c1_0, .slice A1_1 l1_1.length c1_1] 52 (0, 0)) (Qbl BK715.out) hb)
        have n5_ := Aside0.mk (blk_below (g := gb726) (o := .cells #[.slice Ao15 t719.length co15, .slice Ao18 t722.length co18] 53 (0, 0)) (Qbl BK726.out) hb)
        have n6_ := Aside0.mk (below_step (Qah GE715.out GE726.out) hb)
        clear HO_727000
        clear HO_727001
        clear HO740
        clear BK715
        clear BK726
        clear HB
        have HO_727000 := n0_
        have HO_727001 := n1_
        have HO740 := n2_
        have HO745 := n3_
        have BK715 := n4_
        have BK726 := n5_
        have HB := n6_
        clear n0_ n1_ n2_ n3_ n4_ n5_ n6_
        (try clear hb)
        (try clear hb2)
        (try clear hk)
        (try clear hi)
        (try clear ho0)
        refine hK.out _ _ ⟨(blk_cell BK715.out 0).trans rfl, (blk_cell BK715.out 1).trans rfl⟩ (fun hHeld => ?_)
        clear hK K
        refine norm_ (a' := ?_) ?_ ?_
        rotate_left
        ·show Act.put _ (some 66) _ = _
         simp only [Act.put, Qp1, Qp2, Qp3, i64_w, i32_w]
         rfl
        refine one_ (i := 3) (N := some 68) (Qbz 11 31) rfl rfl (one_of HT_.out (by kernel_rfl)) (by decide) (fun K hK => ?_)
        refine goes_ Tryd.func44 (by kernel_rfl) rfl #[.agg #[.slice A1_0 l1_0.length c1_0, .slice A1_1 l1_1.length c1_1]] (by rfl) rfl rfl (Qls) ?_
        with_reducible refine (lampblacklaw02_Of.calls _ _ l1_0 _ _ l1_1 t746 t749 _ ?side1 ?side2 ?side3 ?side4 A42.out).mono ?_
        (case side1 => exact Qsc (Kd.C_below HR1_0.out HB.out))
        (case side2 => exact HC1_0.out)
        (case side3 => exact Qsc (Kd.C_below HR1_1.out HB.out))
        (case side4 => exact HC1_1.out)
        rintro e w68 ⟨v747, v750, rfl, ho0, ho1, hb⟩
        refine ⟨_, rfl, ?_⟩
        have n0_ := Aside0.mk (Kd.R_mono (Kd.R_told (Kd.R_told (Kd.R_old (Qro HO_727000.out) hb) (Kd.R_base ho0)) (Kd.R_base ho1)) (fun _ h_ => h_.1))
        have n1_ := Aside0.mk (Kd.R_mono (Kd.R_told (Kd.R_told (Kd.R_old (Qro HO_727001.out) hb) (Kd.R_base ho0)) (Kd.R_base ho1)) (fun _ h_ => h_.1))
        have n2_ := Aside0.mk (Kd.R_mono (Kd.R_told (Kd.R_told (Kd.R_old (Qro HO740.out) hb) (Kd.R_base ho0)) (Kd.R_base ho1)) (fun _ h_ => h_.1))
        have n3_ := Aside0.mk (Kd.R_mono (Kd.R_told (Kd.R_told (Kd.R_old (Qro HO745.out) hb) (Kd.R_base ho0)) (Kd.R_base ho1)) (fun _ h_ => h_.1))
        have n4_ := Aside0.mk (Kd.R_lower (Kd.R_new' (Kd.R_new' (Kd.R_new' (Kd.R_new' ho0 (Kd.R_lt (Qro HO_727000.out))) (Kd.R_lt (Qro HO_727001.out))) (Kd.R_lt (Qro HO740.out))) (Kd.R_lt (Qro HO745.out))) (below_size (Qah GE715.out GE726.out)))
        have n5_ := Aside0.mk (Kd.R_lower (Kd.R_new' (Kd.R_new' (Kd.R_new' (Kd.R_new' ho1 (Kd.R_lt (Qro HO_727000.out))) (Kd.R_lt (Qro HO_727001.out))) (Kd.R_lt (Qro HO740.out))) (Kd.R_lt (Qro HO745.out))) (below_size (Qah GE715.out GE726.out)))
        have n6_ := Aside0.mk (blk_below (g := gb715) (o := .cells #[.slice A1_0 l1_0.length c1_0, .slice A1_1 l1_1.length c1_1] 52 (0, 0)) (Qbl BK715.out) hb)
        have n7_ := Aside0.mk (blk_below (g := gb726) (o := .cells #[.slice Ao15 t719.length co15, .slice Ao18 t722.length co18] 53 (0, 0)) (Qbl BK726.out) hb)
        have n8_ := Aside0.mk (below_step (Qah GE715.out GE726.out) hb)
        clear HO_727000
        clear HO_727001
        clear HO740
        clear HO745
        clear BK715
        clear BK726
        clear HB
        have HO_727000 := n0_
        have HO_727001 := n1_
        have HO740 := n2_
        have HO745 := n3_
        have HO748 := n4_
        have HO751 := n5_
        have BK715 := n6_
        have BK726 := n7_
        have HB := n8_
        clear n0_ n1_ n2_ n3_ n4_ n5_ n6_ n7_ n8_
        (try clear hb)
        (try clear hb2)
        (try clear hk)
        (try clear hi)
        (try clear ho0)
        (try clear ho1)
        obtain ⟨Ao69, co69, eo69⟩ := Kd.R_slice HO745.out
        (first | subst eo69 | (injection eo69 with f1_ f2_ f3_; have f4_ := f1_.symm; have f5_ := f3_.symm; clear f1_ f2_ f3_; subst f4_; subst f5_))
        obtain ⟨Ao70, co70, eo70⟩ := Kd.R_slice HO748.out
        (first | subst eo70 | (injection eo70 with f1_ f2_ f3_; have f4_ := f1_.symm; have f5_ := f3_.symm; clear f1_ f2_ f3_; subst f4_; subst f5_))
        obtain ⟨Ao71, co71, eo71⟩ := Kd.R_slice HO751.out
        (first | subst eo71 | (injection eo71 with f1_ f2_ f3_; have f4_ := f1_.symm; have f5_ := f3_.symm; clear f1_ f2_ f3_; subst f4_; subst f5_))
        refine hK.out _ _ ⟨(blk_cell BK715.out 0).trans rfl, (blk_cell BK715.out 1).trans rfl⟩ (fun hHeld => ?_)
        clear hK K
        refine norm_ (a' := ?_) ?_ ?_
        rotate_left
        ·show Act.put _ (some 68) _ = _
         simp only [Act.put, Qp1, Qp2, Qp3, i64_w, i32_w]
         rfl
        refine one_ (i := 5) (N := some 70) (Qbz 11 63) rfl rfl (one_of HT_.out (by kernel_rfl)) (by decide) (fun K hK => ?_)
        refine goes_ Tryd.func56 (by kernel_rfl) rfl #[.slice Ao69 t743.length co69, .agg #[.slice Ao70 t746.length co70, .slice Ao71 t749.length co71], .int .i64 a2] (by rfl) rfl rfl (Qls) ?_
        with_reducible refine (width_Count.calls (hGL := (Qlg)) _ _ t743 _ _ t746 _ _ t749 a2 t752 t753 _ ?side1 ?side2 ?side3 ?side4 ?side5 ?side6 A43.out).mono ?_
        (case side1 => exact Qsc (Kd.R_reads' HO745.out).2.2)
        (case side2 => exact (Kd.R_reads' HO745.out).2.1)
        (case side3 => exact Qsc (Kd.R_reads' HO748.out).2.2)
        (case side4 => exact (Kd.R_reads' HO748.out).2.1)
        (case side5 => exact Qsc (Kd.R_reads' HO751.out).2.2)
        (case side6 => exact (Kd.R_reads' HO751.out).2.1)
        rintro e w72 ⟨rfl, hb⟩
        refine ⟨_, rfl, ?_⟩
        have n0_ := Aside0.mk (Kd.R_below (Qro HO_727000.out) hb)
        have n1_ := Aside0.mk (Kd.R_below (Qro HO_727001.out) hb)
        have n2_ := Aside0.mk (Kd.R_below (Qro HO740.out) hb)
        have n3_ := Aside0.mk (Kd.R_below (Qro HO745.out) hb)
        have n4_ := Aside0.mk (Kd.R_below (Qro HO748.out) hb)
        have n5_ := Aside0.mk (Kd.R_below (Qro HO751.out) hb)
        have n6_ := Aside0.mk (blk_below (g := gb715) (o := .cells #[.slice A1_0 l1_0.length c1_0, .slice A1_1 l1_1.length c1_1] 52 (0, 0)) (Qbl BK715.out) hb)
        have n7_ := Aside0.mk (blk_below (g := gb726) (o := .cells #[.slice Ao15 t719.length co15, .slice Ao18 t722.length co18] 53 (0, 0)) (Qbl BK726.out) hb)
        have n8_ := Aside0.mk (below_step (Qah GE715.out GE726.out) hb)
        clear HO_727000
        clear HO_727001
        clear HO740
        clear HO745
        clear HO748
        clear HO751
        clear BK715
        clear BK726
        clear HB
        have HO_727000 := n0_
        have HO_727001 := n1_
        have HO740 := n2_
        have HO745 := n3_
        have HO748 := n4_
        have HO751 := n5_
        have BK715 := n6_
        have BK726 := n7_
        have HB := n8_
        clear n0_ n1_ n2_ n3_ n4_ n5_ n6_ n7_ n8_
        (try clear hb)
        (try clear hb2)
        (try clear hk)
        (try clear hi)
        refine hK.out _ _ ⟨(blk_cell BK715.out 0).trans rfl, (blk_cell BK715.out 1).trans rfl⟩ (fun hHeld => ?_)
        clear hK K
        refine norm_ (a' := ?_) ?_ ?_
        rotate_left
        ·show Act.put _ (some 70) _ = _
         simp only [Act.put, Qp1, Qp2, Qp3, i64_w, i32_w]
         rfl
        refine pure_ (i := 6) (N := some 64) (v := ?_) (a' := ?_) (Qbz 11 127) rfl rfl (Qao) (fun _ _ _ h => h) (Or.inl ⟨by rfl, ?_⟩) ?_ ?_;rotate_left;(·intro w';go_simp;with_reducible rfl);rotate_left;(·simp only [Act.put, Qp1, Qp2, Qp3, i64_w, i32_w];rfl)
        refine pure_ (i := 7) (N := some 71) (v := ?_) (a' := ?_) (Qbz 11 255) rfl rfl (Qao) (fun _ _ _ h => h) (Or.inl ⟨by rfl, ?_⟩) ?_ ?_;rotate_left;(·intro w';go_simp;with_reducible rfl);rotate_left;(·simp only [Act.put, Qp1, Qp2, Qp3, i64_w, i32_w];rfl)
        refine pure_ (i := 8) (N := some 72) (v := ?_) (a' := ?_) (Qbz 11 511) rfl rfl (Qao) (fun _ _ _ h => h) (Or.inl ⟨by rfl, ?_⟩) ?_ ?_;rotate_left;(·intro w';go_simp;with_reducible rfl);rotate_left;(·simp only [Act.put, Qp1, Qp2, Qp3, i64_w, i32_w];rfl)
        refine pure_ (i := 9) (N := some 14) (v := ?_) (a' := ?_) (Qbz 11 1023) rfl rfl (Qao) (fun _ _ _ h => h) (Or.inl ⟨by rfl, ?_⟩) ?_ ?_;rotate_left;(·intro w';go_simp;with_reducible rfl);rotate_left;(·simp only [Act.put, Qp1, Qp2, Qp3, i64_w, i32_w];rfl)
        refine pure_ (i := 10) (N := some 15) (v := ?_) (a' := ?_) (Qbz 11 2047) rfl rfl (Qao) (fun _ _ _ h => h) (Or.inl ⟨by rfl, ?_⟩) ?_ ?_;rotate_left;(·intro w';go_simp;with_reducible rfl);rotate_left;(·simp only [Act.put, Qp1, Qp2, Qp3, i64_w, i32_w];rfl)
        refine done_ (done_of HT_.out (by kernel_rfl)) ?_
        try go_wp2_with (first | (go_at_call 20; (with_reducible refine (lampblacklaw02_awake.calls (hGL := (by repeat (first | (with_reducible exact HGL.out) | (with_reducible exact GL_below HGL.out HB.out) | (refine GL_below HGL.out (Qah GE715.out GE726.out)) | (with_reducible refine GL_alloc ?_ _) | (with_reducible refine GL_drewN ?_ _) | (with_reducible refine GL_drew ?_)))) kj8  t755 _ A61.out).mono ?_); rintro e w73 ⟨rfl, hb⟩; have n0_ := Aside0.mk (Kd.R_below (Qro HO_727000.out) hb); have n1_ := Aside0.mk (Kd.R_below (Qro HO_727001.out) hb); have n2_ := Aside0.mk (Kd.R_below (Qro HO740.out) hb); have n3_ := Aside0.mk (Kd.R_below (Qro HO745.out) hb); have n4_ := Aside0.mk (Kd.R_below (Qro HO748.out) hb); have n5_ := Aside0.mk (Kd.R_below (Qro HO751.out) hb); have n6_ := Aside0.mk (blk_below (g := gb715) (o := .cells #[.slice A1_0 l1_0.length c1_0, .slice A1_1 l1_1.length c1_1] 52 (0, 0)) (Qbl BK715.out) hb); have n7_ := Aside0.mk (blk_below (g := gb726) (o := .cells #[.slice Ao15 t719.length co15, .slice Ao18 t722.length co18] 53 (0, 0)) (Qbl BK726.out) hb); have n8_ := Aside0.mk (below_step (Qah GE715.out GE726.out) hb); clear HO_727000; clear HO_727001; clear HO740; clear HO745; clear HO748; clear HO751; clear BK715; clear BK726; clear HB; have HO_727000 := n0_; have HO_727001 := n1_; have HO740 := n2_; have HO745 := n3_; have HO748 := n4_; have HO751 := n5_; have BK715 := n6_; have BK726 := n7_; have HB := n8_; clear n0_ n1_ n2_ n3_ n4_ n5_ n6_ n7_ n8_; (try clear hb); (try clear hb2); (try clear hk); (try clear hi)))
        go_ret
        exact ⟨by first | rfl | (simp [errW_none, errW_some] <;> rfl) | (simp [*, errW_none, errW_some] <;> rfl), by repeat (first | (with_reducible first | exact HB.out | apply below_alloc | apply pw_below_drewN | apply below_drew1 | refine below_set ?_ GE715.out | refine below_set ?_ GE726.out) | exact HB.out)⟩
       ·rw [if_neg c60] at H
        have c60b0 : (t742 == 2) = false := beq_eq_false_iff_ne.mpr c60
        have c60b1 : (t742 != 2) = true := bne_iff_ne.mpr c60
        by_cases c74 : t753 = 0
        ·rw [if_pos c74] at H
         have c74b0 : (t753 == 0) = true := beq_iff_eq.mpr c74
         have c74b1 : (t753 != 0) = false := bne_eq_false_iff_eq.mpr c74
         clear c74
         exact absurd ((Option.some.inj H).trans HRT.out) (by decide)
        ·rw [if_neg c74] at H
         have c74b0 : (t753 == 0) = false := beq_eq_false_iff_ne.mpr c74
         have c74b1 : (t753 != 0) = true := bne_iff_ne.mpr c74
         exact absurd ((Option.some.inj H).trans HRT.out) (by decide)
     ·rw [if_neg c45] at H
      have c45b0 : (t753 == 2) = false := beq_eq_false_iff_ne.mpr c45
      have c45b1 : (t753 != 2) = true := bne_iff_ne.mpr c45
      by_cases c97 : t753 = 0
      ·rw [if_pos c97] at H
       have c97b0 : (t753 == 0) = true := beq_iff_eq.mpr c97
       have c97b1 : (t753 != 0) = false := bne_eq_false_iff_eq.mpr c97
       clear c97
       by_cases c98 : t742 = 0
       ·rw [if_pos c98] at H
        have c98b0 : (t742 == 0) = true := beq_iff_eq.mpr c98
        have c98b1 : (t742 != 0) = false := bne_eq_false_iff_eq.mpr c98
        clear c98
        by_cases c99 : t741 = t752
        ·rw [if_pos c99] at H
         have c99b0 : (t741 == t752) = true := beq_iff_eq.mpr c99
         have c99b1 : (t741 != t752) = false := bne_eq_false_iff_eq.mpr c99
         clear c99
         replace H := Option.bind_eq_some_iff.mp H
         obtain ⟨t756, A1000, H⟩ := H
         replace H : (some t756) = some r := H
         have A100 := Aside0.mk A1000
         clear A1000
         obtain rfl := Option.some.inj H
         try go_wp2
         have n0_ := Aside0.mk (Kd.R_drew HO_727000.out)
         have n1_ := Aside0.mk (Kd.R_drew HO_727001.out)
         have n2_ := Aside0.mk (blk_drew BK715.out)
         have n3_ := Aside0.mk (blk_drew BK726.out)
         have n4_ := Aside0.mk (below_drew1 HB.out)
         clear HO_727000
         clear HO_727001
         clear BK715
         clear BK726
         clear HB
         have HO_727000 := n0_
         have HO_727001 := n1_
         have BK715 := n2_
         have BK726 := n3_
         have HB := n4_
         clear n0_ n1_ n2_ n3_ n4_
         refine start_ (n := 10) (S := fun w' => w'.cell? ⟨gb726, 0, none⟩ = some (.slice Ao15 t719.length co15) ∧ w'.cell? ⟨gb726, 1, none⟩ = some (.slice Ao18 t722.length co18)) (ds := []) (Qbz 10 0) (by kernel_rfl) rfl rfl ⟨(blk_cell BK726.out 0).trans rfl, (blk_cell BK726.out 1).trans rfl⟩ (fun hHeld => ?_); refine with_tabW lampblacklaw02_WidthColours.tab9 lampblacklaw02_WidthColours.bits9 (fun HT_ HW_ => ?_)
         generalize wc.drew = w101 at HO_727000 HO_727001 BK715 BK726 HB hHeld ⊢
         refine pure_ (i := 0) (N := some 57) (v := ?_) (a' := ?_) (Qbz 10 1) rfl rfl (Qao) (fun _ _ _ h => h) (Or.inl ⟨by rfl, ?_⟩) ?_ ?_;rotate_left;(·intro w';go_simp;with_reducible rfl);rotate_left;(·simp only [Act.put, Qp1, Qp2, Qp3, i64_w, i32_w];rfl)
         refine pure_ (i := 3) (N := some 60) (v := ?_) (a' := ?_) (Qbz 10 9) rfl rfl (Qao) (fun _ _ _ h => h) (Or.inl ⟨by rfl, ?_⟩) ?_ ?_;rotate_left;(·intro w';go_simp;with_reducible rfl);rotate_left;(·simp only [Act.put, Qp1, Qp2, Qp3, i64_w, i32_w];rfl)
         refine take_ (i := 2) (N := some 59) (v := ?_) (a' := ?_) (Qbz 10 13) rfl rfl (take_ofW HT_.out HW_.out (by kernel_rfl)) (fun _ _ _ h => h) (Or.inl ⟨by rfl, ?_⟩) hHeld ?_ ?_;rotate_left;(·rintro w' ⟨s0, s1⟩;go_simp;with_reducible rfl);rotate_left;(·simp only [Act.put, Qp1, Qp2, Qp3, i64_w, i32_w];rfl)
         refine one_ (i := 1) (N := some 58) (Qbz 10 15) rfl rfl (one_of HT_.out (by kernel_rfl)) (by decide) (fun K hK => ?_)
         refine goes_ Tryd.func19 (by kernel_rfl) rfl #[.slice A0 l0.length c0] (by rfl) rfl rfl (Qls) ?_
         with_reducible refine (lampblacklaw02_Few.calls _ _ l0 t738 _ ?side1 ?side2 A39.out).mono ?_
         (case side1 => exact Qsc (Kd.C_below HR0.out HB.out))
         (case side2 => exact HC0.out)
         rintro e w102 ⟨v739, rfl, ho0, hb⟩
         refine ⟨_, rfl, ?_⟩
         have n0_ := Aside0.mk (Kd.R_elder' (Qro HO_727000.out) (Kd.R_base ho0) hb)
         have n1_ := Aside0.mk (Kd.R_elder' (Qro HO_727001.out) (Kd.R_base ho0) hb)
         have n2_ := Aside0.mk (Kd.R_lower (Kd.R_new' (Kd.R_new' ho0 (Kd.R_lt (Qro HO_727000.out))) (Kd.R_lt (Qro HO_727001.out))) (below_size (Qah GE715.out GE726.out)))
         have n3_ := Aside0.mk (blk_below (g := gb715) (o := .cells #[.slice A1_0 l1_0.length c1_0, .slice A1_1 l1_1.length c1_1] 52 (0, 0)) (Qbl BK715.out) hb)
         have n4_ := Aside0.mk (blk_below (g := gb726) (o := .cells #[.slice Ao15 t719.length co15, .slice Ao18 t722.length co18] 53 (0, 0)) (Qbl BK726.out) hb)
         have n5_ := Aside0.mk (below_step (Qah GE715.out GE726.out) hb)
         clear HO_727000
         clear HO_727001
         clear BK715
         clear BK726
         clear HB
         have HO_727000 := n0_
         have HO_727001 := n1_
         have HO740 := n2_
         have BK715 := n3_
         have BK726 := n4_
         have HB := n5_
         clear n0_ n1_ n2_ n3_ n4_ n5_
         (try clear hb)
         (try clear hb2)
         (try clear hk)
         (try clear hi)
         (try clear ho0)
         obtain ⟨Ao103, co103, eo103⟩ := Kd.R_slice HO740.out
         (first | subst eo103 | (injection eo103 with f1_ f2_ f3_; have f4_ := f1_.symm; have f5_ := f3_.symm; clear f1_ f2_ f3_; subst f4_; subst f5_))
         refine hK.out _ _ ⟨(blk_cell BK726.out 0).trans rfl, (blk_cell BK726.out 1).trans rfl⟩ (fun hHeld => ?_)
         clear hK K
         refine norm_ (a' := ?_) ?_ ?_
         rotate_left
         ·show Act.put _ (some 58) _ = _
          simp only [Act.put, Qp1, Qp2, Qp3, i64_w, i32_w]
          rfl
         refine one_ (i := 4) (N := some 61) (Qbz 10 31) rfl rfl (one_of HT_.out (by kernel_rfl)) (by decide) (fun K hK => ?_)
         refine goes_ Tryd.func56 (by kernel_rfl) rfl #[.slice Ao103 t738.length co103, .agg #[.slice Ao15 t719.length co15, .slice Ao18 t722.length co18], .int .i64 a2] (by rfl) rfl rfl (Qls) ?_
         with_reducible refine (width_Count.calls (hGL := (Qlg)) _ _ t738 _ _ t719 _ _ t722 a2 t741 t742 _ ?side1 ?side2 ?side3 ?side4 ?side5 ?side6 A40.out).mono ?_
         (case side1 => exact Qsc (Kd.R_reads' HO740.out).2.2)
         (case side2 => exact (Kd.R_reads' HO740.out).2.1)
         (case side3 => exact Qsc (Kd.R_reads' HO_727000.out).2.2)
         (case side4 => exact (Kd.R_reads' HO_727000.out).2.1)
         (case side5 => exact Qsc (Kd.R_reads' HO_727001.out).2.2)
         (case side6 => exact (Kd.R_reads' HO_727001.out).2.1)
         rintro e w104 ⟨rfl, hb⟩
         refine ⟨_, rfl, ?_⟩
         have n0_ := Aside0.mk (Kd.R_below (Qro HO_727000.out) hb)
         have n1_ := Aside0.mk (Kd.R_below (Qro HO_727001.out) hb)
         have n2_ := Aside0.mk (Kd.R_below (Qro HO740.out) hb)
         have n3_ := Aside0.mk (blk_below (g := gb715) (o := .cells #[.slice A1_0 l1_0.length c1_0, .slice A1_1 l1_1.length c1_1] 52 (0, 0)) (Qbl BK715.out) hb)
         have n4_ := Aside0.mk (blk_below (g := gb726) (o := .cells #[.slice Ao15 t719.length co15, .slice Ao18 t722.length co18] 53 (0, 0)) (Qbl BK726.out) hb)
         have n5_ := Aside0.mk (below_step (Qah GE715.out GE726.out) hb)
         clear HO_727000
         clear HO_727001
         clear HO740
         clear BK715
         clear BK726
         clear HB
         have HO_727000 := n0_
         have HO_727001 := n1_
         have HO740 := n2_
         have BK715 := n3_
         have BK726 := n4_
         have HB := n5_
         clear n0_ n1_ n2_ n3_ n4_ n5_
         (try clear hb)
         (try clear hb2)
         (try clear hk)
         (try clear hi)
         refine hK.out _ _ ⟨(blk_cell BK726.out 0).trans rfl, (blk_cell BK726.out 1).trans rfl⟩ (fun hHeld => ?_)
         clear hK K
         refine norm_ (a' := ?_) ?_ ?_
         rotate_left
         ·show Act.put _ (some 61) _ = _
          simp only [Act.put, Qp1, Qp2, Qp3, i64_w, i32_w]
          rfl
         refine pure_ (i := 5) (N := some 56) (v := ?_) (a' := ?_) (Qbz 10 63) rfl rfl (Qao) (fun _ _ _ h => h) (Or.inl ⟨by rfl, ?_⟩) ?_ ?_;rotate_left;(·intro w';go_simp;with_reducible rfl);rotate_left;(·simp only [Act.put, Qp1, Qp2, Qp3, i64_w, i32_w];rfl)
         refine pure_ (i := 6) (N := some 62) (v := ?_) (a' := ?_) (Qbz 10 127) rfl rfl (Qao) (fun _ _ _ h => h) (Or.inl ⟨by rfl, ?_⟩) ?_ ?_;rotate_left;(·intro w';go_simp;with_reducible rfl);rotate_left;(·simp only [Act.put, Qp1, Qp2, Qp3, i64_w, i32_w];rfl)
         refine pure_ (i := 7) (N := some 63) (v := ?_) (a' := ?_) (Qbz 10 255) rfl rfl (Qao) (fun _ _ _ h => h) (Or.inl ⟨by rfl, ?_⟩) ?_ ?_;rotate_left;(·intro w';go_simp;with_reducible rfl);rotate_left;(·simp only [Act.put, Qp1, Qp2, Qp3, i64_w, i32_w];rfl)
         refine pure_ (i := 8) (N := some 13) (v := ?_) (a' := ?_) (Qbz 10 511) rfl rfl (Qao) (fun _ _ _ h => h) (Or.inl ⟨by rfl, ?_⟩) ?_ ?_;rotate_left;(·intro w';go_simp;with_reducible rfl);rotate_left;(·simp only [Act.put, Qp1, Qp2, Qp3, i64_w, i32_w];rfl)
         refine pure_ (i := 9) (N := some 8) (v := ?_) (a' := ?_) (Qbz 10 1023) rfl rfl (Qao) (fun _ _ _ h => h) (Or.inl ⟨by rfl, ?_⟩) ?_ ?_;rotate_left;(·intro w';go_simp;with_reducible rfl);rotate_left;(·simp only [Act.put, Qp1, Qp2, Qp3, i64_w, i32_w];rfl)
         refine done_ (done_of HT_.out (by kernel_rfl)) ?_
         try go_wp2
         have n0_ := Aside0.mk (Kd.R_drew HO_727000.out)
         have n1_ := Aside0.mk (Kd.R_drew HO_727001.out)
         have n2_ := Aside0.mk (Kd.R_drew HO740.out)
         have n3_ := Aside0.mk (blk_drew BK715.out)
         have n4_ := Aside0.mk (blk_drew BK726.out)
         have n5_ := Aside0.mk (below_drew1 HB.out)
         clear HO_727000
         clear HO_727001
         clear HO740
         clear BK715
         clear BK726
         clear HB
         have HO_727000 := n0_
         have HO_727001 := n1_
         have HO740 := n2_
         have BK715 := n3_
         have BK726 := n4_
         have HB := n5_
         clear n0_ n1_ n2_ n3_ n4_ n5_
         refine start_ (n := 11) (S := fun w' => w'.cell? ⟨gb715, 0, none⟩ = some (.slice A1_0 l1_0.length c1_0) ∧ w'.cell? ⟨gb715, 1, none⟩ = some (.slice A1_1 l1_1.length c1_1)) (ds := []) (Qbz 11 0) (by kernel_rfl) rfl rfl ⟨(blk_cell BK715.out 0).trans rfl, (blk_cell BK715.out 1).trans rfl⟩ (fun hHeld => ?_); refine with_tabW lampblacklaw02_WidthColours.tab10 lampblacklaw02_WidthColours.bits10 (fun HT_ HW_ => ?_)
         generalize w104.drew = w105 at HO_727000 HO_727001 HO740 BK715 BK726 HB hHeld ⊢
         refine pure_ (i := 0) (N := some 65) (v := ?_) (a' := ?_) (Qbz 11 1) rfl rfl (Qao) (fun _ _ _ h => h) (Or.inl ⟨by rfl, ?_⟩) ?_ ?_;rotate_left;(·intro w';go_simp;with_reducible rfl);rotate_left;(·simp only [Act.put, Qp1, Qp2, Qp3, i64_w, i32_w];rfl)
         refine pure_ (i := 4) (N := some 69) (v := ?_) (a' := ?_) (Qbz 11 17) rfl rfl (Qao) (fun _ _ _ h => h) (Or.inl ⟨by rfl, ?_⟩) ?_ ?_;rotate_left;(·intro w';go_simp;with_reducible rfl);rotate_left;(·simp only [Act.put, Qp1, Qp2, Qp3, i64_w, i32_w];rfl)
         refine take_ (i := 2) (N := some 67) (v := ?_) (a' := ?_) (Qbz 11 21) rfl rfl (take_ofW HT_.out HW_.out (by kernel_rfl)) (fun _ _ _ h => h) (Or.inl ⟨by rfl, ?_⟩) hHeld ?_ ?_;rotate_left;(·rintro w' ⟨s0, s1⟩;go_simp;with_reducible rfl);rotate_left;(·simp only [Act.put, Qp1, Qp2, Qp3, i64_w, i32_w];rfl)
         refine one_ (i := 1) (N := some 66) (Qbz 11 23) rfl rfl (one_of HT_.out (by kernel_rfl)) (by decide) (fun K hK => ?_)
         refine goes_ Tryd.func19 (by kernel_rfl) rfl #[.slice A0 l0.length c0] (by rfl) rfl rfl (Qls) ?_
         with_reducible refine (lampblacklaw02_Few.calls _ _ l0 t743 _ ?side1 ?side2 A41.out).mono ?_
         (case side1 => exact Qsc (Kd.C_below HR0.out HB.out))
         (case side2 => exact HC0.out)
         rintro e w106 ⟨v744, rfl, ho0, hb⟩
         refine ⟨_, rfl, ?_⟩
         have n0_ := Aside0.mk (Kd.R_elder' (Qro HO_727000.out) (Kd.R_base ho0) hb)
         have n1_ := Aside0.mk (Kd.R_elder' (Qro HO_727001.out) (Kd.R_base ho0) hb)
         have n2_ := Aside0.mk (Kd.R_elder' (Qro HO740.out) (Kd.R_base ho0) hb)
         have n3_ := Aside0.mk (Kd.R_lower (Kd.R_new' (Kd.R_new' (Kd.R_new' ho0 (Kd.R_lt (Qro HO_727000.out))) (Kd.R_lt (Qro HO_727001.out))) (Kd.R_lt (Qro HO740.out))) (below_size (Qah GE715.out GE726.out)))
         have n4_ := Aside0.mk (blk_below (g := gb715) (o := .cells #[.slice A1_0 l1_0.length c1_0, .slice A1_1 l1_1.length c1_1] 52 (0, 0)) (Qbl BK715.out) hb)
         have n5_ := Aside0.mk (blk_below (g := gb726) (o := .cells #[.slice Ao15 t719.length co15, .slice Ao18 t722.length co18] 53 (0, 0)) (Qbl BK726.out) hb)
         have n6_ := Aside0.mk (below_step (Qah GE715.out GE726.out) hb)
         clear HO_727000
         clear HO_727001
         clear HO740
         clear BK715
         clear BK726
         clear HB
         have HO_727000 := n0_
         have HO_727001 := n1_
         have HO740 := n2_
         have HO745 := n3_
         have BK715 := n4_
         have BK726 := n5_
         have HB := n6_
         clear n0_ n1_ n2_ n3_ n4_ n5_ n6_
         (try clear hb)
         (try clear hb2)
         (try clear hk)
         (try clear hi)
         (try clear ho0)
         refine hK.out _ _ ⟨(blk_cell BK715.out 0).trans rfl, (blk_cell BK715.out 1).trans rfl⟩ (fun hHeld => ?_)
         clear hK K
         refine norm_ (a' := ?_) ?_ ?_
         rotate_left
         ·show Act.put _ (some 66) _ = _
          simp only [Act.put, Qp1, Qp2, Qp3, i64_w, i32_w]
          rfl
         refine one_ (i := 3) (N := some 68) (Qbz 11 31) rfl rfl (one_of HT_.out (by kernel_rfl)) (by decide) (fun K hK => ?_)
         refine goes_ Tryd.func44 (by kernel_rfl) rfl #[.agg #[.slice A1_0 l1_0.length c1_0, .slice A1_1 l1_1.length c1_1]] (by rfl) rfl rfl (Qls) ?_
         with_reducible refine (lampblacklaw02_Of.calls _ _ l1_0 _ _ l1_1 t746 t749 _ ?side1 ?side2 ?side3 ?side4 A42.out).mono ?_
         (case side1 => exact Qsc (Kd.C_below HR1_0.out HB.out))
         (case side2 => exact HC1_0.out)
         (case side3 => exact Qsc (Kd.C_below HR1_1.out HB.out))
         (case side4 => exact HC1_1.out)
         rintro e w107 ⟨v747, v750, rfl, ho0, ho1, hb⟩
         refine ⟨_, rfl, ?_⟩
         have n0_ := Aside0.mk (Kd.R_mono (Kd.R_told (Kd.R_told (Kd.R_old (Qro HO_727000.out) hb) (Kd.R_base ho0)) (Kd.R_base ho1)) (fun _ h_ => h_.1))
         have n1_ := Aside0.mk (Kd.R_mono (Kd.R_told (Kd.R_told (Kd.R_old (Qro HO_727001.out) hb) (Kd.R_base ho0)) (Kd.R_base ho1)) (fun _ h_ => h_.1))
         have n2_ := Aside0.mk (Kd.R_mono (Kd.R_told (Kd.R_told (Kd.R_old (Qro HO740.out) hb) (Kd.R_base ho0)) (Kd.R_base ho1)) (fun _ h_ => h_.1))
         have n3_ := Aside0.mk (Kd.R_mono (Kd.R_told (Kd.R_told (Kd.R_old (Qro HO745.out) hb) (Kd.R_base ho0)) (Kd.R_base ho1)) (fun _ h_ => h_.1))
         have n4_ := Aside0.mk (Kd.R_lower (Kd.R_new' (Kd.R_new' (Kd.R_new' (Kd.R_new' ho0 (Kd.R_lt (Qro HO_727000.out))) (Kd.R_lt (Qro HO_727001.out))) (Kd.R_lt (Qro HO740.out))) (Kd.R_lt (Qro HO745.out))) (below_size (Qah GE715.out GE726.out)))
         have n5_ := Aside0.mk (Kd.R_lower (Kd.R_new' (Kd.R_new' (Kd.R_new' (Kd.R_new' ho1 (Kd.R_lt (Qro HO_727000.out))) (Kd.R_lt (Qro HO_727001.out))) (Kd.R_lt (Qro HO740.out))) (Kd.R_lt (Qro HO745.out))) (below_size (Qah GE715.out GE726.out)))
         have n6_ := Aside0.mk (blk_below (g := gb715) (o := .cells #[.slice A1_0 l1_0.length c1_0, .slice A1_1 l1_1.length c1_1] 52 (0, 0)) (Qbl BK715.out) hb)
         have n7_ := Aside0.mk (blk_below (g := gb726) (o := .cells #[.slice Ao15 t719.length co15, .slice Ao18 t722.length co18] 53 (0, 0)) (Qbl BK726.out) hb)
         have n8_ := Aside0.mk (below_step (Qah GE715.out GE726.out) hb)
         clear HO_727000
         clear HO_727001
         clear HO740
         clear HO745
         clear BK715
         clear BK726
         clear HB
         have HO_727000 := n0_
         have HO_727001 := n1_
         have HO740 := n2_
         have HO745 := n3_
         have HO748 := n4_
         have HO751 := n5_
         have BK715 := n6_
         have BK726 := n7_
         have HB := n8_
         clear n0_ n1_ n2_ n3_ n4_ n5_ n6_ n7_ n8_
         (try clear hb)
         (try clear hb2)
         (try clear hk)
         (try clear hi)
         (try clear ho0)
         (try clear ho1)
         obtain ⟨Ao108, co108, eo108⟩ := Kd.R_slice HO745.out
         (first | subst eo108 | (injection eo108 with f1_ f2_ f3_; have f4_ := f1_.symm; have f5_ := f3_.symm; clear f1_ f2_ f3_; subst f4_; subst f5_))
         obtain ⟨Ao109, co109, eo109⟩ := Kd.R_slice HO748.out
         (first | subst eo109 | (injection eo109 with f1_ f2_ f3_; have f4_ := f1_.symm; have f5_ := f3_.symm; clear f1_ f2_ f3_; subst f4_; subst f5_))
         obtain ⟨Ao110, co110, eo110⟩ := Kd.R_slice HO751.out
         (first | subst eo110 | (injection eo110 with f1_ f2_ f3_; have f4_ := f1_.symm; have f5_ := f3_.symm; clear f1_ f2_ f3_; subst f4_; subst f5_))
         refine hK.out _ _ ⟨(blk_cell BK715.out 0).trans rfl, (blk_cell BK715.out 1).trans rfl⟩ (fun hHeld => ?_)
         clear hK K
         refine norm_ (a' := ?_) ?_ ?_
         rotate_left
         ·show Act.put _ (some 68) _ = _
          simp only [Act.put, Qp1, Qp2, Qp3, i64_w, i32_w]
          rfl
         refine one_ (i := 5) (N := some 70) (Qbz 11 63) rfl rfl (one_of HT_.out (by kernel_rfl)) (by decide) (fun K hK => ?_)
         refine goes_ Tryd.func56 (by kernel_rfl) rfl #[.slice Ao108 t743.length co108, .agg #[.slice Ao109 t746.length co109, .slice Ao110 t749.length co110], .int .i64 a2] (by rfl) rfl rfl (Qls) ?_
         with_reducible refine (width_Count.calls (hGL := (Qlg)) _ _ t743 _ _ t746 _ _ t749 a2 t752 t753 _ ?side1 ?side2 ?side3 ?side4 ?side5 ?side6 A43.out).mono ?_
         (case side1 => exact Qsc (Kd.R_reads' HO745.out).2.2)
         (case side2 => exact (Kd.R_reads' HO745.out).2.1)
         (case side3 => exact Qsc (Kd.R_reads' HO748.out).2.2)
         (case side4 => exact (Kd.R_reads' HO748.out).2.1)
         (case side5 => exact Qsc (Kd.R_reads' HO751.out).2.2)
         (case side6 => exact (Kd.R_reads' HO751.out).2.1)
         rintro e w111 ⟨rfl, hb⟩
         refine ⟨_, rfl, ?_⟩
         have n0_ := Aside0.mk (Kd.R_below (Qro HO_727000.out) hb)
         have n1_ := Aside0.mk (Kd.R_below (Qro HO_727001.out) hb)
         have n2_ := Aside0.mk (Kd.R_below (Qro HO740.out) hb)
         have n3_ := Aside0.mk (Kd.R_below (Qro HO745.out) hb)
         have n4_ := Aside0.mk (Kd.R_below (Qro HO748.out) hb)
         have n5_ := Aside0.mk (Kd.R_below (Qro HO751.out) hb)
         have n6_ := Aside0.mk (blk_below (g := gb715) (o := .cells #[.slice A1_0 l1_0.length c1_0, .slice A1_1 l1_1.length c1_1] 52 (0, 0)) (Qbl BK715.out) hb)
         have n7_ := Aside0.mk (blk_below (g := gb726) (o := .cells #[.slice Ao15 t719.length co15, .slice Ao18 t722.length co18] 53 (0, 0)) (Qbl BK726.out) hb)
         have n8_ := Aside0.mk (below_step (Qah GE715.out GE726.out) hb)
         clear HO_727000
         clear HO_727001
         clear HO740
         clear HO745
         clear HO748
         clear HO751
         clear BK715
         clear BK726
         clear HB
         have HO_727000 := n0_
         have HO_727001 := n1_
         have HO740 := n2_
         have HO745 := n3_
         have HO748 := n4_
         have HO751 := n5_
         have BK715 := n6_
         have BK726 := n7_
         have HB := n8_
         clear n0_ n1_ n2_ n3_ n4_ n5_ n6_ n7_ n8_
         (try clear hb)
         (try clear hb2)
         (try clear hk)
         (try clear hi)
         refine hK.out _ _ ⟨(blk_cell BK715.out 0).trans rfl, (blk_cell BK715.out 1).trans rfl⟩ (fun hHeld => ?_)
         clear hK K
         refine norm_ (a' := ?_) ?_ ?_
         rotate_left
         ·show Act.put _ (some 70) _ = _
          simp only [Act.put, Qp1, Qp2, Qp3, i64_w, i32_w]
          rfl
         refine pure_ (i := 6) (N := some 64) (v := ?_) (a' := ?_) (Qbz 11 127) rfl rfl (Qao) (fun _ _ _ h => h) (Or.inl ⟨by rfl, ?_⟩) ?_ ?_;rotate_left;(·intro w';go_simp;with_reducible rfl);rotate_left;(·simp only [Act.put, Qp1, Qp2, Qp3, i64_w, i32_w];rfl)
         refine pure_ (i := 7) (N := some 71) (v := ?_) (a' := ?_) (Qbz 11 255) rfl rfl (Qao) (fun _ _ _ h => h) (Or.inl ⟨by rfl, ?_⟩) ?_ ?_;rotate_left;(·intro w';go_simp;with_reducible rfl);rotate_left;(·simp only [Act.put, Qp1, Qp2, Qp3, i64_w, i32_w];rfl)
         refine pure_ (i := 8) (N := some 72) (v := ?_) (a' := ?_) (Qbz 11 511) rfl rfl (Qao) (fun _ _ _ h => h) (Or.inl ⟨by rfl, ?_⟩) ?_ ?_;rotate_left;(·intro w';go_simp;with_reducible rfl);rotate_left;(·simp only [Act.put, Qp1, Qp2, Qp3, i64_w, i32_w];rfl)
         refine pure_ (i := 9) (N := some 14) (v := ?_) (a' := ?_) (Qbz 11 1023) rfl rfl (Qao) (fun _ _ _ h => h) (Or.inl ⟨by rfl, ?_⟩) ?_ ?_;rotate_left;(·intro w';go_simp;with_reducible rfl);rotate_left;(·simp only [Act.put, Qp1, Qp2, Qp3, i64_w, i32_w];rfl)
         refine pure_ (i := 10) (N := some 15) (v := ?_) (a' := ?_) (Qbz 11 2047) rfl rfl (Qao) (fun _ _ _ h => h) (Or.inl ⟨by rfl, ?_⟩) ?_ ?_;rotate_left;(·intro w';go_simp;with_reducible rfl);rotate_left;(·simp only [Act.put, Qp1, Qp2, Qp3, i64_w, i32_w];rfl)
         refine done_ (done_of HT_.out (by kernel_rfl)) ?_
         try go_wp2_with (first | (go_at_call 20; (with_reducible refine (lampblacklaw02_awake.calls (hGL := (by repeat (first | (with_reducible exact HGL.out) | (with_reducible exact GL_below HGL.out HB.out) | (refine GL_below HGL.out (Qah GE715.out GE726.out)) | (with_reducible refine GL_alloc ?_ _) | (with_reducible refine GL_drewN ?_ _) | (with_reducible refine GL_drew ?_)))) kj8  t756 _ A100.out).mono ?_); rintro e w112 ⟨rfl, hb⟩; have n0_ := Aside0.mk (Kd.R_below (Qro HO_727000.out) hb); have n1_ := Aside0.mk (Kd.R_below (Qro HO_727001.out) hb); have n2_ := Aside0.mk (Kd.R_below (Qro HO740.out) hb); have n3_ := Aside0.mk (Kd.R_below (Qro HO745.out) hb); have n4_ := Aside0.mk (Kd.R_below (Qro HO748.out) hb); have n5_ := Aside0.mk (Kd.R_below (Qro HO751.out) hb); have n6_ := Aside0.mk (blk_below (g := gb715) (o := .cells #[.slice A1_0 l1_0.length c1_0, .slice A1_1 l1_1.length c1_1] 52 (0, 0)) (Qbl BK715.out) hb); have n7_ := Aside0.mk (blk_below (g := gb726) (o := .cells #[.slice Ao15 t719.length co15, .slice Ao18 t722.length co18] 53 (0, 0)) (Qbl BK726.out) hb); have n8_ := Aside0.mk (below_step (Qah GE715.out GE726.out) hb); clear HO_727000; clear HO_727001; clear HO740; clear HO745; clear HO748; clear HO751; clear BK715; clear BK726; clear HB; have HO_727000 := n0_; have HO_727001 := n1_; have HO740 := n2_; have HO745 := n3_; have HO748 := n4_; have HO751 := n5_; have BK715 := n6_; have BK726 := n7_; have HB := n8_; clear n0_ n1_ n2_ n3_ n4_ n5_ n6_ n7_ n8_; (try clear hb); (try clear hb2); (try clear hk); (try clear hi)))
         go_ret
         exact ⟨by first | rfl | (simp [errW_none, errW_some] <;> rfl) | (simp [*, errW_none, errW_some] <;> rfl), by repeat (first | (with_reducible first | exact HB.out | apply below_alloc | apply pw_below_drewN | apply below_drew1 | refine below_set ?_ GE715.out | refine below_set ?_ GE726.out) | exact HB.out)⟩
        ·rw [if_neg c99] at H
         have c99b0 : (t741 == t752) = false := beq_eq_false_iff_ne.mpr c99
         have c99b1 : (t741 != t752) = true := bne_iff_ne.mpr c99
         exact absurd ((Option.some.inj H).trans HRT.out) (by decide)
       ·rw [if_neg c98] at H
        have c98b0 : (t742 == 0) = false := beq_eq_false_iff_ne.mpr c98
        have c98b1 : (t742 != 0) = true := bne_iff_ne.mpr c98
        exact absurd ((Option.some.inj H).trans HRT.out) (by decide)
      ·rw [if_neg c97] at H
       have c97b0 : (t753 == 0) = false := beq_eq_false_iff_ne.mpr c97
       have c97b1 : (t753 != 0) = true := bne_iff_ne.mpr c97
       exact absurd ((Option.some.inj H).trans HRT.out) (by decide)
    ·rw [if_neg c44] at H
     have c44b0 : (t731 == 0) = false := beq_eq_false_iff_ne.mpr c44
     have c44b1 : (t731 != 0) = true := bne_iff_ne.mpr c44
     exact absurd ((Option.some.inj H).trans HRT.out) (by decide)
 ·rw [if_neg c8] at H
  have c8b0 : (t725 == 0) = false := beq_eq_false_iff_ne.mpr c8
  have c8b1 : (t725 != 0) = true := bne_iff_ne.mpr c8
  by_cases c157 : t725 = 2
  ·rw [if_pos c157] at H
   have c157b0 : (t725 == 2) = true := beq_iff_eq.mpr c157
   have c157b1 : (t725 != 2) = false := bne_eq_false_iff_eq.mpr c157
   clear c157
   by_cases c158 : t731 = 2
   ·rw [if_pos c158] at H
    have c158b0 : (t731 == 2) = true := beq_iff_eq.mpr c158
    have c158b1 : (t731 != 2) = false := bne_eq_false_iff_eq.mpr c158
    clear c158
    replace H := Option.bind_eq_some_iff.mp H
    obtain ⟨t732, A1590, H⟩ := H
    replace H : (some t732) = some r := H
    have A159 := Aside0.mk A1590
    clear A1590
    clear HRT
    obtain rfl := Option.some.inj H
    go_enter Tryd.func15, Tryd.ntmps15
    go_wp2_with (first | ((with_reducible refine gate_dst (N := 4) rfl ?_); refine box_event ?hg (N := 4) ?hd (cs := #[.slice A1_0 l1_0.length c1_0, .slice A1_1 l1_1.length c1_1]) (t := 52) ?hr ?_; (case hd => rfl); (case hg => rfl); (case hr => first | (go_simp; done) | (go_simp; rfl)); intro gb715 hg w160 hbox hb; have n0_ := Aside0.mk (below_step (Qaw) hb); have n1_ := Aside0.mk (hbox); have n2_ := Aside0.mk ((by rw [hg]; exact (below_size (Qaw)) : w.heap.size ≤ gb715)); have n3_ := Aside0.mk ((by rw [hg]; exact (below_size (Qaw)) : w.heap.size ≤ gb715)); clear HB; have HB := n0_; have BK715 := n1_; have GW715 := n2_; have GE715 := n3_; clear n0_ n1_ n2_ n3_; clear hb hbox hg) | ((with_reducible refine gate_callee (f := 19) rfl ?_); refine goesL_ (some 18) rfl rfl Tryd.func19 (by kernel_rfl) rfl #[.slice A0 l0.length c0] rfl (Qls) ?_; (with_reducible refine (lampblacklaw02_Few.calls _ _ l0 t716 _ ?side1 ?side2 A4.out).mono ?_); (case side1 => exact Qsc (Kd.C_below HR0.out HB.out)); (case side2 => exact HC0.out); rintro e w161 ⟨v717, rfl, ho0, hb⟩; refine ⟨_, rfl, ?_⟩; have n0_ := Aside0.mk (Kd.R_lower ho0 (below_size (Qag GE715.out))); have n1_ := Aside0.mk (blk_below (g := gb715) (o := .cells #[.slice A1_0 l1_0.length c1_0, .slice A1_1 l1_1.length c1_1] 52 (0, 0)) (Qbl BK715.out) hb); have n2_ := Aside0.mk (below_step (Qag GE715.out) hb); clear BK715; clear HB; have HO718 := n0_; have BK715 := n1_; have HB := n2_; clear n0_ n1_ n2_; (try clear hb); (try clear hb2); (try clear hk); (try clear hi); (try clear ho0); obtain ⟨Ao162, co162, eo162⟩ := Kd.R_slice HO718.out; subst eo162) | ((with_reducible refine gate_callee (f := 52) rfl ?_); refine goesL_ (some 19) rfl rfl Tryd.func52 (by kernel_rfl) rfl #[.slice Ao162 t716.length co162] rfl (Qls) ?_; (with_reducible refine (width_Decompose.calls (hGL := (by repeat (first | (with_reducible exact HGL.out) | (with_reducible exact GL_below HGL.out HB.out) | (refine GL_below HGL.out (Qaw)) | (with_reducible refine GL_alloc ?_ _) | (with_reducible refine GL_drewN ?_ _) | (with_reducible refine GL_drew ?_)))) k _ _ t716 t719 t722 t725 _ ?side1 ?side2 A5.out).mono ?_); (case side1 => exact Qsc (Kd.R_reads' HO718.out).2.2); (case side2 => exact (Kd.R_reads' HO718.out).2.1); rintro e w163 ⟨v720, v723, rfl, ho0, ho1, hb⟩; refine ⟨_, rfl, ?_⟩; have n0_ := Aside0.mk (Kd.R_mono (Kd.R_told (Kd.R_told (Kd.R_old (Qro HO718.out) hb) (Kd.R_base ho0)) (Kd.R_base ho1)) (fun _ h_ => h_.1)); have n1_ := Aside0.mk (Kd.R_lower (Kd.R_new' ho0 (Kd.R_lt (Qro HO718.out))) (below_size (Qag GE715.out))); have n2_ := Aside0.mk (Kd.R_lower (Kd.R_new' ho1 (Kd.R_lt (Qro HO718.out))) (below_size (Qag GE715.out))); have n3_ := Aside0.mk (blk_below (g := gb715) (o := .cells #[.slice A1_0 l1_0.length c1_0, .slice A1_1 l1_1.length c1_1] 52 (0, 0)) (Qbl BK715.out) hb); have n4_ := Aside0.mk (below_step (Qag GE715.out) hb); clear HO718; clear BK715; clear HB; have HO718 := n0_; have HO721 := n1_; have HO724 := n2_; have BK715 := n3_; have HB := n4_; clear n0_ n1_ n2_ n3_ n4_; (try clear hb); (try clear hb2); (try clear hk); (try clear hi); (try clear ho0); (try clear ho1)) | ((with_reducible refine gate_dst (N := 7) rfl ?_); refine box_event ?hg (N := 7) ?hd (cs := #[.slice none 0 0, .slice none 0 0]) (t := 53) ?hr ?_; (case hd => rfl); (case hg => rfl); (case hr => first | (go_simp; done) | (go_simp; rfl)); intro gb726 hg w164 hbox hb; have n0_ := Aside0.mk (Kd.R_below (Qro HO718.out) hb); have n1_ := Aside0.mk (Kd.R_below (Qro HO721.out) hb); have n2_ := Aside0.mk (Kd.R_below (Qro HO724.out) hb); have n3_ := Aside0.mk (blk_below (g := gb715) (o := .cells #[.slice A1_0 l1_0.length c1_0, .slice A1_1 l1_1.length c1_1] 52 (0, 0)) (Qbl BK715.out) hb); have n4_ := Aside0.mk (below_step (Qag GE715.out) hb); have n5_ := Aside0.mk (hbox); have n6_ := Aside0.mk ((by rw [hg]; exact (below_size (Qag GE715.out)) : w.heap.size ≤ gb726)); have n7_ := Aside0.mk ((by rw [hg]; exact (below_size (Qag GE715.out)) : w.heap.size ≤ gb726)); have n8_ := Aside0.mk ((by rw [hg]; exact Nat.ne_of_lt (blk_lt (g := gb715) (o := .cells #[.slice A1_0 l1_0.length c1_0, .slice A1_1 l1_1.length c1_1] 52 (0, 0)) (Qbl BK715.out)) : gb715 ≠ gb726)); have n9_ := Aside0.mk ((by rw [hg]; exact Nat.ne_of_gt (blk_lt (g := gb715) (o := .cells #[.slice A1_0 l1_0.length c1_0, .slice A1_1 l1_1.length c1_1] 52 (0, 0)) (Qbl BK715.out)) : gb726 ≠ gb715)); clear HO718; clear HO721; clear HO724; clear BK715; clear HB; have HO718 := n0_; have HO721 := n1_; have HO724 := n2_; have BK715 := n3_; have HB := n4_; have BK726 := n5_; have GW726 := n6_; have GE726 := n7_; have NB715_726 := n8_; have NB726_715 := n9_; clear n0_ n1_ n2_ n3_ n4_ n5_ n6_ n7_ n8_ n9_; clear hb hbox hg; obtain ⟨Ao165, co165, eo165⟩ := Kd.R_slice HO721.out; subst eo165; have hnb166 := NB726_715.out; have hnc166 := NB715_726.out; have hcz167_0 : w164.cell? ⟨gb726, 0, none⟩ = some (.slice none 0 0) := (blk_cell BK726.out 0).trans rfl; have hcz167_1 : w164.cell? ⟨gb726, 1, none⟩ = some (.slice none 0 0) := (blk_cell BK726.out 1).trans rfl; have hfz167_0 := blk_frozen BK726.out 0; have hfz167_1 := blk_frozen BK726.out 1; obtain ⟨Ao168, co168, eo168⟩ := Kd.R_slice HO724.out; subst eo168) | ((with_reducible refine gate_callee (f := 19) rfl ?_); refine goesL_ (some 24) rfl rfl Tryd.func19 (by kernel_rfl) rfl #[.slice A0 l0.length c0] rfl (Qls) ?_; (with_reducible refine (lampblacklaw02_Few.calls _ _ l0 t727 _ ?side1 ?side2 A6.out).mono ?_); (case side1 => exact Kd.C_below HR0.out (Qah GE715.out GE726.out)); (case side2 => exact HC0.out); rintro e w169 ⟨v728, rfl, ho0, hb⟩; refine ⟨_, rfl, ?_⟩; have n0_ := Aside0.mk (Kd.R_elder' (by (with_reducible repeat (first | apply Kd.R_alloc | apply Kd.R_drewN | apply Kd.R_drew)); exact (Kd.R_mono (Kd.R_far (p := ⟨gb726, 1, none⟩) (Kd.R_far (p := ⟨gb726, 0, none⟩) (Kd.R_types HO718.out BK726.out (by decide)) (fun _ hk => hk.2) (.slice Ao165 t719.length co165)) (fun _ hk => hk.2) (.slice Ao168 t722.length co168)) (fun _ h_ => h_.1))) (Kd.R_base ho0) hb); have n1_ := Aside0.mk (Kd.R_elder' (by (with_reducible repeat (first | apply Kd.R_alloc | apply Kd.R_drewN | apply Kd.R_drew)); exact (Kd.R_mono (Kd.R_far (p := ⟨gb726, 1, none⟩) (Kd.R_far (p := ⟨gb726, 0, none⟩) (Kd.R_types HO721.out BK726.out (by decide)) (fun _ hk => hk.2) (.slice Ao165 t719.length co165)) (fun _ hk => hk.2) (.slice Ao168 t722.length co168)) (fun _ h_ => h_.1))) (Kd.R_base ho0) hb); have n2_ := Aside0.mk (Kd.R_elder' (by (with_reducible repeat (first | apply Kd.R_alloc | apply Kd.R_drewN | apply Kd.R_drew)); exact (Kd.R_mono (Kd.R_far (p := ⟨gb726, 1, none⟩) (Kd.R_far (p := ⟨gb726, 0, none⟩) (Kd.R_types HO724.out BK726.out (by decide)) (fun _ hk => hk.2) (.slice Ao165 t719.length co165)) (fun _ hk => hk.2) (.slice Ao168 t722.length co168)) (fun _ h_ => h_.1))) (Kd.R_base ho0) hb); have n3_ := Aside0.mk (Kd.R_lower (Kd.R_new' (Kd.R_new' (Kd.R_new' ho0 (Kd.R_lt (by (with_reducible repeat (first | apply Kd.R_alloc | apply Kd.R_drewN | apply Kd.R_drew)); exact (Kd.R_mono (Kd.R_far (p := ⟨gb726, 1, none⟩) (Kd.R_far (p := ⟨gb726, 0, none⟩) (Kd.R_types HO718.out BK726.out (by decide)) (fun _ hk => hk.2) (.slice Ao165 t719.length co165)) (fun _ hk => hk.2) (.slice Ao168 t722.length co168)) (fun _ h_ => h_.1))))) (Kd.R_lt (by (with_reducible repeat (first | apply Kd.R_alloc | apply Kd.R_drewN | apply Kd.R_drew)); exact (Kd.R_mono (Kd.R_far (p := ⟨gb726, 1, none⟩) (Kd.R_far (p := ⟨gb726, 0, none⟩) (Kd.R_types HO721.out BK726.out (by decide)) (fun _ hk => hk.2) (.slice Ao165 t719.length co165)) (fun _ hk => hk.2) (.slice Ao168 t722.length co168)) (fun _ h_ => h_.1))))) (Kd.R_lt (by (with_reducible repeat (first | apply Kd.R_alloc | apply Kd.R_drewN | apply Kd.R_drew)); exact (Kd.R_mono (Kd.R_far (p := ⟨gb726, 1, none⟩) (Kd.R_far (p := ⟨gb726, 0, none⟩) (Kd.R_types HO724.out BK726.out (by decide)) (fun _ hk => hk.2) (.slice Ao165 t719.length co165)) (fun _ hk => hk.2) (.slice Ao168 t722.length co168)) (fun _ h_ => h_.1))))) (below_size (Qah GE715.out GE726.out))); have n4_ := Aside0.mk (blk_below (g := gb715) (o := .cells #[.slice A1_0 l1_0.length c1_0, .slice A1_1 l1_1.length c1_1] 52 (0, 0)) (by (with_reducible repeat (first | refine blk_drewN ?_ _ | refine blk_drew ?_ | refine blk_alloc ?_ _)); refine blk_far ?_ NB715_726.out _; (with_reducible repeat (first | refine blk_drewN ?_ _ | refine blk_drew ?_ | refine blk_alloc ?_ _)); refine blk_far ?_ NB715_726.out _; (with_reducible repeat (first | refine blk_drewN ?_ _ | refine blk_drew ?_ | refine blk_alloc ?_ _)); exact BK715.out) hb); have n5_ := Aside0.mk (blk_below (g := gb726) (o := .cells #[.slice Ao165 t719.length co165, .slice Ao168 t722.length co168] 53 (0, 0)) (by (with_reducible repeat (first | refine blk_drewN ?_ _ | refine blk_drew ?_ | refine blk_alloc ?_ _)); refine blk_put (cs := #[.slice Ao165 t719.length co165, .slice none 0 0]) ?_ 1 _ rfl; (with_reducible repeat (first | refine blk_drewN ?_ _ | refine blk_drew ?_ | refine blk_alloc ?_ _)); refine blk_put (cs := #[.slice none 0 0, .slice none 0 0]) ?_ 0 _ rfl; (with_reducible repeat (first | refine blk_drewN ?_ _ | refine blk_drew ?_ | refine blk_alloc ?_ _)); exact BK726.out) hb); have n6_ := Aside0.mk (below_step (Qah GE715.out GE726.out) hb); clear HO718; clear HO721; clear HO724; clear BK715; clear BK726; clear HB; have HO718 := n0_; have HO721 := n1_; have HO724 := n2_; have HO729 := n3_; have BK715 := n4_; have BK726 := n5_; have HB := n6_; clear n0_ n1_ n2_ n3_ n4_ n5_ n6_; (try clear hb); (try clear hb2); (try clear hk); (try clear hi); (try clear ho0); obtain ⟨Ao170, co170, eo170⟩ := Kd.R_slice HO729.out; subst eo170) | ((with_reducible refine gate_callee (f := 18) rfl ?_); refine goesL_ (some 25) rfl rfl Tryd.func18 (by kernel_rfl) rfl #[.slice Ao170 t727.length co170] rfl (Qls) ?_; (with_reducible refine (width_Width.calls (hGL := (by repeat (first | (with_reducible exact HGL.out) | (with_reducible exact GL_below HGL.out HB.out) | (refine GL_below HGL.out (Qaw)) | (with_reducible refine GL_alloc ?_ _) | (with_reducible refine GL_drewN ?_ _) | (with_reducible refine GL_drew ?_)))) k _ _ t727 t730 t731 _ ?side1 ?side2 A7.out).mono ?_); (case side1 => exact Qsc (Kd.R_reads' HO729.out).2.2); (case side2 => exact (Kd.R_reads' HO729.out).2.1); rintro e w171 ⟨rfl, hb⟩; refine ⟨_, rfl, ?_⟩; have n0_ := Aside0.mk (Kd.R_below (Qro HO718.out) hb); have n1_ := Aside0.mk (Kd.R_below (Qro HO721.out) hb); have n2_ := Aside0.mk (Kd.R_below (Qro HO724.out) hb); have n3_ := Aside0.mk (Kd.R_below (Qro HO729.out) hb); have n4_ := Aside0.mk (blk_below (g := gb715) (o := .cells #[.slice A1_0 l1_0.length c1_0, .slice A1_1 l1_1.length c1_1] 52 (0, 0)) (Qbl BK715.out) hb); have n5_ := Aside0.mk (blk_below (g := gb726) (o := .cells #[.slice Ao165 t719.length co165, .slice Ao168 t722.length co168] 53 (0, 0)) (Qbl BK726.out) hb); have n6_ := Aside0.mk (below_step (Qah GE715.out GE726.out) hb); clear HO718; clear HO721; clear HO724; clear HO729; clear BK715; clear BK726; clear HB; have HO718 := n0_; have HO721 := n1_; have HO724 := n2_; have HO729 := n3_; have BK715 := n4_; have BK726 := n5_; have HB := n6_; clear n0_ n1_ n2_ n3_ n4_ n5_ n6_; (try clear hb); (try clear hb2); (try clear hk); (try clear hi)) | (go_at_call 20; (with_reducible refine (lampblacklaw02_awake.calls (hGL := (by repeat (first | (with_reducible exact HGL.out) | (with_reducible exact GL_below HGL.out HB.out) | (refine GL_below HGL.out (Qaw)) | (with_reducible refine GL_alloc ?_ _) | (with_reducible refine GL_drewN ?_ _) | (with_reducible refine GL_drew ?_)))) k  t732 _ A159.out).mono ?_); rintro e w172 ⟨rfl, hb⟩; have n0_ := Aside0.mk (Kd.R_below (Qro HO718.out) hb); have n1_ := Aside0.mk (Kd.R_below (Qro HO721.out) hb); have n2_ := Aside0.mk (Kd.R_below (Qro HO724.out) hb); have n3_ := Aside0.mk (Kd.R_below (Qro HO729.out) hb); have n4_ := Aside0.mk (blk_below (g := gb715) (o := .cells #[.slice A1_0 l1_0.length c1_0, .slice A1_1 l1_1.length c1_1] 52 (0, 0)) (Qbl BK715.out) hb); have n5_ := Aside0.mk (blk_below (g := gb726) (o := .cells #[.slice Ao165 t719.length co165, .slice Ao168 t722.length co168] 53 (0, 0)) (Qbl BK726.out) hb); have n6_ := Aside0.mk (below_step (Qah GE715.out GE726.out) hb); clear HO718; clear HO721; clear HO724; clear HO729; clear BK715; clear BK726; clear HB; have HO718 := n0_; have HO721 := n1_; have HO724 := n2_; have HO729 := n3_; have BK715 := n4_; have BK726 := n5_; have HB := n6_; clear n0_ n1_ n2_ n3_ n4_ n5_ n6_; (try clear hb); (try clear hb2); (try clear hk); (try clear hi)))
    go_ret
    exact ⟨by first | rfl | (simp [errW_none, errW_some] <;> rfl) | (simp [*, errW_none, errW_some] <;> rfl), by repeat (first | (with_reducible first | exact HB.out | apply below_alloc | apply pw_below_drewN | apply below_drew1 | refine below_set ?_ GE715.out | refine below_set ?_ GE726.out) | exact HB.out)⟩
   ·rw [if_neg c158] at H
    have c158b0 : (t731 == 2) = false := beq_eq_false_iff_ne.mpr c158
    have c158b1 : (t731 != 2) = true := bne_iff_ne.mpr c158
    exact absurd ((Option.some.inj H).trans HRT.out) (by decide)
  ·rw [if_neg c157] at H
   have c157b0 : (t725 == 2) = false := beq_eq_false_iff_ne.mpr c157
   have c157b1 : (t725 != 2) = true := bne_iff_ne.mpr c157
   exact absurd ((Option.some.inj H).trans HRT.out) (by decide)
end
noncomputable section
mutual
def lampblackref02_IsBramble.l0 : Nat → List Int → List Int → List Int → Int → Int → Option (Bool)
 | 0, _, _, _, _, _ => none
 | k + 1, x0, x1, x9, x10, x11 => if x11 < x10 then (if 0 ≤ x11 then (if x11 < (x9.length : Int) then (if x11 ≥ 200 then (lampblackref02_IsBramble.j1 k x0 x1 x11 (rd x9 x11) x9 x10 x11 true) else ((lampblackref02_Connected.f k x0 (rd x9 x11)).bind fun t296 => (lampblackref02_IsBramble.j1 k x0 x1 x11 (rd x9 x11) x9 x10 x11 (!t296)))) else (none)) else (none)) else (some (decide ((x1.length : Int) > 0)))
def lampblackref02_IsBramble.j1 : Nat → List Int → List Int → Int → Int → List Int → Int → Int → Bool → Option (Bool)
 | 0, _, _, _, _, _, _, _, _ => none
 | k + 1, x0, x1, x5, x6, x9, x10, x11, x23 => if x23 = true then (some false) else (if 0 ≤ x5 then (if x5 ≤ (x1.length : Int) then (lampblackref02_IsBramble.l1 k x0 x1 x6 x9 x10 x11 (x1.take (x5 : Int).toNat) ((x1.take (x5 : Int).toNat).length : Int) 0) else (none)) else (none))
def lampblackref02_IsBramble.l1 : Nat → List Int → List Int → Int → List Int → Int → Int → List Int → Int → Int → Option (Bool)
 | 0, _, _, _, _, _, _, _, _, _ => none
 | k + 1, x0, x1, x6, x9, x10, x11, x26, x27, x28 => if x28 < x27 then (if 0 ≤ x28 then (if x28 < (x26.length : Int) then ((lampblackref02_Touch.f k x0 x6 (rd x26 x28)).bind fun t299 => (if t299 = true then (lampblackref02_IsBramble.l1 k x0 x1 x6 x9 x10 x11 x26 x27 (wrap64 (x28 + 1))) else (some false))) else (none)) else (none)) else (lampblackref02_IsBramble.l0 k x0 x1 x9 x10 (wrap64 (x11 + 1)))
end
end
noncomputable section
mutual
def lampblackref02_Cover.l0 : Nat → List Int → Int → Int → Int → Option (Int)
 | 0, _, _, _, _ => none
 | k + 1, x1, x5, x16, x17 => if x17 < x16 then ((lampblackref02_Size.f k x17).bind fun t300 => ((lampblackref02_Size.f k x5).bind fun t301 => (lampblackref02_Cover.l1 k x1 x5 x17 (decide (t300 < t301)) x16 x17 x1 (x1.length : Int) 0))) else (some x5)
def lampblackref02_Cover.l1 : Nat → List Int → Int → Int → Bool → Int → Int → List Int → Int → Int → Option (Int)
 | 0, _, _, _, _, _, _, _, _, _ => none
 | k + 1, x1, x5, x6, x7, x16, x17, x25, x26, x27 => if x27 < x26 then (if 0 ≤ x27 then (if x27 < (x25.length : Int) then (if x7 = true then (lampblackref02_Cover.l1 k x1 x5 x6 ((Go.bits .and .i64 (rd x25 x27) x6) != 0) x16 x17 x25 x26 (wrap64 (x27 + 1))) else (lampblackref02_Cover.l1 k x1 x5 x6 false x16 x17 x25 x26 (wrap64 (x27 + 1)))) else (none)) else (none)) else (if x7 = true then (lampblackref02_Cover.l0 k x1 x6 x16 (wrap64 (x17 + 1))) else (lampblackref02_Cover.l0 k x1 x5 x16 (wrap64 (x17 + 1))))
end
end
end Go.Proofs.YtoffehihicabcaaDoor.X
end
section
namespace Go.Proofs.YtoffehihicabcaaDoor.X
open Go.RowKit YtoffehihicabcaaDoorW.PrintWords YtoffehihicabcaaDoorW.PrintLast YtoffehihicabcaaDoorW.PrintMore
def cnt (x : Int) : Int := (width_count.f x).getD 0
end Go.Proofs.YtoffehihicabcaaDoor.X
end
section
namespace Go.Proofs.YtoffehihicabcaaDoor.X
open Go.RowKit YtoffehihicabcaaDoorW.PrintWords YtoffehihicabcaaDoorW.PrintLast YtoffehihicabcaaDoorW.PrintMore
attribute [local go_sem] max2_int min2_int max_two min_two max_three min_three max_four min_four
noncomputable section
end
noncomputable section
end
noncomputable section
end
noncomputable section
mutual
def lampblackref02_IsNarrow.l0 : Nat → List Int → List Int → Int → Int → List Int → List Int → List Int → List Int → Option (Bool)
 | 0, _, _, _, _, _, _, _, _ => none
 | k + 1, x0, x17, x18, x19, x434000, x434001, x435000, x435001 => if x19 < x18 then (if 0 ≤ x19 then (if x19 < (x17.length : Int) then (lampblackref02_IsNarrow.l1 k x0 x19 (rd x17 x19) false x17 x18 x19 x435000 (x435000.length : Int) 0 x434000 x434001 x435000 x435001) else (none)) else (none)) else ((lampblackref02_IsTree.f k x0 x434000 x434001).bind fun bt435 => (some bt435.2))
def lampblackref02_IsNarrow.l1 : Nat → List Int → Int → Int → Bool → List Int → Int → Int → List Int → Int → Int → List Int → List Int → List Int → List Int → Option (Bool)
 | 0, _, _, _, _, _, _, _, _, _, _, _, _, _, _ => none
 | k + 1, x0, x7, x8, x9, x17, x18, x19, x25, x26, x27, x434000, x434001, x435000, x435001 => if x27 < x26 then (if 0 ≤ x27 then (if x27 < (x25.length : Int) then (if x9 = true then (lampblackref02_IsNarrow.l1 k x0 x7 x8 true x17 x18 x19 x25 x26 (wrap64 (x27 + 1)) x434000 x434001 x435000 x435001) else (lampblackref02_IsNarrow.l1 k x0 x7 x8 (x8 == (rd x25 x27)) x17 x18 x19 x25 x26 (wrap64 (x27 + 1)) x434000 x434001 x435000 x435001)) else (none)) else (none)) else (lampblackref02_IsNarrow.l2 k x0 x7 x8 x9 x17 x18 x19 x434000 (x434000.length : Int) 0 x434000 x434001 x435000 x435001)
def lampblackref02_IsNarrow.l2 : Nat → List Int → Int → Int → Bool → List Int → Int → Int → List Int → Int → Int → List Int → List Int → List Int → List Int → Option (Bool)
 | 0, _, _, _, _, _, _, _, _, _, _, _, _, _, _ => none
 | k + 1, x0, x7, x8, x9, x17, x18, x19, x39, x40, x41, x434000, x434001, x435000, x435001 => if x41 < x40 then (if 0 ≤ x41 then (if x41 < (x39.length : Int) then (if x7 = x41 then (lampblackref02_IsNarrow.l2 k x0 x7 x8 x9 x17 x18 x19 x39 x40 (wrap64 (x41 + 1)) x434000 x434001 x435000 x435001) else (if (Go.bits .andNot .i64 x8 (rd x39 x41)) = 0 then (some false) else (lampblackref02_IsNarrow.l2 k x0 x7 x8 x9 x17 x18 x19 x39 x40 (wrap64 (x41 + 1)) x434000 x434001 x435000 x435001))) else (none)) else (none)) else (if x9 = true then (lampblackref02_IsNarrow.l0 k x0 x17 x18 (wrap64 (x19 + 1)) x434000 x434001 x435000 x435001) else (some false))
end
end
end Go.Proofs.YtoffehihicabcaaDoor.X
end
section
namespace Go.Proofs.YtoffehihicabcaaDoor.X
open Go.RowKit YtoffehihicabcaaDoorW.PrintWords YtoffehihicabcaaDoorW.PrintLast YtoffehihicabcaaDoorW.PrintMore YtoffehihicabcaaDoor.T
theorem list_any (l : List Int) : lampblacklaw02_list.f l = some (l.take 210) := by
 have hm : mn (l.length : Int) 210 = ((min l.length 210 : Nat) : Int) := mn_nat l.length 210
 have ht : l.take (min l.length 210) = l.take 210 := by
  by_cases h : l.length ≤ 210
  ·rw [List.take_of_length_le (by omega), List.take_of_length_le h]
  ·rw [Nat.min_eq_right (by omega)]
 unfold lampblacklaw02_list.f slices_Clone_int_int.f
 simp only [hm, Int.toNat_natCast]
 rw [if_pos (by omega), if_pos (by omega), ht]
 simp only [Option.bind_some, List.nil_append]
 rw [if_pos (by rw [List.length_take, List.length_nil]; omega)]
 rfl
theorem Of_eq (B P : List Int) : lampblacklaw02_Of.f B P = some (B.take 210, P.take 210) := by
 unfold lampblacklaw02_Of.f
 rw [list_any, list_any]
 rfl
theorem td_cut {G : List Nat} (B P : List Int) : (TD G (B.take 210) (P.take 210) ∧ B.take 210 = B ∧ P.take 210 = P) ∨ (¬ TD G (B.take 210) (P.take 210) ∧ ¬ TD G B P) ∨ (B.take 210 = B ∧ P.take 210 = P) := by
 by_cases hb : B.length ≤ 210
 ·by_cases hp : P.length ≤ 210
  ·exact .inr (.inr ⟨List.take_of_length_le hb, List.take_of_length_le hp⟩)
  ·refine .inr (.inl ⟨fun h => ?_, fun h => ?_⟩)
   ·have h1 := h.len; have h2 := h.most
    rw [List.length_take, List.length_take] at h1
    rw [List.length_take] at h2
    omega
   ·have h1 := h.len; have h2 := h.most; omega
 ·refine .inr (.inl ⟨fun h => ?_, fun h => ?_⟩)
  ·have h2 := h.most
   rw [List.length_take] at h2
   omega
  ·have h2 := h.most; omega
theorem td_take {G : List Nat} (B P : List Int) : (TD G (B.take 210) (P.take 210) ↔ TD G B P) ∧ (TD G B P → B.take 210 = B ∧ P.take 210 = P) := by
 rcases td_cut (G := G) B P with ⟨h, h1, h2⟩ | ⟨h1, h2⟩ | ⟨h1, h2⟩
 ·rw [h1, h2]; exact ⟨Iff.rfl, fun _ => ⟨rfl, rfl⟩⟩
 ·exact ⟨⟨fun h => absurd h h1, fun h => absurd h h2⟩, fun h => absurd h h2⟩
 ·rw [h1, h2]; exact ⟨Iff.rfl, fun _ => ⟨rfl, rfl⟩⟩
theorem Decompose_ev {G : List Nat} (hG : Gr 9 G) {W : Nat} (hW : IsWidth G W) : Ev (fun k => width_Decompose.f k (gi G)) (bagsL G (ordL G W) (ordL G W).length, parsL G (ordL G W) (ordL G W).length, 0) := by
 have hn := hG.most
 obtain ⟨o1, o2, o3, _⟩ := ordL_is hG hW
 have h1 : Ev (fun k => width_read.f k (gi G)) (gi G, true) := by
  have h := read_ev (gi G) (by rw [gi_length]; omega)
  rw [(chk_iff 9 (by omega) _).2 ⟨G, rfl, hG⟩] at h
  exact h
 unfold width_Decompose.f
 exact Ev.bind h1 (Ev.if_pos rfl (Ev.bind (decompose_ev hG hW o2 (by omega)) (Ev.some rfl)))
theorem Decompose_bad (g : List Int) (hl : g.length < 2 ^ 60) (h : chk 9 g = false) : Ev (fun k => width_Decompose.f k g) ([], [], 2) := by
 have h1 := read_ev g hl
 rw [h] at h1
 unfold width_Decompose.f
 exact Ev.bind h1 (Ev.if_neg (by simp) (Ev.some rfl))
section
variable {A PA B PB : List Int} {g : List Int}
end
end Go.Proofs.YtoffehihicabcaaDoor.X
end
section
namespace Go.Proofs.YtoffehihicabcaaDoor.T
open Go.RowKit YtoffehihicabcaaDoorW.PrintWords YtoffehihicabcaaDoorW.PrintLast YtoffehihicabcaaDoorW.PrintMore
theorem free_colour (l : List Nat) (k : Nat) (h : l.length ≤ k) : ∃ x, x < k + 1 ∧ x ∉ l := by
 apply Classical.byContradiction
 intro no
 have hs : ∀ x ∈ List.range (k + 1), x ∈ l := fun x hx => Classical.byContradiction fun hn => no ⟨x, List.mem_range.1 hx, hn⟩
 have := nodup_le List.nodup_range hs
 rw [List.length_range] at this
 omega
theorem elim_colour {V : Nat → Prop} {adj : Nat → Nat → Prop} {k : Nat} {S : Nat → Prop} (hs : ∀ x y, adj x y → adj y x) (hi : ∀ x, ¬ adj x x) (hV : ∀ x y, adj x y → V y) (h : Elim V adj k S) : ∀ f : Nat → Nat,
  (∀ u, V u → ¬ S u → f u < k + 1) → (∀ u v, V u → V v → ¬ S u → ¬ S v → adj u v → f u ≠ f v) → ∃ g : Nat → Nat, (∀ u, V u → g u < k + 1) ∧ ∀ u v, V u → V v → adj u v → g u ≠ g v := by
 induction h with
 | nil => exact fun f h1 h2 => ⟨f, fun u hu => h1 u hu id, fun u v hu hv ha => h2 u v hu hv id id ha⟩
 | @snoc S v _ hv hsv ha ih =>
  intro f h1 h2
  obtain ⟨l, hl, hm⟩ := ha
  obtain ⟨x, hx, hxl⟩ := free_colour (l.map f) k (by simpa using hl)
  have key : ∀ u, adj v u → ¬ S u → x ≠ f u := fun u hau hu e => by
   have huv : u ≠ v := fun e => hi v (e ▸ hau)
   exact hxl (List.mem_map.2 ⟨u, hm u ⟨.one hau, hu, huv⟩, e.symm⟩)
  refine ih (fun u => if u = v then x else f u) (fun u hu hn => ?_) (fun u w hu hw hnu hnw hadj => ?_)
  ·by_cases e : u = v
   ·simp only [if_pos e]; exact hx
   ·simp only [if_neg e]
    exact h1 u hu fun h => h.elim hn e
  ·by_cases e : u = v
   ·by_cases e2 : w = v
    ·rw [e, e2] at hadj; exact absurd hadj (hi v)
    ·simp only [if_pos e, if_neg e2]
     exact key w (e ▸ hadj) hnw
   ·by_cases e2 : w = v
    ·simp only [if_neg e, if_pos e2]
     exact fun h => key u (hs _ _ (e2 ▸ hadj)) hnu h.symm
    ·simp only [if_neg e, if_neg e2]
     exact h2 u w hu hw (fun h => h.elim hnu e) (fun h => h.elim hnw e2) hadj
theorem code_col (f : Nat → Nat) (hf : ∀ v, f v < 16) (u : Nat) : ∀ (l : List Nat) (o : Nat), l.Nodup → (∀ v ∈ l, col o v = 0) → col (l.foldl (fun o v => putc o v (f v)) o) u = if u ∈ l then f u else col o u
 | [], o, _, _ => by simp
 | v :: l, o, hnd, h => by
  obtain ⟨hv, hnd2⟩ := List.nodup_cons.1 hnd
  have h0 := h v List.mem_cons_self
  rw [List.foldl_cons, code_col f hf u l _ hnd2 fun w hw => by
   rw [col_put_other (hf v) (show w ≠ v from fun e => hv (e ▸ hw))]
   exact h w (List.mem_cons_of_mem _ hw)]
  by_cases hu : u ∈ l
  ·rw [if_pos hu, if_pos (List.mem_cons_of_mem _ hu)]
  ·rw [if_neg hu]
   by_cases e : u = v
   ·subst e
    rw [if_pos List.mem_cons_self, col_put (hf u) h0]
   ·rw [if_neg (by rw [List.mem_cons, not_or]; exact ⟨e, hu⟩), col_put_other (hf v) e]
theorem num_pos_of {G : List Nat} (hG : Gr 9 G) {K : Nat} (hK : K ≤ 16) (g : Nat → Nat) (h1 : ∀ u, u < G.length → g u < K) (h2 : ∀ u v, u < G.length → v < G.length → Adj G u v → g u ≠ g v) : 1 ≤ num G K 0 0 (els (2 ^ G.length - 1) 9) := by
 have h29 : 2 ^ G.length ≤ 2 ^ 9 := Nat.pow_le_pow_right (by omega) hG.most
 have hp := Nat.two_pow_pos G.length
 have hs : 2 ^ G.length - 1 < 512 := by omega
 obtain ⟨f, hf⟩ : ∃ f : Nat → Nat, f = fun v => if v < G.length then g v else 0 := ⟨_, rfl⟩
 have hf16 : ∀ v, f v < 16 := fun v => by
  rw [hf]
  show (if v < G.length then g v else 0) < 16
  by_cases hv : v < G.length
  ·rw [if_pos hv]; have := h1 v hv; omega
  ·rw [if_neg hv]; omega
 have hfg : ∀ v, v < G.length → f v = g v := fun v hv => by rw [hf]; exact if_pos hv
 have hc := fun u => code_col f hf16 u (els (2 ^ G.length - 1) 9) 0 (els_nodup _ 9) (fun v _ => col_zero v)
 have hm : ∀ u, u ∈ els (2 ^ G.length - 1) 9 ↔ u < G.length := fun u => by
  rw [mem_els, Nat.testBit_two_pow_sub_one, decide_eq_true_eq]
  have := hG.most
  omega
 have hin : (els (2 ^ G.length - 1) 9).foldl (fun o v => putc o v (f v)) 0 ∈ clL G K 0 0 (els (2 ^ G.length - 1) 9) := by
  refine (mem_bag hG hK hs _).2 ⟨fun u hu => ?_, fun v hv => ?_, fun u v hu hv ha => ?_⟩
  ·rw [hc, if_neg fun h => hu ((all_bit _ u).2 ((hm u).1 h)), col_zero]
  ·have hv := (all_bit _ v).1 hv
   rw [hc, if_pos ((hm v).2 hv), hfg v hv]
   exact h1 v hv
  ·have hu := (all_bit _ u).1 hu
   have hv := (all_bit _ v).1 hv
   rw [hc, hc, if_pos ((hm u).2 hu), if_pos ((hm v).2 hv), hfg u hu, hfg v hv]
   exact h2 u v hu hv (hG.adj_symm ha)
 unfold num
 exact List.length_pos_of_mem hin
theorem num_width {G : List Nat} (hG : Gr 9 G) {W K : Nat} (hW : Elim (fun u => u < G.length) (Adj G) W (fun u => u < G.length)) (hK : K ≤ 16) (hWK : W + 1 ≤ K) : 1 ≤ num G K 0 0 (els (2 ^ G.length - 1) 9) := by
 obtain ⟨g, g1, g2⟩ := elim_colour (V := fun u => u < G.length) (adj := Adj G) (fun x y h => hG.adj_symm h) (fun x => hG.adj_irr) (fun x y h => hG.adj_lt h) hW (fun _ => 0) (fun u hu hn => absurd hu hn) (fun u v hu hv hn => absurd hu hn)
 exact num_pos_of hG hK g (fun u hu => by have := g1 u hu; omega) g2
end Go.Proofs.YtoffehihicabcaaDoor.T
end
section
namespace Go.Proofs.YtoffehihicabcaaDoor.X
open Go.RowKit YtoffehihicabcaaDoorW.PrintWords YtoffehihicabcaaDoorW.PrintLast YtoffehihicabcaaDoorW.PrintMore YtoffehihicabcaaDoor.T
theorem Count_yes {G : List Nat} (hG : Gr 9 G) {B P : List Int} (h : TD G B P) {c : Int} (h0 : 0 ≤ c) (h6 : c ≤ 6) : width_Count.f (gi G) B P c = some ((numG G c.toNat : Int), 0) := by
 unfold width_Count.f
 rw [if_pos ((chk_iff 9 (by omega) _).2 ⟨G, rfl, hG⟩), gi_toNatN, if_pos ⟨(treeB_iff hG B P).2 h, h0, h6⟩]
theorem Count_no {G : List Nat} (hG : Gr 9 G) {B P : List Int} {c : Int} (h : ¬ (TD G B P ∧ 0 ≤ c ∧ c ≤ 6)) : width_Count.f (gi G) B P c = some (0, 2) := by
 unfold width_Count.f
 rw [if_pos ((chk_iff 9 (by omega) _).2 ⟨G, rfl, hG⟩), gi_toNatN, if_neg (fun hx => h ⟨(treeB_iff hG B P).1 hx.1, hx.2⟩)]
theorem numG_pos {G : List Nat} (hG : Gr 9 G) {W : Nat} (hW : IsWidth G W) {K : Nat} (hK : K ≤ 16) (hWK : W + 1 ≤ K) : 1 ≤ numG G K := num_width hG ((isWidth_iff.1 hW W).1 (Nat.le_refl _)) hK hWK
end Go.Proofs.YtoffehihicabcaaDoor.X
end
section
namespace Go.Proofs.YtoffehihicabcaaDoor.Pure
open Go.RowKit YtoffehihicabcaaDoorW.PrintWords YtoffehihicabcaaDoorW.PrintLast YtoffehihicabcaaDoorW.PrintMore YtoffehihicabcaaDoor.T YtoffehihicabcaaDoor.X
theorem colours_j0 {G : List Nat} (hG : Gr 9 G) (c : Int) (B P B1 P1 : List Int) (e : lampblacklaw02_Few.f (gi G) = some (gi G)) (h1 : TD G B1 P1) : Ev (fun k => lampblacklaw02_WidthColours.j0 k (gi G) c 0 B P B1 P1) true := by
 obtain ⟨t1, t2⟩ := td_take (G := G) B P
 refine Ev.step (fun k => by rw [lampblacklaw02_WidthColours.j0]) (Ev.bind1 e ?_)
 by_cases hc : 0 ≤ c ∧ c ≤ 6
 ·refine Ev.bind1 (Count_yes hG h1 hc.1 hc.2) (Ev.bind1 e (Ev.bind1 (Of_eq B P) ?_))
  by_cases ht : TD G B P
  ·rw [(t2 ht).1, (t2 ht).2]
   exact Ev.bind1 (Count_yes hG ht hc.1 hc.2) (Ev.if_pos rfl (Ev.if_neg (by simp) (Ev.if_pos rfl (Ev.if_pos rfl (Ev.if_pos rfl (Ev.bind awake_ev (Ev.some rfl)))))))
  ·exact Ev.bind1 (Count_no hG fun h => ht (t1.1 h.1)) (Ev.if_pos rfl (Ev.if_pos rfl (Ev.if_pos rfl (Ev.bind awake_ev (Ev.some rfl)))))
 ·exact Ev.bind1 (Count_no hG fun h => hc h.2) (Ev.bind1 e (Ev.bind1 (Of_eq B P) (Ev.bind1 (Count_no hG fun h => hc h.2) (Ev.if_pos rfl (Ev.if_pos rfl (Ev.if_neg (by simp) (Ev.if_pos rfl (Ev.bind awake_ev (Ev.some rfl)))))))))
theorem colours_law (g B P : List Int) (c : Int) (hg : g.length < 2 ^ 44) : Ev (fun k => lampblacklaw02_WidthColours.f k g B P c) true := by
 obtain ⟨h, e, e1, e2, e3⟩ := few_eq g hg
 unfold lampblacklaw02_WidthColours.f
 refine Ev.bind1 e ?_
 by_cases hc : chk 9 g = true
 ·obtain ⟨G, rfl, hG⟩ := (chk_iff 9 (by omega) _).1 hc
  rw [e1 hc] at e ⊢
  obtain ⟨W, hW, hE⟩ := Width_ev G hG
  obtain ⟨o1, o2, o3, o4⟩ := ordL_is hG hW
  have htd := decomp_td hG (⟨o1, o2, o3⟩ : OrdL G (ordL G W))
  refine Ev.bind (Decompose_ev hG hW) (Ev.bind1 e (Ev.bind hE (Ev.if_pos rfl ?_)))
  by_cases h6 : (W : Int) < 6
  ·have hw1 : wrap64 ((W : Int) + 1) = ((W + 1 : Nat) : Int) := wrap_succ W (by omega)
   refine Ev.if_pos h6 (Ev.bind1 e ?_)
   have hcy := Count_yes hG htd (c := ((W + 1 : Nat) : Int)) (by omega) (by omega)
   rw [Int.toNat_natCast] at hcy
   have hp := numG_pos hG hW (K := W + 1) (by omega) (Nat.le_refl _)
   have hcy2 : width_Count.f (gi G) (bagsL G (ordL G W) (ordL G W).length) (parsL G (ordL G W) (ordL G W).length) (wrap64 ((W : Int) + 1)) = some ((numG G (W + 1) : Int), 0) := by rw [hw1]; exact hcy
   refine Ev.bind1 hcy2 (Ev.if_pos rfl (Ev.if_neg ?_ (colours_j0 hG c B P _ _ e htd)))
   show ¬ (numG G (W + 1) : Int) < 1
   omega
  ·exact Ev.if_neg h6 (colours_j0 hG c B P _ _ e htd)
 ·have hc' : chk 9 g = false := by simpa using hc
  exact Ev.bind (Decompose_bad h (by omega) (e2 hc')) (Ev.bind1 e (Ev.bind (Width_bad h (by omega) (e2 hc')) (Ev.if_neg (by simp) (Ev.if_pos rfl (Ev.if_pos rfl (Ev.bind awake_ev (Ev.some rfl)))))))
theorem WidthColours : ∀ (l0 l1 l2 : List Int) (a : Int), l0.length ≤ maxLen → l0.length * 8 ≤ 140737488351232 → (∀ x ∈ l0, (Lit.int .i64 x).wf = true) → l1.length ≤ maxLen → l2.length ≤ maxLen → (Lit.int .i64 a).wf = true → ∃ k, lampblacklaw02_WidthColours.f k l0 l1 l2 a = some true := by
 intro g B P c _ hg _ _ _ _
 exact Ev.rounds (colours_law g B P c (by omega))
end Go.Proofs.YtoffehihicabcaaDoor.Pure
end
section
namespace Go.Proofs.YtoffehihicabcaaDoor.X
open Go.RowKit Go.ChangeShapes Go.WideShapes
def RowI (w : World) (a : Option Addr) (len cap : Nat) (zs : List Int) : Prop :=
 (a = none ∧ len = 0 ∧ cap = 0 ∧ zs = []) ∨ ∃ x, a = some x ∧ len ≤ cap ∧ cap ≤ maxLen ∧ zs.length = cap ∧ (∀ i, i < zs.length → w.cell? (x.add i) = some (.int .i64 (zs.getD i 0))) ∧ ∀ n ∈ zs, (Lit.int .i64 n).wf = true
section
variable {H : Type} {enc : TypeId × Value → H} {P : Program} {w : World} {base : Nat} {spare : Nat → Bool} {held : Bool}
theorem open_rowI {t e : TypeId} {fuel : Nat} {c : Value} {x : DataW H × List MemPlace} (hsp : ∀ b, spare b = true) (ht : P.underlying t = some (.slice e)) (he : P.underlying e = some (.int .i64)) (hc : P.cellsOf e = 1)
  (h : DataW.trod enc P w base spare held fuel t [c] = some x) : ∃ a len cap zs, c = .slice a len cap ∧ RowI w a len cap zs := by
 rcases open_ints ht he hc h with ⟨hcs, _⟩ | ⟨ad, l, cp, zs, hcs, _, hl, hm, hz, _, hcell, hwz⟩
 ·simp at hcs
  exact ⟨none, 0, 0, [], hcs, .inl ⟨rfl, rfl, rfl, rfl⟩⟩
 ·simp at hcs
  exact ⟨some ad, l, cp, zs, hcs, .inr ⟨ad, rfl, hl, hm, by rw [hz, hsp]; rfl, hcell, hwz⟩⟩
theorem open_tree {t : TypeId} (e : TypeId) {f0 f1 : Field} {v : Value} {d : DataW H} {ps : List MemPlace} (hsp : ∀ b, spare b = true) (ht : P.underlying t = some (.struct #[f0, f1])) (h0 : P.underlying f0.type = some (.slice e)) (h1 : P.underlying f1.type = some (.slice e)) (he : P.underlying e = some (.int .i64)) (hc : P.cellsOf e = 1)
  (hC : P.cellsOf t = 2) (o0 : f0.offset = 0) (o1 : f1.offset = 1) (c0 : P.cellsOf f0.type = 1) (c1 : P.cellsOf f1.type = 1) (hv : ∃ cs, v = .agg cs ∧ cs.size = P.cellsOf t) (h : DataW.Trod enc P w base spare held t v d ps) :
  ∃ a0 n0 k0 z0 a1 n1 k1 z1, v = .agg #[.slice a0 n0 k0, .slice a1 n1 k1] ∧ RowI w a0 n0 k0 z0 ∧ RowI w a1 n1 k1 z1 := by
 obtain ⟨cs, rfl, hs⟩ := hv
 obtain ⟨fuel, hf⟩ := h
 obtain ⟨xs, n, _, _, hl, hxl, hf⟩ := DataW.trod_struct ht hf
 rw [hC] at hs
 obtain ⟨l⟩ := cs
 match l, hs with
 | [u0, u1], _ =>
  have g0 := hf 0 f0 rfl
  have g1 := hf 1 f1 rfl
  rw [o0, c0] at g0
  rw [o1, c1] at g1
  have y0 : xs[0]? = some (xs[0]'(by rw [hxl]; show 0 < 2; omega)) := List.getElem?_eq_getElem _
  have y1 : xs[1]? = some (xs[1]'(by rw [hxl]; show 1 < 2; omega)) := List.getElem?_eq_getElem _
  obtain ⟨a0, n0, k0, z0, e0, r0⟩ := open_rowI (c := u0) hsp h0 he hc (g0.trans y0)
  obtain ⟨a1, n1, k1, z1, e1, r1⟩ := open_rowI (c := u1) hsp h1 he hc (g1.trans y1)
  subst e0
  subst e1
  exact ⟨a0, n0, k0, z0, a1, n1, k1, z1, rfl, r0, r1⟩
end
end Go.Proofs.YtoffehihicabcaaDoor.X
end
