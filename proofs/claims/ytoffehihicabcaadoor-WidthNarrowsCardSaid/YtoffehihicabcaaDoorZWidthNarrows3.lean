/- Part 3 of what WidthNarrows rests on: contracts of the functions that it reaches, and what they compute, in plain words. -/
import Derived.Test.YtoffehihicabcaaDoorZWidthNarrows0
import Derived.Test.YtoffehihicabcaaDoorZWidthNarrows1
import Derived.Test.YtoffehihicabcaaDoorZWidthNarrows2
import Derived.Outline
import Derived.ChangeSlices
import Derived.ChangeArms
import Derived.WideShapes
set_option linter.unusedVariables false
set_option linter.unusedSimpArgs false
section
namespace Go.Proofs.YtoffehihicabcaaDoor.X
open Go.RowKit YtoffehihicabcaaDoorW.PrintWords YtoffehihicabcaaDoorW.PrintLast YtoffehihicabcaaDoorW.PrintMore
attribute [local go_sem] max2_int min2_int max_two min_two max_three min_three max_four min_four
noncomputable section
def lampblacklaw02_WidthNarrows.f (k : Nat) (l0 : List Int) (l1_0 : List Int) (l1_1 : List Int) : Option (Bool) := (lampblacklaw02_Few.f l0).bind fun t443 => ((lampblacklaw02_Of.f l1_0 l1_1).bind fun bt446 => ((width_Narrow.f t443 bt446.1 bt446.2).bind fun bt452 => ((lampblacklaw02_fine.f k l0 l1_0 l1_1).bind fun t460 => (if t460 = true then (if bt452.2.2 = 0 then ((lampblacklaw02_own.f bt452.1 bt452.2.1).bind fun bt461 => ((lampblackref02_IsNarrow.f k l0 bt461.1 bt461.2 l1_0 l1_1).bind fun t467 => (if t467 = true then ((lampblacklaw02_awake.f k).bind fun t468 => (some t468)) else (some false)))) else (some false)) else ((lampblacklaw02_none.f bt452.1 bt452.2.1).bind fun t469 => (if t469 = true then (if bt452.2.2 = 2 then ((lampblacklaw02_awake.f k).bind fun t470 => (some t470)) else (some false)) else (some false)))))))
def lampblacklaw02_WidthNarrows.T1 : Bool × List (List Nat × List Nat) := (true, [([], []), ([0], [0]), ([], []), ([2, 1], [2]), ([1, 3, 3], [1, 3]), ([4], [4]), ([5], [5]), ([5], [5]), ([], []), ([8, 6, 4, 0, 1, 2, 3, 4, 5, 6, 8], [6, 8]), ([7, 9, 0, 1, 2, 3, 4, 5, 6, 7, 8, 9], [7])])
def lampblacklaw02_WidthNarrows.B1 : List Nat := [0, 1, 0, 7, 15, 31, 63, 63, 0, 383, 1023]
theorem lampblacklaw02_WidthNarrows.tab1 : rtab .any (opsOf Tryd.f9 1) = lampblacklaw02_WidthNarrows.T1 := by kernel_rfl
theorem lampblacklaw02_WidthNarrows.bits1 : waitsOk lampblacklaw02_WidthNarrows.T1.2 lampblacklaw02_WidthNarrows.B1 = true := by kernel_rfl
def lampblacklaw02_WidthNarrows.T4 : Bool × List (List Nat × List Nat) := (true, [([], []), ([0], [0]), ([1], [1]), ([2], [2]), ([2], [2]), ([4, 2, 2], [2, 4]), ([2], [2]), ([3, 5, 6, 5, 2], [2, 3, 5, 6]), ([2, 7], [2, 7]), ([8, 7], [8]), ([9, 9], [9]), ([9, 10], [9, 10]), ([11, 10, 0, 1, 2, 3, 4, 5, 6, 7, 8, 9, 10, 11], [11])])
def lampblacklaw02_WidthNarrows.B4 : List Nat := [0, 1, 3, 7, 7, 23, 7, 127, 255, 511, 1023, 2047, 4095]
theorem lampblacklaw02_WidthNarrows.tab4 : rtab .any (opsOf Tryd.f9 4) = lampblacklaw02_WidthNarrows.T4 := by kernel_rfl
theorem lampblacklaw02_WidthNarrows.bits4 : waitsOk lampblacklaw02_WidthNarrows.T4.2 lampblacklaw02_WidthNarrows.B4 = true := by kernel_rfl
set_option maxHeartbeats 8000000 in
set_option maxRecDepth 100000 in
theorem lampblacklaw02_WidthNarrows.calls (k : Nat) (A0 : Option Addr) (c0 : Nat) (l0 : List Int) (A1_0 : Option Addr) (c1_0 : Nat) (l1_0 : List Int) (A1_1 : Option Addr) (c1_1 : Nat) (l1_1 : List Int) (r : Bool) (w : World) (hGL : GL w) (hr0 : Kd.C (Kd.int .i64) w A0 l0.length l0) (hc0 : l0.length ≤ c0) (hr1_0 : Kd.C (Kd.int .i64) w A1_0 l1_0.length l1_0) (hc1_0 : l1_0.length ≤ c1_0) (hr1_1 : Kd.C (Kd.int .i64) w A1_1 l1_1.length l1_1) (hc1_1 : l1_1.length ≤ c1_1) (h : lampblacklaw02_WidthNarrows.f k l0 l1_0 l1_1 = some r) (hrt : r = true) :
  Calls Tryd.prog 9 #[.slice A0 l0.length c0, .agg #[.slice A1_0 l1_0.length c1_0, .slice A1_1 l1_1.length c1_1]] w fun e w' => e = .returned (.bool r) ∧ Below w.heap.size w w' := by
 have HRT := Aside0.mk hrt
 clear hrt
 have HGL := Aside0.mk hGL
 clear hGL
 have hu52 := Tryd.underlying52
 have hu53 := Tryd.underlying53
 have HR0 := Aside0.mk hr0
 have HC0 := Aside0.mk hc0
 clear hr0 hc0
 have HR1_0 := Aside0.mk hr1_0
 have HC1_0 := Aside0.mk hc1_0
 clear hr1_0 hc1_0
 have HR1_1 := Aside0.mk hr1_1
 have HC1_1 := Aside0.mk hc1_1
 clear hr1_1 hc1_1
 have HB := Aside0.mk (Below.refl w.heap.size w)
 have H : ((lampblacklaw02_Few.f l0).bind fun t443 => ((lampblacklaw02_Of.f l1_0 l1_1).bind fun bt446 => ((width_Narrow.f t443 bt446.1 bt446.2).bind fun bt452 => ((lampblacklaw02_fine.f k l0 l1_0 l1_1).bind fun t460 => (if t460 = true then (if bt452.2.2 = 0 then ((lampblacklaw02_own.f bt452.1 bt452.2.1).bind fun bt461 => ((lampblackref02_IsNarrow.f k l0 bt461.1 bt461.2 l1_0 l1_1).bind fun t467 => (if t467 = true then ((lampblacklaw02_awake.f k).bind fun t468 => (some t468)) else (some false)))) else (some false)) else ((lampblacklaw02_none.f bt452.1 bt452.2.1).bind fun t469 => (if t469 = true then (if bt452.2.2 = 2 then ((lampblacklaw02_awake.f k).bind fun t470 => (some t470)) else (some false)) else (some false)))))))) = some r := h
 clear h
 replace H := Option.bind_eq_some_iff.mp H
 obtain ⟨t443, A30, H⟩ := H
 replace H : ((lampblacklaw02_Of.f l1_0 l1_1).bind fun bt446 => ((width_Narrow.f t443 bt446.1 bt446.2).bind fun bt452 => ((lampblacklaw02_fine.f k l0 l1_0 l1_1).bind fun t460 => (if t460 = true then (if bt452.2.2 = 0 then ((lampblacklaw02_own.f bt452.1 bt452.2.1).bind fun bt461 => ((lampblackref02_IsNarrow.f k l0 bt461.1 bt461.2 l1_0 l1_1).bind fun t467 => (if t467 = true then ((lampblacklaw02_awake.f k).bind fun t468 => (some t468)) else (some false)))) else (some false)) else ((lampblacklaw02_none.f bt452.1 bt452.2.1).bind fun t469 => (if t469 = true then (if bt452.2.2 = 2 then ((lampblacklaw02_awake.f k).bind fun t470 => (some t470)) else (some false)) else (some false))))))) = some r := H
 have A3 := Aside0.mk A30
 clear A30
 replace H := Option.bind_eq_some_iff.mp H
 obtain ⟨⟨t446, t449⟩, A40, H⟩ := H
 replace H : ((width_Narrow.f t443 t446 t449).bind fun bt452 => ((lampblacklaw02_fine.f k l0 l1_0 l1_1).bind fun t460 => (if t460 = true then (if bt452.2.2 = 0 then ((lampblacklaw02_own.f bt452.1 bt452.2.1).bind fun bt461 => ((lampblackref02_IsNarrow.f k l0 bt461.1 bt461.2 l1_0 l1_1).bind fun t467 => (if t467 = true then ((lampblacklaw02_awake.f k).bind fun t468 => (some t468)) else (some false)))) else (some false)) else ((lampblacklaw02_none.f bt452.1 bt452.2.1).bind fun t469 => (if t469 = true then (if bt452.2.2 = 2 then ((lampblacklaw02_awake.f k).bind fun t470 => (some t470)) else (some false)) else (some false)))))) = some r := H
 have A4 := Aside0.mk A40
 clear A40
 replace H := Option.bind_eq_some_iff.mp H
 obtain ⟨⟨t452, t455, t458⟩, A50, H⟩ := H
 replace H : ((lampblacklaw02_fine.f k l0 l1_0 l1_1).bind fun t460 => (if t460 = true then (if t458 = 0 then ((lampblacklaw02_own.f t452 t455).bind fun bt461 => ((lampblackref02_IsNarrow.f k l0 bt461.1 bt461.2 l1_0 l1_1).bind fun t467 => (if t467 = true then ((lampblacklaw02_awake.f k).bind fun t468 => (some t468)) else (some false)))) else (some false)) else ((lampblacklaw02_none.f t452 t455).bind fun t469 => (if t469 = true then (if t458 = 2 then ((lampblacklaw02_awake.f k).bind fun t470 => (some t470)) else (some false)) else (some false))))) = some r := H
 have A5 := Aside0.mk A50
 clear A50
 replace H := Option.bind_eq_some_iff.mp H
 obtain ⟨t460, A60, H⟩ := H
 replace H : (if t460 = true then (if t458 = 0 then ((lampblacklaw02_own.f t452 t455).bind fun bt461 => ((lampblackref02_IsNarrow.f k l0 bt461.1 bt461.2 l1_0 l1_1).bind fun t467 => (if t467 = true then ((lampblacklaw02_awake.f k).bind fun t468 => (some t468)) else (some false)))) else (some false)) else ((lampblacklaw02_none.f t452 t455).bind fun t469 => (if t469 = true then (if t458 = 2 then ((lampblacklaw02_awake.f k).bind fun t470 => (some t470)) else (some false)) else (some false)))) = some r := H
 have A6 := Aside0.mk A60
 clear A60
 by_cases c7 : t460 = true
 ·subst c7
  have H1 : (if t458 = 0 then ((lampblacklaw02_own.f t452 t455).bind fun bt461 => ((lampblackref02_IsNarrow.f k l0 bt461.1 bt461.2 l1_0 l1_1).bind fun t467 => (if t467 = true then ((lampblacklaw02_awake.f k).bind fun t468 => (some t468)) else (some false)))) else (some false)) = some r := by rw [if_pos rfl] at H; exact H
  clear H
  have H := H1
  clear H1
  by_cases c8 : t458 = 0
  ·rw [if_pos c8] at H
   have c8b0 : (t458 == 0) = true := beq_iff_eq.mpr c8
   have c8b1 : (t458 != 0) = false := bne_eq_false_iff_eq.mpr c8
   clear c8
   replace H := Option.bind_eq_some_iff.mp H
   obtain ⟨⟨t461, t464⟩, A90, H⟩ := H
   replace H : ((lampblackref02_IsNarrow.f k l0 t461 t464 l1_0 l1_1).bind fun t467 => (if t467 = true then ((lampblacklaw02_awake.f k).bind fun t468 => (some t468)) else (some false))) = some r := H
   have A9 := Aside0.mk A90
   clear A90
   replace H := Option.bind_eq_some_iff.mp H
   obtain ⟨t467, A100, H⟩ := H
   replace H : (if t467 = true then ((lampblacklaw02_awake.f k).bind fun t468 => (some t468)) else (some false)) = some r := H
   have A10 := Aside0.mk A100
   clear A100
   by_cases c11 : t467 = true
   ·subst c11
    have H1 : ((lampblacklaw02_awake.f k).bind fun t468 => (some t468)) = some r := by rw [if_pos rfl] at H; exact H
    clear H
    have H := H1
    clear H1
    replace H := Option.bind_eq_some_iff.mp H
    obtain ⟨t468, A120, H⟩ := H
    replace H : (some t468) = some r := H
    have A12 := Aside0.mk A120
    clear A120
    clear HRT
    obtain rfl := Option.some.inj H
    go_enter Tryd.func9, Tryd.ntmps9
    try go_wp2_with (first | ((with_reducible refine gate_dst (N := 3) rfl ?_); refine box_event ?hg (N := 3) ?hd (cs := #[.slice A1_0 l1_0.length c1_0, .slice A1_1 l1_1.length c1_1]) (t := 52) ?hr ?_; (case hd => rfl); (case hg => rfl); (case hr => first | (go_simp; done) | (go_simp; rfl)); intro gb442 hg w13 hbox hb; have n0_ := Aside0.mk (below_step (Qaw) hb); have n1_ := Aside0.mk (hbox); have n2_ := Aside0.mk ((by rw [hg]; exact (below_size (Qaw)) : w.heap.size ≤ gb442)); have n3_ := Aside0.mk ((by rw [hg]; exact (below_size (Qaw)) : w.heap.size ≤ gb442)); clear HB; have HB := n0_; have BK442 := n1_; have GW442 := n2_; have GE442 := n3_; clear n0_ n1_ n2_ n3_; clear hb hbox hg))
    have n0_ := Aside0.mk (blk_drew BK442.out)
    have n1_ := Aside0.mk (below_drew1 HB.out)
    clear BK442
    clear HB
    have BK442 := n0_
    have HB := n1_
    clear n0_ n1_
    refine start_ (n := 11) (S := fun w' => w'.cell? ⟨gb442, 0, none⟩ = some (.slice A1_0 l1_0.length c1_0) ∧ w'.cell? ⟨gb442, 1, none⟩ = some (.slice A1_1 l1_1.length c1_1)) (ds := []) (Qbz 11 0) (by kernel_rfl) rfl rfl ⟨(blk_cell BK442.out 0).trans rfl, (blk_cell BK442.out 1).trans rfl⟩ (fun hHeld => ?_); refine with_tabW lampblacklaw02_WidthNarrows.tab1 lampblacklaw02_WidthNarrows.bits1 (fun HT_ HW_ => ?_)
    generalize w13.drew = w14 at BK442 HB hHeld ⊢
    refine pure_ (i := 0) (N := some 8) (v := ?_) (a' := ?_) (Qbz 11 1) rfl rfl (Qao) (fun _ _ _ h => h) (Or.inl ⟨by rfl, ?_⟩) ?_ ?_
    rotate_left
    ·intro w'
     go_simp
     with_reducible rfl
    rotate_left
    ·simp only [Act.put, Qp1, Qp2, Qp3, i64_w, i32_w]
     rfl
    refine take_ (i := 2) (N := some 10) (v := ?_) (a' := ?_) (Qbz 11 5) rfl rfl (take_ofW HT_.out HW_.out (by kernel_rfl)) (fun _ _ _ h => h) (Or.inl ⟨by rfl, ?_⟩) hHeld ?_ ?_
    rotate_left
    ·rintro w' ⟨s0, s1⟩
     go_simp
     with_reducible rfl
    rotate_left
    ·simp only [Act.put, Qp1, Qp2, Qp3, i64_w, i32_w]
     rfl
    refine join_ (σ := Value × Value × Value × Value × Value × Nat) 2 (Qbz 11 511) (fun s_ => [(9, s_.1), (11, .agg #[s_.2.1, s_.2.2.1]), (12, .tuple #[.agg #[s_.2.2.2.1, s_.2.2.2.2.1], .int .i64 t458]), (5, .pointer (some ⟨s_.2.2.2.2.2, 0, none⟩)), (7, .tuple #[.agg #[s_.2.2.2.1, s_.2.2.2.2.1], .int .i64 t458]), (13, .agg #[s_.2.2.2.1, s_.2.2.2.2.1]), (14, .int .i64 t458)]) (fun s_ w' => (w'.cell? ⟨gb442, 0, none⟩ = some (.slice A1_0 l1_0.length c1_0) ∧ w'.cell? ⟨gb442, 1, none⟩ = some (.slice A1_1 l1_1.length c1_1)) ∧ (Kd.R (Kd.int .i64) 3 w' w.heap.size (fun k_ => some k_ ≠ (s_.2.1 : Value).ownBlock ∧ some k_ ≠ (s_.2.2.1 : Value).ownBlock ∧ some k_ ≠ (s_.2.2.2.1 : Value).ownBlock ∧ some k_ ≠ (s_.2.2.2.2.1 : Value).ownBlock) s_.1 t443) ∧ (Kd.R (Kd.int .i64) 3 w' w.heap.size (fun k_ => some k_ ≠ (s_.1 : Value).ownBlock ∧ some k_ ≠ (s_.2.2.1 : Value).ownBlock ∧ some k_ ≠ (s_.2.2.2.1 : Value).ownBlock ∧ some k_ ≠ (s_.2.2.2.2.1 : Value).ownBlock) s_.2.1 t446) ∧ (Kd.R (Kd.int .i64) 3 w' w.heap.size (fun k_ => some k_ ≠ (s_.1 : Value).ownBlock ∧ some k_ ≠ (s_.2.1 : Value).ownBlock ∧ some k_ ≠ (s_.2.2.2.1 : Value).ownBlock ∧ some k_ ≠ (s_.2.2.2.2.1 : Value).ownBlock) s_.2.2.1 t449) ∧ (Kd.R (Kd.int .i64) 3 w' w.heap.size (fun k_ => some k_ ≠ (s_.1 : Value).ownBlock ∧ some k_ ≠ (s_.2.1 : Value).ownBlock ∧ some k_ ≠ (s_.2.2.1 : Value).ownBlock ∧ some k_ ≠ (s_.2.2.2.2.1 : Value).ownBlock) s_.2.2.2.1 t452) ∧ (Kd.R (Kd.int .i64) 3 w' w.heap.size (fun k_ => some k_ ≠ (s_.1 : Value).ownBlock ∧ some k_ ≠ (s_.2.1 : Value).ownBlock ∧ some k_ ≠ (s_.2.2.1 : Value).ownBlock ∧ some k_ ≠ (s_.2.2.2.1 : Value).ownBlock) s_.2.2.2.2.1 t455) ∧ (w'.heap[gb442]? = some (.cells #[.slice A1_0 l1_0.length c1_0, .slice A1_1 l1_1.length c1_1] 52 (0, 0))) ∧ (w'.heap[s_.2.2.2.2.2]? = some (.cells #[.slice none 0 0, .slice none 0 0] 53 (0, 0))) ∧ (w.heap.size ≤ s_.2.2.2.2.2) ∧ (w.heap.size ≤ s_.2.2.2.2.2) ∧ (gb442 ≠ s_.2.2.2.2.2) ∧ (s_.2.2.2.2.2 ≠ gb442) ∧ (Below w.heap.size w w')) ?_ ?_
    rotate_left
    ·intro hCont
     refine two_ (i := 1) (j := 8) (Ni := some 9) (Nj := some 5) (Qbz 11 7) (Qbz 11 261) rfl rfl rfl rfl (two_of HT_.out (by kernel_rfl)) (by decide) (by decide) (fun K hK => ?_) (fun K hK => ?_)
     ·skip
      refine goes_ Tryd.func19 (by kernel_rfl) rfl #[.slice A0 l0.length c0] (by rfl) rfl rfl (Qls) ?_
      with_reducible refine (lampblacklaw02_Few.calls _ _ l0 t443 _ ?side1 ?side2 A3.out).mono ?_
      (case side1 => exact Qsc (Kd.C_below HR0.out HB.out))
      (case side2 => exact HC0.out)
      rintro e w15 ⟨v444, rfl, ho0, hb⟩
      refine ⟨_, rfl, ?_⟩
      have n0_ := Aside0.mk (Kd.R_lower ho0 (below_size (Qag GE442.out)))
      have n1_ := Aside0.mk (blk_below (g := gb442) (o := .cells #[.slice A1_0 l1_0.length c1_0, .slice A1_1 l1_1.length c1_1] 52 (0, 0)) (Qbl BK442.out) hb)
      have n2_ := Aside0.mk (below_step (Qag GE442.out) hb)
      clear BK442
      clear HB
      have HO445 := n0_
      have BK442 := n1_
      have HB := n2_
      clear n0_ n1_ n2_
      (try clear hb)
      (try clear hb2)
      (try clear hk)
      (try clear hi)
      (try clear ho0)
      refine hK.out _ _ ⟨(blk_cell BK442.out 0).trans rfl, (blk_cell BK442.out 1).trans rfl⟩ (fun hHeld => ?_)
      clear hK K
      refine norm_ (a' := ?_) ?_ ?_
      rotate_left
      ·show Act.put _ (some 9) _ = _
       simp only [Act.put, Qp1, Qp2, Qp3, i64_w, i32_w]
       rfl
      refine two_ (i := 3) (j := 8) (Ni := some 11) (Nj := some 5) (Qbz 11 15) (Qbz 11 263) rfl rfl rfl rfl (two_of HT_.out (by kernel_rfl)) (by decide) (by decide) (fun K hK => ?_) (fun K hK => ?_)
      ·skip
       refine goes_ Tryd.func44 (by kernel_rfl) rfl #[.agg #[.slice A1_0 l1_0.length c1_0, .slice A1_1 l1_1.length c1_1]] (by rfl) rfl rfl (Qls) ?_
       with_reducible refine (lampblacklaw02_Of.calls _ _ l1_0 _ _ l1_1 t446 t449 _ ?side1 ?side2 ?side3 ?side4 A4.out).mono ?_
       (case side1 => exact Qsc (Kd.C_below HR1_0.out HB.out))
       (case side2 => exact HC1_0.out)
       (case side3 => exact Qsc (Kd.C_below HR1_1.out HB.out))
       (case side4 => exact HC1_1.out)
       rintro e w16 ⟨v447, v450, rfl, ho0, ho1, hb⟩
       refine ⟨_, rfl, ?_⟩
       have n0_ := Aside0.mk (Kd.R_mono (Kd.R_told (Kd.R_told (Kd.R_old (Qro HO445.out) hb) (Kd.R_base ho0)) (Kd.R_base ho1)) (fun _ h_ => h_.1))
       have n1_ := Aside0.mk (Kd.R_lower (Kd.R_new' ho0 (Kd.R_lt (Qro HO445.out))) (below_size (Qag GE442.out)))
       have n2_ := Aside0.mk (Kd.R_lower (Kd.R_new' ho1 (Kd.R_lt (Qro HO445.out))) (below_size (Qag GE442.out)))
       have n3_ := Aside0.mk (blk_below (g := gb442) (o := .cells #[.slice A1_0 l1_0.length c1_0, .slice A1_1 l1_1.length c1_1] 52 (0, 0)) (Qbl BK442.out) hb)
       have n4_ := Aside0.mk (below_step (Qag GE442.out) hb)
       clear HO445
       clear BK442
       clear HB
       have HO445 := n0_
       have HO448 := n1_
       have HO451 := n2_
       have BK442 := n3_
       have HB := n4_
       clear n0_ n1_ n2_ n3_ n4_
       (try clear hb)
       (try clear hb2)
       (try clear hk)
       (try clear hi)
       (try clear ho0)
       (try clear ho1)
       obtain ⟨Ao17, co17, eo17⟩ := Kd.R_slice HO445.out
       (first | subst eo17 | (injection eo17 with f1_ f2_ f3_; have f4_ := f1_.symm; have f5_ := f3_.symm; clear f1_ f2_ f3_; subst f4_; subst f5_))
       obtain ⟨Ao18, co18, eo18⟩ := Kd.R_slice HO448.out
       (first | subst eo18 | (injection eo18 with f1_ f2_ f3_; have f4_ := f1_.symm; have f5_ := f3_.symm; clear f1_ f2_ f3_; subst f4_; subst f5_))
       obtain ⟨Ao19, co19, eo19⟩ := Kd.R_slice HO451.out
       (first | subst eo19 | (injection eo19 with f1_ f2_ f3_; have f4_ := f1_.symm; have f5_ := f3_.symm; clear f1_ f2_ f3_; subst f4_; subst f5_))
       refine hK.out _ _ ⟨(blk_cell BK442.out 0).trans rfl, (blk_cell BK442.out 1).trans rfl⟩ (fun hHeld => ?_)
       clear hK K
       refine norm_ (a' := ?_) ?_ ?_
       rotate_left
       ·show Act.put _ (some 11) _ = _
        simp only [Act.put, Qp1, Qp2, Qp3, i64_w, i32_w]
        rfl
       refine two_ (i := 4) (j := 8) (Ni := some 12) (Nj := some 5) (Qbz 11 31) (Qbz 11 271) rfl rfl rfl rfl (two_of HT_.out (by kernel_rfl)) (by decide) (by decide) (fun K hK => ?_) (fun K hK => ?_)
       ·skip
        refine goes_ Tryd.func43 (by kernel_rfl) rfl #[.slice Ao17 t443.length co17, .agg #[.slice Ao18 t446.length co18, .slice Ao19 t449.length co19]] (by rfl) rfl rfl (Qls) ?_
        with_reducible refine (width_Narrow.calls (hGL := (Qlg)) _ _ t443 _ _ t446 _ _ t449 t452 t455 t458 _ ?side1 ?side2 ?side3 ?side4 ?side5 ?side6 A5.out).mono ?_
        (case side1 => exact Qsc (Kd.R_reads' HO445.out).2.2)
        (case side2 => exact (Kd.R_reads' HO445.out).2.1)
        (case side3 => exact Qsc (Kd.R_reads' HO448.out).2.2)
        (case side4 => exact (Kd.R_reads' HO448.out).2.1)
        (case side5 => exact Qsc (Kd.R_reads' HO451.out).2.2)
        (case side6 => exact (Kd.R_reads' HO451.out).2.1)
        rintro e w20 ⟨v453, v456, rfl, ho0, ho1, hb⟩
        refine ⟨_, rfl, ?_⟩
        have n0_ := Aside0.mk (Kd.R_mono (Kd.R_told (Kd.R_told (Kd.R_old (Qro HO445.out) hb) (Kd.R_base ho0)) (Kd.R_base ho1)) (fun _ h_ => h_.1))
        have n1_ := Aside0.mk (Kd.R_mono (Kd.R_told (Kd.R_told (Kd.R_old (Qro HO448.out) hb) (Kd.R_base ho0)) (Kd.R_base ho1)) (fun _ h_ => h_.1))
        have n2_ := Aside0.mk (Kd.R_mono (Kd.R_told (Kd.R_told (Kd.R_old (Qro HO451.out) hb) (Kd.R_base ho0)) (Kd.R_base ho1)) (fun _ h_ => h_.1))
        have n3_ := Aside0.mk (Kd.R_lower (Kd.R_new' (Kd.R_new' (Kd.R_new' ho0 (Kd.R_lt (Qro HO445.out))) (Kd.R_lt (Qro HO448.out))) (Kd.R_lt (Qro HO451.out))) (below_size (Qag GE442.out)))
        have n4_ := Aside0.mk (Kd.R_lower (Kd.R_new' (Kd.R_new' (Kd.R_new' ho1 (Kd.R_lt (Qro HO445.out))) (Kd.R_lt (Qro HO448.out))) (Kd.R_lt (Qro HO451.out))) (below_size (Qag GE442.out)))
        have n5_ := Aside0.mk (blk_below (g := gb442) (o := .cells #[.slice A1_0 l1_0.length c1_0, .slice A1_1 l1_1.length c1_1] 52 (0, 0)) (Qbl BK442.out) hb)
        have n6_ := Aside0.mk (below_step (Qag GE442.out) hb)
        clear HO445
        clear HO448
        clear HO451
        clear BK442
        clear HB
        have HO445 := n0_
        have HO448 := n1_
        have HO451 := n2_
        have HO454 := n3_
        have HO457 := n4_
        have BK442 := n5_
        have HB := n6_
        clear n0_ n1_ n2_ n3_ n4_ n5_ n6_
        (try clear hb)
        (try clear hb2)
        (try clear hk)
        (try clear hi)
        (try clear ho0)
        (try clear ho1)
        refine hK.out _ _ ⟨(blk_cell BK442.out 0).trans rfl, (blk_cell BK442.out 1).trans rfl⟩ (fun hHeld => ?_)
        clear hK K
        refine norm_ (a' := ?_) ?_ ?_
        rotate_left
        ·show Act.put _ (some 12) _ = _
         simp only [Act.put, Qp1, Qp2, Qp3, i64_w, i32_w]
         rfl
        refine pure_ (i := 5) (N := some 7) (v := ?_) (a' := ?_) (Qbz 11 63) rfl rfl (Qao) (fun _ _ _ h => h) (Or.inl ⟨by rfl, ?_⟩) ?_ ?_
        rotate_left
        ·intro w'
         go_simp
         with_reducible rfl
        rotate_left
        ·simp only [Act.put, Qp1, Qp2, Qp3, i64_w, i32_w]
         rfl
        refine pure_ (i := 6) (N := some 13) (v := ?_) (a' := ?_) (Qbz 11 127) rfl rfl (Qao) (fun _ _ _ h => h) (Or.inl ⟨by rfl, ?_⟩) ?_ ?_
        rotate_left
        ·intro w'
         go_simp
         with_reducible rfl
        rotate_left
        ·simp only [Act.put, Qp1, Qp2, Qp3, i64_w, i32_w]
         rfl
        refine pure_ (i := 7) (N := some 14) (v := ?_) (a' := ?_) (Qbz 11 255) rfl rfl (Qao) (fun _ _ _ h => h) (Or.inl ⟨by rfl, ?_⟩) ?_ ?_
        rotate_left
        ·intro w'
         go_simp
         with_reducible rfl
        rotate_left
        ·simp only [Act.put, Qp1, Qp2, Qp3, i64_w, i32_w]
         rfl
        refine one_ (i := 8) (N := some 5) (Qbz 11 511) rfl rfl (one_of HT_.out (by kernel_rfl)) (by decide) (fun K hK => ?_)
        refine box_step ?hg (N := 5) ?hd (cs := #[.slice none 0 0, .slice none 0 0]) (t := 53) ?hr ?_; (case hd => rfl); (case hg => rfl); (case hr => first | (go_simp; done) | (go_simp; rfl))
        intro gb459 hg w21 hbox hb
        have n0_ := Aside0.mk (Kd.R_below (Qro HO445.out) hb)
        have n1_ := Aside0.mk (Kd.R_below (Qro HO448.out) hb)
        have n2_ := Aside0.mk (Kd.R_below (Qro HO451.out) hb)
        have n3_ := Aside0.mk (Kd.R_below (Qro HO454.out) hb)
        have n4_ := Aside0.mk (Kd.R_below (Qro HO457.out) hb)
        have n5_ := Aside0.mk (blk_below (g := gb442) (o := .cells #[.slice A1_0 l1_0.length c1_0, .slice A1_1 l1_1.length c1_1] 52 (0, 0)) (Qbl BK442.out) hb)
        have n6_ := Aside0.mk (below_step (Qag GE442.out) hb)
        have n7_ := Aside0.mk (hbox)
        have n8_ := Aside0.mk ((by rw [hg]; exact (below_size (Qag GE442.out)) : w.heap.size ≤ gb459))
        have n9_ := Aside0.mk ((by rw [hg]; exact (below_size (Qag GE442.out)) : w.heap.size ≤ gb459))
        have n10_ := Aside0.mk ((by rw [hg]; exact Nat.ne_of_lt (blk_lt (g := gb442) (o := .cells #[.slice A1_0 l1_0.length c1_0, .slice A1_1 l1_1.length c1_1] 52 (0, 0)) (Qbl BK442.out)) : gb442 ≠ gb459))
        have n11_ := Aside0.mk ((by rw [hg]; exact Nat.ne_of_gt (blk_lt (g := gb442) (o := .cells #[.slice A1_0 l1_0.length c1_0, .slice A1_1 l1_1.length c1_1] 52 (0, 0)) (Qbl BK442.out)) : gb459 ≠ gb442))
        clear HO445
        clear HO448
        clear HO451
        clear HO454
        clear HO457
        clear BK442
        clear HB
        have HO445 := n0_
        have HO448 := n1_
        have HO451 := n2_
        have HO454 := n3_
        have HO457 := n4_
        have BK442 := n5_
        have HB := n6_
        have BK459 := n7_
        have GW459 := n8_
        have GE459 := n9_
        have NB442_459 := n10_
        have NB459_442 := n11_
        clear n0_ n1_ n2_ n3_ n4_ n5_ n6_ n7_ n8_ n9_ n10_ n11_
        clear hb hbox hg
        refine hK.out _ _ ⟨(blk_cell BK442.out 0).trans rfl, (blk_cell BK442.out 1).trans rfl⟩ (fun hHeld => ?_)
        clear hK K
        refine norm_ (a' := ?_) ?_ ?_
        rotate_left
        ·show Act.put _ (some 5) _ = _
         simp only [Act.put, Qp1, Qp2, Qp3, i64_w, i32_w]
         rfl
        exact norm_ (by simp only [putAll, Act.put, List.setIfInBounds_toArray, List.set_cons_zero, List.set_cons_succ]) (hCont (.slice Ao17 t443.length co17, .slice Ao18 t446.length co18, .slice Ao19 t449.length co19, v453, v456, gb459) _ ⟨hHeld, (by (with_reducible repeat (first | apply Kd.R_alloc | apply Kd.R_drewN | apply Kd.R_drew)); exact Kd.R_mono HO445.out (fun _ hk => ⟨hk.1.1.1.2, ⟨hk.1.1.2, ⟨hk.1.2, hk.2⟩⟩⟩)), (by (with_reducible repeat (first | apply Kd.R_alloc | apply Kd.R_drewN | apply Kd.R_drew)); exact Kd.R_mono HO448.out (fun _ hk => ⟨hk.1.1.2, ⟨hk.1.1.1, ⟨hk.1.2, hk.2⟩⟩⟩)), (by (with_reducible repeat (first | apply Kd.R_alloc | apply Kd.R_drewN | apply Kd.R_drew)); exact Kd.R_mono HO451.out (fun _ hk => ⟨hk.1.1.2, ⟨hk.1.1.1, ⟨hk.1.2, hk.2⟩⟩⟩)), (by (with_reducible repeat (first | apply Kd.R_alloc | apply Kd.R_drewN | apply Kd.R_drew)); exact Kd.R_mono HO454.out (fun _ hk => ⟨hk.1.1.2, ⟨hk.1.2, ⟨hk.2, hk.1.1.1⟩⟩⟩)), (by (with_reducible repeat (first | apply Kd.R_alloc | apply Kd.R_drewN | apply Kd.R_drew)); exact Kd.R_mono HO457.out (fun _ hk => ⟨hk.1.1.2, ⟨hk.1.2, ⟨hk.2, hk.1.1.1⟩⟩⟩)), (Qbl BK442.out), (Qbl BK459.out), GW459.out, GE459.out, NB442_459.out, NB459_442.out, (Qah GE442.out GE459.out)⟩)
       ·skip
        refine box_step ?hg (N := 5) ?hd (cs := #[.slice none 0 0, .slice none 0 0]) (t := 53) ?hr ?_; (case hd => rfl); (case hg => rfl); (case hr => first | (go_simp; done) | (go_simp; rfl))
        intro gb459 hg w17 hbox hb
        have n0_ := Aside0.mk (Kd.R_below (Qro HO445.out) hb)
        have n1_ := Aside0.mk (Kd.R_below (Qro HO448.out) hb)
        have n2_ := Aside0.mk (Kd.R_below (Qro HO451.out) hb)
        have n3_ := Aside0.mk (blk_below (g := gb442) (o := .cells #[.slice A1_0 l1_0.length c1_0, .slice A1_1 l1_1.length c1_1] 52 (0, 0)) (Qbl BK442.out) hb)
        have n4_ := Aside0.mk (below_step (Qag GE442.out) hb)
        have n5_ := Aside0.mk (hbox)
        have n6_ := Aside0.mk ((by rw [hg]; exact (below_size (Qag GE442.out)) : w.heap.size ≤ gb459))
        have n7_ := Aside0.mk ((by rw [hg]; exact (below_size (Qag GE442.out)) : w.heap.size ≤ gb459))
        have n8_ := Aside0.mk ((by rw [hg]; exact Nat.ne_of_lt (blk_lt (g := gb442) (o := .cells #[.slice A1_0 l1_0.length c1_0, .slice A1_1 l1_1.length c1_1] 52 (0, 0)) (Qbl BK442.out)) : gb442 ≠ gb459))
        have n9_ := Aside0.mk ((by rw [hg]; exact Nat.ne_of_gt (blk_lt (g := gb442) (o := .cells #[.slice A1_0 l1_0.length c1_0, .slice A1_1 l1_1.length c1_1] 52 (0, 0)) (Qbl BK442.out)) : gb459 ≠ gb442))
        clear HO445
        clear HO448
        clear HO451
        clear BK442
        clear HB
        have HO445 := n0_
        have HO448 := n1_
        have HO451 := n2_
        have BK442 := n3_
        have HB := n4_
        have BK459 := n5_
        have GW459 := n6_
        have GE459 := n7_
        have NB442_459 := n8_
        have NB459_442 := n9_
        clear n0_ n1_ n2_ n3_ n4_ n5_ n6_ n7_ n8_ n9_
        clear hb hbox hg
        obtain ⟨Ao18, co18, eo18⟩ := Kd.R_slice HO445.out
        (first | subst eo18 | (injection eo18 with f1_ f2_ f3_; have f4_ := f1_.symm; have f5_ := f3_.symm; clear f1_ f2_ f3_; subst f4_; subst f5_))
        obtain ⟨Ao19, co19, eo19⟩ := Kd.R_slice HO448.out
        (first | subst eo19 | (injection eo19 with f1_ f2_ f3_; have f4_ := f1_.symm; have f5_ := f3_.symm; clear f1_ f2_ f3_; subst f4_; subst f5_))
        obtain ⟨Ao20, co20, eo20⟩ := Kd.R_slice HO451.out
        (first | subst eo20 | (injection eo20 with f1_ f2_ f3_; have f4_ := f1_.symm; have f5_ := f3_.symm; clear f1_ f2_ f3_; subst f4_; subst f5_))
        refine hK.out _ _ ⟨(blk_cell BK442.out 0).trans rfl, (blk_cell BK442.out 1).trans rfl⟩ (fun hHeld => ?_)
        clear hK K
        refine norm_ (a' := ?_) ?_ ?_
        rotate_left
        ·show Act.put _ (some 5) _ = _
         simp only [Act.put, Qp1, Qp2, Qp3, i64_w, i32_w]
         rfl
        refine one_ (i := 4) (N := some 12) (Qbz 11 287) rfl rfl (one_of HT_.out (by kernel_rfl)) (by decide) (fun K hK => ?_)
        refine goes_ Tryd.func43 (by kernel_rfl) rfl #[.slice Ao18 t443.length co18, .agg #[.slice Ao19 t446.length co19, .slice Ao20 t449.length co20]] (by rfl) rfl rfl (Qls) ?_
        with_reducible refine (width_Narrow.calls (hGL := (Qlg)) _ _ t443 _ _ t446 _ _ t449 t452 t455 t458 _ ?side1 ?side2 ?side3 ?side4 ?side5 ?side6 A5.out).mono ?_
        (case side1 => exact Qsc (Kd.R_reads' HO445.out).2.2)
        (case side2 => exact (Kd.R_reads' HO445.out).2.1)
        (case side3 => exact Qsc (Kd.R_reads' HO448.out).2.2)
        (case side4 => exact (Kd.R_reads' HO448.out).2.1)
        (case side5 => exact Qsc (Kd.R_reads' HO451.out).2.2)
        (case side6 => exact (Kd.R_reads' HO451.out).2.1)
        rintro e w21 ⟨v453, v456, rfl, ho0, ho1, hb⟩
        refine ⟨_, rfl, ?_⟩
        have n0_ := Aside0.mk (Kd.R_mono (Kd.R_told (Kd.R_told (Kd.R_old (Qro HO445.out) hb) (Kd.R_base ho0)) (Kd.R_base ho1)) (fun _ h_ => h_.1))
        have n1_ := Aside0.mk (Kd.R_mono (Kd.R_told (Kd.R_told (Kd.R_old (Qro HO448.out) hb) (Kd.R_base ho0)) (Kd.R_base ho1)) (fun _ h_ => h_.1))
        have n2_ := Aside0.mk (Kd.R_mono (Kd.R_told (Kd.R_told (Kd.R_old (Qro HO451.out) hb) (Kd.R_base ho0)) (Kd.R_base ho1)) (fun _ h_ => h_.1))
        have n3_ := Aside0.mk (Kd.R_lower (Kd.R_new' (Kd.R_new' (Kd.R_new' ho0 (Kd.R_lt (Qro HO445.out))) (Kd.R_lt (Qro HO448.out))) (Kd.R_lt (Qro HO451.out))) (below_size (Qah GE442.out GE459.out)))
        have n4_ := Aside0.mk (Kd.R_lower (Kd.R_new' (Kd.R_new' (Kd.R_new' ho1 (Kd.R_lt (Qro HO445.out))) (Kd.R_lt (Qro HO448.out))) (Kd.R_lt (Qro HO451.out))) (below_size (Qah GE442.out GE459.out)))
        have n5_ := Aside0.mk (blk_below (g := gb442) (o := .cells #[.slice A1_0 l1_0.length c1_0, .slice A1_1 l1_1.length c1_1] 52 (0, 0)) (Qbl BK442.out) hb)
        have n6_ := Aside0.mk (blk_below (g := gb459) (o := .cells #[.slice none 0 0, .slice none 0 0] 53 (0, 0)) (Qbl BK459.out) hb)
        have n7_ := Aside0.mk (below_step (Qah GE442.out GE459.out) hb)
        clear HO445
        clear HO448
        clear HO451
        clear BK442
        clear BK459
        clear HB
        have HO445 := n0_
        have HO448 := n1_
        have HO451 := n2_
        have HO454 := n3_
        have HO457 := n4_
        have BK442 := n5_
        have BK459 := n6_
        have HB := n7_
        clear n0_ n1_ n2_ n3_ n4_ n5_ n6_ n7_
        (try clear hb)
        (try clear hb2)
        (try clear hk)
        (try clear hi)
        (try clear ho0)
        (try clear ho1)
        refine hK.out _ _ ⟨(blk_cell BK442.out 0).trans rfl, (blk_cell BK442.out 1).trans rfl⟩ (fun hHeld => ?_)
        clear hK K
        refine norm_ (a' := ?_) ?_ ?_
        rotate_left
        ·show Act.put _ (some 12) _ = _
         simp only [Act.put, Qp1, Qp2, Qp3, i64_w, i32_w]
         rfl
        refine pure_ (i := 5) (N := some 7) (v := ?_) (a' := ?_) (Qbz 11 319) rfl rfl (Qao) (fun _ _ _ h => h) (Or.inl ⟨by rfl, ?_⟩) ?_ ?_
        rotate_left
        ·intro w'
         go_simp
         with_reducible rfl
        rotate_left
        ·simp only [Act.put, Qp1, Qp2, Qp3, i64_w, i32_w]
         rfl
        refine pure_ (i := 6) (N := some 13) (v := ?_) (a' := ?_) (Qbz 11 383) rfl rfl (Qao) (fun _ _ _ h => h) (Or.inl ⟨by rfl, ?_⟩) ?_ ?_
        rotate_left
        ·intro w'
         go_simp
         with_reducible rfl
        rotate_left
        ·simp only [Act.put, Qp1, Qp2, Qp3, i64_w, i32_w]
         rfl
        refine pure_ (i := 7) (N := some 14) (v := ?_) (a' := ?_) (Qbz 11 511) rfl rfl (Qao) (fun _ _ _ h => h) (Or.inl ⟨by rfl, ?_⟩) ?_ ?_
        rotate_left
        ·intro w'
         go_simp
         with_reducible rfl
        rotate_left
        ·simp only [Act.put, Qp1, Qp2, Qp3, i64_w, i32_w]
         rfl
        exact norm_ (by simp only [putAll, Act.put, List.setIfInBounds_toArray, List.set_cons_zero, List.set_cons_succ]) (hCont (.slice Ao18 t443.length co18, .slice Ao19 t446.length co19, .slice Ao20 t449.length co20, v453, v456, gb459) _ ⟨hHeld, (by (with_reducible repeat (first | apply Kd.R_alloc | apply Kd.R_drewN | apply Kd.R_drew)); exact Kd.R_mono HO445.out (fun _ hk => ⟨hk.1.1.1.2, ⟨hk.1.1.2, ⟨hk.1.2, hk.2⟩⟩⟩)), (by (with_reducible repeat (first | apply Kd.R_alloc | apply Kd.R_drewN | apply Kd.R_drew)); exact Kd.R_mono HO448.out (fun _ hk => ⟨hk.1.1.2, ⟨hk.1.1.1, ⟨hk.1.2, hk.2⟩⟩⟩)), (by (with_reducible repeat (first | apply Kd.R_alloc | apply Kd.R_drewN | apply Kd.R_drew)); exact Kd.R_mono HO451.out (fun _ hk => ⟨hk.1.1.2, ⟨hk.1.1.1, ⟨hk.1.2, hk.2⟩⟩⟩)), (by (with_reducible repeat (first | apply Kd.R_alloc | apply Kd.R_drewN | apply Kd.R_drew)); exact Kd.R_mono HO454.out (fun _ hk => ⟨hk.1.1.2, ⟨hk.1.2, ⟨hk.2, hk.1.1.1⟩⟩⟩)), (by (with_reducible repeat (first | apply Kd.R_alloc | apply Kd.R_drewN | apply Kd.R_drew)); exact Kd.R_mono HO457.out (fun _ hk => ⟨hk.1.1.2, ⟨hk.1.2, ⟨hk.2, hk.1.1.1⟩⟩⟩)), (Qbl BK442.out), (Qbl BK459.out), GW459.out, GE459.out, NB442_459.out, NB459_442.out, (Qah GE442.out GE459.out)⟩)
      ·skip
       refine box_step ?hg (N := 5) ?hd (cs := #[.slice none 0 0, .slice none 0 0]) (t := 53) ?hr ?_; (case hd => rfl); (case hg => rfl); (case hr => first | (go_simp; done) | (go_simp; rfl))
       intro gb459 hg w16 hbox hb
       have n0_ := Aside0.mk (Kd.R_below (Qro HO445.out) hb)
       have n1_ := Aside0.mk (blk_below (g := gb442) (o := .cells #[.slice A1_0 l1_0.length c1_0, .slice A1_1 l1_1.length c1_1] 52 (0, 0)) (Qbl BK442.out) hb)
       have n2_ := Aside0.mk (below_step (Qag GE442.out) hb)
       have n3_ := Aside0.mk (hbox)
       have n4_ := Aside0.mk ((by rw [hg]; exact (below_size (Qag GE442.out)) : w.heap.size ≤ gb459))
       have n5_ := Aside0.mk ((by rw [hg]; exact (below_size (Qag GE442.out)) : w.heap.size ≤ gb459))
       have n6_ := Aside0.mk ((by rw [hg]; exact Nat.ne_of_lt (blk_lt (g := gb442) (o := .cells #[.slice A1_0 l1_0.length c1_0, .slice A1_1 l1_1.length c1_1] 52 (0, 0)) (Qbl BK442.out)) : gb442 ≠ gb459))
       have n7_ := Aside0.mk ((by rw [hg]; exact Nat.ne_of_gt (blk_lt (g := gb442) (o := .cells #[.slice A1_0 l1_0.length c1_0, .slice A1_1 l1_1.length c1_1] 52 (0, 0)) (Qbl BK442.out)) : gb459 ≠ gb442))
       clear HO445
       clear BK442
       clear HB
       have HO445 := n0_
       have BK442 := n1_
       have HB := n2_
       have BK459 := n3_
       have GW459 := n4_
       have GE459 := n5_
       have NB442_459 := n6_
       have NB459_442 := n7_
       clear n0_ n1_ n2_ n3_ n4_ n5_ n6_ n7_
       clear hb hbox hg
       refine hK.out _ _ ⟨(blk_cell BK442.out 0).trans rfl, (blk_cell BK442.out 1).trans rfl⟩ (fun hHeld => ?_)
       clear hK K
       refine norm_ (a' := ?_) ?_ ?_
       rotate_left
       ·show Act.put _ (some 5) _ = _
        simp only [Act.put, Qp1, Qp2, Qp3, i64_w, i32_w]
        rfl
       refine one_ (i := 3) (N := some 11) (Qbz 11 271) rfl rfl (one_of HT_.out (by kernel_rfl)) (by decide) (fun K hK => ?_)
       refine goes_ Tryd.func44 (by kernel_rfl) rfl #[.agg #[.slice A1_0 l1_0.length c1_0, .slice A1_1 l1_1.length c1_1]] (by rfl) rfl rfl (Qls) ?_
       with_reducible refine (lampblacklaw02_Of.calls _ _ l1_0 _ _ l1_1 t446 t449 _ ?side1 ?side2 ?side3 ?side4 A4.out).mono ?_
       (case side1 => exact Qsc (Kd.C_below HR1_0.out HB.out))
       (case side2 => exact HC1_0.out)
       (case side3 => exact Qsc (Kd.C_below HR1_1.out HB.out))
       (case side4 => exact HC1_1.out)
       rintro e w17 ⟨v447, v450, rfl, ho0, ho1, hb⟩
       refine ⟨_, rfl, ?_⟩
       have n0_ := Aside0.mk (Kd.R_mono (Kd.R_told (Kd.R_told (Kd.R_old (Qro HO445.out) hb) (Kd.R_base ho0)) (Kd.R_base ho1)) (fun _ h_ => h_.1))
       have n1_ := Aside0.mk (Kd.R_lower (Kd.R_new' ho0 (Kd.R_lt (Qro HO445.out))) (below_size (Qah GE442.out GE459.out)))
       have n2_ := Aside0.mk (Kd.R_lower (Kd.R_new' ho1 (Kd.R_lt (Qro HO445.out))) (below_size (Qah GE442.out GE459.out)))
       have n3_ := Aside0.mk (blk_below (g := gb442) (o := .cells #[.slice A1_0 l1_0.length c1_0, .slice A1_1 l1_1.length c1_1] 52 (0, 0)) (Qbl BK442.out) hb)
       have n4_ := Aside0.mk (blk_below (g := gb459) (o := .cells #[.slice none 0 0, .slice none 0 0] 53 (0, 0)) (Qbl BK459.out) hb)
       have n5_ := Aside0.mk (below_step (Qah GE442.out GE459.out) hb)
       clear HO445
       clear BK442
       clear BK459
       clear HB
       have HO445 := n0_
       have HO448 := n1_
       have HO451 := n2_
       have BK442 := n3_
       have BK459 := n4_
       have HB := n5_
       clear n0_ n1_ n2_ n3_ n4_ n5_
       (try clear hb)
       (try clear hb2)
       (try clear hk)
       (try clear hi)
       (try clear ho0)
       (try clear ho1)
       obtain ⟨Ao18, co18, eo18⟩ := Kd.R_slice HO445.out
       (first | subst eo18 | (injection eo18 with f1_ f2_ f3_; have f4_ := f1_.symm; have f5_ := f3_.symm; clear f1_ f2_ f3_; subst f4_; subst f5_))
       obtain ⟨Ao19, co19, eo19⟩ := Kd.R_slice HO448.out
       (first | subst eo19 | (injection eo19 with f1_ f2_ f3_; have f4_ := f1_.symm; have f5_ := f3_.symm; clear f1_ f2_ f3_; subst f4_; subst f5_))
       obtain ⟨Ao20, co20, eo20⟩ := Kd.R_slice HO451.out
       (first | subst eo20 | (injection eo20 with f1_ f2_ f3_; have f4_ := f1_.symm; have f5_ := f3_.symm; clear f1_ f2_ f3_; subst f4_; subst f5_))
       refine hK.out _ _ ⟨(blk_cell BK442.out 0).trans rfl, (blk_cell BK442.out 1).trans rfl⟩ (fun hHeld => ?_)
       clear hK K
       refine norm_ (a' := ?_) ?_ ?_
       rotate_left
       ·show Act.put _ (some 11) _ = _
        simp only [Act.put, Qp1, Qp2, Qp3, i64_w, i32_w]
        rfl
       refine one_ (i := 4) (N := some 12) (Qbz 11 287) rfl rfl (one_of HT_.out (by kernel_rfl)) (by decide) (fun K hK => ?_)
       refine goes_ Tryd.func43 (by kernel_rfl) rfl #[.slice Ao18 t443.length co18, .agg #[.slice Ao19 t446.length co19, .slice Ao20 t449.length co20]] (by rfl) rfl rfl (Qls) ?_
       with_reducible refine (width_Narrow.calls (hGL := (Qlg)) _ _ t443 _ _ t446 _ _ t449 t452 t455 t458 _ ?side1 ?side2 ?side3 ?side4 ?side5 ?side6 A5.out).mono ?_
       (case side1 => exact Qsc (Kd.R_reads' HO445.out).2.2)
       (case side2 => exact (Kd.R_reads' HO445.out).2.1)
       (case side3 => exact Qsc (Kd.R_reads' HO448.out).2.2)
       (case side4 => exact (Kd.R_reads' HO448.out).2.1)
       (case side5 => exact Qsc (Kd.R_reads' HO451.out).2.2)
       (case side6 => exact (Kd.R_reads' HO451.out).2.1)
       rintro e w21 ⟨v453, v456, rfl, ho0, ho1, hb⟩
       refine ⟨_, rfl, ?_⟩
       have n0_ := Aside0.mk (Kd.R_mono (Kd.R_told (Kd.R_told (Kd.R_old (Qro HO445.out) hb) (Kd.R_base ho0)) (Kd.R_base ho1)) (fun _ h_ => h_.1))
       have n1_ := Aside0.mk (Kd.R_mono (Kd.R_told (Kd.R_told (Kd.R_old (Qro HO448.out) hb) (Kd.R_base ho0)) (Kd.R_base ho1)) (fun _ h_ => h_.1))
       have n2_ := Aside0.mk (Kd.R_mono (Kd.R_told (Kd.R_told (Kd.R_old (Qro HO451.out) hb) (Kd.R_base ho0)) (Kd.R_base ho1)) (fun _ h_ => h_.1))
       have n3_ := Aside0.mk (Kd.R_lower (Kd.R_new' (Kd.R_new' (Kd.R_new' ho0 (Kd.R_lt (Qro HO445.out))) (Kd.R_lt (Qro HO448.out))) (Kd.R_lt (Qro HO451.out))) (below_size (Qah GE442.out GE459.out)))
       have n4_ := Aside0.mk (Kd.R_lower (Kd.R_new' (Kd.R_new' (Kd.R_new' ho1 (Kd.R_lt (Qro HO445.out))) (Kd.R_lt (Qro HO448.out))) (Kd.R_lt (Qro HO451.out))) (below_size (Qah GE442.out GE459.out)))
       have n5_ := Aside0.mk (blk_below (g := gb442) (o := .cells #[.slice A1_0 l1_0.length c1_0, .slice A1_1 l1_1.length c1_1] 52 (0, 0)) (Qbl BK442.out) hb)
       have n6_ := Aside0.mk (blk_below (g := gb459) (o := .cells #[.slice none 0 0, .slice none 0 0] 53 (0, 0)) (Qbl BK459.out) hb)
       have n7_ := Aside0.mk (below_step (Qah GE442.out GE459.out) hb)
       clear HO445
       clear HO448
       clear HO451
       clear BK442
       clear BK459
       clear HB
       have HO445 := n0_
       have HO448 := n1_
       have HO451 := n2_
       have HO454 := n3_
       have HO457 := n4_
       have BK442 := n5_
       have BK459 := n6_
       have HB := n7_
       clear n0_ n1_ n2_ n3_ n4_ n5_ n6_ n7_
       (try clear hb)
       (try clear hb2)
       (try clear hk)
       (try clear hi)
       (try clear ho0)
       (try clear ho1)
       refine hK.out _ _ ⟨(blk_cell BK442.out 0).trans rfl, (blk_cell BK442.out 1).trans rfl⟩ (fun hHeld => ?_)
       clear hK K
       refine norm_ (a' := ?_) ?_ ?_
       rotate_left
       ·show Act.put _ (some 12) _ = _
        simp only [Act.put, Qp1, Qp2, Qp3, i64_w, i32_w]
        rfl
       refine pure_ (i := 5) (N := some 7) (v := ?_) (a' := ?_) (Qbz 11 319) rfl rfl (Qao) (fun _ _ _ h => h) (Or.inl ⟨by rfl, ?_⟩) ?_ ?_
       rotate_left
       ·intro w'
        go_simp
        with_reducible rfl
       rotate_left
       ·simp only [Act.put, Qp1, Qp2, Qp3, i64_w, i32_w]
        rfl
       refine pure_ (i := 6) (N := some 13) (v := ?_) (a' := ?_) (Qbz 11 383) rfl rfl (Qao) (fun _ _ _ h => h) (Or.inl ⟨by rfl, ?_⟩) ?_ ?_
       rotate_left
       ·intro w'
        go_simp
        with_reducible rfl
       rotate_left
       ·simp only [Act.put, Qp1, Qp2, Qp3, i64_w, i32_w]
        rfl
       refine pure_ (i := 7) (N := some 14) (v := ?_) (a' := ?_) (Qbz 11 511) rfl rfl (Qao) (fun _ _ _ h => h) (Or.inl ⟨by rfl, ?_⟩) ?_ ?_
       rotate_left
       ·intro w'
        go_simp
        with_reducible rfl
       rotate_left
       ·simp only [Act.put, Qp1, Qp2, Qp3, i64_w, i32_w]
        rfl
       exact norm_ (by simp only [putAll, Act.put, List.setIfInBounds_toArray, List.set_cons_zero, List.set_cons_succ]) (hCont (.slice Ao18 t443.length co18, .slice Ao19 t446.length co19, .slice Ao20 t449.length co20, v453, v456, gb459) _ ⟨hHeld, (by (with_reducible repeat (first | apply Kd.R_alloc | apply Kd.R_drewN | apply Kd.R_drew)); exact Kd.R_mono HO445.out (fun _ hk => ⟨hk.1.1.1.2, ⟨hk.1.1.2, ⟨hk.1.2, hk.2⟩⟩⟩)), (by (with_reducible repeat (first | apply Kd.R_alloc | apply Kd.R_drewN | apply Kd.R_drew)); exact Kd.R_mono HO448.out (fun _ hk => ⟨hk.1.1.2, ⟨hk.1.1.1, ⟨hk.1.2, hk.2⟩⟩⟩)), (by (with_reducible repeat (first | apply Kd.R_alloc | apply Kd.R_drewN | apply Kd.R_drew)); exact Kd.R_mono HO451.out (fun _ hk => ⟨hk.1.1.2, ⟨hk.1.1.1, ⟨hk.1.2, hk.2⟩⟩⟩)), (by (with_reducible repeat (first | apply Kd.R_alloc | apply Kd.R_drewN | apply Kd.R_drew)); exact Kd.R_mono HO454.out (fun _ hk => ⟨hk.1.1.2, ⟨hk.1.2, ⟨hk.2, hk.1.1.1⟩⟩⟩)), (by (with_reducible repeat (first | apply Kd.R_alloc | apply Kd.R_drewN | apply Kd.R_drew)); exact Kd.R_mono HO457.out (fun _ hk => ⟨hk.1.1.2, ⟨hk.1.2, ⟨hk.2, hk.1.1.1⟩⟩⟩)), (Qbl BK442.out), (Qbl BK459.out), GW459.out, GE459.out, NB442_459.out, NB459_442.out, (Qah GE442.out GE459.out)⟩)
     ·skip
      refine box_step ?hg (N := 5) ?hd (cs := #[.slice none 0 0, .slice none 0 0]) (t := 53) ?hr ?_; (case hd => rfl); (case hg => rfl); (case hr => first | (go_simp; done) | (go_simp; rfl))
      intro gb459 hg w15 hbox hb
      have n0_ := Aside0.mk (blk_below (g := gb442) (o := .cells #[.slice A1_0 l1_0.length c1_0, .slice A1_1 l1_1.length c1_1] 52 (0, 0)) (Qbl BK442.out) hb)
      have n1_ := Aside0.mk (below_step (Qag GE442.out) hb)
      have n2_ := Aside0.mk (hbox)
      have n3_ := Aside0.mk ((by rw [hg]; exact (below_size (Qag GE442.out)) : w.heap.size ≤ gb459))
      have n4_ := Aside0.mk ((by rw [hg]; exact (below_size (Qag GE442.out)) : w.heap.size ≤ gb459))
      have n5_ := Aside0.mk ((by rw [hg]; exact Nat.ne_of_lt (blk_lt (g := gb442) (o := .cells #[.slice A1_0 l1_0.length c1_0, .slice A1_1 l1_1.length c1_1] 52 (0, 0)) (Qbl BK442.out)) : gb442 ≠ gb459))
      have n6_ := Aside0.mk ((by rw [hg]; exact Nat.ne_of_gt (blk_lt (g := gb442) (o := .cells #[.slice A1_0 l1_0.length c1_0, .slice A1_1 l1_1.length c1_1] 52 (0, 0)) (Qbl BK442.out)) : gb459 ≠ gb442))
      clear BK442
      clear HB
      have BK442 := n0_
      have HB := n1_
      have BK459 := n2_
      have GW459 := n3_
      have GE459 := n4_
      have NB442_459 := n5_
      have NB459_442 := n6_
      clear n0_ n1_ n2_ n3_ n4_ n5_ n6_
      clear hb hbox hg
      refine hK.out _ _ ⟨(blk_cell BK442.out 0).trans rfl, (blk_cell BK442.out 1).trans rfl⟩ (fun hHeld => ?_)
      clear hK K
      refine norm_ (a' := ?_) ?_ ?_
      rotate_left
      ·show Act.put _ (some 5) _ = _
       simp only [Act.put, Qp1, Qp2, Qp3, i64_w, i32_w]
       rfl
      refine one_ (i := 1) (N := some 9) (Qbz 11 263) rfl rfl (one_of HT_.out (by kernel_rfl)) (by decide) (fun K hK => ?_)
      refine goes_ Tryd.func19 (by kernel_rfl) rfl #[.slice A0 l0.length c0] (by rfl) rfl rfl (Qls) ?_
      with_reducible refine (lampblacklaw02_Few.calls _ _ l0 t443 _ ?side1 ?side2 A3.out).mono ?_
      (case side1 => exact Qsc (Kd.C_below HR0.out HB.out))
      (case side2 => exact HC0.out)
      rintro e w16 ⟨v444, rfl, ho0, hb⟩
      refine ⟨_, rfl, ?_⟩
      have n0_ := Aside0.mk (Kd.R_lower ho0 (below_size (Qah GE442.out GE459.out)))
      have n1_ := Aside0.mk (blk_below (g := gb442) (o := .cells #[.slice A1_0 l1_0.length c1_0, .slice A1_1 l1_1.length c1_1] 52 (0, 0)) (Qbl BK442.out) hb)
      have n2_ := Aside0.mk (blk_below (g := gb459) (o := .cells #[.slice none 0 0, .slice none 0 0] 53 (0, 0)) (Qbl BK459.out) hb)
      have n3_ := Aside0.mk (below_step (Qah GE442.out GE459.out) hb)
      clear BK442
      clear BK459
      clear HB
      have HO445 := n0_
      have BK442 := n1_
      have BK459 := n2_
      have HB := n3_
      clear n0_ n1_ n2_ n3_
      (try clear hb)
      (try clear hb2)
      (try clear hk)
      (try clear hi)
      (try clear ho0)
      refine hK.out _ _ ⟨(blk_cell BK442.out 0).trans rfl, (blk_cell BK442.out 1).trans rfl⟩ (fun hHeld => ?_)
      clear hK K
      refine norm_ (a' := ?_) ?_ ?_
      rotate_left
      ·show Act.put _ (some 9) _ = _
       simp only [Act.put, Qp1, Qp2, Qp3, i64_w, i32_w]
       rfl
      refine one_ (i := 3) (N := some 11) (Qbz 11 271) rfl rfl (one_of HT_.out (by kernel_rfl)) (by decide) (fun K hK => ?_)
      refine goes_ Tryd.func44 (by kernel_rfl) rfl #[.agg #[.slice A1_0 l1_0.length c1_0, .slice A1_1 l1_1.length c1_1]] (by rfl) rfl rfl (Qls) ?_
      with_reducible refine (lampblacklaw02_Of.calls _ _ l1_0 _ _ l1_1 t446 t449 _ ?side1 ?side2 ?side3 ?side4 A4.out).mono ?_
      (case side1 => exact Qsc (Kd.C_below HR1_0.out HB.out))
      (case side2 => exact HC1_0.out)
      (case side3 => exact Qsc (Kd.C_below HR1_1.out HB.out))
      (case side4 => exact HC1_1.out)
      rintro e w17 ⟨v447, v450, rfl, ho0, ho1, hb⟩
      refine ⟨_, rfl, ?_⟩
      have n0_ := Aside0.mk (Kd.R_mono (Kd.R_told (Kd.R_told (Kd.R_old (Qro HO445.out) hb) (Kd.R_base ho0)) (Kd.R_base ho1)) (fun _ h_ => h_.1))
      have n1_ := Aside0.mk (Kd.R_lower (Kd.R_new' ho0 (Kd.R_lt (Qro HO445.out))) (below_size (Qah GE442.out GE459.out)))
      have n2_ := Aside0.mk (Kd.R_lower (Kd.R_new' ho1 (Kd.R_lt (Qro HO445.out))) (below_size (Qah GE442.out GE459.out)))
      have n3_ := Aside0.mk (blk_below (g := gb442) (o := .cells #[.slice A1_0 l1_0.length c1_0, .slice A1_1 l1_1.length c1_1] 52 (0, 0)) (Qbl BK442.out) hb)
      have n4_ := Aside0.mk (blk_below (g := gb459) (o := .cells #[.slice none 0 0, .slice none 0 0] 53 (0, 0)) (Qbl BK459.out) hb)
      have n5_ := Aside0.mk (below_step (Qah GE442.out GE459.out) hb)
      clear HO445
      clear BK442
      clear BK459
      clear HB
      have HO445 := n0_
      have HO448 := n1_
      have HO451 := n2_
      have BK442 := n3_
      have BK459 := n4_
      have HB := n5_
      clear n0_ n1_ n2_ n3_ n4_ n5_
      (try clear hb)
      (try clear hb2)
      (try clear hk)
      (try clear hi)
      (try clear ho0)
      (try clear ho1)
      obtain ⟨Ao18, co18, eo18⟩ := Kd.R_slice HO445.out
      (first | subst eo18 | (injection eo18 with f1_ f2_ f3_; have f4_ := f1_.symm; have f5_ := f3_.symm; clear f1_ f2_ f3_; subst f4_; subst f5_))
      obtain ⟨Ao19, co19, eo19⟩ := Kd.R_slice HO448.out
      (first | subst eo19 | (injection eo19 with f1_ f2_ f3_; have f4_ := f1_.symm; have f5_ := f3_.symm; clear f1_ f2_ f3_; subst f4_; subst f5_))
      obtain ⟨Ao20, co20, eo20⟩ := Kd.R_slice HO451.out
      (first | subst eo20 | (injection eo20 with f1_ f2_ f3_; have f4_ := f1_.symm; have f5_ := f3_.symm; clear f1_ f2_ f3_; subst f4_; subst f5_))
      refine hK.out _ _ ⟨(blk_cell BK442.out 0).trans rfl, (blk_cell BK442.out 1).trans rfl⟩ (fun hHeld => ?_)
      clear hK K
      refine norm_ (a' := ?_) ?_ ?_
      rotate_left
      ·show Act.put _ (some 11) _ = _
       simp only [Act.put, Qp1, Qp2, Qp3, i64_w, i32_w]
       rfl
      refine one_ (i := 4) (N := some 12) (Qbz 11 287) rfl rfl (one_of HT_.out (by kernel_rfl)) (by decide) (fun K hK => ?_)
      refine goes_ Tryd.func43 (by kernel_rfl) rfl #[.slice Ao18 t443.length co18, .agg #[.slice Ao19 t446.length co19, .slice Ao20 t449.length co20]] (by rfl) rfl rfl (Qls) ?_
      with_reducible refine (width_Narrow.calls (hGL := (Qlg)) _ _ t443 _ _ t446 _ _ t449 t452 t455 t458 _ ?side1 ?side2 ?side3 ?side4 ?side5 ?side6 A5.out).mono ?_
      (case side1 => exact Qsc (Kd.R_reads' HO445.out).2.2)
      (case side2 => exact (Kd.R_reads' HO445.out).2.1)
      (case side3 => exact Qsc (Kd.R_reads' HO448.out).2.2)
      (case side4 => exact (Kd.R_reads' HO448.out).2.1)
      (case side5 => exact Qsc (Kd.R_reads' HO451.out).2.2)
      (case side6 => exact (Kd.R_reads' HO451.out).2.1)
      rintro e w21 ⟨v453, v456, rfl, ho0, ho1, hb⟩
      refine ⟨_, rfl, ?_⟩
      have n0_ := Aside0.mk (Kd.R_mono (Kd.R_told (Kd.R_told (Kd.R_old (Qro HO445.out) hb) (Kd.R_base ho0)) (Kd.R_base ho1)) (fun _ h_ => h_.1))
      have n1_ := Aside0.mk (Kd.R_mono (Kd.R_told (Kd.R_told (Kd.R_old (Qro HO448.out) hb) (Kd.R_base ho0)) (Kd.R_base ho1)) (fun _ h_ => h_.1))
      have n2_ := Aside0.mk (Kd.R_mono (Kd.R_told (Kd.R_told (Kd.R_old (Qro HO451.out) hb) (Kd.R_base ho0)) (Kd.R_base ho1)) (fun _ h_ => h_.1))
      have n3_ := Aside0.mk (Kd.R_lower (Kd.R_new' (Kd.R_new' (Kd.R_new' ho0 (Kd.R_lt (Qro HO445.out))) (Kd.R_lt (Qro HO448.out))) (Kd.R_lt (Qro HO451.out))) (below_size (Qah GE442.out GE459.out)))
      have n4_ := Aside0.mk (Kd.R_lower (Kd.R_new' (Kd.R_new' (Kd.R_new' ho1 (Kd.R_lt (Qro HO445.out))) (Kd.R_lt (Qro HO448.out))) (Kd.R_lt (Qro HO451.out))) (below_size (Qah GE442.out GE459.out)))
      have n5_ := Aside0.mk (blk_below (g := gb442) (o := .cells #[.slice A1_0 l1_0.length c1_0, .slice A1_1 l1_1.length c1_1] 52 (0, 0)) (Qbl BK442.out) hb)
      have n6_ := Aside0.mk (blk_below (g := gb459) (o := .cells #[.slice none 0 0, .slice none 0 0] 53 (0, 0)) (Qbl BK459.out) hb)
      have n7_ := Aside0.mk (below_step (Qah GE442.out GE459.out) hb)
      clear HO445
      clear HO448
      clear HO451
      clear BK442
      clear BK459
      clear HB
      have HO445 := n0_
      have HO448 := n1_
      have HO451 := n2_
      have HO454 := n3_
      have HO457 := n4_
      have BK442 := n5_
      have BK459 := n6_
      have HB := n7_
      clear n0_ n1_ n2_ n3_ n4_ n5_ n6_ n7_
      (try clear hb)
      (try clear hb2)
      (try clear hk)
      (try clear hi)
      (try clear ho0)
      (try clear ho1)
      refine hK.out _ _ ⟨(blk_cell BK442.out 0).trans rfl, (blk_cell BK442.out 1).trans rfl⟩ (fun hHeld => ?_)
      clear hK K
      refine norm_ (a' := ?_) ?_ ?_
      rotate_left
      ·show Act.put _ (some 12) _ = _
       simp only [Act.put, Qp1, Qp2, Qp3, i64_w, i32_w]
       rfl
      refine pure_ (i := 5) (N := some 7) (v := ?_) (a' := ?_) (Qbz 11 319) rfl rfl (Qao) (fun _ _ _ h => h) (Or.inl ⟨by rfl, ?_⟩) ?_ ?_
      rotate_left
      ·intro w'
       go_simp
       with_reducible rfl
      rotate_left
      ·simp only [Act.put, Qp1, Qp2, Qp3, i64_w, i32_w]
       rfl
      refine pure_ (i := 6) (N := some 13) (v := ?_) (a' := ?_) (Qbz 11 383) rfl rfl (Qao) (fun _ _ _ h => h) (Or.inl ⟨by rfl, ?_⟩) ?_ ?_
      rotate_left
      ·intro w'
       go_simp
       with_reducible rfl
      rotate_left
      ·simp only [Act.put, Qp1, Qp2, Qp3, i64_w, i32_w]
       rfl
      refine pure_ (i := 7) (N := some 14) (v := ?_) (a' := ?_) (Qbz 11 511) rfl rfl (Qao) (fun _ _ _ h => h) (Or.inl ⟨by rfl, ?_⟩) ?_ ?_
      rotate_left
      ·intro w'
       go_simp
       with_reducible rfl
      rotate_left
      ·simp only [Act.put, Qp1, Qp2, Qp3, i64_w, i32_w]
       rfl
      exact norm_ (by simp only [putAll, Act.put, List.setIfInBounds_toArray, List.set_cons_zero, List.set_cons_succ]) (hCont (.slice Ao18 t443.length co18, .slice Ao19 t446.length co19, .slice Ao20 t449.length co20, v453, v456, gb459) _ ⟨hHeld, (by (with_reducible repeat (first | apply Kd.R_alloc | apply Kd.R_drewN | apply Kd.R_drew)); exact Kd.R_mono HO445.out (fun _ hk => ⟨hk.1.1.1.2, ⟨hk.1.1.2, ⟨hk.1.2, hk.2⟩⟩⟩)), (by (with_reducible repeat (first | apply Kd.R_alloc | apply Kd.R_drewN | apply Kd.R_drew)); exact Kd.R_mono HO448.out (fun _ hk => ⟨hk.1.1.2, ⟨hk.1.1.1, ⟨hk.1.2, hk.2⟩⟩⟩)), (by (with_reducible repeat (first | apply Kd.R_alloc | apply Kd.R_drewN | apply Kd.R_drew)); exact Kd.R_mono HO451.out (fun _ hk => ⟨hk.1.1.2, ⟨hk.1.1.1, ⟨hk.1.2, hk.2⟩⟩⟩)), (by (with_reducible repeat (first | apply Kd.R_alloc | apply Kd.R_drewN | apply Kd.R_drew)); exact Kd.R_mono HO454.out (fun _ hk => ⟨hk.1.1.2, ⟨hk.1.2, ⟨hk.2, hk.1.1.1⟩⟩⟩)), (by (with_reducible repeat (first | apply Kd.R_alloc | apply Kd.R_drewN | apply Kd.R_drew)); exact Kd.R_mono HO457.out (fun _ hk => ⟨hk.1.1.2, ⟨hk.1.2, ⟨hk.2, hk.1.1.1⟩⟩⟩)), (Qbl BK442.out), (Qbl BK459.out), GW459.out, GE459.out, NB442_459.out, NB459_442.out, (Qah GE442.out GE459.out)⟩)
    rintro ⟨v444, v447, v450, v453, v456, gb459⟩ w22 ⟨hS_, h0_, h1_, h2_, h3_, h4_, h5_, h6_, h7_, h8_, h9_, h10_, h11_⟩
    have n0_ : Aside0 (Kd.R (Kd.int .i64) 3 w22 w.heap.size (fun k_ => some k_ ≠ (v447 : Value).ownBlock ∧ some k_ ≠ (v450 : Value).ownBlock ∧ some k_ ≠ (v453 : Value).ownBlock ∧ some k_ ≠ (v456 : Value).ownBlock) v444 t443) := ⟨h0_⟩
    have n1_ : Aside0 (Kd.R (Kd.int .i64) 3 w22 w.heap.size (fun k_ => some k_ ≠ (v444 : Value).ownBlock ∧ some k_ ≠ (v450 : Value).ownBlock ∧ some k_ ≠ (v453 : Value).ownBlock ∧ some k_ ≠ (v456 : Value).ownBlock) v447 t446) := ⟨h1_⟩
    have n2_ : Aside0 (Kd.R (Kd.int .i64) 3 w22 w.heap.size (fun k_ => some k_ ≠ (v444 : Value).ownBlock ∧ some k_ ≠ (v447 : Value).ownBlock ∧ some k_ ≠ (v453 : Value).ownBlock ∧ some k_ ≠ (v456 : Value).ownBlock) v450 t449) := ⟨h2_⟩
    have n3_ : Aside0 (Kd.R (Kd.int .i64) 3 w22 w.heap.size (fun k_ => some k_ ≠ (v444 : Value).ownBlock ∧ some k_ ≠ (v447 : Value).ownBlock ∧ some k_ ≠ (v450 : Value).ownBlock ∧ some k_ ≠ (v456 : Value).ownBlock) v453 t452) := ⟨h3_⟩
    have n4_ : Aside0 (Kd.R (Kd.int .i64) 3 w22 w.heap.size (fun k_ => some k_ ≠ (v444 : Value).ownBlock ∧ some k_ ≠ (v447 : Value).ownBlock ∧ some k_ ≠ (v450 : Value).ownBlock ∧ some k_ ≠ (v453 : Value).ownBlock) v456 t455) := ⟨h4_⟩
    have n5_ : Aside0 (w22.heap[gb442]? = some (.cells #[.slice A1_0 l1_0.length c1_0, .slice A1_1 l1_1.length c1_1] 52 (0, 0))) := ⟨h5_⟩
    have n6_ : Aside0 (w22.heap[gb459]? = some (.cells #[.slice none 0 0, .slice none 0 0] 53 (0, 0))) := ⟨h6_⟩
    have n7_ : Aside0 (w.heap.size ≤ gb459) := ⟨h7_⟩
    have n8_ : Aside0 (w.heap.size ≤ gb459) := ⟨h8_⟩
    have n9_ : Aside0 (gb442 ≠ gb459) := ⟨h9_⟩
    have n10_ : Aside0 (gb459 ≠ gb442) := ⟨h10_⟩
    have n11_ : Aside0 (Below w.heap.size w w22) := ⟨h11_⟩
    clear BK442
    clear HB
    clear h0_ h1_ h2_ h3_ h4_ h5_ h6_ h7_ h8_ h9_ h10_ h11_
    have HO445 := n0_
    have HO448 := n1_
    have HO451 := n2_
    have HO454 := n3_
    have HO457 := n4_
    have BK442 := n5_
    have BK459 := n6_
    have GW459 := n7_
    have GE459 := n8_
    have NB442_459 := n9_
    have NB459_442 := n10_
    have HB := n11_
    clear n0_ n1_ n2_ n3_ n4_ n5_ n6_ n7_ n8_ n9_ n10_ n11_
    have hHeld : w22.cell? ⟨gb442, 0, none⟩ = some (.slice A1_0 l1_0.length c1_0) ∧ w22.cell? ⟨gb442, 1, none⟩ = some (.slice A1_1 l1_1.length c1_1) := hS_
    obtain ⟨Ao23, co23, eo23⟩ := Kd.R_slice HO454.out
    (first | subst eo23 | (injection eo23 with f1_ f2_ f3_; have f4_ := f1_.symm; have f5_ := f3_.symm; clear f1_ f2_ f3_; subst f4_; subst f5_))
    obtain ⟨Ao25, co25, eo25⟩ := Kd.R_slice HO457.out
    (first | subst eo25 | (injection eo25 with f1_ f2_ f3_; have f4_ := f1_.symm; have f5_ := f3_.symm; clear f1_ f2_ f3_; subst f4_; subst f5_))
    refine norm_ (a' := ?_) ?_ ?_
    rotate_left
    ·simp only [putAll, Act.put, List.setIfInBounds_toArray, List.set_cons_zero, List.set_cons_succ]
     rfl
    refine one_ (i := 9) (N := none) (Qbz 11 1023) rfl rfl (one_of HT_.out (by kernel_rfl)) (by decide) (fun K hK => ?_)
    have hs24 : w22.cell? ⟨gb459, 0, none⟩ = some (.slice none 0 0) := (blk_cell BK459.out 0).trans rfl
    have hfs24 := blk_frozen BK459.out 0
    have hns24_0 := NB442_459.out
    have hms24_0 := NB459_442.out
    have hs26 : w22.cell? ⟨gb459, 1, none⟩ = some (.slice none 0 0) := (blk_cell BK459.out 1).trans rfl
    have hfs26 := blk_frozen BK459.out 1
    have hns26_0 := NB442_459.out
    have hms26_0 := NB459_442.out
    refine skip_ (w1 := ?_) (by rfl) rfl ?_ ?_
    rotate_left
    ·go_simp
     rfl
    refine hK.out _ _ ⟨((cell_far (p := ⟨gb459, _, none⟩) NB442_459.out _).trans (((cell_far (p := ⟨gb459, _, none⟩) NB442_459.out _).trans (hHeld.1)))), ((cell_far (p := ⟨gb459, _, none⟩) NB442_459.out _).trans (((cell_far (p := ⟨gb459, _, none⟩) NB442_459.out _).trans (hHeld.2))))⟩ (fun hHeld => ?_)
    clear hK K
    refine pure_ (i := 10) (N := some 6) (v := ?_) (a' := ?_) (Qbz 11 2047) rfl rfl (Qao) (fun _ _ _ h => h) (Or.inl ⟨by rfl, ?_⟩) ?_ ?_
    rotate_left
    ·intro w'
     go_simp
     with_reducible rfl
    rotate_left
    ·simp only [Act.put, Qp1, Qp2, Qp3, i64_w, i32_w]
     rfl
    refine done_ (done_of HT_.out (by kernel_rfl)) ?_
    have hnb27 := NB442_459.out
    have hnc27 := NB459_442.out
    have hcz28_0 : w22.cell? ⟨gb442, 0, none⟩ = some (.slice A1_0 l1_0.length c1_0) := (blk_cell BK442.out 0).trans rfl
    have hcz28_1 : w22.cell? ⟨gb442, 1, none⟩ = some (.slice A1_1 l1_1.length c1_1) := (blk_cell BK442.out 1).trans rfl
    have hfz28_0 := blk_frozen BK442.out 0
    have hfz28_1 := blk_frozen BK442.out 1
    try go_wp2_with (first | ((with_reducible refine gate_callee (f := 45) rfl ?_); refine goesL_ (some 17) rfl rfl Tryd.func45 (by kernel_rfl) rfl #[.slice A0 l0.length c0, .agg #[.slice A1_0 l1_0.length c1_0, .slice A1_1 l1_1.length c1_1]] rfl (Qls) ?_; (with_reducible refine (lampblacklaw02_fine.calls k _ _ l0 _ _ l1_0 _ _ l1_1 true _ ?side1 ?side2 ?side3 ?side4 ?side5 ?side6 A6.out).mono ?_); (case side1 => exact Kd.C_below HR0.out (Qah GE442.out GE459.out)); (case side2 => exact HC0.out); (case side3 => exact Kd.C_below HR1_0.out (Qah GE442.out GE459.out)); (case side4 => exact HC1_0.out); (case side5 => exact Kd.C_below HR1_1.out (Qah GE442.out GE459.out)); (case side6 => exact HC1_1.out); rintro e w29 ⟨rfl, hb⟩; refine ⟨_, rfl, ?_⟩; have n0_ := Aside0.mk (Kd.R_below (by (with_reducible repeat (first | apply Kd.R_alloc | apply Kd.R_drewN | apply Kd.R_drew)); exact (Kd.R_mono (Kd.R_far (p := ⟨gb459, 1, none⟩) (Kd.R_far (p := ⟨gb459, 0, none⟩) (Kd.R_types HO445.out BK459.out (by decide)) (fun _ hk => hk.2) (.slice Ao23 t452.length co23)) (fun _ hk => hk.2) (.slice Ao25 t455.length co25)) (fun _ h_ => h_.1))) hb); have n1_ := Aside0.mk (Kd.R_below (by (with_reducible repeat (first | apply Kd.R_alloc | apply Kd.R_drewN | apply Kd.R_drew)); exact (Kd.R_mono (Kd.R_far (p := ⟨gb459, 1, none⟩) (Kd.R_far (p := ⟨gb459, 0, none⟩) (Kd.R_types HO448.out BK459.out (by decide)) (fun _ hk => hk.2) (.slice Ao23 t452.length co23)) (fun _ hk => hk.2) (.slice Ao25 t455.length co25)) (fun _ h_ => h_.1))) hb); have n2_ := Aside0.mk (Kd.R_below (by (with_reducible repeat (first | apply Kd.R_alloc | apply Kd.R_drewN | apply Kd.R_drew)); exact (Kd.R_mono (Kd.R_far (p := ⟨gb459, 1, none⟩) (Kd.R_far (p := ⟨gb459, 0, none⟩) (Kd.R_types HO451.out BK459.out (by decide)) (fun _ hk => hk.2) (.slice Ao23 t452.length co23)) (fun _ hk => hk.2) (.slice Ao25 t455.length co25)) (fun _ h_ => h_.1))) hb); have n3_ := Aside0.mk (Kd.R_below (by (with_reducible repeat (first | apply Kd.R_alloc | apply Kd.R_drewN | apply Kd.R_drew)); exact (Kd.R_mono (Kd.R_far (p := ⟨gb459, 1, none⟩) (Kd.R_far (p := ⟨gb459, 0, none⟩) (Kd.R_types HO454.out BK459.out (by decide)) (fun _ hk => hk.2) (.slice Ao23 t452.length co23)) (fun _ hk => hk.2) (.slice Ao25 t455.length co25)) (fun _ h_ => h_.1))) hb); have n4_ := Aside0.mk (Kd.R_below (by (with_reducible repeat (first | apply Kd.R_alloc | apply Kd.R_drewN | apply Kd.R_drew)); exact (Kd.R_mono (Kd.R_far (p := ⟨gb459, 1, none⟩) (Kd.R_far (p := ⟨gb459, 0, none⟩) (Kd.R_types HO457.out BK459.out (by decide)) (fun _ hk => hk.2) (.slice Ao23 t452.length co23)) (fun _ hk => hk.2) (.slice Ao25 t455.length co25)) (fun _ h_ => h_.1))) hb); have n5_ := Aside0.mk (blk_below (g := gb442) (o := .cells #[.slice A1_0 l1_0.length c1_0, .slice A1_1 l1_1.length c1_1] 52 (0, 0)) (by (with_reducible repeat (first | refine blk_drewN ?_ _ | refine blk_drew ?_ | refine blk_alloc ?_ _)); refine blk_far ?_ NB442_459.out _; (with_reducible repeat (first | refine blk_drewN ?_ _ | refine blk_drew ?_ | refine blk_alloc ?_ _)); refine blk_far ?_ NB442_459.out _; (with_reducible repeat (first | refine blk_drewN ?_ _ | refine blk_drew ?_ | refine blk_alloc ?_ _)); exact BK442.out) hb); have n6_ := Aside0.mk (blk_below (g := gb459) (o := .cells #[.slice Ao23 t452.length co23, .slice Ao25 t455.length co25] 53 (0, 0)) (by (with_reducible repeat (first | refine blk_drewN ?_ _ | refine blk_drew ?_ | refine blk_alloc ?_ _)); refine blk_put (cs := #[.slice Ao23 t452.length co23, .slice none 0 0]) ?_ 1 _ rfl; (with_reducible repeat (first | refine blk_drewN ?_ _ | refine blk_drew ?_ | refine blk_alloc ?_ _)); refine blk_put (cs := #[.slice none 0 0, .slice none 0 0]) ?_ 0 _ rfl; (with_reducible repeat (first | refine blk_drewN ?_ _ | refine blk_drew ?_ | refine blk_alloc ?_ _)); exact BK459.out) hb); have n7_ := Aside0.mk (below_step (Qah GE442.out GE459.out) hb); clear HO445; clear HO448; clear HO451; clear HO454; clear HO457; clear BK442; clear BK459; clear HB; have HO445 := n0_; have HO448 := n1_; have HO451 := n2_; have HO454 := n3_; have HO457 := n4_; have BK442 := n5_; have BK459 := n6_; have HB := n7_; clear n0_ n1_ n2_ n3_ n4_ n5_ n6_ n7_; (try clear hb); (try clear hb2); (try clear hk); (try clear hi)))
    have n0_ := Aside0.mk (Kd.R_drew HO445.out)
    have n1_ := Aside0.mk (Kd.R_drew HO448.out)
    have n2_ := Aside0.mk (Kd.R_drew HO451.out)
    have n3_ := Aside0.mk (Kd.R_drew HO454.out)
    have n4_ := Aside0.mk (Kd.R_drew HO457.out)
    have n5_ := Aside0.mk (blk_drew BK442.out)
    have n6_ := Aside0.mk (blk_drew BK459.out)
    have n7_ := Aside0.mk (below_drew1 HB.out)
    clear HO445
    clear HO448
    clear HO451
    clear HO454
    clear HO457
    clear BK442
    clear BK459
    clear HB
    have HO445 := n0_
    have HO448 := n1_
    have HO451 := n2_
    have HO454 := n3_
    have HO457 := n4_
    have BK442 := n5_
    have BK459 := n6_
    have HB := n7_
    clear n0_ n1_ n2_ n3_ n4_ n5_ n6_ n7_
    refine start_ (n := 13) (S := fun w' => w'.cell? ⟨gb459, 0, none⟩ = some (.slice Ao23 t452.length co23) ∧ w'.cell? ⟨gb459, 1, none⟩ = some (.slice Ao25 t455.length co25) ∧ w'.cell? ⟨gb442, 0, none⟩ = some (.slice A1_0 l1_0.length c1_0) ∧ w'.cell? ⟨gb442, 1, none⟩ = some (.slice A1_1 l1_1.length c1_1)) (ds := []) (Qbz 13 0) (by kernel_rfl) rfl rfl ⟨(blk_cell BK459.out 0).trans rfl, (blk_cell BK459.out 1).trans rfl, (blk_cell BK442.out 0).trans rfl, (blk_cell BK442.out 1).trans rfl⟩ (fun hHeld => ?_); refine with_tabW lampblacklaw02_WidthNarrows.tab4 lampblacklaw02_WidthNarrows.bits4 (fun HT_ HW_ => ?_)
    generalize w29.drew = w30 at HO445 HO448 HO451 HO454 HO457 BK442 BK459 HB hHeld ⊢
    refine pure_ (i := 0) (N := some 28) (v := ?_) (a' := ?_) (Qbz 13 1) rfl rfl (Qao) (fun _ _ _ h => h) (Or.inl ⟨by rfl, ?_⟩) ?_ ?_
    rotate_left
    ·intro w'
     go_simp
     with_reducible rfl
    rotate_left
    ·simp only [Act.put, Qp1, Qp2, Qp3, i64_w, i32_w]
     rfl
    refine pure_ (i := 1) (N := some 29) (v := ?_) (a' := ?_) (Qbz 13 3) rfl rfl (Qao) (fun _ _ _ h => h) (Or.inl ⟨by rfl, ?_⟩) ?_ ?_
    rotate_left
    ·intro w'
     go_simp
     with_reducible rfl
    rotate_left
    ·simp only [Act.put, Qp1, Qp2, Qp3, i64_w, i32_w]
     rfl
    refine pure_ (i := 2) (N := some 30) (v := ?_) (a' := ?_) (Qbz 13 7) rfl rfl (Qao) (fun _ _ _ h => h) (Or.inl ⟨by rfl, ?_⟩) ?_ ?_
    rotate_left
    ·intro w'
     go_simp
     with_reducible rfl
    rotate_left
    ·simp only [Act.put, Qp1, Qp2, Qp3, i64_w, i32_w]
     rfl
    refine pure_ (i := 3) (N := some 31) (v := ?_) (a' := ?_) (Qbz 13 15) rfl rfl (Qao) (fun _ _ _ h => h) (Or.inl ⟨by rfl, ?_⟩) ?_ ?_
    rotate_left
    ·intro w'
     go_simp
     with_reducible rfl
    rotate_left
    ·simp only [Act.put, Qp1, Qp2, Qp3, i64_w, i32_w]
     rfl
    refine take_ (i := 4) (N := some 32) (v := ?_) (a' := ?_) (Qbz 13 31) rfl rfl (take_ofW HT_.out HW_.out (by kernel_rfl)) (fun _ _ _ h => h) (Or.inl ⟨by rfl, ?_⟩) hHeld ?_ ?_
    rotate_left
    ·rintro w' ⟨s0, s1, s2, s3⟩
     go_simp
     with_reducible rfl
    rotate_left
    ·simp only [Act.put, Qp1, Qp2, Qp3, i64_w, i32_w]
     rfl
    refine take_ (i := 6) (N := some 34) (v := ?_) (a' := ?_) (Qbz 13 95) rfl rfl (take_ofW HT_.out HW_.out (by kernel_rfl)) (fun _ _ _ h => h) (Or.inl ⟨by rfl, ?_⟩) hHeld ?_ ?_
    rotate_left
    ·rintro w' ⟨s0, s1, s2, s3⟩
     go_simp
     with_reducible rfl
    rotate_left
    ·simp only [Act.put, Qp1, Qp2, Qp3, i64_w, i32_w]
     rfl
    refine one_ (i := 5) (N := some 33) (Qbz 13 127) rfl rfl (one_of HT_.out (by kernel_rfl)) (by decide) (fun K hK => ?_)
    refine goes_ Tryd.func48 (by kernel_rfl) rfl #[.agg #[.slice Ao23 t452.length co23, .slice Ao25 t455.length co25]] (by rfl) rfl rfl (Qls) ?_
    with_reducible refine (lampblacklaw02_own.calls (fun k_ => some k_ = (.slice Ao23 t452.length co23 : Value).ownBlock) _ _ t452 (fun k_ => some k_ = (.slice Ao25 t455.length co25 : Value).ownBlock) _ _ t455 t461 t464 _ ?side1 ?side2 A9.out).mono ?_
    (case side1 => exact Kd.R_V (Kd.R_tight rfl (Kd.R_types (Kd.R_types (HO454.out) BK442.out (by decide)) BK459.out (by decide))))
    (case side2 => exact Kd.R_V (Kd.R_tight rfl (Kd.R_types (Kd.R_types (HO457.out) BK442.out (by decide)) BK459.out (by decide))))
    rintro e w31 ⟨v462, v465, rfl, ho0, ho1, hb⟩
    refine ⟨_, rfl, ?_⟩
    have n0_ := Aside0.mk (Kd.R_below (Qro HO445.out) hb)
    have n1_ := Aside0.mk (Kd.R_below (Qro HO448.out) hb)
    have n2_ := Aside0.mk (Kd.R_below (Qro HO451.out) hb)
    have n3_ := Aside0.mk (Kd.R_below (Qro HO454.out) hb)
    have n4_ := Aside0.mk (Kd.R_below (Qro HO457.out) hb)
    have n5_ := Aside0.mk (Kd.V_lower (Kd.V_mono (ok' := fun k_ => some k_ ≠ (v444 : Value).ownBlock ∧ some k_ ≠ (v447 : Value).ownBlock ∧ some k_ ≠ (v450 : Value).ownBlock ∧ k_ ≠ gb442 ∧ k_ ≠ gb459) ho0 (fun k_ hk_ => ⟨Or.elim hk_ (fun hs_ => Or.elim hs_ (fun hs_ => ((Kd.R_types (Kd.R_types (HO454.out) BK442.out (by decide)) BK459.out (by decide)).1 k_ hs_.symm).1.1.1) (fun hs_ => ((Kd.R_types (Kd.R_types (HO457.out) BK442.out (by decide)) BK459.out (by decide)).1 k_ hs_.symm).1.1.1)) (fun hn_ => (Kd.fresh' (Kd.R_lt (Qro HO445.out)) k_ hn_)), Or.elim hk_ (fun hs_ => Or.elim hs_ (fun hs_ => ((Kd.R_types (Kd.R_types (HO454.out) BK442.out (by decide)) BK459.out (by decide)).1 k_ hs_.symm).1.1.2.1) (fun hs_ => ((Kd.R_types (Kd.R_types (HO457.out) BK442.out (by decide)) BK459.out (by decide)).1 k_ hs_.symm).1.1.2.1)) (fun hn_ => (Kd.fresh' (Kd.R_lt (Qro HO448.out)) k_ hn_)), Or.elim hk_ (fun hs_ => Or.elim hs_ (fun hs_ => ((Kd.R_types (Kd.R_types (HO454.out) BK442.out (by decide)) BK459.out (by decide)).1 k_ hs_.symm).1.1.2.2.1) (fun hs_ => ((Kd.R_types (Kd.R_types (HO457.out) BK442.out (by decide)) BK459.out (by decide)).1 k_ hs_.symm).1.1.2.2.1)) (fun hn_ => (Kd.fresh' (Kd.R_lt (Qro HO451.out)) k_ hn_)), Or.elim hk_ (fun hs_ => Or.elim hs_ (fun hs_ => ((Kd.R_types (Kd.R_types (HO454.out) BK442.out (by decide)) BK459.out (by decide)).1 k_ hs_.symm).1.2) (fun hs_ => ((Kd.R_types (Kd.R_types (HO457.out) BK442.out (by decide)) BK459.out (by decide)).1 k_ hs_.symm).1.2)) (fun hn_ => (Kd.freshB (g := gb442) (o := .cells #[.slice A1_0 l1_0.length c1_0, .slice A1_1 l1_1.length c1_1] 52 (0, 0)) (Qbl BK442.out) k_ hn_)), Or.elim hk_ (fun hs_ => Or.elim hs_ (fun hs_ => ((Kd.R_types (Kd.R_types (HO454.out) BK442.out (by decide)) BK459.out (by decide)).1 k_ hs_.symm).2) (fun hs_ => ((Kd.R_types (Kd.R_types (HO457.out) BK442.out (by decide)) BK459.out (by decide)).1 k_ hs_.symm).2)) (fun hn_ => (Kd.freshB (g := gb459) (o := .cells #[.slice Ao23 t452.length co23, .slice Ao25 t455.length co25] 53 (0, 0)) (Qbl BK459.out) k_ hn_))⟩)) (below_size (Qah GE442.out GE459.out)))
    have n6_ := Aside0.mk (Kd.V_lower (Kd.V_mono (ok' := fun k_ => some k_ ≠ (v444 : Value).ownBlock ∧ some k_ ≠ (v447 : Value).ownBlock ∧ some k_ ≠ (v450 : Value).ownBlock ∧ k_ ≠ gb442 ∧ k_ ≠ gb459) ho1 (fun k_ hk_ => ⟨Or.elim hk_ (fun hs_ => Or.elim hs_ (fun hs_ => ((Kd.R_types (Kd.R_types (HO454.out) BK442.out (by decide)) BK459.out (by decide)).1 k_ hs_.symm).1.1.1) (fun hs_ => ((Kd.R_types (Kd.R_types (HO457.out) BK442.out (by decide)) BK459.out (by decide)).1 k_ hs_.symm).1.1.1)) (fun hn_ => (Kd.fresh' (Kd.R_lt (Qro HO445.out)) k_ hn_)), Or.elim hk_ (fun hs_ => Or.elim hs_ (fun hs_ => ((Kd.R_types (Kd.R_types (HO454.out) BK442.out (by decide)) BK459.out (by decide)).1 k_ hs_.symm).1.1.2.1) (fun hs_ => ((Kd.R_types (Kd.R_types (HO457.out) BK442.out (by decide)) BK459.out (by decide)).1 k_ hs_.symm).1.1.2.1)) (fun hn_ => (Kd.fresh' (Kd.R_lt (Qro HO448.out)) k_ hn_)), Or.elim hk_ (fun hs_ => Or.elim hs_ (fun hs_ => ((Kd.R_types (Kd.R_types (HO454.out) BK442.out (by decide)) BK459.out (by decide)).1 k_ hs_.symm).1.1.2.2.1) (fun hs_ => ((Kd.R_types (Kd.R_types (HO457.out) BK442.out (by decide)) BK459.out (by decide)).1 k_ hs_.symm).1.1.2.2.1)) (fun hn_ => (Kd.fresh' (Kd.R_lt (Qro HO451.out)) k_ hn_)), Or.elim hk_ (fun hs_ => Or.elim hs_ (fun hs_ => ((Kd.R_types (Kd.R_types (HO454.out) BK442.out (by decide)) BK459.out (by decide)).1 k_ hs_.symm).1.2) (fun hs_ => ((Kd.R_types (Kd.R_types (HO457.out) BK442.out (by decide)) BK459.out (by decide)).1 k_ hs_.symm).1.2)) (fun hn_ => (Kd.freshB (g := gb442) (o := .cells #[.slice A1_0 l1_0.length c1_0, .slice A1_1 l1_1.length c1_1] 52 (0, 0)) (Qbl BK442.out) k_ hn_)), Or.elim hk_ (fun hs_ => Or.elim hs_ (fun hs_ => ((Kd.R_types (Kd.R_types (HO454.out) BK442.out (by decide)) BK459.out (by decide)).1 k_ hs_.symm).2) (fun hs_ => ((Kd.R_types (Kd.R_types (HO457.out) BK442.out (by decide)) BK459.out (by decide)).1 k_ hs_.symm).2)) (fun hn_ => (Kd.freshB (g := gb459) (o := .cells #[.slice Ao23 t452.length co23, .slice Ao25 t455.length co25] 53 (0, 0)) (Qbl BK459.out) k_ hn_))⟩)) (below_size (Qah GE442.out GE459.out)))
    have n7_ := Aside0.mk (blk_below (g := gb442) (o := .cells #[.slice A1_0 l1_0.length c1_0, .slice A1_1 l1_1.length c1_1] 52 (0, 0)) (Qbl BK442.out) hb)
    have n8_ := Aside0.mk (blk_below (g := gb459) (o := .cells #[.slice Ao23 t452.length co23, .slice Ao25 t455.length co25] 53 (0, 0)) (Qbl BK459.out) hb)
    have n9_ := Aside0.mk (below_step (Qah GE442.out GE459.out) hb)
    clear HO445
    clear HO448
    clear HO451
    clear HO454
    clear HO457
    clear BK442
    clear BK459
    clear HB
    have HO445 := n0_
    have HO448 := n1_
    have HO451 := n2_
    have HO454 := n3_
    have HO457 := n4_
    have HO463 := n5_
    have HO466 := n6_
    have BK442 := n7_
    have BK459 := n8_
    have HB := n9_
    clear n0_ n1_ n2_ n3_ n4_ n5_ n6_ n7_ n8_ n9_
    (try clear hb)
    (try clear hb2)
    (try clear hk)
    (try clear hi)
    (try clear ho0)
    (try clear ho1)
    obtain ⟨Ao32, co32, eo32⟩ := Kd.V_slice HO463.out
    (first | subst eo32 | (injection eo32 with f1_ f2_ f3_; have f4_ := f1_.symm; have f5_ := f3_.symm; clear f1_ f2_ f3_; subst f4_; subst f5_))
    obtain ⟨Ao33, co33, eo33⟩ := Kd.V_slice HO466.out
    (first | subst eo33 | (injection eo33 with f1_ f2_ f3_; have f4_ := f1_.symm; have f5_ := f3_.symm; clear f1_ f2_ f3_; subst f4_; subst f5_))
    refine hK.out _ _ ⟨(blk_cell BK459.out 0).trans rfl, (blk_cell BK459.out 1).trans rfl, (blk_cell BK442.out 0).trans rfl, (blk_cell BK442.out 1).trans rfl⟩ (fun hHeld => ?_)
    clear hK K
    refine norm_ (a' := ?_) ?_ ?_
    rotate_left
    ·show Act.put _ (some 33) _ = _
     simp only [Act.put, Qp1, Qp2, Qp3, i64_w, i32_w]
     rfl
    refine one_ (i := 7) (N := some 35) (Qbz 13 255) rfl rfl (one_of HT_.out (by kernel_rfl)) (by decide) (fun K hK => ?_)
    refine goes_ Tryd.func47 (by kernel_rfl) rfl #[.slice A0 l0.length c0, .agg #[.slice Ao32 t461.length co32, .slice Ao33 t464.length co33], .agg #[.slice A1_0 l1_0.length c1_0, .slice A1_1 l1_1.length c1_1]] (by rfl) rfl rfl (Qls) ?_
    with_reducible refine (lampblackref02_IsNarrow.calls k _ _ l0 _ _ t461 _ _ t464 _ _ l1_0 _ _ l1_1 true _ ?side1 ?side2 ?side3 ?side4 ?side5 ?side6 ?side7 ?side8 ?side9 ?side10 A10.out).mono ?_
    (case side1 => exact Qsc (Kd.C_below HR0.out HB.out))
    (case side2 => exact HC0.out)
    (case side3 => exact Qsc (Kd.V_reads' HO463.out).2.2)
    (case side4 => exact (Kd.V_reads' HO463.out).2.1)
    (case side5 => exact Qsc (Kd.V_reads' HO466.out).2.2)
    (case side6 => exact (Kd.V_reads' HO466.out).2.1)
    (case side7 => exact Qsc (Kd.C_below HR1_0.out HB.out))
    (case side8 => exact HC1_0.out)
    (case side9 => exact Qsc (Kd.C_below HR1_1.out HB.out))
    (case side10 => exact HC1_1.out)
    rintro e w34 ⟨rfl, hb⟩
    refine ⟨_, rfl, ?_⟩
    have n0_ := Aside0.mk (Kd.R_below (Qro HO445.out) hb)
    have n1_ := Aside0.mk (Kd.R_below (Qro HO448.out) hb)
    have n2_ := Aside0.mk (Kd.R_below (Qro HO451.out) hb)
    have n3_ := Aside0.mk (Kd.R_below (Qro HO454.out) hb)
    have n4_ := Aside0.mk (Kd.R_below (Qro HO457.out) hb)
    have n5_ := Aside0.mk (Kd.V_below (by (with_reducible repeat (first | apply Kd.V_alloc | apply Kd.V_drewN | apply Kd.V_drew)); exact HO463.out) hb)
    have n6_ := Aside0.mk (Kd.V_below (by (with_reducible repeat (first | apply Kd.V_alloc | apply Kd.V_drewN | apply Kd.V_drew)); exact HO466.out) hb)
    have n7_ := Aside0.mk (blk_below (g := gb442) (o := .cells #[.slice A1_0 l1_0.length c1_0, .slice A1_1 l1_1.length c1_1] 52 (0, 0)) (Qbl BK442.out) hb)
    have n8_ := Aside0.mk (blk_below (g := gb459) (o := .cells #[.slice Ao23 t452.length co23, .slice Ao25 t455.length co25] 53 (0, 0)) (Qbl BK459.out) hb)
    have n9_ := Aside0.mk (below_step (Qah GE442.out GE459.out) hb)
    clear HO445
    clear HO448
    clear HO451
    clear HO454
    clear HO457
    clear HO463
    clear HO466
    clear BK442
    clear BK459
    clear HB
    have HO445 := n0_
    have HO448 := n1_
    have HO451 := n2_
    have HO454 := n3_
    have HO457 := n4_
    have HO463 := n5_
    have HO466 := n6_
    have BK442 := n7_
    have BK459 := n8_
    have HB := n9_
    clear n0_ n1_ n2_ n3_ n4_ n5_ n6_ n7_ n8_ n9_
    (try clear hb)
    (try clear hb2)
    (try clear hk)
    (try clear hi)
    refine hK.out _ _ ⟨(blk_cell BK459.out 0).trans rfl, (blk_cell BK459.out 1).trans rfl, (blk_cell BK442.out 0).trans rfl, (blk_cell BK442.out 1).trans rfl⟩ (fun hHeld => ?_)
    clear hK K
    refine norm_ (a' := ?_) ?_ ?_
    rotate_left
    ·show Act.put _ (some 35) _ = _
     simp only [Act.put, Qp1, Qp2, Qp3, i64_w, i32_w]
     rfl
    refine pure_ (i := 8) (N := some 36) (v := ?_) (a' := ?_) (Qbz 13 511) rfl rfl (Qao) (fun _ _ _ h => h) (Or.inl ⟨by rfl, ?_⟩) ?_ ?_
    rotate_left
    ·intro w'
     go_simp
     with_reducible rfl
    rotate_left
    ·simp only [Act.put, Qp1, Qp2, Qp3, i64_w, i32_w]
     rfl
    refine pure_ (i := 9) (N := some 37) (v := ?_) (a' := ?_) (Qbz 13 1023) rfl rfl (Qao) (fun _ _ _ h => h) (Or.inl ⟨by rfl, ?_⟩) ?_ ?_
    rotate_left
    ·intro w'
     go_simp
     with_reducible rfl
    rotate_left
    ·simp only [Act.put, Qp1, Qp2, Qp3, i64_w, i32_w]
     rfl
    refine one_ (i := 10) (N := some 38) (Qbz 13 2047) rfl rfl (one_of HT_.out (by kernel_rfl)) (by decide) (fun K hK => ?_)
    refine goes_ Tryd.func20 (by kernel_rfl) rfl #[] (by rfl) rfl rfl (Qls) ?_
    with_reducible refine (lampblacklaw02_awake.calls (hGL := (Qlg)) k  t468 _ A12.out).mono ?_
    rintro e w35 ⟨rfl, hb⟩
    refine ⟨_, rfl, ?_⟩
    have n0_ := Aside0.mk (Kd.R_below (Qro HO445.out) hb)
    have n1_ := Aside0.mk (Kd.R_below (Qro HO448.out) hb)
    have n2_ := Aside0.mk (Kd.R_below (Qro HO451.out) hb)
    have n3_ := Aside0.mk (Kd.R_below (Qro HO454.out) hb)
    have n4_ := Aside0.mk (Kd.R_below (Qro HO457.out) hb)
    have n5_ := Aside0.mk (Kd.V_below (by (with_reducible repeat (first | apply Kd.V_alloc | apply Kd.V_drewN | apply Kd.V_drew)); exact HO463.out) hb)
    have n6_ := Aside0.mk (Kd.V_below (by (with_reducible repeat (first | apply Kd.V_alloc | apply Kd.V_drewN | apply Kd.V_drew)); exact HO466.out) hb)
    have n7_ := Aside0.mk (blk_below (g := gb442) (o := .cells #[.slice A1_0 l1_0.length c1_0, .slice A1_1 l1_1.length c1_1] 52 (0, 0)) (Qbl BK442.out) hb)
    have n8_ := Aside0.mk (blk_below (g := gb459) (o := .cells #[.slice Ao23 t452.length co23, .slice Ao25 t455.length co25] 53 (0, 0)) (Qbl BK459.out) hb)
    have n9_ := Aside0.mk (below_step (Qah GE442.out GE459.out) hb)
    clear HO445
    clear HO448
    clear HO451
    clear HO454
    clear HO457
    clear HO463
    clear HO466
    clear BK442
    clear BK459
    clear HB
    have HO445 := n0_
    have HO448 := n1_
    have HO451 := n2_
    have HO454 := n3_
    have HO457 := n4_
    have HO463 := n5_
    have HO466 := n6_
    have BK442 := n7_
    have BK459 := n8_
    have HB := n9_
    clear n0_ n1_ n2_ n3_ n4_ n5_ n6_ n7_ n8_ n9_
    (try clear hb)
    (try clear hb2)
    (try clear hk)
    (try clear hi)
    refine hK.out _ _ ⟨(blk_cell BK459.out 0).trans rfl, (blk_cell BK459.out 1).trans rfl, (blk_cell BK442.out 0).trans rfl, (blk_cell BK442.out 1).trans rfl⟩ (fun hHeld => ?_)
    clear hK K
    refine norm_ (a' := ?_) ?_ ?_
    rotate_left
    ·show Act.put _ (some 38) _ = _
     simp only [Act.put, Qp1, Qp2, Qp3, i64_w, i32_w]
     rfl
    refine pure_ (i := 11) (N := some 39) (v := ?_) (a' := ?_) (Qbz 13 4095) rfl rfl (Qao) (fun _ _ _ h => h) (Or.inl ⟨by rfl, ?_⟩) ?_ ?_
    rotate_left
    ·intro w'
     go_simp
     with_reducible rfl
    rotate_left
    ·simp only [Act.put, Qp1, Qp2, Qp3, i64_w, i32_w]
     rfl
    refine pure_ (i := 12) (N := some 4) (v := ?_) (a' := ?_) (Qbz 13 8191) rfl rfl (Qao) (fun _ _ _ h => h) (Or.inl ⟨by rfl, ?_⟩) ?_ ?_
    rotate_left
    ·intro w'
     go_simp
     with_reducible rfl
    rotate_left
    ·simp only [Act.put, Qp1, Qp2, Qp3, i64_w, i32_w]
     rfl
    refine done_ (done_of HT_.out (by kernel_rfl)) ?_
    try go_wp2
    go_ret
    exact ⟨by first | rfl | (simp [errW_none, errW_some] <;> rfl) | (simp [*, errW_none, errW_some] <;> rfl), by repeat (first | (with_reducible first | exact HB.out | apply below_alloc | apply pw_below_drewN | apply below_drew1 | refine below_set ?_ GE442.out | refine below_set ?_ GE459.out) | exact HB.out)⟩
   ·replace c11 := Bool.eq_false_iff.mpr c11
    subst c11
    have H1 : (some false) = some r := by rw [if_neg (show ¬ (false = true) by decide)] at H; exact H
    clear H
    have H := H1
    clear H1
    exact absurd ((Option.some.inj H).trans HRT.out) (by decide)
  ·rw [if_neg c8] at H
   have c8b0 : (t458 == 0) = false := beq_eq_false_iff_ne.mpr c8
   have c8b1 : (t458 != 0) = true := bne_iff_ne.mpr c8
   exact absurd ((Option.some.inj H).trans HRT.out) (by decide)
 ·replace c7 := Bool.eq_false_iff.mpr c7
  subst c7
  have H1 : ((lampblacklaw02_none.f t452 t455).bind fun t469 => (if t469 = true then (if t458 = 2 then ((lampblacklaw02_awake.f k).bind fun t470 => (some t470)) else (some false)) else (some false))) = some r := by rw [if_neg (show ¬ (false = true) by decide)] at H; exact H
  clear H
  have H := H1
  clear H1
  replace H := Option.bind_eq_some_iff.mp H
  obtain ⟨t469, A760, H⟩ := H
  replace H : (if t469 = true then (if t458 = 2 then ((lampblacklaw02_awake.f k).bind fun t470 => (some t470)) else (some false)) else (some false)) = some r := H
  have A76 := Aside0.mk A760
  clear A760
  by_cases c77 : t469 = true
  ·subst c77
   have H1 : (if t458 = 2 then ((lampblacklaw02_awake.f k).bind fun t470 => (some t470)) else (some false)) = some r := by rw [if_pos rfl] at H; exact H
   clear H
   have H := H1
   clear H1
   by_cases c78 : t458 = 2
   ·rw [if_pos c78] at H
    have c78b0 : (t458 == 2) = true := beq_iff_eq.mpr c78
    have c78b1 : (t458 != 2) = false := bne_eq_false_iff_eq.mpr c78
    clear c78
    replace H := Option.bind_eq_some_iff.mp H
    obtain ⟨t470, A790, H⟩ := H
    replace H : (some t470) = some r := H
    have A79 := Aside0.mk A790
    clear A790
    clear HRT
    obtain rfl := Option.some.inj H
    go_enter Tryd.func9, Tryd.ntmps9
    try go_wp2_with (first | ((with_reducible refine gate_dst (N := 3) rfl ?_); refine box_event ?hg (N := 3) ?hd (cs := #[.slice A1_0 l1_0.length c1_0, .slice A1_1 l1_1.length c1_1]) (t := 52) ?hr ?_; (case hd => rfl); (case hg => rfl); (case hr => first | (go_simp; done) | (go_simp; rfl)); intro gb442 hg w80 hbox hb; have n0_ := Aside0.mk (below_step (Qaw) hb); have n1_ := Aside0.mk (hbox); have n2_ := Aside0.mk ((by rw [hg]; exact (below_size (Qaw)) : w.heap.size ≤ gb442)); have n3_ := Aside0.mk ((by rw [hg]; exact (below_size (Qaw)) : w.heap.size ≤ gb442)); clear HB; have HB := n0_; have BK442 := n1_; have GW442 := n2_; have GE442 := n3_; clear n0_ n1_ n2_ n3_; clear hb hbox hg))
    have n0_ := Aside0.mk (blk_drew BK442.out)
    have n1_ := Aside0.mk (below_drew1 HB.out)
    clear BK442
    clear HB
    have BK442 := n0_
    have HB := n1_
    clear n0_ n1_
    refine start_ (n := 11) (S := fun w' => w'.cell? ⟨gb442, 0, none⟩ = some (.slice A1_0 l1_0.length c1_0) ∧ w'.cell? ⟨gb442, 1, none⟩ = some (.slice A1_1 l1_1.length c1_1)) (ds := []) (Qbz 11 0) (by kernel_rfl) rfl rfl ⟨(blk_cell BK442.out 0).trans rfl, (blk_cell BK442.out 1).trans rfl⟩ (fun hHeld => ?_); refine with_tabW lampblacklaw02_WidthNarrows.tab1 lampblacklaw02_WidthNarrows.bits1 (fun HT_ HW_ => ?_)
    generalize w80.drew = w81 at BK442 HB hHeld ⊢
    refine pure_ (i := 0) (N := some 8) (v := ?_) (a' := ?_) (Qbz 11 1) rfl rfl (Qao) (fun _ _ _ h => h) (Or.inl ⟨by rfl, ?_⟩) ?_ ?_
    rotate_left
    ·intro w'
     go_simp
     with_reducible rfl
    rotate_left
    ·simp only [Act.put, Qp1, Qp2, Qp3, i64_w, i32_w]
     rfl
    refine take_ (i := 2) (N := some 10) (v := ?_) (a' := ?_) (Qbz 11 5) rfl rfl (take_ofW HT_.out HW_.out (by kernel_rfl)) (fun _ _ _ h => h) (Or.inl ⟨by rfl, ?_⟩) hHeld ?_ ?_
    rotate_left
    ·rintro w' ⟨s0, s1⟩
     go_simp
     with_reducible rfl
    rotate_left
    ·simp only [Act.put, Qp1, Qp2, Qp3, i64_w, i32_w]
     rfl
    refine join_ (σ := Value × Value × Value × Value × Value × Nat) 2 (Qbz 11 511) (fun s_ => [(9, s_.1), (11, .agg #[s_.2.1, s_.2.2.1]), (12, .tuple #[.agg #[s_.2.2.2.1, s_.2.2.2.2.1], .int .i64 t458]), (5, .pointer (some ⟨s_.2.2.2.2.2, 0, none⟩)), (7, .tuple #[.agg #[s_.2.2.2.1, s_.2.2.2.2.1], .int .i64 t458]), (13, .agg #[s_.2.2.2.1, s_.2.2.2.2.1]), (14, .int .i64 t458)]) (fun s_ w' => (w'.cell? ⟨gb442, 0, none⟩ = some (.slice A1_0 l1_0.length c1_0) ∧ w'.cell? ⟨gb442, 1, none⟩ = some (.slice A1_1 l1_1.length c1_1)) ∧ (Kd.R (Kd.int .i64) 3 w' w.heap.size (fun k_ => some k_ ≠ (s_.2.1 : Value).ownBlock ∧ some k_ ≠ (s_.2.2.1 : Value).ownBlock ∧ some k_ ≠ (s_.2.2.2.1 : Value).ownBlock ∧ some k_ ≠ (s_.2.2.2.2.1 : Value).ownBlock) s_.1 t443) ∧ (Kd.R (Kd.int .i64) 3 w' w.heap.size (fun k_ => some k_ ≠ (s_.1 : Value).ownBlock ∧ some k_ ≠ (s_.2.2.1 : Value).ownBlock ∧ some k_ ≠ (s_.2.2.2.1 : Value).ownBlock ∧ some k_ ≠ (s_.2.2.2.2.1 : Value).ownBlock) s_.2.1 t446) ∧ (Kd.R (Kd.int .i64) 3 w' w.heap.size (fun k_ => some k_ ≠ (s_.1 : Value).ownBlock ∧ some k_ ≠ (s_.2.1 : Value).ownBlock ∧ some k_ ≠ (s_.2.2.2.1 : Value).ownBlock ∧ some k_ ≠ (s_.2.2.2.2.1 : Value).ownBlock) s_.2.2.1 t449) ∧ (Kd.R (Kd.int .i64) 3 w' w.heap.size (fun k_ => some k_ ≠ (s_.1 : Value).ownBlock ∧ some k_ ≠ (s_.2.1 : Value).ownBlock ∧ some k_ ≠ (s_.2.2.1 : Value).ownBlock ∧ some k_ ≠ (s_.2.2.2.2.1 : Value).ownBlock) s_.2.2.2.1 t452) ∧ (Kd.R (Kd.int .i64) 3 w' w.heap.size (fun k_ => some k_ ≠ (s_.1 : Value).ownBlock ∧ some k_ ≠ (s_.2.1 : Value).ownBlock ∧ some k_ ≠ (s_.2.2.1 : Value).ownBlock ∧ some k_ ≠ (s_.2.2.2.1 : Value).ownBlock) s_.2.2.2.2.1 t455) ∧ (w'.heap[gb442]? = some (.cells #[.slice A1_0 l1_0.length c1_0, .slice A1_1 l1_1.length c1_1] 52 (0, 0))) ∧ (w'.heap[s_.2.2.2.2.2]? = some (.cells #[.slice none 0 0, .slice none 0 0] 53 (0, 0))) ∧ (w.heap.size ≤ s_.2.2.2.2.2) ∧ (w.heap.size ≤ s_.2.2.2.2.2) ∧ (gb442 ≠ s_.2.2.2.2.2) ∧ (s_.2.2.2.2.2 ≠ gb442) ∧ (Below w.heap.size w w')) ?_ ?_
    rotate_left
    ·intro hCont
     refine two_ (i := 1) (j := 8) (Ni := some 9) (Nj := some 5) (Qbz 11 7) (Qbz 11 261) rfl rfl rfl rfl (two_of HT_.out (by kernel_rfl)) (by decide) (by decide) (fun K hK => ?_) (fun K hK => ?_)
     ·skip
      refine goes_ Tryd.func19 (by kernel_rfl) rfl #[.slice A0 l0.length c0] (by rfl) rfl rfl (Qls) ?_
      with_reducible refine (lampblacklaw02_Few.calls _ _ l0 t443 _ ?side1 ?side2 A3.out).mono ?_
      (case side1 => exact Qsc (Kd.C_below HR0.out HB.out))
      (case side2 => exact HC0.out)
      rintro e w82 ⟨v444, rfl, ho0, hb⟩
      refine ⟨_, rfl, ?_⟩
      have n0_ := Aside0.mk (Kd.R_lower ho0 (below_size (Qag GE442.out)))
      have n1_ := Aside0.mk (blk_below (g := gb442) (o := .cells #[.slice A1_0 l1_0.length c1_0, .slice A1_1 l1_1.length c1_1] 52 (0, 0)) (Qbl BK442.out) hb)
      have n2_ := Aside0.mk (below_step (Qag GE442.out) hb)
      clear BK442
      clear HB
      have HO445 := n0_
      have BK442 := n1_
      have HB := n2_
      clear n0_ n1_ n2_
      (try clear hb)
      (try clear hb2)
      (try clear hk)
      (try clear hi)
      (try clear ho0)
      refine hK.out _ _ ⟨(blk_cell BK442.out 0).trans rfl, (blk_cell BK442.out 1).trans rfl⟩ (fun hHeld => ?_)
      clear hK K
      refine norm_ (a' := ?_) ?_ ?_
      rotate_left
      ·show Act.put _ (some 9) _ = _
       simp only [Act.put, Qp1, Qp2, Qp3, i64_w, i32_w]
       rfl
      refine two_ (i := 3) (j := 8) (Ni := some 11) (Nj := some 5) (Qbz 11 15) (Qbz 11 263) rfl rfl rfl rfl (two_of HT_.out (by kernel_rfl)) (by decide) (by decide) (fun K hK => ?_) (fun K hK => ?_)
      ·skip
       refine goes_ Tryd.func44 (by kernel_rfl) rfl #[.agg #[.slice A1_0 l1_0.length c1_0, .slice A1_1 l1_1.length c1_1]] (by rfl) rfl rfl (Qls) ?_
       with_reducible refine (lampblacklaw02_Of.calls _ _ l1_0 _ _ l1_1 t446 t449 _ ?side1 ?side2 ?side3 ?side4 A4.out).mono ?_
       (case side1 => exact Qsc (Kd.C_below HR1_0.out HB.out))
       (case side2 => exact HC1_0.out)
       (case side3 => exact Qsc (Kd.C_below HR1_1.out HB.out))
       (case side4 => exact HC1_1.out)
       rintro e w83 ⟨v447, v450, rfl, ho0, ho1, hb⟩
       refine ⟨_, rfl, ?_⟩
       have n0_ := Aside0.mk (Kd.R_mono (Kd.R_told (Kd.R_told (Kd.R_old (Qro HO445.out) hb) (Kd.R_base ho0)) (Kd.R_base ho1)) (fun _ h_ => h_.1))
       have n1_ := Aside0.mk (Kd.R_lower (Kd.R_new' ho0 (Kd.R_lt (Qro HO445.out))) (below_size (Qag GE442.out)))
       have n2_ := Aside0.mk (Kd.R_lower (Kd.R_new' ho1 (Kd.R_lt (Qro HO445.out))) (below_size (Qag GE442.out)))
       have n3_ := Aside0.mk (blk_below (g := gb442) (o := .cells #[.slice A1_0 l1_0.length c1_0, .slice A1_1 l1_1.length c1_1] 52 (0, 0)) (Qbl BK442.out) hb)
       have n4_ := Aside0.mk (below_step (Qag GE442.out) hb)
       clear HO445
       clear BK442
       clear HB
       have HO445 := n0_
       have HO448 := n1_
       have HO451 := n2_
       have BK442 := n3_
       have HB := n4_
       clear n0_ n1_ n2_ n3_ n4_
       (try clear hb)
       (try clear hb2)
       (try clear hk)
       (try clear hi)
       (try clear ho0)
       (try clear ho1)
       obtain ⟨Ao84, co84, eo84⟩ := Kd.R_slice HO445.out
       (first | subst eo84 | (injection eo84 with f1_ f2_ f3_; have f4_ := f1_.symm; have f5_ := f3_.symm; clear f1_ f2_ f3_; subst f4_; subst f5_))
       obtain ⟨Ao85, co85, eo85⟩ := Kd.R_slice HO448.out
       (first | subst eo85 | (injection eo85 with f1_ f2_ f3_; have f4_ := f1_.symm; have f5_ := f3_.symm; clear f1_ f2_ f3_; subst f4_; subst f5_))
       obtain ⟨Ao86, co86, eo86⟩ := Kd.R_slice HO451.out
       (first | subst eo86 | (injection eo86 with f1_ f2_ f3_; have f4_ := f1_.symm; have f5_ := f3_.symm; clear f1_ f2_ f3_; subst f4_; subst f5_))
       refine hK.out _ _ ⟨(blk_cell BK442.out 0).trans rfl, (blk_cell BK442.out 1).trans rfl⟩ (fun hHeld => ?_)
       clear hK K
       refine norm_ (a' := ?_) ?_ ?_
       rotate_left
       ·show Act.put _ (some 11) _ = _
        simp only [Act.put, Qp1, Qp2, Qp3, i64_w, i32_w]
        rfl
       refine two_ (i := 4) (j := 8) (Ni := some 12) (Nj := some 5) (Qbz 11 31) (Qbz 11 271) rfl rfl rfl rfl (two_of HT_.out (by kernel_rfl)) (by decide) (by decide) (fun K hK => ?_) (fun K hK => ?_)
       ·skip
        refine goes_ Tryd.func43 (by kernel_rfl) rfl #[.slice Ao84 t443.length co84, .agg #[.slice Ao85 t446.length co85, .slice Ao86 t449.length co86]] (by rfl) rfl rfl (Qls) ?_
        with_reducible refine (width_Narrow.calls (hGL := (Qlg)) _ _ t443 _ _ t446 _ _ t449 t452 t455 t458 _ ?side1 ?side2 ?side3 ?side4 ?side5 ?side6 A5.out).mono ?_
        (case side1 => exact Qsc (Kd.R_reads' HO445.out).2.2)
        (case side2 => exact (Kd.R_reads' HO445.out).2.1)
        (case side3 => exact Qsc (Kd.R_reads' HO448.out).2.2)
        (case side4 => exact (Kd.R_reads' HO448.out).2.1)
        (case side5 => exact Qsc (Kd.R_reads' HO451.out).2.2)
        (case side6 => exact (Kd.R_reads' HO451.out).2.1)
        rintro e w87 ⟨v453, v456, rfl, ho0, ho1, hb⟩
        refine ⟨_, rfl, ?_⟩
        have n0_ := Aside0.mk (Kd.R_mono (Kd.R_told (Kd.R_told (Kd.R_old (Qro HO445.out) hb) (Kd.R_base ho0)) (Kd.R_base ho1)) (fun _ h_ => h_.1))
        have n1_ := Aside0.mk (Kd.R_mono (Kd.R_told (Kd.R_told (Kd.R_old (Qro HO448.out) hb) (Kd.R_base ho0)) (Kd.R_base ho1)) (fun _ h_ => h_.1))
        have n2_ := Aside0.mk (Kd.R_mono (Kd.R_told (Kd.R_told (Kd.R_old (Qro HO451.out) hb) (Kd.R_base ho0)) (Kd.R_base ho1)) (fun _ h_ => h_.1))
        have n3_ := Aside0.mk (Kd.R_lower (Kd.R_new' (Kd.R_new' (Kd.R_new' ho0 (Kd.R_lt (Qro HO445.out))) (Kd.R_lt (Qro HO448.out))) (Kd.R_lt (Qro HO451.out))) (below_size (Qag GE442.out)))
        have n4_ := Aside0.mk (Kd.R_lower (Kd.R_new' (Kd.R_new' (Kd.R_new' ho1 (Kd.R_lt (Qro HO445.out))) (Kd.R_lt (Qro HO448.out))) (Kd.R_lt (Qro HO451.out))) (below_size (Qag GE442.out)))
        have n5_ := Aside0.mk (blk_below (g := gb442) (o := .cells #[.slice A1_0 l1_0.length c1_0, .slice A1_1 l1_1.length c1_1] 52 (0, 0)) (Qbl BK442.out) hb)
        have n6_ := Aside0.mk (below_step (Qag GE442.out) hb)
        clear HO445
        clear HO448
        clear HO451
        clear BK442
        clear HB
        have HO445 := n0_
        have HO448 := n1_
        have HO451 := n2_
        have HO454 := n3_
        have HO457 := n4_
        have BK442 := n5_
        have HB := n6_
        clear n0_ n1_ n2_ n3_ n4_ n5_ n6_
        (try clear hb)
        (try clear hb2)
        (try clear hk)
        (try clear hi)
        (try clear ho0)
        (try clear ho1)
        refine hK.out _ _ ⟨(blk_cell BK442.out 0).trans rfl, (blk_cell BK442.out 1).trans rfl⟩ (fun hHeld => ?_)
        clear hK K
        refine norm_ (a' := ?_) ?_ ?_
        rotate_left
        ·show Act.put _ (some 12) _ = _
         simp only [Act.put, Qp1, Qp2, Qp3, i64_w, i32_w]
         rfl
        refine pure_ (i := 5) (N := some 7) (v := ?_) (a' := ?_) (Qbz 11 63) rfl rfl (Qao) (fun _ _ _ h => h) (Or.inl ⟨by rfl, ?_⟩) ?_ ?_
        rotate_left
        ·intro w'
         go_simp
         with_reducible rfl
        rotate_left
        ·simp only [Act.put, Qp1, Qp2, Qp3, i64_w, i32_w]
         rfl
        refine pure_ (i := 6) (N := some 13) (v := ?_) (a' := ?_) (Qbz 11 127) rfl rfl (Qao) (fun _ _ _ h => h) (Or.inl ⟨by rfl, ?_⟩) ?_ ?_
        rotate_left
        ·intro w'
         go_simp
         with_reducible rfl
        rotate_left
        ·simp only [Act.put, Qp1, Qp2, Qp3, i64_w, i32_w]
         rfl
        refine pure_ (i := 7) (N := some 14) (v := ?_) (a' := ?_) (Qbz 11 255) rfl rfl (Qao) (fun _ _ _ h => h) (Or.inl ⟨by rfl, ?_⟩) ?_ ?_
        rotate_left
        ·intro w'
         go_simp
         with_reducible rfl
        rotate_left
        ·simp only [Act.put, Qp1, Qp2, Qp3, i64_w, i32_w]
         rfl
        refine one_ (i := 8) (N := some 5) (Qbz 11 511) rfl rfl (one_of HT_.out (by kernel_rfl)) (by decide) (fun K hK => ?_)
        refine box_step ?hg (N := 5) ?hd (cs := #[.slice none 0 0, .slice none 0 0]) (t := 53) ?hr ?_; (case hd => rfl); (case hg => rfl); (case hr => first | (go_simp; done) | (go_simp; rfl))
        intro gb459 hg w88 hbox hb
        have n0_ := Aside0.mk (Kd.R_below (Qro HO445.out) hb)
        have n1_ := Aside0.mk (Kd.R_below (Qro HO448.out) hb)
        have n2_ := Aside0.mk (Kd.R_below (Qro HO451.out) hb)
        have n3_ := Aside0.mk (Kd.R_below (Qro HO454.out) hb)
        have n4_ := Aside0.mk (Kd.R_below (Qro HO457.out) hb)
        have n5_ := Aside0.mk (blk_below (g := gb442) (o := .cells #[.slice A1_0 l1_0.length c1_0, .slice A1_1 l1_1.length c1_1] 52 (0, 0)) (Qbl BK442.out) hb)
        have n6_ := Aside0.mk (below_step (Qag GE442.out) hb)
        have n7_ := Aside0.mk (hbox)
        have n8_ := Aside0.mk ((by rw [hg]; exact (below_size (Qag GE442.out)) : w.heap.size ≤ gb459))
        have n9_ := Aside0.mk ((by rw [hg]; exact (below_size (Qag GE442.out)) : w.heap.size ≤ gb459))
        have n10_ := Aside0.mk ((by rw [hg]; exact Nat.ne_of_lt (blk_lt (g := gb442) (o := .cells #[.slice A1_0 l1_0.length c1_0, .slice A1_1 l1_1.length c1_1] 52 (0, 0)) (Qbl BK442.out)) : gb442 ≠ gb459))
        have n11_ := Aside0.mk ((by rw [hg]; exact Nat.ne_of_gt (blk_lt (g := gb442) (o := .cells #[.slice A1_0 l1_0.length c1_0, .slice A1_1 l1_1.length c1_1] 52 (0, 0)) (Qbl BK442.out)) : gb459 ≠ gb442))
        clear HO445
        clear HO448
        clear HO451
        clear HO454
        clear HO457
        clear BK442
        clear HB
        have HO445 := n0_
        have HO448 := n1_
        have HO451 := n2_
        have HO454 := n3_
        have HO457 := n4_
        have BK442 := n5_
        have HB := n6_
        have BK459 := n7_
        have GW459 := n8_
        have GE459 := n9_
        have NB442_459 := n10_
        have NB459_442 := n11_
        clear n0_ n1_ n2_ n3_ n4_ n5_ n6_ n7_ n8_ n9_ n10_ n11_
        clear hb hbox hg
        refine hK.out _ _ ⟨(blk_cell BK442.out 0).trans rfl, (blk_cell BK442.out 1).trans rfl⟩ (fun hHeld => ?_)
        clear hK K
        refine norm_ (a' := ?_) ?_ ?_
        rotate_left
        ·show Act.put _ (some 5) _ = _
         simp only [Act.put, Qp1, Qp2, Qp3, i64_w, i32_w]
         rfl
        exact norm_ (by simp only [putAll, Act.put, List.setIfInBounds_toArray, List.set_cons_zero, List.set_cons_succ]) (hCont (.slice Ao84 t443.length co84, .slice Ao85 t446.length co85, .slice Ao86 t449.length co86, v453, v456, gb459) _ ⟨hHeld, (by (with_reducible repeat (first | apply Kd.R_alloc | apply Kd.R_drewN | apply Kd.R_drew)); exact Kd.R_mono HO445.out (fun _ hk => ⟨hk.1.1.1.2, ⟨hk.1.1.2, ⟨hk.1.2, hk.2⟩⟩⟩)), (by (with_reducible repeat (first | apply Kd.R_alloc | apply Kd.R_drewN | apply Kd.R_drew)); exact Kd.R_mono HO448.out (fun _ hk => ⟨hk.1.1.2, ⟨hk.1.1.1, ⟨hk.1.2, hk.2⟩⟩⟩)), (by (with_reducible repeat (first | apply Kd.R_alloc | apply Kd.R_drewN | apply Kd.R_drew)); exact Kd.R_mono HO451.out (fun _ hk => ⟨hk.1.1.2, ⟨hk.1.1.1, ⟨hk.1.2, hk.2⟩⟩⟩)), (by (with_reducible repeat (first | apply Kd.R_alloc | apply Kd.R_drewN | apply Kd.R_drew)); exact Kd.R_mono HO454.out (fun _ hk => ⟨hk.1.1.2, ⟨hk.1.2, ⟨hk.2, hk.1.1.1⟩⟩⟩)), (by (with_reducible repeat (first | apply Kd.R_alloc | apply Kd.R_drewN | apply Kd.R_drew)); exact Kd.R_mono HO457.out (fun _ hk => ⟨hk.1.1.2, ⟨hk.1.2, ⟨hk.2, hk.1.1.1⟩⟩⟩)), (Qbl BK442.out), (Qbl BK459.out), GW459.out, GE459.out, NB442_459.out, NB459_442.out, (Qah GE442.out GE459.out)⟩)
       ·skip
        refine box_step ?hg (N := 5) ?hd (cs := #[.slice none 0 0, .slice none 0 0]) (t := 53) ?hr ?_; (case hd => rfl); (case hg => rfl); (case hr => first | (go_simp; done) | (go_simp; rfl))
        intro gb459 hg w84 hbox hb
        have n0_ := Aside0.mk (Kd.R_below (Qro HO445.out) hb)
        have n1_ := Aside0.mk (Kd.R_below (Qro HO448.out) hb)
        have n2_ := Aside0.mk (Kd.R_below (Qro HO451.out) hb)
        have n3_ := Aside0.mk (blk_below (g := gb442) (o := .cells #[.slice A1_0 l1_0.length c1_0, .slice A1_1 l1_1.length c1_1] 52 (0, 0)) (Qbl BK442.out) hb)
        have n4_ := Aside0.mk (below_step (Qag GE442.out) hb)
        have n5_ := Aside0.mk (hbox)
        have n6_ := Aside0.mk ((by rw [hg]; exact (below_size (Qag GE442.out)) : w.heap.size ≤ gb459))
        have n7_ := Aside0.mk ((by rw [hg]; exact (below_size (Qag GE442.out)) : w.heap.size ≤ gb459))
        have n8_ := Aside0.mk ((by rw [hg]; exact Nat.ne_of_lt (blk_lt (g := gb442) (o := .cells #[.slice A1_0 l1_0.length c1_0, .slice A1_1 l1_1.length c1_1] 52 (0, 0)) (Qbl BK442.out)) : gb442 ≠ gb459))
        have n9_ := Aside0.mk ((by rw [hg]; exact Nat.ne_of_gt (blk_lt (g := gb442) (o := .cells #[.slice A1_0 l1_0.length c1_0, .slice A1_1 l1_1.length c1_1] 52 (0, 0)) (Qbl BK442.out)) : gb459 ≠ gb442))
        clear HO445
        clear HO448
        clear HO451
        clear BK442
        clear HB
        have HO445 := n0_
        have HO448 := n1_
        have HO451 := n2_
        have BK442 := n3_
        have HB := n4_
        have BK459 := n5_
        have GW459 := n6_
        have GE459 := n7_
        have NB442_459 := n8_
        have NB459_442 := n9_
        clear n0_ n1_ n2_ n3_ n4_ n5_ n6_ n7_ n8_ n9_
        clear hb hbox hg
        obtain ⟨Ao85, co85, eo85⟩ := Kd.R_slice HO445.out
        (first | subst eo85 | (injection eo85 with f1_ f2_ f3_; have f4_ := f1_.symm; have f5_ := f3_.symm; clear f1_ f2_ f3_; subst f4_; subst f5_))
        obtain ⟨Ao86, co86, eo86⟩ := Kd.R_slice HO448.out
        (first | subst eo86 | (injection eo86 with f1_ f2_ f3_; have f4_ := f1_.symm; have f5_ := f3_.symm; clear f1_ f2_ f3_; subst f4_; subst f5_))
        obtain ⟨Ao87, co87, eo87⟩ := Kd.R_slice HO451.out
        (first | subst eo87 | (injection eo87 with f1_ f2_ f3_; have f4_ := f1_.symm; have f5_ := f3_.symm; clear f1_ f2_ f3_; subst f4_; subst f5_))
        refine hK.out _ _ ⟨(blk_cell BK442.out 0).trans rfl, (blk_cell BK442.out 1).trans rfl⟩ (fun hHeld => ?_)
        clear hK K
        refine norm_ (a' := ?_) ?_ ?_
        rotate_left
        ·show Act.put _ (some 5) _ = _
         simp only [Act.put, Qp1, Qp2, Qp3, i64_w, i32_w]
         rfl
        refine one_ (i := 4) (N := some 12) (Qbz 11 287) rfl rfl (one_of HT_.out (by kernel_rfl)) (by decide) (fun K hK => ?_)
        refine goes_ Tryd.func43 (by kernel_rfl) rfl #[.slice Ao85 t443.length co85, .agg #[.slice Ao86 t446.length co86, .slice Ao87 t449.length co87]] (by rfl) rfl rfl (Qls) ?_
        with_reducible refine (width_Narrow.calls (hGL := (Qlg)) _ _ t443 _ _ t446 _ _ t449 t452 t455 t458 _ ?side1 ?side2 ?side3 ?side4 ?side5 ?side6 A5.out).mono ?_
        (case side1 => exact Qsc (Kd.R_reads' HO445.out).2.2)
        (case side2 => exact (Kd.R_reads' HO445.out).2.1)
        (case side3 => exact Qsc (Kd.R_reads' HO448.out).2.2)
        (case side4 => exact (Kd.R_reads' HO448.out).2.1)
        (case side5 => exact Qsc (Kd.R_reads' HO451.out).2.2)
        (case side6 => exact (Kd.R_reads' HO451.out).2.1)
        rintro e w88 ⟨v453, v456, rfl, ho0, ho1, hb⟩
        refine ⟨_, rfl, ?_⟩
        have n0_ := Aside0.mk (Kd.R_mono (Kd.R_told (Kd.R_told (Kd.R_old (Qro HO445.out) hb) (Kd.R_base ho0)) (Kd.R_base ho1)) (fun _ h_ => h_.1))
        have n1_ := Aside0.mk (Kd.R_mono (Kd.R_told (Kd.R_told (Kd.R_old (Qro HO448.out) hb) (Kd.R_base ho0)) (Kd.R_base ho1)) (fun _ h_ => h_.1))
        have n2_ := Aside0.mk (Kd.R_mono (Kd.R_told (Kd.R_told (Kd.R_old (Qro HO451.out) hb) (Kd.R_base ho0)) (Kd.R_base ho1)) (fun _ h_ => h_.1))
        have n3_ := Aside0.mk (Kd.R_lower (Kd.R_new' (Kd.R_new' (Kd.R_new' ho0 (Kd.R_lt (Qro HO445.out))) (Kd.R_lt (Qro HO448.out))) (Kd.R_lt (Qro HO451.out))) (below_size (Qah GE442.out GE459.out)))
        have n4_ := Aside0.mk (Kd.R_lower (Kd.R_new' (Kd.R_new' (Kd.R_new' ho1 (Kd.R_lt (Qro HO445.out))) (Kd.R_lt (Qro HO448.out))) (Kd.R_lt (Qro HO451.out))) (below_size (Qah GE442.out GE459.out)))
        have n5_ := Aside0.mk (blk_below (g := gb442) (o := .cells #[.slice A1_0 l1_0.length c1_0, .slice A1_1 l1_1.length c1_1] 52 (0, 0)) (Qbl BK442.out) hb)
        have n6_ := Aside0.mk (blk_below (g := gb459) (o := .cells #[.slice none 0 0, .slice none 0 0] 53 (0, 0)) (Qbl BK459.out) hb)
        have n7_ := Aside0.mk (below_step (Qah GE442.out GE459.out) hb)
        clear HO445
        clear HO448
        clear HO451
        clear BK442
        clear BK459
        clear HB
        have HO445 := n0_
        have HO448 := n1_
        have HO451 := n2_
        have HO454 := n3_
        have HO457 := n4_
        have BK442 := n5_
        have BK459 := n6_
        have HB := n7_
        clear n0_ n1_ n2_ n3_ n4_ n5_ n6_ n7_
        (try clear hb)
        (try clear hb2)
        (try clear hk)
        (try clear hi)
        (try clear ho0)
        (try clear ho1)
        refine hK.out _ _ ⟨(blk_cell BK442.out 0).trans rfl, (blk_cell BK442.out 1).trans rfl⟩ (fun hHeld => ?_)
        clear hK K
        refine norm_ (a' := ?_) ?_ ?_
        rotate_left
        ·show Act.put _ (some 12) _ = _
         simp only [Act.put, Qp1, Qp2, Qp3, i64_w, i32_w]
         rfl
        refine pure_ (i := 5) (N := some 7) (v := ?_) (a' := ?_) (Qbz 11 319) rfl rfl (Qao) (fun _ _ _ h => h) (Or.inl ⟨by rfl, ?_⟩) ?_ ?_
        rotate_left
        ·intro w'
         go_simp
         with_reducible rfl
        rotate_left
        ·simp only [Act.put, Qp1, Qp2, Qp3, i64_w, i32_w]
         rfl
        refine pure_ (i := 6) (N := some 13) (v := ?_) (a' := ?_) (Qbz 11 383) rfl rfl (Qao) (fun _ _ _ h => h) (Or.inl ⟨by rfl, ?_⟩) ?_ ?_
        rotate_left
        ·intro w'
         go_simp
         with_reducible rfl
        rotate_left
        ·simp only [Act.put, Qp1, Qp2, Qp3, i64_w, i32_w]
         rfl
        refine pure_ (i := 7) (N := some 14) (v := ?_) (a' := ?_) (Qbz 11 511) rfl rfl (Qao) (fun _ _ _ h => h) (Or.inl ⟨by rfl, ?_⟩) ?_ ?_
        rotate_left
        ·intro w'
         go_simp
         with_reducible rfl
        rotate_left
        ·simp only [Act.put, Qp1, Qp2, Qp3, i64_w, i32_w]
         rfl
        exact norm_ (by simp only [putAll, Act.put, List.setIfInBounds_toArray, List.set_cons_zero, List.set_cons_succ]) (hCont (.slice Ao85 t443.length co85, .slice Ao86 t446.length co86, .slice Ao87 t449.length co87, v453, v456, gb459) _ ⟨hHeld, (by (with_reducible repeat (first | apply Kd.R_alloc | apply Kd.R_drewN | apply Kd.R_drew)); exact Kd.R_mono HO445.out (fun _ hk => ⟨hk.1.1.1.2, ⟨hk.1.1.2, ⟨hk.1.2, hk.2⟩⟩⟩)), (by (with_reducible repeat (first | apply Kd.R_alloc | apply Kd.R_drewN | apply Kd.R_drew)); exact Kd.R_mono HO448.out (fun _ hk => ⟨hk.1.1.2, ⟨hk.1.1.1, ⟨hk.1.2, hk.2⟩⟩⟩)), (by (with_reducible repeat (first | apply Kd.R_alloc | apply Kd.R_drewN | apply Kd.R_drew)); exact Kd.R_mono HO451.out (fun _ hk => ⟨hk.1.1.2, ⟨hk.1.1.1, ⟨hk.1.2, hk.2⟩⟩⟩)), (by (with_reducible repeat (first | apply Kd.R_alloc | apply Kd.R_drewN | apply Kd.R_drew)); exact Kd.R_mono HO454.out (fun _ hk => ⟨hk.1.1.2, ⟨hk.1.2, ⟨hk.2, hk.1.1.1⟩⟩⟩)), (by (with_reducible repeat (first | apply Kd.R_alloc | apply Kd.R_drewN | apply Kd.R_drew)); exact Kd.R_mono HO457.out (fun _ hk => ⟨hk.1.1.2, ⟨hk.1.2, ⟨hk.2, hk.1.1.1⟩⟩⟩)), (Qbl BK442.out), (Qbl BK459.out), GW459.out, GE459.out, NB442_459.out, NB459_442.out, (Qah GE442.out GE459.out)⟩)
      ·skip
       refine box_step ?hg (N := 5) ?hd (cs := #[.slice none 0 0, .slice none 0 0]) (t := 53) ?hr ?_; (case hd => rfl); (case hg => rfl); (case hr => first | (go_simp; done) | (go_simp; rfl))
       intro gb459 hg w83 hbox hb
       have n0_ := Aside0.mk (Kd.R_below (Qro HO445.out) hb)
       have n1_ := Aside0.mk (blk_below (g := gb442) (o := .cells #[.slice A1_0 l1_0.length c1_0, .slice A1_1 l1_1.length c1_1] 52 (0, 0)) (Qbl BK442.out) hb)
       have n2_ := Aside0.mk (below_step (Qag GE442.out) hb)
       have n3_ := Aside0.mk (hbox)
       have n4_ := Aside0.mk ((by rw [hg]; exact (below_size (Qag GE442.out)) : w.heap.size ≤ gb459))
       have n5_ := Aside0.mk ((by rw [hg]; exact (below_size (Qag GE442.out)) : w.heap.size ≤ gb459))
       have n6_ := Aside0.mk ((by rw [hg]; exact Nat.ne_of_lt (blk_lt (g := gb442) (o := .cells #[.slice A1_0 l1_0.length c1_0, .slice A1_1 l1_1.length c1_1] 52 (0, 0)) (Qbl BK442.out)) : gb442 ≠ gb459))
       have n7_ := Aside0.mk ((by rw [hg]; exact Nat.ne_of_gt (blk_lt (g := gb442) (o := .cells #[.slice A1_0 l1_0.length c1_0, .slice A1_1 l1_1.length c1_1] 52 (0, 0)) (Qbl BK442.out)) : gb459 ≠ gb442))
       clear HO445
       clear BK442
       clear HB
       have HO445 := n0_
       have BK442 := n1_
       have HB := n2_
       have BK459 := n3_
       have GW459 := n4_
       have GE459 := n5_
       have NB442_459 := n6_
       have NB459_442 := n7_
       clear n0_ n1_ n2_ n3_ n4_ n5_ n6_ n7_
       clear hb hbox hg
       refine hK.out _ _ ⟨(blk_cell BK442.out 0).trans rfl, (blk_cell BK442.out 1).trans rfl⟩ (fun hHeld => ?_)
       clear hK K
       refine norm_ (a' := ?_) ?_ ?_
       rotate_left
       ·show Act.put _ (some 5) _ = _
        simp only [Act.put, Qp1, Qp2, Qp3, i64_w, i32_w]
        rfl
       refine one_ (i := 3) (N := some 11) (Qbz 11 271) rfl rfl (one_of HT_.out (by kernel_rfl)) (by decide) (fun K hK => ?_)
       refine goes_ Tryd.func44 (by kernel_rfl) rfl #[.agg #[.slice A1_0 l1_0.length c1_0, .slice A1_1 l1_1.length c1_1]] (by rfl) rfl rfl (Qls) ?_
       with_reducible refine (lampblacklaw02_Of.calls _ _ l1_0 _ _ l1_1 t446 t449 _ ?side1 ?side2 ?side3 ?side4 A4.out).mono ?_
       (case side1 => exact Qsc (Kd.C_below HR1_0.out HB.out))
       (case side2 => exact HC1_0.out)
       (case side3 => exact Qsc (Kd.C_below HR1_1.out HB.out))
       (case side4 => exact HC1_1.out)
       rintro e w84 ⟨v447, v450, rfl, ho0, ho1, hb⟩
       refine ⟨_, rfl, ?_⟩
       have n0_ := Aside0.mk (Kd.R_mono (Kd.R_told (Kd.R_told (Kd.R_old (Qro HO445.out) hb) (Kd.R_base ho0)) (Kd.R_base ho1)) (fun _ h_ => h_.1))
       have n1_ := Aside0.mk (Kd.R_lower (Kd.R_new' ho0 (Kd.R_lt (Qro HO445.out))) (below_size (Qah GE442.out GE459.out)))
       have n2_ := Aside0.mk (Kd.R_lower (Kd.R_new' ho1 (Kd.R_lt (Qro HO445.out))) (below_size (Qah GE442.out GE459.out)))
       have n3_ := Aside0.mk (blk_below (g := gb442) (o := .cells #[.slice A1_0 l1_0.length c1_0, .slice A1_1 l1_1.length c1_1] 52 (0, 0)) (Qbl BK442.out) hb)
       have n4_ := Aside0.mk (blk_below (g := gb459) (o := .cells #[.slice none 0 0, .slice none 0 0] 53 (0, 0)) (Qbl BK459.out) hb)
       have n5_ := Aside0.mk (below_step (Qah GE442.out GE459.out) hb)
       clear HO445
       clear BK442
       clear BK459
       clear HB
       have HO445 := n0_
       have HO448 := n1_
       have HO451 := n2_
       have BK442 := n3_
       have BK459 := n4_
       have HB := n5_
       clear n0_ n1_ n2_ n3_ n4_ n5_
       (try clear hb)
       (try clear hb2)
       (try clear hk)
       (try clear hi)
       (try clear ho0)
       (try clear ho1)
       obtain ⟨Ao85, co85, eo85⟩ := Kd.R_slice HO445.out
       (first | subst eo85 | (injection eo85 with f1_ f2_ f3_; have f4_ := f1_.symm; have f5_ := f3_.symm; clear f1_ f2_ f3_; subst f4_; subst f5_))
       obtain ⟨Ao86, co86, eo86⟩ := Kd.R_slice HO448.out
       (first | subst eo86 | (injection eo86 with f1_ f2_ f3_; have f4_ := f1_.symm; have f5_ := f3_.symm; clear f1_ f2_ f3_; subst f4_; subst f5_))
       obtain ⟨Ao87, co87, eo87⟩ := Kd.R_slice HO451.out
       (first | subst eo87 | (injection eo87 with f1_ f2_ f3_; have f4_ := f1_.symm; have f5_ := f3_.symm; clear f1_ f2_ f3_; subst f4_; subst f5_))
       refine hK.out _ _ ⟨(blk_cell BK442.out 0).trans rfl, (blk_cell BK442.out 1).trans rfl⟩ (fun hHeld => ?_)
       clear hK K
       refine norm_ (a' := ?_) ?_ ?_
       rotate_left
       ·show Act.put _ (some 11) _ = _
        simp only [Act.put, Qp1, Qp2, Qp3, i64_w, i32_w]
        rfl
       refine one_ (i := 4) (N := some 12) (Qbz 11 287) rfl rfl (one_of HT_.out (by kernel_rfl)) (by decide) (fun K hK => ?_)
       refine goes_ Tryd.func43 (by kernel_rfl) rfl #[.slice Ao85 t443.length co85, .agg #[.slice Ao86 t446.length co86, .slice Ao87 t449.length co87]] (by rfl) rfl rfl (Qls) ?_
       with_reducible refine (width_Narrow.calls (hGL := (Qlg)) _ _ t443 _ _ t446 _ _ t449 t452 t455 t458 _ ?side1 ?side2 ?side3 ?side4 ?side5 ?side6 A5.out).mono ?_
       (case side1 => exact Qsc (Kd.R_reads' HO445.out).2.2)
       (case side2 => exact (Kd.R_reads' HO445.out).2.1)
       (case side3 => exact Qsc (Kd.R_reads' HO448.out).2.2)
       (case side4 => exact (Kd.R_reads' HO448.out).2.1)
       (case side5 => exact Qsc (Kd.R_reads' HO451.out).2.2)
       (case side6 => exact (Kd.R_reads' HO451.out).2.1)
       rintro e w88 ⟨v453, v456, rfl, ho0, ho1, hb⟩
       refine ⟨_, rfl, ?_⟩
       have n0_ := Aside0.mk (Kd.R_mono (Kd.R_told (Kd.R_told (Kd.R_old (Qro HO445.out) hb) (Kd.R_base ho0)) (Kd.R_base ho1)) (fun _ h_ => h_.1))
       have n1_ := Aside0.mk (Kd.R_mono (Kd.R_told (Kd.R_told (Kd.R_old (Qro HO448.out) hb) (Kd.R_base ho0)) (Kd.R_base ho1)) (fun _ h_ => h_.1))
       have n2_ := Aside0.mk (Kd.R_mono (Kd.R_told (Kd.R_told (Kd.R_old (Qro HO451.out) hb) (Kd.R_base ho0)) (Kd.R_base ho1)) (fun _ h_ => h_.1))
       have n3_ := Aside0.mk (Kd.R_lower (Kd.R_new' (Kd.R_new' (Kd.R_new' ho0 (Kd.R_lt (Qro HO445.out))) (Kd.R_lt (Qro HO448.out))) (Kd.R_lt (Qro HO451.out))) (below_size (Qah GE442.out GE459.out)))
       have n4_ := Aside0.mk (Kd.R_lower (Kd.R_new' (Kd.R_new' (Kd.R_new' ho1 (Kd.R_lt (Qro HO445.out))) (Kd.R_lt (Qro HO448.out))) (Kd.R_lt (Qro HO451.out))) (below_size (Qah GE442.out GE459.out)))
       have n5_ := Aside0.mk (blk_below (g := gb442) (o := .cells #[.slice A1_0 l1_0.length c1_0, .slice A1_1 l1_1.length c1_1] 52 (0, 0)) (Qbl BK442.out) hb)
       have n6_ := Aside0.mk (blk_below (g := gb459) (o := .cells #[.slice none 0 0, .slice none 0 0] 53 (0, 0)) (Qbl BK459.out) hb)
       have n7_ := Aside0.mk (below_step (Qah GE442.out GE459.out) hb)
       clear HO445
       clear HO448
       clear HO451
       clear BK442
       clear BK459
       clear HB
       have HO445 := n0_
       have HO448 := n1_
       have HO451 := n2_
       have HO454 := n3_
       have HO457 := n4_
       have BK442 := n5_
       have BK459 := n6_
       have HB := n7_
       clear n0_ n1_ n2_ n3_ n4_ n5_ n6_ n7_
       (try clear hb)
       (try clear hb2)
       (try clear hk)
       (try clear hi)
       (try clear ho0)
       (try clear ho1)
       refine hK.out _ _ ⟨(blk_cell BK442.out 0).trans rfl, (blk_cell BK442.out 1).trans rfl⟩ (fun hHeld => ?_)
       clear hK K
       refine norm_ (a' := ?_) ?_ ?_
       rotate_left
       ·show Act.put _ (some 12) _ = _
        simp only [Act.put, Qp1, Qp2, Qp3, i64_w, i32_w]
        rfl
       refine pure_ (i := 5) (N := some 7) (v := ?_) (a' := ?_) (Qbz 11 319) rfl rfl (Qao) (fun _ _ _ h => h) (Or.inl ⟨by rfl, ?_⟩) ?_ ?_
       rotate_left
       ·intro w'
        go_simp
        with_reducible rfl
       rotate_left
       ·simp only [Act.put, Qp1, Qp2, Qp3, i64_w, i32_w]
        rfl
       refine pure_ (i := 6) (N := some 13) (v := ?_) (a' := ?_) (Qbz 11 383) rfl rfl (Qao) (fun _ _ _ h => h) (Or.inl ⟨by rfl, ?_⟩) ?_ ?_
       rotate_left
       ·intro w'
        go_simp
        with_reducible rfl
       rotate_left
       ·simp only [Act.put, Qp1, Qp2, Qp3, i64_w, i32_w]
        rfl
       refine pure_ (i := 7) (N := some 14) (v := ?_) (a' := ?_) (Qbz 11 511) rfl rfl (Qao) (fun _ _ _ h => h) (Or.inl ⟨by rfl, ?_⟩) ?_ ?_
       rotate_left
       ·intro w'
        go_simp
        with_reducible rfl
       rotate_left
       ·simp only [Act.put, Qp1, Qp2, Qp3, i64_w, i32_w]
        rfl
       exact norm_ (by simp only [putAll, Act.put, List.setIfInBounds_toArray, List.set_cons_zero, List.set_cons_succ]) (hCont (.slice Ao85 t443.length co85, .slice Ao86 t446.length co86, .slice Ao87 t449.length co87, v453, v456, gb459) _ ⟨hHeld, (by (with_reducible repeat (first | apply Kd.R_alloc | apply Kd.R_drewN | apply Kd.R_drew)); exact Kd.R_mono HO445.out (fun _ hk => ⟨hk.1.1.1.2, ⟨hk.1.1.2, ⟨hk.1.2, hk.2⟩⟩⟩)), (by (with_reducible repeat (first | apply Kd.R_alloc | apply Kd.R_drewN | apply Kd.R_drew)); exact Kd.R_mono HO448.out (fun _ hk => ⟨hk.1.1.2, ⟨hk.1.1.1, ⟨hk.1.2, hk.2⟩⟩⟩)), (by (with_reducible repeat (first | apply Kd.R_alloc | apply Kd.R_drewN | apply Kd.R_drew)); exact Kd.R_mono HO451.out (fun _ hk => ⟨hk.1.1.2, ⟨hk.1.1.1, ⟨hk.1.2, hk.2⟩⟩⟩)), (by (with_reducible repeat (first | apply Kd.R_alloc | apply Kd.R_drewN | apply Kd.R_drew)); exact Kd.R_mono HO454.out (fun _ hk => ⟨hk.1.1.2, ⟨hk.1.2, ⟨hk.2, hk.1.1.1⟩⟩⟩)), (by (with_reducible repeat (first | apply Kd.R_alloc | apply Kd.R_drewN | apply Kd.R_drew)); exact Kd.R_mono HO457.out (fun _ hk => ⟨hk.1.1.2, ⟨hk.1.2, ⟨hk.2, hk.1.1.1⟩⟩⟩)), (Qbl BK442.out), (Qbl BK459.out), GW459.out, GE459.out, NB442_459.out, NB459_442.out, (Qah GE442.out GE459.out)⟩)
     ·skip
      refine box_step ?hg (N := 5) ?hd (cs := #[.slice none 0 0, .slice none 0 0]) (t := 53) ?hr ?_; (case hd => rfl); (case hg => rfl); (case hr => first | (go_simp; done) | (go_simp; rfl))
      intro gb459 hg w82 hbox hb
      have n0_ := Aside0.mk (blk_below (g := gb442) (o := .cells #[.slice A1_0 l1_0.length c1_0, .slice A1_1 l1_1.length c1_1] 52 (0, 0)) (Qbl BK442.out) hb)
      have n1_ := Aside0.mk (below_step (Qag GE442.out) hb)
      have n2_ := Aside0.mk (hbox)
      have n3_ := Aside0.mk ((by rw [hg]; exact (below_size (Qag GE442.out)) : w.heap.size ≤ gb459))
      have n4_ := Aside0.mk ((by rw [hg]; exact (below_size (Qag GE442.out)) : w.heap.size ≤ gb459))
      have n5_ := Aside0.mk ((by rw [hg]; exact Nat.ne_of_lt (blk_lt (g := gb442) (o := .cells #[.slice A1_0 l1_0.length c1_0, .slice A1_1 l1_1.length c1_1] 52 (0, 0)) (Qbl BK442.out)) : gb442 ≠ gb459))
      have n6_ := Aside0.mk ((by rw [hg]; exact Nat.ne_of_gt (blk_lt (g := gb442) (o := .cells #[.slice A1_0 l1_0.length c1_0, .slice A1_1 l1_1.length c1_1] 52 (0, 0)) (Qbl BK442.out)) : gb459 ≠ gb442))
      clear BK442
      clear HB
      have BK442 := n0_
      have HB := n1_
      have BK459 := n2_
      have GW459 := n3_
      have GE459 := n4_
      have NB442_459 := n5_
      have NB459_442 := n6_
      clear n0_ n1_ n2_ n3_ n4_ n5_ n6_
      clear hb hbox hg
      refine hK.out _ _ ⟨(blk_cell BK442.out 0).trans rfl, (blk_cell BK442.out 1).trans rfl⟩ (fun hHeld => ?_)
      clear hK K
      refine norm_ (a' := ?_) ?_ ?_
      rotate_left
      ·show Act.put _ (some 5) _ = _
       simp only [Act.put, Qp1, Qp2, Qp3, i64_w, i32_w]
       rfl
      refine one_ (i := 1) (N := some 9) (Qbz 11 263) rfl rfl (one_of HT_.out (by kernel_rfl)) (by decide) (fun K hK => ?_)
      refine goes_ Tryd.func19 (by kernel_rfl) rfl #[.slice A0 l0.length c0] (by rfl) rfl rfl (Qls) ?_
      with_reducible refine (lampblacklaw02_Few.calls _ _ l0 t443 _ ?side1 ?side2 A3.out).mono ?_
      (case side1 => exact Qsc (Kd.C_below HR0.out HB.out))
      (case side2 => exact HC0.out)
      rintro e w83 ⟨v444, rfl, ho0, hb⟩
      refine ⟨_, rfl, ?_⟩
      have n0_ := Aside0.mk (Kd.R_lower ho0 (below_size (Qah GE442.out GE459.out)))
      have n1_ := Aside0.mk (blk_below (g := gb442) (o := .cells #[.slice A1_0 l1_0.length c1_0, .slice A1_1 l1_1.length c1_1] 52 (0, 0)) (Qbl BK442.out) hb)
      have n2_ := Aside0.mk (blk_below (g := gb459) (o := .cells #[.slice none 0 0, .slice none 0 0] 53 (0, 0)) (Qbl BK459.out) hb)
      have n3_ := Aside0.mk (below_step (Qah GE442.out GE459.out) hb)
      clear BK442
      clear BK459
      clear HB
      have HO445 := n0_
      have BK442 := n1_
      have BK459 := n2_
      have HB := n3_
      clear n0_ n1_ n2_ n3_
      (try clear hb)
      (try clear hb2)
      (try clear hk)
      (try clear hi)
      (try clear ho0)
      refine hK.out _ _ ⟨(blk_cell BK442.out 0).trans rfl, (blk_cell BK442.out 1).trans rfl⟩ (fun hHeld => ?_)
      clear hK K
      refine norm_ (a' := ?_) ?_ ?_
      rotate_left
      ·show Act.put _ (some 9) _ = _
       simp only [Act.put, Qp1, Qp2, Qp3, i64_w, i32_w]
       rfl
      refine one_ (i := 3) (N := some 11) (Qbz 11 271) rfl rfl (one_of HT_.out (by kernel_rfl)) (by decide) (fun K hK => ?_)
      refine goes_ Tryd.func44 (by kernel_rfl) rfl #[.agg #[.slice A1_0 l1_0.length c1_0, .slice A1_1 l1_1.length c1_1]] (by rfl) rfl rfl (Qls) ?_
      with_reducible refine (lampblacklaw02_Of.calls _ _ l1_0 _ _ l1_1 t446 t449 _ ?side1 ?side2 ?side3 ?side4 A4.out).mono ?_
      (case side1 => exact Qsc (Kd.C_below HR1_0.out HB.out))
      (case side2 => exact HC1_0.out)
      (case side3 => exact Qsc (Kd.C_below HR1_1.out HB.out))
      (case side4 => exact HC1_1.out)
      rintro e w84 ⟨v447, v450, rfl, ho0, ho1, hb⟩
      refine ⟨_, rfl, ?_⟩
      have n0_ := Aside0.mk (Kd.R_mono (Kd.R_told (Kd.R_told (Kd.R_old (Qro HO445.out) hb) (Kd.R_base ho0)) (Kd.R_base ho1)) (fun _ h_ => h_.1))
      have n1_ := Aside0.mk (Kd.R_lower (Kd.R_new' ho0 (Kd.R_lt (Qro HO445.out))) (below_size (Qah GE442.out GE459.out)))
      have n2_ := Aside0.mk (Kd.R_lower (Kd.R_new' ho1 (Kd.R_lt (Qro HO445.out))) (below_size (Qah GE442.out GE459.out)))
      have n3_ := Aside0.mk (blk_below (g := gb442) (o := .cells #[.slice A1_0 l1_0.length c1_0, .slice A1_1 l1_1.length c1_1] 52 (0, 0)) (Qbl BK442.out) hb)
      have n4_ := Aside0.mk (blk_below (g := gb459) (o := .cells #[.slice none 0 0, .slice none 0 0] 53 (0, 0)) (Qbl BK459.out) hb)
      have n5_ := Aside0.mk (below_step (Qah GE442.out GE459.out) hb)
      clear HO445
      clear BK442
      clear BK459
      clear HB
      have HO445 := n0_
      have HO448 := n1_
      have HO451 := n2_
      have BK442 := n3_
      have BK459 := n4_
      have HB := n5_
      clear n0_ n1_ n2_ n3_ n4_ n5_
      (try clear hb)
      (try clear hb2)
      (try clear hk)
      (try clear hi)
      (try clear ho0)
      (try clear ho1)
      obtain ⟨Ao85, co85, eo85⟩ := Kd.R_slice HO445.out
      (first | subst eo85 | (injection eo85 with f1_ f2_ f3_; have f4_ := f1_.symm; have f5_ := f3_.symm; clear f1_ f2_ f3_; subst f4_; subst f5_))
      obtain ⟨Ao86, co86, eo86⟩ := Kd.R_slice HO448.out
      (first | subst eo86 | (injection eo86 with f1_ f2_ f3_; have f4_ := f1_.symm; have f5_ := f3_.symm; clear f1_ f2_ f3_; subst f4_; subst f5_))
      obtain ⟨Ao87, co87, eo87⟩ := Kd.R_slice HO451.out
      (first | subst eo87 | (injection eo87 with f1_ f2_ f3_; have f4_ := f1_.symm; have f5_ := f3_.symm; clear f1_ f2_ f3_; subst f4_; subst f5_))
      refine hK.out _ _ ⟨(blk_cell BK442.out 0).trans rfl, (blk_cell BK442.out 1).trans rfl⟩ (fun hHeld => ?_)
      clear hK K
      refine norm_ (a' := ?_) ?_ ?_
      rotate_left
      ·show Act.put _ (some 11) _ = _
       simp only [Act.put, Qp1, Qp2, Qp3, i64_w, i32_w]
       rfl
      refine one_ (i := 4) (N := some 12) (Qbz 11 287) rfl rfl (one_of HT_.out (by kernel_rfl)) (by decide) (fun K hK => ?_)
      refine goes_ Tryd.func43 (by kernel_rfl) rfl #[.slice Ao85 t443.length co85, .agg #[.slice Ao86 t446.length co86, .slice Ao87 t449.length co87]] (by rfl) rfl rfl (Qls) ?_
      with_reducible refine (width_Narrow.calls (hGL := (Qlg)) _ _ t443 _ _ t446 _ _ t449 t452 t455 t458 _ ?side1 ?side2 ?side3 ?side4 ?side5 ?side6 A5.out).mono ?_
      (case side1 => exact Qsc (Kd.R_reads' HO445.out).2.2)
      (case side2 => exact (Kd.R_reads' HO445.out).2.1)
      (case side3 => exact Qsc (Kd.R_reads' HO448.out).2.2)
      (case side4 => exact (Kd.R_reads' HO448.out).2.1)
      (case side5 => exact Qsc (Kd.R_reads' HO451.out).2.2)
      (case side6 => exact (Kd.R_reads' HO451.out).2.1)
      rintro e w88 ⟨v453, v456, rfl, ho0, ho1, hb⟩
      refine ⟨_, rfl, ?_⟩
      have n0_ := Aside0.mk (Kd.R_mono (Kd.R_told (Kd.R_told (Kd.R_old (Qro HO445.out) hb) (Kd.R_base ho0)) (Kd.R_base ho1)) (fun _ h_ => h_.1))
      have n1_ := Aside0.mk (Kd.R_mono (Kd.R_told (Kd.R_told (Kd.R_old (Qro HO448.out) hb) (Kd.R_base ho0)) (Kd.R_base ho1)) (fun _ h_ => h_.1))
      have n2_ := Aside0.mk (Kd.R_mono (Kd.R_told (Kd.R_told (Kd.R_old (Qro HO451.out) hb) (Kd.R_base ho0)) (Kd.R_base ho1)) (fun _ h_ => h_.1))
      have n3_ := Aside0.mk (Kd.R_lower (Kd.R_new' (Kd.R_new' (Kd.R_new' ho0 (Kd.R_lt (Qro HO445.out))) (Kd.R_lt (Qro HO448.out))) (Kd.R_lt (Qro HO451.out))) (below_size (Qah GE442.out GE459.out)))
      have n4_ := Aside0.mk (Kd.R_lower (Kd.R_new' (Kd.R_new' (Kd.R_new' ho1 (Kd.R_lt (Qro HO445.out))) (Kd.R_lt (Qro HO448.out))) (Kd.R_lt (Qro HO451.out))) (below_size (Qah GE442.out GE459.out)))
      have n5_ := Aside0.mk (blk_below (g := gb442) (o := .cells #[.slice A1_0 l1_0.length c1_0, .slice A1_1 l1_1.length c1_1] 52 (0, 0)) (Qbl BK442.out) hb)
      have n6_ := Aside0.mk (blk_below (g := gb459) (o := .cells #[.slice none 0 0, .slice none 0 0] 53 (0, 0)) (Qbl BK459.out) hb)
      have n7_ := Aside0.mk (below_step (Qah GE442.out GE459.out) hb)
      clear HO445
      clear HO448
      clear HO451
      clear BK442
      clear BK459
      clear HB
      have HO445 := n0_
      have HO448 := n1_
      have HO451 := n2_
      have HO454 := n3_
      have HO457 := n4_
      have BK442 := n5_
      have BK459 := n6_
      have HB := n7_
      clear n0_ n1_ n2_ n3_ n4_ n5_ n6_ n7_
      (try clear hb)
      (try clear hb2)
      (try clear hk)
      (try clear hi)
      (try clear ho0)
      (try clear ho1)
      refine hK.out _ _ ⟨(blk_cell BK442.out 0).trans rfl, (blk_cell BK442.out 1).trans rfl⟩ (fun hHeld => ?_)
      clear hK K
      refine norm_ (a' := ?_) ?_ ?_
      rotate_left
      ·show Act.put _ (some 12) _ = _
       simp only [Act.put, Qp1, Qp2, Qp3, i64_w, i32_w]
       rfl
      refine pure_ (i := 5) (N := some 7) (v := ?_) (a' := ?_) (Qbz 11 319) rfl rfl (Qao) (fun _ _ _ h => h) (Or.inl ⟨by rfl, ?_⟩) ?_ ?_
      rotate_left
      ·intro w'
       go_simp
       with_reducible rfl
      rotate_left
      ·simp only [Act.put, Qp1, Qp2, Qp3, i64_w, i32_w]
       rfl
      refine pure_ (i := 6) (N := some 13) (v := ?_) (a' := ?_) (Qbz 11 383) rfl rfl (Qao) (fun _ _ _ h => h) (Or.inl ⟨by rfl, ?_⟩) ?_ ?_
      rotate_left
      ·intro w'
       go_simp
       with_reducible rfl
      rotate_left
      ·simp only [Act.put, Qp1, Qp2, Qp3, i64_w, i32_w]
       rfl
      refine pure_ (i := 7) (N := some 14) (v := ?_) (a' := ?_) (Qbz 11 511) rfl rfl (Qao) (fun _ _ _ h => h) (Or.inl ⟨by rfl, ?_⟩) ?_ ?_
      rotate_left
      ·intro w'
       go_simp
       with_reducible rfl
      rotate_left
      ·simp only [Act.put, Qp1, Qp2, Qp3, i64_w, i32_w]
       rfl
      exact norm_ (by simp only [putAll, Act.put, List.setIfInBounds_toArray, List.set_cons_zero, List.set_cons_succ]) (hCont (.slice Ao85 t443.length co85, .slice Ao86 t446.length co86, .slice Ao87 t449.length co87, v453, v456, gb459) _ ⟨hHeld, (by (with_reducible repeat (first | apply Kd.R_alloc | apply Kd.R_drewN | apply Kd.R_drew)); exact Kd.R_mono HO445.out (fun _ hk => ⟨hk.1.1.1.2, ⟨hk.1.1.2, ⟨hk.1.2, hk.2⟩⟩⟩)), (by (with_reducible repeat (first | apply Kd.R_alloc | apply Kd.R_drewN | apply Kd.R_drew)); exact Kd.R_mono HO448.out (fun _ hk => ⟨hk.1.1.2, ⟨hk.1.1.1, ⟨hk.1.2, hk.2⟩⟩⟩)), (by (with_reducible repeat (first | apply Kd.R_alloc | apply Kd.R_drewN | apply Kd.R_drew)); exact Kd.R_mono HO451.out (fun _ hk => ⟨hk.1.1.2, ⟨hk.1.1.1, ⟨hk.1.2, hk.2⟩⟩⟩)), (by (with_reducible repeat (first | apply Kd.R_alloc | apply Kd.R_drewN | apply Kd.R_drew)); exact Kd.R_mono HO454.out (fun _ hk => ⟨hk.1.1.2, ⟨hk.1.2, ⟨hk.2, hk.1.1.1⟩⟩⟩)), (by (with_reducible repeat (first | apply Kd.R_alloc | apply Kd.R_drewN | apply Kd.R_drew)); exact Kd.R_mono HO457.out (fun _ hk => ⟨hk.1.1.2, ⟨hk.1.2, ⟨hk.2, hk.1.1.1⟩⟩⟩)), (Qbl BK442.out), (Qbl BK459.out), GW459.out, GE459.out, NB442_459.out, NB459_442.out, (Qah GE442.out GE459.out)⟩)
    rintro ⟨v444, v447, v450, v453, v456, gb459⟩ w89 ⟨hS_, h0_, h1_, h2_, h3_, h4_, h5_, h6_, h7_, h8_, h9_, h10_, h11_⟩
    have n0_ : Aside0 (Kd.R (Kd.int .i64) 3 w89 w.heap.size (fun k_ => some k_ ≠ (v447 : Value).ownBlock ∧ some k_ ≠ (v450 : Value).ownBlock ∧ some k_ ≠ (v453 : Value).ownBlock ∧ some k_ ≠ (v456 : Value).ownBlock) v444 t443) := ⟨h0_⟩
    have n1_ : Aside0 (Kd.R (Kd.int .i64) 3 w89 w.heap.size (fun k_ => some k_ ≠ (v444 : Value).ownBlock ∧ some k_ ≠ (v450 : Value).ownBlock ∧ some k_ ≠ (v453 : Value).ownBlock ∧ some k_ ≠ (v456 : Value).ownBlock) v447 t446) := ⟨h1_⟩
    have n2_ : Aside0 (Kd.R (Kd.int .i64) 3 w89 w.heap.size (fun k_ => some k_ ≠ (v444 : Value).ownBlock ∧ some k_ ≠ (v447 : Value).ownBlock ∧ some k_ ≠ (v453 : Value).ownBlock ∧ some k_ ≠ (v456 : Value).ownBlock) v450 t449) := ⟨h2_⟩
    have n3_ : Aside0 (Kd.R (Kd.int .i64) 3 w89 w.heap.size (fun k_ => some k_ ≠ (v444 : Value).ownBlock ∧ some k_ ≠ (v447 : Value).ownBlock ∧ some k_ ≠ (v450 : Value).ownBlock ∧ some k_ ≠ (v456 : Value).ownBlock) v453 t452) := ⟨h3_⟩
    have n4_ : Aside0 (Kd.R (Kd.int .i64) 3 w89 w.heap.size (fun k_ => some k_ ≠ (v444 : Value).ownBlock ∧ some k_ ≠ (v447 : Value).ownBlock ∧ some k_ ≠ (v450 : Value).ownBlock ∧ some k_ ≠ (v453 : Value).ownBlock) v456 t455) := ⟨h4_⟩
    have n5_ : Aside0 (w89.heap[gb442]? = some (.cells #[.slice A1_0 l1_0.length c1_0, .slice A1_1 l1_1.length c1_1] 52 (0, 0))) := ⟨h5_⟩
    have n6_ : Aside0 (w89.heap[gb459]? = some (.cells #[.slice none 0 0, .slice none 0 0] 53 (0, 0))) := ⟨h6_⟩
    have n7_ : Aside0 (w.heap.size ≤ gb459) := ⟨h7_⟩
    have n8_ : Aside0 (w.heap.size ≤ gb459) := ⟨h8_⟩
    have n9_ : Aside0 (gb442 ≠ gb459) := ⟨h9_⟩
    have n10_ : Aside0 (gb459 ≠ gb442) := ⟨h10_⟩
    have n11_ : Aside0 (Below w.heap.size w w89) := ⟨h11_⟩
    clear BK442
    clear HB
    clear h0_ h1_ h2_ h3_ h4_ h5_ h6_ h7_ h8_ h9_ h10_ h11_
    have HO445 := n0_
    have HO448 := n1_
    have HO451 := n2_
    have HO454 := n3_
    have HO457 := n4_
    have BK442 := n5_
    have BK459 := n6_
    have GW459 := n7_
    have GE459 := n8_
    have NB442_459 := n9_
    have NB459_442 := n10_
    have HB := n11_
    clear n0_ n1_ n2_ n3_ n4_ n5_ n6_ n7_ n8_ n9_ n10_ n11_
    have hHeld : w89.cell? ⟨gb442, 0, none⟩ = some (.slice A1_0 l1_0.length c1_0) ∧ w89.cell? ⟨gb442, 1, none⟩ = some (.slice A1_1 l1_1.length c1_1) := hS_
    obtain ⟨Ao90, co90, eo90⟩ := Kd.R_slice HO454.out
    (first | subst eo90 | (injection eo90 with f1_ f2_ f3_; have f4_ := f1_.symm; have f5_ := f3_.symm; clear f1_ f2_ f3_; subst f4_; subst f5_))
    obtain ⟨Ao92, co92, eo92⟩ := Kd.R_slice HO457.out
    (first | subst eo92 | (injection eo92 with f1_ f2_ f3_; have f4_ := f1_.symm; have f5_ := f3_.symm; clear f1_ f2_ f3_; subst f4_; subst f5_))
    refine norm_ (a' := ?_) ?_ ?_
    rotate_left
    ·simp only [putAll, Act.put, List.setIfInBounds_toArray, List.set_cons_zero, List.set_cons_succ]
     rfl
    refine one_ (i := 9) (N := none) (Qbz 11 1023) rfl rfl (one_of HT_.out (by kernel_rfl)) (by decide) (fun K hK => ?_)
    have hs91 : w89.cell? ⟨gb459, 0, none⟩ = some (.slice none 0 0) := (blk_cell BK459.out 0).trans rfl
    have hfs91 := blk_frozen BK459.out 0
    have hns91_0 := NB442_459.out
    have hms91_0 := NB459_442.out
    have hs93 : w89.cell? ⟨gb459, 1, none⟩ = some (.slice none 0 0) := (blk_cell BK459.out 1).trans rfl
    have hfs93 := blk_frozen BK459.out 1
    have hns93_0 := NB442_459.out
    have hms93_0 := NB459_442.out
    refine skip_ (w1 := ?_) (by rfl) rfl ?_ ?_
    rotate_left
    ·go_simp
     rfl
    refine hK.out _ _ ⟨((cell_far (p := ⟨gb459, _, none⟩) NB442_459.out _).trans (((cell_far (p := ⟨gb459, _, none⟩) NB442_459.out _).trans (hHeld.1)))), ((cell_far (p := ⟨gb459, _, none⟩) NB442_459.out _).trans (((cell_far (p := ⟨gb459, _, none⟩) NB442_459.out _).trans (hHeld.2))))⟩ (fun hHeld => ?_)
    clear hK K
    refine pure_ (i := 10) (N := some 6) (v := ?_) (a' := ?_) (Qbz 11 2047) rfl rfl (Qao) (fun _ _ _ h => h) (Or.inl ⟨by rfl, ?_⟩) ?_ ?_
    rotate_left
    ·intro w'
     go_simp
     with_reducible rfl
    rotate_left
    ·simp only [Act.put, Qp1, Qp2, Qp3, i64_w, i32_w]
     rfl
    refine done_ (done_of HT_.out (by kernel_rfl)) ?_
    have hnb94 := NB442_459.out
    have hnc94 := NB459_442.out
    have hcz95_0 : w89.cell? ⟨gb442, 0, none⟩ = some (.slice A1_0 l1_0.length c1_0) := (blk_cell BK442.out 0).trans rfl
    have hcz95_1 : w89.cell? ⟨gb442, 1, none⟩ = some (.slice A1_1 l1_1.length c1_1) := (blk_cell BK442.out 1).trans rfl
    have hfz95_0 := blk_frozen BK442.out 0
    have hfz95_1 := blk_frozen BK442.out 1
    try go_wp2_with (first | ((with_reducible refine gate_callee (f := 45) rfl ?_); refine goesL_ (some 17) rfl rfl Tryd.func45 (by kernel_rfl) rfl #[.slice A0 l0.length c0, .agg #[.slice A1_0 l1_0.length c1_0, .slice A1_1 l1_1.length c1_1]] rfl (Qls) ?_; (with_reducible refine (lampblacklaw02_fine.calls k _ _ l0 _ _ l1_0 _ _ l1_1 false _ ?side1 ?side2 ?side3 ?side4 ?side5 ?side6 A6.out).mono ?_); (case side1 => exact Kd.C_below HR0.out (Qah GE442.out GE459.out)); (case side2 => exact HC0.out); (case side3 => exact Kd.C_below HR1_0.out (Qah GE442.out GE459.out)); (case side4 => exact HC1_0.out); (case side5 => exact Kd.C_below HR1_1.out (Qah GE442.out GE459.out)); (case side6 => exact HC1_1.out); rintro e w96 ⟨rfl, hb⟩; refine ⟨_, rfl, ?_⟩; have n0_ := Aside0.mk (Kd.R_below (by (with_reducible repeat (first | apply Kd.R_alloc | apply Kd.R_drewN | apply Kd.R_drew)); exact (Kd.R_mono (Kd.R_far (p := ⟨gb459, 1, none⟩) (Kd.R_far (p := ⟨gb459, 0, none⟩) (Kd.R_types HO445.out BK459.out (by decide)) (fun _ hk => hk.2) (.slice Ao90 t452.length co90)) (fun _ hk => hk.2) (.slice Ao92 t455.length co92)) (fun _ h_ => h_.1))) hb); have n1_ := Aside0.mk (Kd.R_below (by (with_reducible repeat (first | apply Kd.R_alloc | apply Kd.R_drewN | apply Kd.R_drew)); exact (Kd.R_mono (Kd.R_far (p := ⟨gb459, 1, none⟩) (Kd.R_far (p := ⟨gb459, 0, none⟩) (Kd.R_types HO448.out BK459.out (by decide)) (fun _ hk => hk.2) (.slice Ao90 t452.length co90)) (fun _ hk => hk.2) (.slice Ao92 t455.length co92)) (fun _ h_ => h_.1))) hb); have n2_ := Aside0.mk (Kd.R_below (by (with_reducible repeat (first | apply Kd.R_alloc | apply Kd.R_drewN | apply Kd.R_drew)); exact (Kd.R_mono (Kd.R_far (p := ⟨gb459, 1, none⟩) (Kd.R_far (p := ⟨gb459, 0, none⟩) (Kd.R_types HO451.out BK459.out (by decide)) (fun _ hk => hk.2) (.slice Ao90 t452.length co90)) (fun _ hk => hk.2) (.slice Ao92 t455.length co92)) (fun _ h_ => h_.1))) hb); have n3_ := Aside0.mk (Kd.R_below (by (with_reducible repeat (first | apply Kd.R_alloc | apply Kd.R_drewN | apply Kd.R_drew)); exact (Kd.R_mono (Kd.R_far (p := ⟨gb459, 1, none⟩) (Kd.R_far (p := ⟨gb459, 0, none⟩) (Kd.R_types HO454.out BK459.out (by decide)) (fun _ hk => hk.2) (.slice Ao90 t452.length co90)) (fun _ hk => hk.2) (.slice Ao92 t455.length co92)) (fun _ h_ => h_.1))) hb); have n4_ := Aside0.mk (Kd.R_below (by (with_reducible repeat (first | apply Kd.R_alloc | apply Kd.R_drewN | apply Kd.R_drew)); exact (Kd.R_mono (Kd.R_far (p := ⟨gb459, 1, none⟩) (Kd.R_far (p := ⟨gb459, 0, none⟩) (Kd.R_types HO457.out BK459.out (by decide)) (fun _ hk => hk.2) (.slice Ao90 t452.length co90)) (fun _ hk => hk.2) (.slice Ao92 t455.length co92)) (fun _ h_ => h_.1))) hb); have n5_ := Aside0.mk (blk_below (g := gb442) (o := .cells #[.slice A1_0 l1_0.length c1_0, .slice A1_1 l1_1.length c1_1] 52 (0, 0)) (by (with_reducible repeat (first | refine blk_drewN ?_ _ | refine blk_drew ?_ | refine blk_alloc ?_ _)); refine blk_far ?_ NB442_459.out _; (with_reducible repeat (first | refine blk_drewN ?_ _ | refine blk_drew ?_ | refine blk_alloc ?_ _)); refine blk_far ?_ NB442_459.out _; (with_reducible repeat (first | refine blk_drewN ?_ _ | refine blk_drew ?_ | refine blk_alloc ?_ _)); exact BK442.out) hb); have n6_ := Aside0.mk (blk_below (g := gb459) (o := .cells #[.slice Ao90 t452.length co90, .slice Ao92 t455.length co92] 53 (0, 0)) (by (with_reducible repeat (first | refine blk_drewN ?_ _ | refine blk_drew ?_ | refine blk_alloc ?_ _)); refine blk_put (cs := #[.slice Ao90 t452.length co90, .slice none 0 0]) ?_ 1 _ rfl; (with_reducible repeat (first | refine blk_drewN ?_ _ | refine blk_drew ?_ | refine blk_alloc ?_ _)); refine blk_put (cs := #[.slice none 0 0, .slice none 0 0]) ?_ 0 _ rfl; (with_reducible repeat (first | refine blk_drewN ?_ _ | refine blk_drew ?_ | refine blk_alloc ?_ _)); exact BK459.out) hb); have n7_ := Aside0.mk (below_step (Qah GE442.out GE459.out) hb); clear HO445; clear HO448; clear HO451; clear HO454; clear HO457; clear BK442; clear BK459; clear HB; have HO445 := n0_; have HO448 := n1_; have HO451 := n2_; have HO454 := n3_; have HO457 := n4_; have BK442 := n5_; have BK459 := n6_; have HB := n7_; clear n0_ n1_ n2_ n3_ n4_ n5_ n6_ n7_; (try clear hb); (try clear hb2); (try clear hk); (try clear hi); have hcz97_0 : w96.cell? ⟨gb459, 0, none⟩ = some (.slice Ao90 t452.length co90) := (blk_cell BK459.out 0).trans rfl; have hcz97_1 : w96.cell? ⟨gb459, 1, none⟩ = some (.slice Ao92 t455.length co92) := (blk_cell BK459.out 1).trans rfl; have hfz97_0 := blk_frozen BK459.out 0; have hfz97_1 := blk_frozen BK459.out 1) | ((with_reducible refine gate_callee (f := 46) rfl ?_); refine goesL_ (some 20) rfl rfl Tryd.func46 (by kernel_rfl) rfl #[.agg #[.slice Ao90 t452.length co90, .slice Ao92 t455.length co92]] rfl (Qls) ?_; (with_reducible refine (lampblacklaw02_none.calls _ _ t452 _ _ t455 true _ ?side1 ?side2 ?side3 ?side4 A76.out).mono ?_); (case side1 => exact Qsc (Kd.R_reads' HO454.out).2.2); (case side2 => exact (Kd.R_reads' HO454.out).2.1); (case side3 => exact Qsc (Kd.R_reads' HO457.out).2.2); (case side4 => exact (Kd.R_reads' HO457.out).2.1); rintro e w98 ⟨rfl, hb⟩; refine ⟨_, rfl, ?_⟩; have n0_ := Aside0.mk (Kd.R_below (Qro HO445.out) hb); have n1_ := Aside0.mk (Kd.R_below (Qro HO448.out) hb); have n2_ := Aside0.mk (Kd.R_below (Qro HO451.out) hb); have n3_ := Aside0.mk (Kd.R_below (Qro HO454.out) hb); have n4_ := Aside0.mk (Kd.R_below (Qro HO457.out) hb); have n5_ := Aside0.mk (blk_below (g := gb442) (o := .cells #[.slice A1_0 l1_0.length c1_0, .slice A1_1 l1_1.length c1_1] 52 (0, 0)) (Qbl BK442.out) hb); have n6_ := Aside0.mk (blk_below (g := gb459) (o := .cells #[.slice Ao90 t452.length co90, .slice Ao92 t455.length co92] 53 (0, 0)) (Qbl BK459.out) hb); have n7_ := Aside0.mk (below_step (Qah GE442.out GE459.out) hb); clear HO445; clear HO448; clear HO451; clear HO454; clear HO457; clear BK442; clear BK459; clear HB; have HO445 := n0_; have HO448 := n1_; have HO451 := n2_; have HO454 := n3_; have HO457 := n4_; have BK442 := n5_; have BK459 := n6_; have HB := n7_; clear n0_ n1_ n2_ n3_ n4_ n5_ n6_ n7_; (try clear hb); (try clear hb2); (try clear hk); (try clear hi)) | (go_at_call 20; (with_reducible refine (lampblacklaw02_awake.calls (hGL := (by repeat (first | (with_reducible exact HGL.out) | (with_reducible exact GL_below HGL.out HB.out) | (refine GL_below HGL.out (Qah GE442.out GE459.out)) | (with_reducible refine GL_alloc ?_ _) | (with_reducible refine GL_drewN ?_ _) | (with_reducible refine GL_drew ?_)))) k  t470 _ A79.out).mono ?_); rintro e w99 ⟨rfl, hb⟩; have n0_ := Aside0.mk (Kd.R_below (Qro HO445.out) hb); have n1_ := Aside0.mk (Kd.R_below (Qro HO448.out) hb); have n2_ := Aside0.mk (Kd.R_below (Qro HO451.out) hb); have n3_ := Aside0.mk (Kd.R_below (Qro HO454.out) hb); have n4_ := Aside0.mk (Kd.R_below (Qro HO457.out) hb); have n5_ := Aside0.mk (blk_below (g := gb442) (o := .cells #[.slice A1_0 l1_0.length c1_0, .slice A1_1 l1_1.length c1_1] 52 (0, 0)) (Qbl BK442.out) hb); have n6_ := Aside0.mk (blk_below (g := gb459) (o := .cells #[.slice Ao90 t452.length co90, .slice Ao92 t455.length co92] 53 (0, 0)) (Qbl BK459.out) hb); have n7_ := Aside0.mk (below_step (Qah GE442.out GE459.out) hb); clear HO445; clear HO448; clear HO451; clear HO454; clear HO457; clear BK442; clear BK459; clear HB; have HO445 := n0_; have HO448 := n1_; have HO451 := n2_; have HO454 := n3_; have HO457 := n4_; have BK442 := n5_; have BK459 := n6_; have HB := n7_; clear n0_ n1_ n2_ n3_ n4_ n5_ n6_ n7_; (try clear hb); (try clear hb2); (try clear hk); (try clear hi)))
    go_ret
    exact ⟨by first | rfl | (simp [errW_none, errW_some] <;> rfl) | (simp [*, errW_none, errW_some] <;> rfl), by repeat (first | (with_reducible first | exact HB.out | apply below_alloc | apply pw_below_drewN | apply below_drew1 | refine below_set ?_ GE442.out | refine below_set ?_ GE459.out) | exact HB.out)⟩
   ·rw [if_neg c78] at H
    have c78b0 : (t458 == 2) = false := beq_eq_false_iff_ne.mpr c78
    have c78b1 : (t458 != 2) = true := bne_iff_ne.mpr c78
    exact absurd ((Option.some.inj H).trans HRT.out) (by decide)
  ·replace c77 := Bool.eq_false_iff.mpr c77
   subst c77
   have H1 : (some false) = some r := by rw [if_neg (show ¬ (false = true) by decide)] at H; exact H
   clear H
   have H := H1
   clear H1
   exact absurd ((Option.some.inj H).trans HRT.out) (by decide)
end
end Go.Proofs.YtoffehihicabcaaDoor.X
end
section
namespace Go.Proofs.YtoffehihicabcaaDoor.X
open Go.RowKit YtoffehihicabcaaDoorW.PrintWords YtoffehihicabcaaDoorW.PrintLast YtoffehihicabcaaDoorW.PrintMore YtoffehihicabcaaDoor.T
def RestL (G : List Nat) (gone : Nat) (l : List Nat) : Prop := l.Nodup ∧ ∀ u, u ∈ l ↔ bset (lft G gone) u
theorem RestL.tail {G : List Nat} {gone v : Nat} {l : List Nat} (h : RestL G gone (v :: l)) : RestL G (gone ||| 2 ^ v) l := by
 obtain ⟨h1, h2⟩ := h
 rw [List.nodup_cons] at h1
 refine ⟨h1.2, fun u => ?_⟩
 rw [lft_or, diff_bset, two_pow_bit, ← h2 u, List.mem_cons]
 constructor
 ·intro hu; exact ⟨.inr hu, fun e => h1.1 (e ▸ hu)⟩
 ·rintro ⟨rfl | hu, hne⟩
  ·exact absurd rfl hne
  ·exact hu
section
variable {G : List Nat} (hn : G.length ≤ 9)
include hn
end
end Go.Proofs.YtoffehihicabcaaDoor.X
end
section
namespace Go.Proofs.YtoffehihicabcaaDoor.X
open Go.RowKit YtoffehihicabcaaDoorW.PrintWords YtoffehihicabcaaDoorW.PrintLast YtoffehihicabcaaDoorW.PrintMore
attribute [local go_sem] max2_int min2_int max_two min_two max_three min_three max_four min_four
noncomputable section
mutual
def lampblackref02_IsBramble.l0 : Nat → List Int → List Int → List Int → Int → Int → Option (Bool)
 | 0, _, _, _, _, _ => none
 | k + 1, x0, x1, x9, x10, x11 => if x11 < x10 then (if 0 ≤ x11 then (if x11 < (x9.length : Int) then (if x11 ≥ 200 then (lampblackref02_IsBramble.j1 k x0 x1 x11 (rd x9 x11) x9 x10 x11 true) else ((lampblackref02_Connected.f k x0 (rd x9 x11)).bind fun t296 => (lampblackref02_IsBramble.j1 k x0 x1 x11 (rd x9 x11) x9 x10 x11 (!t296)))) else (none)) else (none)) else (some (decide ((x1.length : Int) > 0)))
def lampblackref02_IsBramble.j1 : Nat → List Int → List Int → Int → Int → List Int → Int → Int → Bool → Option (Bool)
 | 0, _, _, _, _, _, _, _, _ => none
 | k + 1, x0, x1, x5, x6, x9, x10, x11, x23 => if x23 = true then (some false) else (if 0 ≤ x5 then (if x5 ≤ (x1.length : Int) then (lampblackref02_IsBramble.l1 k x0 x1 x6 x9 x10 x11 (x1.take (x5 : Int).toNat) ((x1.take (x5 : Int).toNat).length : Int) 0) else (none)) else (none))
def lampblackref02_IsBramble.l1 : Nat → List Int → List Int → Int → List Int → Int → Int → List Int → Int → Int → Option (Bool)
 | 0, _, _, _, _, _, _, _, _, _ => none
 | k + 1, x0, x1, x6, x9, x10, x11, x26, x27, x28 => if x28 < x27 then (if 0 ≤ x28 then (if x28 < (x26.length : Int) then ((lampblackref02_Touch.f k x0 x6 (rd x26 x28)).bind fun t299 => (if t299 = true then (lampblackref02_IsBramble.l1 k x0 x1 x6 x9 x10 x11 x26 x27 (wrap64 (x28 + 1))) else (some false))) else (none)) else (none)) else (lampblackref02_IsBramble.l0 k x0 x1 x9 x10 (wrap64 (x11 + 1)))
end
end
noncomputable section
mutual
def lampblackref02_Cover.l0 : Nat → List Int → Int → Int → Int → Option (Int)
 | 0, _, _, _, _ => none
 | k + 1, x1, x5, x16, x17 => if x17 < x16 then ((lampblackref02_Size.f k x17).bind fun t300 => ((lampblackref02_Size.f k x5).bind fun t301 => (lampblackref02_Cover.l1 k x1 x5 x17 (decide (t300 < t301)) x16 x17 x1 (x1.length : Int) 0))) else (some x5)
def lampblackref02_Cover.l1 : Nat → List Int → Int → Int → Bool → Int → Int → List Int → Int → Int → Option (Int)
 | 0, _, _, _, _, _, _, _, _, _ => none
 | k + 1, x1, x5, x6, x7, x16, x17, x25, x26, x27 => if x27 < x26 then (if 0 ≤ x27 then (if x27 < (x25.length : Int) then (if x7 = true then (lampblackref02_Cover.l1 k x1 x5 x6 ((Go.bits .and .i64 (rd x25 x27) x6) != 0) x16 x17 x25 x26 (wrap64 (x27 + 1))) else (lampblackref02_Cover.l1 k x1 x5 x6 false x16 x17 x25 x26 (wrap64 (x27 + 1)))) else (none)) else (none)) else (if x7 = true then (lampblackref02_Cover.l0 k x1 x6 x16 (wrap64 (x17 + 1))) else (lampblackref02_Cover.l0 k x1 x5 x16 (wrap64 (x17 + 1))))
end
end
noncomputable section
end
noncomputable section
end
noncomputable section
end
end Go.Proofs.YtoffehihicabcaaDoor.X
end
section
namespace Go.Proofs.YtoffehihicabcaaDoor.X
open Go.RowKit YtoffehihicabcaaDoorW.PrintWords YtoffehihicabcaaDoorW.PrintLast YtoffehihicabcaaDoorW.PrintMore YtoffehihicabcaaDoor.T
theorem list_any (l : List Int) : lampblacklaw02_list.f l = some (l.take 210) := by
 have hm : mn (l.length : Int) 210 = ((min l.length 210 : Nat) : Int) := mn_nat l.length 210
 have ht : l.take (min l.length 210) = l.take 210 := by
  by_cases h : l.length ≤ 210
  ·rw [List.take_of_length_le (by omega), List.take_of_length_le h]
  ·rw [Nat.min_eq_right (by omega)]
 unfold lampblacklaw02_list.f slices_Clone_int_int.f
 simp only [hm, Int.toNat_natCast]
 rw [if_pos (by omega), if_pos (by omega), ht]
 simp only [Option.bind_some, List.nil_append]
 rw [if_pos (by rw [List.length_take, List.length_nil]; omega)]
 rfl
theorem Of_eq (B P : List Int) : lampblacklaw02_Of.f B P = some (B.take 210, P.take 210) := by
 unfold lampblacklaw02_Of.f
 rw [list_any, list_any]
 rfl
theorem td_cut {G : List Nat} (B P : List Int) : (TD G (B.take 210) (P.take 210) ∧ B.take 210 = B ∧ P.take 210 = P) ∨ (¬ TD G (B.take 210) (P.take 210) ∧ ¬ TD G B P) ∨ (B.take 210 = B ∧ P.take 210 = P) := by
 by_cases hb : B.length ≤ 210
 ·by_cases hp : P.length ≤ 210
  ·exact .inr (.inr ⟨List.take_of_length_le hb, List.take_of_length_le hp⟩)
  ·refine .inr (.inl ⟨fun h => ?_, fun h => ?_⟩)
   ·have h1 := h.len; have h2 := h.most
    rw [List.length_take, List.length_take] at h1
    rw [List.length_take] at h2
    omega
   ·have h1 := h.len; have h2 := h.most; omega
 ·refine .inr (.inl ⟨fun h => ?_, fun h => ?_⟩)
  ·have h2 := h.most
   rw [List.length_take] at h2
   omega
  ·have h2 := h.most; omega
theorem td_take {G : List Nat} (B P : List Int) : (TD G (B.take 210) (P.take 210) ↔ TD G B P) ∧ (TD G B P → B.take 210 = B ∧ P.take 210 = P) := by
 rcases td_cut (G := G) B P with ⟨h, h1, h2⟩ | ⟨h1, h2⟩ | ⟨h1, h2⟩
 ·rw [h1, h2]; exact ⟨Iff.rfl, fun _ => ⟨rfl, rfl⟩⟩
 ·exact ⟨⟨fun h => absurd h h1, fun h => absurd h h2⟩, fun h => absurd h h2⟩
 ·rw [h1, h2]; exact ⟨Iff.rfl, fun _ => ⟨rfl, rfl⟩⟩
section
variable {A PA B PB : List Int} {g : List Int}
theorem isNar_l1 (i : Nat) (hB : B.length ≤ 1000) (r : Bool) (next : Ev (fun k => lampblackref02_IsNarrow.l2 k g (i : Int) (rd A (i : Int)) true A (A.length : Int) (i : Int) A (A.length : Int) 0 A PA B PB) r) :
  ∀ d j (b : Bool), j + d = B.length → (b = true ∨ ∃ k : Nat, j ≤ k ∧ k < B.length ∧ rd A (i : Int) = rd B (k : Int)) → Ev (fun k => lampblackref02_IsNarrow.l1 k g (i : Int) (rd A (i : Int)) b A (A.length : Int) (i : Int) B (B.length : Int) (j : Int) A PA B PB) r := by
 intro d
 induction d with
 | zero =>
  intro j b hj hb
  have hbt : b = true := by
   rcases hb with hb | ⟨k, h1, h2, _⟩
   ·exact hb
   ·omega
  subst hbt
  exact Ev.step (fun k => by rw [lampblackref02_IsNarrow.l1, if_neg (by omega)]) next
 | succ d ih =>
  intro j b hj hb
  cases b with
  | true =>
   refine Ev.step (fun k => ?_) (ih (j + 1) true (by omega) (.inl rfl))
   rw [lampblackref02_IsNarrow.l1, if_pos (by omega), if_pos (by omega), if_pos (by omega), if_pos rfl, wrap_succ j (by omega)]
  | false =>
   refine Ev.step (fun k => ?_) (ih (j + 1) (rd A (i : Int) == rd B (j : Int)) (by omega) ?_)
   ·rw [lampblackref02_IsNarrow.l1, if_pos (by omega), if_pos (by omega), if_pos (by omega), if_neg (by simp), wrap_succ j (by omega)]
   ·rcases hb with hb | ⟨k, h1, h2, h3⟩
    ·cases hb
    ·by_cases e : k = j
     ·left; rw [← e, h3]; simp
     ·exact .inr ⟨k, by omega, h2, h3⟩
theorem isNar_l2 (hA : A.length ≤ 1000) (hr : ∀ j, j < A.length → 0 ≤ rd A (j : Int) ∧ rd A (j : Int) < 512) (i : Nat) (hi : i < A.length) (hne : ∀ j, j < A.length → j ≠ i → ∃ v, bet A i v ∧ ¬ bet A j v) (r : Bool)
  (next : Ev (fun k => lampblackref02_IsNarrow.l0 k g A (A.length : Int) ((i + 1 : Nat) : Int) A PA B PB) r) :
  ∀ d j, j + d = A.length → Ev (fun k => lampblackref02_IsNarrow.l2 k g (i : Int) (rd A (i : Int)) true A (A.length : Int) (i : Int) A (A.length : Int) (j : Int) A PA B PB) r := by
 intro d
 induction d with
 | zero =>
  intro j hj
  exact Ev.step (fun k => by rw [lampblackref02_IsNarrow.l2, if_neg (by omega), if_pos rfl, wrap_succ i (by omega)]) next
 | succ d ih =>
  intro j hj
  by_cases e : i = j
  ·refine Ev.step (fun k => ?_) (ih (j + 1) (by omega))
   rw [lampblackref02_IsNarrow.l2, if_pos (by omega), if_pos (by omega), if_pos (by omega), if_pos (by omega), wrap_succ j (by omega)]
  ·obtain ⟨v, v1, v2⟩ := hne j (by omega) (fun e2 => e e2.symm)
   obtain ⟨a1, a2⟩ := hr i hi
   obtain ⟨b1, b2⟩ := hr j (by omega)
   obtain ⟨a, ha⟩ : ∃ a : Nat, rd A (i : Int) = (a : Int) := ⟨(rd A (i : Int)).toNat, by omega⟩
   obtain ⟨b, hb⟩ : ∃ b : Nat, rd A (j : Int) = (b : Int) := ⟨(rd A (j : Int)).toNat, by omega⟩
   have hd : diff a b ≠ 0 := fun h0 => by
    have := diff_zero.1 h0 v
    unfold bet bitI at v1 v2
    rw [ha] at v1
    rw [hb] at v2
    exact v2 (this v1)
   refine Ev.step (fun k => ?_) (ih (j + 1) (by omega))
   rw [lampblackref02_IsNarrow.l2, if_pos (by omega), if_pos (by omega), if_pos (by omega), if_neg (by omega), ha, hb, b_andNot a b (by omega) (by omega), if_neg (by omega), wrap_succ j (by omega)]
theorem isNar_l0 (hA : A.length ≤ 1000) (hB : B.length ≤ 1000) (hr : ∀ j, j < A.length → 0 ≤ rd A (j : Int) ∧ rd A (j : Int) < 512) (hne : ∀ i j, i < A.length → j < A.length → j ≠ i → ∃ v, bet A i v ∧ ¬ bet A j v) (hin : ∀ i : Nat, i < A.length → ∃ k : Nat, k < B.length ∧ rd A (i : Int) = rd B (k : Int))
  (z : Int) (ht : Ev (fun k => lampblackref02_IsTree.f k g A PA) (z, true)) : ∀ d i, i + d = A.length → Ev (fun k => lampblackref02_IsNarrow.l0 k g A (A.length : Int) (i : Int) A PA B PB) true := by
 intro d
 induction d with
 | zero =>
  intro i hi
  exact Ev.step (fun k => by rw [lampblackref02_IsNarrow.l0, if_neg (by omega)]) (Ev.bind ht (Ev.some rfl))
 | succ d ih =>
  intro i hi
  refine Ev.step (fun k => by rw [lampblackref02_IsNarrow.l0, if_pos (by omega), if_pos (by omega), if_pos (by omega)]) ?_
  obtain ⟨k, k1, k2⟩ := hin i (by omega)
  exact isNar_l1 i hB true (isNar_l2 hA hr i (by omega) (fun j hj hji => hne i j (by omega) hj hji) true (ih (i + 1) (by omega)) A.length 0 (by omega)) B.length 0 false (by omega) (.inr ⟨k, by omega, k1, k2⟩)
theorem isNar_ev (hA : A.length ≤ 1000) (hB : B.length ≤ 1000) (hr : ∀ j, j < A.length → 0 ≤ rd A (j : Int) ∧ rd A (j : Int) < 512) (hne : ∀ i j, i < A.length → j < A.length → j ≠ i → ∃ v, bet A i v ∧ ¬ bet A j v) (hin : ∀ i : Nat, i < A.length → ∃ k : Nat, k < B.length ∧ rd A (i : Int) = rd B (k : Int))
  (z : Int) (ht : Ev (fun k => lampblackref02_IsTree.f k g A PA) (z, true)) : Ev (fun k => lampblackref02_IsNarrow.f k g A PA B PB) true := by
 unfold lampblackref02_IsNarrow.f
 exact isNar_l0 hA hB hr hne hin z ht A.length 0 (by omega)
end
end Go.Proofs.YtoffehihicabcaaDoor.X
end
section
namespace Go.Proofs.YtoffehihicabcaaDoor.Pure
open Go.RowKit YtoffehihicabcaaDoorW.PrintWords YtoffehihicabcaaDoorW.PrintLast YtoffehihicabcaaDoorW.PrintMore YtoffehihicabcaaDoor.T YtoffehihicabcaaDoor.X
theorem Narrow_yes {G : List Nat} (hG : Gr 9 G) {B P : List Int} (h : TD G B P) : width_Narrow.f (gi G) B P = some ((narN B.length B P).1, (narN B.length B P).2, 0) := by
 unfold width_Narrow.f
 rw [if_pos ((chk_iff 9 (by omega) _).2 ⟨G, rfl, hG⟩), gi_toNatO, if_pos ((treeB_iff hG B P).2 h)]
theorem Narrow_no {G : List Nat} (hG : Gr 9 G) {B P : List Int} (h : ¬ TD G B P) : width_Narrow.f (gi G) B P = some ([], [], 2) := by
 unfold width_Narrow.f
 rw [if_pos ((chk_iff 9 (by omega) _).2 ⟨G, rfl, hG⟩), gi_toNatO, if_neg (fun hx => h ((treeB_iff hG B P).1 hx))]
theorem Narrow_bad (g B P : List Int) (hl : g.length < 1000) (h : chk 9 g = false) : width_Narrow.f g B P = some ([], [], 2) := by
 unfold width_Narrow.f
 rw [if_neg (by rw [h]; simp), if_pos hl]
theorem narrows_law (g B P : List Int) (hg : g.length < 2 ^ 44) : Ev (fun k => lampblacklaw02_WidthNarrows.f k g B P) true := by
 obtain ⟨h, e, e1, e2, e3⟩ := few_eq g hg
 have hv := valid_ev g (by omega)
 unfold lampblacklaw02_WidthNarrows.f
 refine Ev.bind1 e (Ev.bind1 (Of_eq B P) ?_)
 by_cases hc : chk 9 g = true
 ·obtain ⟨G, rfl, hG⟩ := (chk_iff 9 (by omega) _).1 hc
  rw [e1 hc] at e ⊢
  rw [hc] at hv
  have hn := hG.most
  have h29 : 2 ^ G.length ≤ 2 ^ 9 := Nat.pow_le_pow_right (by omega) hn
  obtain ⟨r3, hr3, hr3'⟩ := refIsTree_ev hG B P
  obtain ⟨t1, t2⟩ := td_take (G := G) B P
  have hfine : Ev (fun k => lampblacklaw02_fine.f k (gi G) B P) r3.2 := by
   unfold lampblacklaw02_fine.f
   exact Ev.bind hv (Ev.if_pos rfl (Ev.bind hr3 (Ev.some rfl)))
  by_cases ht : TD G B P
  ·rcases hr3' with ⟨_, e4⟩ | ⟨h4, _⟩
   ·subst e4
    rw [(t2 ht).1, (t2 ht).2]
    obtain ⟨s1, s2, s3⟩ := nar_spec hG B.length B P (Nat.le_refl _) ht
    have hfew := nar_few hG s1 s2
    obtain ⟨r, hr, hr'⟩ := refIsTree_ev hG (narN B.length B P).1 (narN B.length B P).2
    have hrt : r = ((mostF (narN B.length B P).1 (narN B.length B P).1.length 0 0 : Int) - 1, true) := by
     rcases hr' with ⟨_, e5⟩ | ⟨h5, _⟩
     ·exact e5
     ·exact absurd s1 h5
    subst hrt
    have hnar := isNar_ev (g := gi G) (A := (narN B.length B P).1) (PA := (narN B.length B P).2) (B := B) (PB := P) (by omega) (by have := ht.most; omega) (fun j hj => by have := s1.inn j hj; exact ⟨this.2.2.1, by have := this.2.2.2; omega⟩) (fun i j hi hj hji => nar_within hG s1 s2 hi hj (Ne.symm hji)) s3 _ hr
    refine Ev.bind1 (Narrow_yes hG ht) (Ev.bind hfine (Ev.if_pos rfl (Ev.if_pos rfl (Ev.bind1 (show lampblacklaw02_own.f (narN B.length B P).1 (narN B.length B P).2 = some ((narN B.length B P).1, (narN B.length B P).2) from rfl) (Ev.bind hnar (Ev.if_pos rfl (Ev.bind awake_ev (Ev.some rfl))))))))
   ·exact absurd ht h4
  ·rcases hr3' with ⟨h4, _⟩ | ⟨_, e4⟩
   ·exact absurd h4 ht
   ·subst e4
    exact Ev.bind1 (Narrow_no hG fun h => ht (t1.1 h)) (Ev.bind hfine (Ev.if_neg (by simp) (Ev.bind1 (show lampblacklaw02_none.f [] [] = some true from by decide +kernel) (Ev.if_pos rfl (Ev.if_pos rfl (Ev.bind awake_ev (Ev.some rfl)))))))
 ·have hc' : chk 9 g = false := by simpa using hc
  rw [hc'] at hv
  have hfine : Ev (fun k => lampblacklaw02_fine.f k g B P) false := by
   unfold lampblacklaw02_fine.f
   exact Ev.bind hv (Ev.if_neg (by simp) (Ev.some rfl))
  exact Ev.bind1 (Narrow_bad h _ _ (by omega) (e2 hc')) (Ev.bind hfine (Ev.if_neg (by simp) (Ev.bind1 (show lampblacklaw02_none.f [] [] = some true from by decide +kernel) (Ev.if_pos rfl (Ev.if_pos rfl (Ev.bind awake_ev (Ev.some rfl)))))))
theorem WidthNarrows : ∀ (l0 l1 l2 : List Int), l0.length ≤ maxLen → l0.length * 8 ≤ 140737488351232 → (∀ x ∈ l0, (Lit.int .i64 x).wf = true) → l1.length ≤ maxLen → l2.length ≤ maxLen → ∃ k, lampblacklaw02_WidthNarrows.f k l0 l1 l2 = some true := by
 intro g B P _ hg _ _ _
 exact Ev.rounds (narrows_law g B P (by omega))
end Go.Proofs.YtoffehihicabcaaDoor.Pure
end
section
namespace Go.Proofs.YtoffehihicabcaaDoor.X
open Go.RowKit Go.ChangeShapes Go.WideShapes
def RowI (w : World) (a : Option Addr) (len cap : Nat) (zs : List Int) : Prop :=
 (a = none ∧ len = 0 ∧ cap = 0 ∧ zs = []) ∨ ∃ x, a = some x ∧ len ≤ cap ∧ cap ≤ maxLen ∧ zs.length = cap ∧ (∀ i, i < zs.length → w.cell? (x.add i) = some (.int .i64 (zs.getD i 0))) ∧ ∀ n ∈ zs, (Lit.int .i64 n).wf = true
section
variable {H : Type} {enc : TypeId × Value → H} {P : Program} {w : World} {base : Nat} {spare : Nat → Bool} {held : Bool}
theorem open_rowI {t e : TypeId} {fuel : Nat} {c : Value} {x : DataW H × List MemPlace} (hsp : ∀ b, spare b = true) (ht : P.underlying t = some (.slice e)) (he : P.underlying e = some (.int .i64)) (hc : P.cellsOf e = 1)
  (h : DataW.trod enc P w base spare held fuel t [c] = some x) : ∃ a len cap zs, c = .slice a len cap ∧ RowI w a len cap zs := by
 rcases open_ints ht he hc h with ⟨hcs, _⟩ | ⟨ad, l, cp, zs, hcs, _, hl, hm, hz, _, hcell, hwz⟩
 ·simp at hcs
  exact ⟨none, 0, 0, [], hcs, .inl ⟨rfl, rfl, rfl, rfl⟩⟩
 ·simp at hcs
  exact ⟨some ad, l, cp, zs, hcs, .inr ⟨ad, rfl, hl, hm, by rw [hz, hsp]; rfl, hcell, hwz⟩⟩
theorem open_tree {t : TypeId} (e : TypeId) {f0 f1 : Field} {v : Value} {d : DataW H} {ps : List MemPlace} (hsp : ∀ b, spare b = true) (ht : P.underlying t = some (.struct #[f0, f1])) (h0 : P.underlying f0.type = some (.slice e)) (h1 : P.underlying f1.type = some (.slice e)) (he : P.underlying e = some (.int .i64)) (hc : P.cellsOf e = 1)
  (hC : P.cellsOf t = 2) (o0 : f0.offset = 0) (o1 : f1.offset = 1) (c0 : P.cellsOf f0.type = 1) (c1 : P.cellsOf f1.type = 1) (hv : ∃ cs, v = .agg cs ∧ cs.size = P.cellsOf t) (h : DataW.Trod enc P w base spare held t v d ps) :
  ∃ a0 n0 k0 z0 a1 n1 k1 z1, v = .agg #[.slice a0 n0 k0, .slice a1 n1 k1] ∧ RowI w a0 n0 k0 z0 ∧ RowI w a1 n1 k1 z1 := by
 obtain ⟨cs, rfl, hs⟩ := hv
 obtain ⟨fuel, hf⟩ := h
 obtain ⟨xs, n, _, _, hl, hxl, hf⟩ := DataW.trod_struct ht hf
 rw [hC] at hs
 obtain ⟨l⟩ := cs
 match l, hs with
 | [u0, u1], _ =>
  have g0 := hf 0 f0 rfl
  have g1 := hf 1 f1 rfl
  rw [o0, c0] at g0
  rw [o1, c1] at g1
  have y0 : xs[0]? = some (xs[0]'(by rw [hxl]; show 0 < 2; omega)) := List.getElem?_eq_getElem _
  have y1 : xs[1]? = some (xs[1]'(by rw [hxl]; show 1 < 2; omega)) := List.getElem?_eq_getElem _
  obtain ⟨a0, n0, k0, z0, e0, r0⟩ := open_rowI (c := u0) hsp h0 he hc (g0.trans y0)
  obtain ⟨a1, n1, k1, z1, e1, r1⟩ := open_rowI (c := u1) hsp h1 he hc (g1.trans y1)
  subst e0
  subst e1
  exact ⟨a0, n0, k0, z0, a1, n1, k1, z1, rfl, r0, r1⟩
end
end Go.Proofs.YtoffehihicabcaaDoor.X
end
