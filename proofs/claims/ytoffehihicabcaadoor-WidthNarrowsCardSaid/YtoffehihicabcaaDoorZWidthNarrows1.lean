/- Part 1 of what WidthNarrows rests on: contracts of the functions that it reaches, and what they compute, in plain words. -/
import Derived.Test.YtoffehihicabcaaDoorZWidthNarrows0
import Derived.WalkSpells
import Derived.Maps.AppendAt
import Derived.Maps.OwnIn
import Derived.WalkSmall
import Derived.Shelf.Slices.Delete
import Derived.Test.YtoffehihicabcaaDoorWMore
import Derived.Laws.BitsLemmas
import Derived.Maps.OwnOps
import Derived.Maps.OwnSet
import Derived.Maps.Ext
import Derived.Laws.EntriesVeiled
import Derived.Carry
set_option linter.unusedVariables false
set_option linter.unusedSimpArgs false
section
namespace Go.Proofs.YtoffehihicabcaaDoor.X
open Go.RowKit YtoffehihicabcaaDoorW.PrintWords YtoffehihicabcaaDoorW.PrintLast YtoffehihicabcaaDoorW.PrintMore
attribute [local go_sem] max2_int min2_int max_two min_two max_three min_three max_four min_four
noncomputable section
def slices_Clone_int_int.f (l0 : List Int) : Option (List Int) := (some (([] : List Int) : List Int)).bind fun y279 => (if y279.length + l0.length < 17592186044416 then (some (y279 ++ l0)) else (none))
set_option maxHeartbeats 8000000 in
set_option maxRecDepth 100000 in
theorem slices_Clone_int_int.calls_some (a0 : Addr) (c0 : Nat) (l0 : List Int) (r : List Int) (w : World) (hr0 : Kd.C (Kd.int .i64) w (some a0) l0.length l0) (hc0 : l0.length ≤ c0) (h : slices_Clone_int_int.f l0 = some r) :
  Calls Tryd.prog 72 #[.slice (some a0) l0.length c0] w fun e w' => ∃ v0_ : Value, e = .returned (v0_) ∧ Kd.R (Kd.int .i64) 3 w' w.heap.size (fun _ => True) v0_ r ∧ Below w.heap.size w w' := by
 have HR0 := Aside0.mk hr0
 have HC0 := Aside0.mk hc0
 clear hr0 hc0
 have HB := Aside0.mk (Below.refl w.heap.size w)
 have H : ((some (([] : List Int) : List Int)).bind fun y279 => (if y279.length + l0.length < 17592186044416 then (some (y279 ++ l0)) else (none))) = some r := h
 clear h
 obtain ⟨y279, hy279⟩ : ∃ y_ : List Int, y_ = (([] : List Int)) := ⟨_, rfl⟩
 replace H : (if y279.length + l0.length < 17592186044416 then (some (y279 ++ l0)) else (none)) = some r := by first | (rw [hy279]; with_reducible exact H) | (have H2_ := (Option.bind_some _ _).symm.trans H; rw [hy279]; with_reducible exact H2_) | (have H2_ := (Option.bind_some _ _).symm.trans H; with_reducible exact H2_) | with_reducible exact H | (rw [hy279]; exact H) | exact H
 have Ny279 := Aside0.mk hy279
 clear hy279
 by_cases c2 : y279.length + l0.length < 17592186044416
 ·rw [if_pos c2] at H
  have LMc2 := Aside0.mk c2
  clear c2
  obtain ⟨y282, hy282⟩ : ∃ y_ : List Int, y_ = (y279 ++ l0) := ⟨_, rfl⟩
  replace H : (some y282) = some r := by first | (rw [hy282]; with_reducible exact H) | (have H2_ := (Option.bind_some _ _).symm.trans H; rw [hy282]; with_reducible exact H2_) | (have H2_ := (Option.bind_some _ _).symm.trans H; with_reducible exact H2_) | with_reducible exact H | (rw [hy282]; exact H) | exact H
  have Ny282 := Aside0.mk hy282
  clear hy282
  obtain rfl := Option.some.inj H
  have heq_ := fun (w : World) => Lib.run_eql_slice_nil (P := Tryd.prog) w 22 3 (some a0) l0.length c0 0 0 Tryd.underlying22
  go_enter Tryd.func72, Tryd.ntmps72
  go_wp2_with (first | ((with_reducible refine gate_dst (N := 5) rfl ?_); refine Kd.R_lit (Kd.int .i64) _ 3 ?hg (N := 5) ?hd (xs := ([] : List Int)) (inner := []) (ok := fun _ => True) (okp := fun _ => True) ?hr ?hp (fun _ hk => hk) trivial (Below.refl _ _) (Nat.le_refl _) (by simp) ?_; (case hd => rfl); (case hg => rfl); (case hr => first | (go_simp; done) | (go_simp; rfl)); (case hp => exact (Reps.none _ _)); intro v280 w3 ho4 hb hg_ hnew_; clear hg_ hnew_; (first | rw [← Ny279.out] at ho4 | (simp only [Int.reduceToNat] at ho4; rw [← Ny279.out] at ho4)); have n0_ := Aside0.mk (Kd.R_lower ho4 (below_size (Qaw))); have n1_ := Aside0.mk (below_step (Qaw) hb); clear HB; have HO281 := n0_; have HB := n1_; clear n0_ n1_; clear hb ho4) | ((with_reducible refine gate_builtin (b := .append) (xs := #[.tmp 5, .tmp 6]) rfl ?_); at_builtin; refine Kd.R_append_rows (Kd.int .i64) (w0 := w) w.heap.size rfl (.tmp 5) (.tmp 6) 22 3 (.int .i64 0) 8 rfl Tryd.underlying22 info3 rfl (by decide) (by omega) v280 y279 l0 _ _ _ (fun _ => True) (fun _ => False) rfl rfl ?aO ?aR (fun _ _ h => h) (fun _ h => h.elim) ?aF ?aB ?aS ?aL ?_; (case aR => exact Qsc (Kd.C_below HR0.out HB.out)); (case aB => exact (Qaw)); (case aF => exact (fun _ _ => trivial)); (case aO => exact (Qro HO281.out)); (case aS => exact (below_size (Qaw))); (case aL => have := LMc2.out; omega); intro v283 w5 ho hb hg hat; rw [← Ny282.out] at ho; have n0_ := Aside0.mk (hb); have n1_ := Aside0.mk (ho); clear HB; clear HO281; have HB := n0_; have HO284 := n1_; clear n0_ n1_; clear ho hb hg hat))
  go_ret
  exact ⟨_, by first | rfl | (simp [errW_none, errW_some] <;> rfl) | (simp [*, errW_none, errW_some] <;> rfl), by (with_reducible repeat (first | apply Kd.R_alloc | apply Kd.R_drewN | apply Kd.R_drew)); exact HO284.out, by repeat (first | (with_reducible first | exact HB.out | apply below_alloc | apply pw_below_drewN | apply below_drew1) | exact HB.out)⟩
 ·rw [if_neg c2] at H
  exact absurd H (by simp)
theorem slices_Clone_int_int.calls (A0 : Option Addr) (c0 : Nat) (l0 : List Int) (r : List Int) (w : World) (hr0 : Kd.C (Kd.int .i64) w A0 l0.length l0) (hc0 : l0.length ≤ c0) (h : slices_Clone_int_int.f l0 = some r) :
  Calls Tryd.prog 72 #[.slice A0 l0.length c0] w fun e w' => ∃ v0_ : Value, e = .returned (v0_) ∧ Kd.R (Kd.int .i64) 3 w' w.heap.size (fun _ => True) v0_ r ∧ Below w.heap.size w w' := by
 cases A0 with
 | some a0 => exact slices_Clone_int_int.calls_some a0 c0 l0 r w hr0 hc0 h
 | none =>
  have hl : l0 = [] := by
   rcases Nat.eq_zero_or_pos l0.length with h0 | h0
   ·exact List.length_eq_zero_iff.mp h0
   ·obtain ⟨ad, he, _⟩ := hr0.2.2 h0
    cases he
  subst hl
  obtain rfl : [] = r := by simpa [slices_Clone_int_int.f] using h
  clear h hr0 hc0
  have heq_ := fun (w : World) => Lib.run_eql_slice_nil (P := Tryd.prog) w 22 3 none 0 c0 0 0 Tryd.underlying22
  go_enter Tryd.func72, Tryd.ntmps72
  go_wp2
  go_ret
  exact ⟨_, rfl, Kd.R_nil _ _ _ _ _, Below.refl _ _⟩
end
noncomputable section
def lampblacklaw02_list.f (l0 : List Int) : Option (List Int) := if 0 ≤ (mn (l0.length : Int) 210) then (if (mn (l0.length : Int) 210) ≤ (l0.length : Int) then ((slices_Clone_int_int.f (l0.take ((mn (l0.length : Int) 210) : Int).toNat)).bind fun t286 => (some t286)) else (none)) else (none)
set_option maxHeartbeats 8000000 in
set_option maxRecDepth 100000 in
theorem lampblacklaw02_list.calls (A0 : Option Addr) (c0 : Nat) (l0 : List Int) (r : List Int) (w : World) (hr0 : Kd.C (Kd.int .i64) w A0 l0.length l0) (hc0 : l0.length ≤ c0) (h : lampblacklaw02_list.f l0 = some r) :
  Calls Tryd.prog 31 #[.slice A0 l0.length c0] w fun e w' => ∃ v0_ : Value, e = .returned (v0_) ∧ Kd.R (Kd.int .i64) 3 w' w.heap.size (fun _ => True) v0_ r ∧ Below w.heap.size w w' := by
 have HR0 := Aside0.mk hr0
 have HC0 := Aside0.mk hc0
 clear hr0 hc0
 have HB := Aside0.mk (Below.refl w.heap.size w)
 have H : (if 0 ≤ (mn (l0.length : Int) 210) then (if (mn (l0.length : Int) 210) ≤ (l0.length : Int) then ((slices_Clone_int_int.f (l0.take ((mn (l0.length : Int) 210) : Int).toNat)).bind fun t286 => (some t286)) else (none)) else (none)) = some r := h
 clear h
 obtain ⟨ji2, hji2⟩ : ∃ j_ : Int, (mn (l0.length : Int) 210) = j_ := ⟨_, rfl⟩
 replace H : (if 0 ≤ (ji2) then (if (ji2) ≤ (l0.length : Int) then ((slices_Clone_int_int.f (l0.take ((ji2) : Int).toNat)).bind fun t286 => (some t286)) else (none)) else (none)) = some r := by first | (rw [hji2] at H; exact H) | (simp only [hji2] at H ⊢; exact H)
 (try (have hji2h : ji2 ≤ 210 := by (rw [← hji2]; unfold mn; (repeat' split) <;> omega)))
 (try (have hji2g : ji2 ≤ 64 := by omega))
 (try (have hji2l : 0 ≤ ji2 := by (rw [← hji2]; unfold mn; (repeat' split) <;> omega)))
 (try (have hji2m : 0 ≤ ji2 := by omega))
 have hji2_ : (if 210 < (l0.length : Int) then 210 else (l0.length : Int)) = ji2 := hji2
 by_cases c3 : 0 ≤ (ji2)
 ·rw [if_pos c3] at H
  have c3b0 := eq_true c3
  have c3b1 : decide (0 ≤ (ji2)) = true := decide_eq_true c3
  clear c3
  by_cases c4 : (ji2) ≤ (l0.length : Int)
  ·rw [if_pos c4] at H
   have c4b0 := eq_true c4
   have c4b1 : decide ((ji2) ≤ (l0.length : Int)) = true := decide_eq_true c4
   clear c4
   replace H := Option.bind_eq_some_iff.mp H
   obtain ⟨t286, A50, H⟩ := H
   replace H : (some t286) = some r := H
   have A5 := Aside0.mk A50
   clear A50
   obtain rfl := Option.some.inj H
   obtain ⟨i06, hi06, _, hsz6, _⟩ := info_parts info3
   obtain ⟨hcut6, hA6, hC6⟩ := print_take_of (P := Tryd.prog) (Value.int .i64) 0 22 3 .i64 Tryd.underlying22 hi06 hsz6 A0 c0 l0 (ji2) (of_decide_eq_true (Qas)) (of_decide_eq_true (Qas)) HC0.out
   have HR285 := Aside0.mk (Kd.C_of_reads (h1 := fun _ => rfl) (hA6 _ (Kd.reads_of_C HR0.out)))
   have HC285 := Aside0.mk hC6
   clear hA6 hC6 hi06 hsz6
   go_enter Tryd.func31, Tryd.ntmps31
   go_wp2_with (first | ((with_reducible refine gate_callee (f := 72) rfl ?_); refine goesL_ (some 8) rfl rfl Tryd.func72 (by kernel_rfl) rfl #[.slice A0 (l0.take ((ji2) : Int).toNat).length c0] rfl (by (try simp only [List.map_toArray, List.map_cons, List.map_nil]); first | done | (rw [show (l0.take ((ji2) : Int).toNat).length = (ji2).toNat from (by rw [List.length_take]; have h_ : ((ji2) : Int) ≤ (l0.length : Int) := of_decide_eq_true (Qas); omega)] <;> rfl) | (simp only [hji2]; rfl) | rfl | (simp only [List.length_drop, List.length_take]; rfl)) ?_; (with_reducible refine (slices_Clone_int_int.calls _ _ (l0.take ((ji2) : Int).toNat) t286 _ ?side1 ?side2 A5.out).mono ?_); (case side1 => exact Qsc HR285.out); (case side2 => exact HC285.out); rintro e w7 ⟨v287, rfl, ho0, hb⟩; refine ⟨_, rfl, ?_⟩; have n0_ := Aside0.mk (Kd.R_lower ho0 (below_size (Qaw))); have n1_ := Aside0.mk (below_step (Qaw) hb); clear HB; have HO288 := n0_; have HB := n1_; clear n0_ n1_; (try clear hb); (try clear hb2); (try clear hk); (try clear hi); (try clear ho0)))
   go_ret
   exact ⟨_, by first | rfl | (simp [errW_none, errW_some] <;> rfl) | (simp only [← hji2]; first | rfl | (simp [errW_none, errW_some] <;> rfl)) | (simp [*, errW_none, errW_some] <;> rfl), by (with_reducible repeat (first | apply Kd.R_alloc | apply Kd.R_drewN | apply Kd.R_drew)); exact HO288.out, by repeat (first | (with_reducible first | exact HB.out | apply below_alloc | apply pw_below_drewN | apply below_drew1) | exact HB.out)⟩
  ·rw [if_neg c4] at H
   exact absurd H (by simp)
 ·rw [if_neg c3] at H
  exact absurd H (by simp)
end
noncomputable section
def lampblacklaw02_Of.f (l0_0 : List Int) (l0_1 : List Int) : Option (List Int × List Int) := (lampblacklaw02_list.f l0_0).bind fun t411 => ((lampblacklaw02_list.f l0_1).bind fun t414 => (some (t411, t414)))
def lampblacklaw02_Of.T1 : Bool × List (List Nat × List Nat) := (true, [([], []), ([0], [0]), ([1], [1]), ([], []), ([3], [3]), ([4, 2], [4]), ([2, 5], [2, 5]), ([6, 5, 0, 1, 2, 3, 4, 5, 6], [6])])
def lampblacklaw02_Of.B1 : List Nat := [0, 1, 3, 0, 8, 31, 63, 127]
theorem lampblacklaw02_Of.tab1 : rtab .any (opsOf Tryd.f44 1) = lampblacklaw02_Of.T1 := by kernel_rfl
theorem lampblacklaw02_Of.bits1 : waitsOk lampblacklaw02_Of.T1.2 lampblacklaw02_Of.B1 = true := by kernel_rfl
set_option maxHeartbeats 8000000 in
set_option maxRecDepth 100000 in
theorem lampblacklaw02_Of.calls (A0_0 : Option Addr) (c0_0 : Nat) (l0_0 : List Int) (A0_1 : Option Addr) (c0_1 : Nat) (l0_1 : List Int) (r1 : List Int) (r2 : List Int) (w : World) (hr0_0 : Kd.C (Kd.int .i64) w A0_0 l0_0.length l0_0) (hc0_0 : l0_0.length ≤ c0_0) (hr0_1 : Kd.C (Kd.int .i64) w A0_1 l0_1.length l0_1) (hc0_1 : l0_1.length ≤ c0_1) (h : lampblacklaw02_Of.f l0_0 l0_1 = some (r1, r2)) :
  Calls Tryd.prog 44 #[.agg #[.slice A0_0 l0_0.length c0_0, .slice A0_1 l0_1.length c0_1]] w fun e w' => ∃ v0_ v1_ : Value, e = .returned (.agg #[v0_, v1_]) ∧ Kd.R (Kd.int .i64) 3 w' w.heap.size (fun k_ => some k_ ≠ (v1_ : Value).ownBlock) v0_ r1 ∧ Kd.R (Kd.int .i64) 3 w' w.heap.size (fun k_ => some k_ ≠ (v0_ : Value).ownBlock) v1_ r2 ∧ Below w.heap.size w w' := by
 have hu52 := Tryd.underlying52
 have hu53 := Tryd.underlying53
 have HR0_0 := Aside0.mk hr0_0
 have HC0_0 := Aside0.mk hc0_0
 clear hr0_0 hc0_0
 have HR0_1 := Aside0.mk hr0_1
 have HC0_1 := Aside0.mk hc0_1
 clear hr0_1 hc0_1
 have HB := Aside0.mk (Below.refl w.heap.size w)
 have H : ((lampblacklaw02_list.f l0_0).bind fun t411 => ((lampblacklaw02_list.f l0_1).bind fun t414 => (some (t411, t414)))) = some (r1, r2) := h
 clear h
 replace H := Option.bind_eq_some_iff.mp H
 obtain ⟨t411, A20, H⟩ := H
 replace H : ((lampblacklaw02_list.f l0_1).bind fun t414 => (some (t411, t414))) = some (r1, r2) := H
 have A2 := Aside0.mk A20
 clear A20
 replace H := Option.bind_eq_some_iff.mp H
 obtain ⟨t414, A30, H⟩ := H
 replace H : (some (t411, t414)) = some (r1, r2) := H
 have A3 := Aside0.mk A30
 clear A30
 simp only [Option.some.injEq, Prod.mk.injEq] at H
 obtain ⟨rfl, rfl⟩ := H
 go_enter Tryd.func44, Tryd.ntmps44
 try go_wp2_with (first | ((with_reducible refine gate_dst (N := 1) rfl ?_); refine box_event ?hg (N := 1) ?hd (cs := #[.slice A0_0 l0_0.length c0_0, .slice A0_1 l0_1.length c0_1]) (t := 52) ?hr ?_; (case hd => rfl); (case hg => rfl); (case hr => first | (go_simp; done) | (go_simp; rfl)); intro gb409 hg w4 hbox hb; have n0_ := Aside0.mk (below_step (Qaw) hb); have n1_ := Aside0.mk (hbox); have n2_ := Aside0.mk ((by rw [hg]; exact (below_size (Qaw)) : w.heap.size ≤ gb409)); have n3_ := Aside0.mk ((by rw [hg]; exact (below_size (Qaw)) : w.heap.size ≤ gb409)); clear HB; have HB := n0_; have BK409 := n1_; have GW409 := n2_; have GE409 := n3_; clear n0_ n1_ n2_ n3_; clear hb hbox hg) | ((with_reducible refine gate_dst (N := 2) rfl ?_); refine box_event ?hg (N := 2) ?hd (cs := #[.slice none 0 0, .slice none 0 0]) (t := 53) ?hr ?_; (case hd => rfl); (case hg => rfl); (case hr => first | (go_simp; done) | (go_simp; rfl)); intro gb410 hg w5 hbox hb; have n0_ := Aside0.mk (blk_below (g := gb409) (o := .cells #[.slice A0_0 l0_0.length c0_0, .slice A0_1 l0_1.length c0_1] 52 (0, 0)) (Qbl BK409.out) hb); have n1_ := Aside0.mk (below_step (Qag GE409.out) hb); have n2_ := Aside0.mk (hbox); have n3_ := Aside0.mk ((by rw [hg]; exact (below_size (Qag GE409.out)) : w.heap.size ≤ gb410)); have n4_ := Aside0.mk ((by rw [hg]; exact (below_size (Qag GE409.out)) : w.heap.size ≤ gb410)); have n5_ := Aside0.mk ((by rw [hg]; exact Nat.ne_of_lt (blk_lt (g := gb409) (o := .cells #[.slice A0_0 l0_0.length c0_0, .slice A0_1 l0_1.length c0_1] 52 (0, 0)) (Qbl BK409.out)) : gb409 ≠ gb410)); have n6_ := Aside0.mk ((by rw [hg]; exact Nat.ne_of_gt (blk_lt (g := gb409) (o := .cells #[.slice A0_0 l0_0.length c0_0, .slice A0_1 l0_1.length c0_1] 52 (0, 0)) (Qbl BK409.out)) : gb410 ≠ gb409)); clear BK409; clear HB; have BK409 := n0_; have HB := n1_; have BK410 := n2_; have GW410 := n3_; have GE410 := n4_; have NB409_410 := n5_; have NB410_409 := n6_; clear n0_ n1_ n2_ n3_ n4_ n5_ n6_; clear hb hbox hg))
 have n0_ := Aside0.mk (blk_drew BK409.out)
 have n1_ := Aside0.mk (blk_drew BK410.out)
 have n2_ := Aside0.mk (below_drew1 HB.out)
 clear BK409
 clear BK410
 clear HB
 have BK409 := n0_
 have BK410 := n1_
 have HB := n2_
 clear n0_ n1_ n2_
 refine start_ (n := 8) (S := fun w' => w'.cell? ⟨gb409, 0, none⟩ = some (.slice A0_0 l0_0.length c0_0) ∧ w'.cell? ⟨gb409, 1, none⟩ = some (.slice A0_1 l0_1.length c0_1)) (ds := []) (Qbz 8 0) (by kernel_rfl) rfl rfl ⟨(blk_cell BK409.out 0).trans rfl, (blk_cell BK409.out 1).trans rfl⟩ (fun hHeld => ?_); refine with_tabW lampblacklaw02_Of.tab1 lampblacklaw02_Of.bits1 (fun HT_ HW_ => ?_)
 generalize w5.drew = w6 at BK409 BK410 HB hHeld ⊢
 refine pure_ (i := 0) (N := some 3) (v := ?_) (a' := ?_) (Qbz 8 1) rfl rfl (Qao) (fun _ _ _ h => h) (Or.inl ⟨by rfl, ?_⟩) ?_ ?_
 rotate_left
 ·intro w'
  go_simp
  with_reducible rfl
 rotate_left
 ·simp only [Act.put, Qp1, Qp2, Qp3, i64_w, i32_w]
  rfl
 refine pure_ (i := 3) (N := some 6) (v := ?_) (a' := ?_) (Qbz 8 9) rfl rfl (Qao) (fun _ _ _ h => h) (Or.inl ⟨by rfl, ?_⟩) ?_ ?_
 rotate_left
 ·intro w'
  go_simp
  with_reducible rfl
 rotate_left
 ·simp only [Act.put, Qp1, Qp2, Qp3, i64_w, i32_w]
  rfl
 refine take_ (i := 1) (N := some 4) (v := ?_) (a' := ?_) (Qbz 8 11) rfl rfl (take_ofW HT_.out HW_.out (by kernel_rfl)) (fun _ _ _ h => h) (Or.inl ⟨by rfl, ?_⟩) hHeld ?_ ?_
 rotate_left
 ·rintro w' ⟨s0, s1⟩
  go_simp
  with_reducible rfl
 rotate_left
 ·simp only [Act.put, Qp1, Qp2, Qp3, i64_w, i32_w]
  rfl
 refine take_ (i := 4) (N := some 7) (v := ?_) (a' := ?_) (Qbz 8 27) rfl rfl (take_ofW HT_.out HW_.out (by kernel_rfl)) (fun _ _ _ h => h) (Or.inl ⟨by rfl, ?_⟩) hHeld ?_ ?_
 rotate_left
 ·rintro w' ⟨s0, s1⟩
  go_simp
  with_reducible rfl
 rotate_left
 ·simp only [Act.put, Qp1, Qp2, Qp3, i64_w, i32_w]
  rfl
 refine one_ (i := 2) (N := some 5) (Qbz 8 31) rfl rfl (one_of HT_.out (by kernel_rfl)) (by decide) (fun K hK => ?_)
 refine goes_ Tryd.func31 (by kernel_rfl) rfl #[.slice A0_0 l0_0.length c0_0] (by rfl) rfl rfl (Qls) ?_
 with_reducible refine (lampblacklaw02_list.calls _ _ l0_0 t411 _ ?side1 ?side2 A2.out).mono ?_
 (case side1 => exact Qsc (Kd.C_below HR0_0.out HB.out))
 (case side2 => exact HC0_0.out)
 rintro e w7 ⟨v412, rfl, ho0, hb⟩
 refine ⟨_, rfl, ?_⟩
 have n0_ := Aside0.mk (Kd.R_lower ho0 (below_size (Qah GE409.out GE410.out)))
 have n1_ := Aside0.mk (blk_below (g := gb409) (o := .cells #[.slice A0_0 l0_0.length c0_0, .slice A0_1 l0_1.length c0_1] 52 (0, 0)) (Qbl BK409.out) hb)
 have n2_ := Aside0.mk (blk_below (g := gb410) (o := .cells #[.slice none 0 0, .slice none 0 0] 53 (0, 0)) (Qbl BK410.out) hb)
 have n3_ := Aside0.mk (below_step (Qah GE409.out GE410.out) hb)
 clear BK409
 clear BK410
 clear HB
 have HO413 := n0_
 have BK409 := n1_
 have BK410 := n2_
 have HB := n3_
 clear n0_ n1_ n2_ n3_
 (try clear hb)
 (try clear hb2)
 (try clear hk)
 (try clear hi)
 (try clear ho0)
 refine hK.out _ _ ⟨(blk_cell BK409.out 0).trans rfl, (blk_cell BK409.out 1).trans rfl⟩ (fun hHeld => ?_)
 clear hK K
 refine norm_ (a' := ?_) ?_ ?_
 rotate_left
 ·show Act.put _ (some 5) _ = _
  simp only [Act.put, Qp1, Qp2, Qp3, i64_w, i32_w]
  rfl
 refine one_ (i := 5) (N := some 8) (Qbz 8 63) rfl rfl (one_of HT_.out (by kernel_rfl)) (by decide) (fun K hK => ?_)
 refine goes_ Tryd.func31 (by kernel_rfl) rfl #[.slice A0_1 l0_1.length c0_1] (by rfl) rfl rfl (Qls) ?_
 with_reducible refine (lampblacklaw02_list.calls _ _ l0_1 t414 _ ?side1 ?side2 A3.out).mono ?_
 (case side1 => exact Qsc (Kd.C_below HR0_1.out HB.out))
 (case side2 => exact HC0_1.out)
 rintro e w8 ⟨v415, rfl, ho0, hb⟩
 refine ⟨_, rfl, ?_⟩
 have n0_ := Aside0.mk (Kd.R_elder' (Qro HO413.out) (Kd.R_base ho0) hb)
 have n1_ := Aside0.mk (Kd.R_lower (Kd.R_new' ho0 (Kd.R_lt (Qro HO413.out))) (below_size (Qah GE409.out GE410.out)))
 have n2_ := Aside0.mk (blk_below (g := gb409) (o := .cells #[.slice A0_0 l0_0.length c0_0, .slice A0_1 l0_1.length c0_1] 52 (0, 0)) (Qbl BK409.out) hb)
 have n3_ := Aside0.mk (blk_below (g := gb410) (o := .cells #[.slice none 0 0, .slice none 0 0] 53 (0, 0)) (Qbl BK410.out) hb)
 have n4_ := Aside0.mk (below_step (Qah GE409.out GE410.out) hb)
 clear HO413
 clear BK409
 clear BK410
 clear HB
 have HO413 := n0_
 have HO416 := n1_
 have BK409 := n2_
 have BK410 := n3_
 have HB := n4_
 clear n0_ n1_ n2_ n3_ n4_
 (try clear hb)
 (try clear hb2)
 (try clear hk)
 (try clear hi)
 (try clear ho0)
 obtain ⟨Ao9, co9, eo9⟩ := Kd.R_slice HO416.out
 (first | subst eo9 | (injection eo9 with f1_ f2_ f3_; have f4_ := f1_.symm; have f5_ := f3_.symm; clear f1_ f2_ f3_; subst f4_; subst f5_))
 obtain ⟨Ao10, co10, eo10⟩ := Kd.R_slice HO413.out
 (first | subst eo10 | (injection eo10 with f1_ f2_ f3_; have f4_ := f1_.symm; have f5_ := f3_.symm; clear f1_ f2_ f3_; subst f4_; subst f5_))
 refine hK.out _ _ ⟨(blk_cell BK409.out 0).trans rfl, (blk_cell BK409.out 1).trans rfl⟩ (fun hHeld => ?_)
 clear hK K
 refine norm_ (a' := ?_) ?_ ?_
 rotate_left
 ·show Act.put _ (some 8) _ = _
  simp only [Act.put, Qp1, Qp2, Qp3, i64_w, i32_w]
  rfl
 refine pure_ (i := 6) (N := some 9) (v := ?_) (a' := ?_) (Qbz 8 127) rfl rfl (Qao) (fun _ _ _ h => h) (Or.inl ⟨by rfl, ?_⟩) ?_ ?_
 rotate_left
 ·intro w'
  go_simp
  with_reducible rfl
 rotate_left
 ·simp only [Act.put, Qp1, Qp2, Qp3, i64_w, i32_w]
  rfl
 refine one_ (i := 7) (N := none) (Qbz 8 255) rfl rfl (one_of HT_.out (by kernel_rfl)) (by decide) (fun K hK => ?_)
 have hs11 : w8.cell? ⟨gb410, 0, none⟩ = some (.slice none 0 0) := (blk_cell BK410.out 0).trans rfl
 have hfs11 := blk_frozen BK410.out 0
 have hns11_0 := NB409_410.out
 have hms11_0 := NB410_409.out
 have hs12 : w8.cell? ⟨gb410, 1, none⟩ = some (.slice none 0 0) := (blk_cell BK410.out 1).trans rfl
 have hfs12 := blk_frozen BK410.out 1
 have hns12_0 := NB409_410.out
 have hms12_0 := NB410_409.out
 refine skip_ (w1 := ?_) (by rfl) rfl ?_ ?_
 rotate_left
 ·go_simp
  rfl
 refine hK.out _ _ ⟨((cell_far (p := ⟨gb410, _, none⟩) NB409_410.out _).trans (((cell_far (p := ⟨gb410, _, none⟩) NB409_410.out _).trans (hHeld.1)))), ((cell_far (p := ⟨gb410, _, none⟩) NB409_410.out _).trans (((cell_far (p := ⟨gb410, _, none⟩) NB409_410.out _).trans (hHeld.2))))⟩ (fun hHeld => ?_)
 clear hK K
 refine done_ (done_of HT_.out (by kernel_rfl)) ?_
 try go_wp2
 refine bodyPost_ret (results_cell_row rfl _ _ gb410 53 #[.slice Ao10 t411.length co10, .slice Ao9 t414.length co9] (0, 0) _ rfl (by (with_reducible repeat (first | refine blk_drewN ?_ _ | refine blk_drew ?_ | refine blk_alloc ?_ _)); refine blk_put (cs := #[.slice Ao10 t411.length co10, .slice none 0 0]) ?_ 1 _ rfl; (with_reducible repeat (first | refine blk_drewN ?_ _ | refine blk_drew ?_ | refine blk_alloc ?_ _)); refine blk_put (cs := #[.slice none 0 0, .slice none 0 0]) ?_ 0 _ rfl; (with_reducible repeat (first | refine blk_drewN ?_ _ | refine blk_drew ?_ | refine blk_alloc ?_ _)); exact BK410.out) Tryd.underlying53 rfl (by kernel_rfl)) rfl ?_
 exact ⟨_, _, by first | rfl | (simp [errW_none, errW_some] <;> rfl) | (simp [*, errW_none, errW_some] <;> rfl), by (with_reducible repeat (first | apply Kd.R_alloc | apply Kd.R_drewN | apply Kd.R_drew)); exact Kd.R_mono (Kd.R_far (p := ⟨gb410, 1, none⟩) (Kd.R_far (p := ⟨gb410, 0, none⟩) (Kd.R_types HO413.out BK410.out (by decide)) (fun _ hk => hk.2) (.slice Ao10 t411.length co10)) (fun _ hk => hk.2) (.slice Ao9 t414.length co9)) (fun _ hk => hk.1.2), by (with_reducible repeat (first | apply Kd.R_alloc | apply Kd.R_drewN | apply Kd.R_drew)); exact Kd.R_mono (Kd.R_far (p := ⟨gb410, 1, none⟩) (Kd.R_far (p := ⟨gb410, 0, none⟩) (Kd.R_types HO416.out BK410.out (by decide)) (fun _ hk => hk.2) (.slice Ao10 t411.length co10)) (fun _ hk => hk.2) (.slice Ao9 t414.length co9)) (fun _ hk => hk.1.2), by repeat (first | (with_reducible first | exact HB.out | apply below_alloc | apply pw_below_drewN | apply below_drew1 | refine below_set ?_ GE409.out | refine below_set ?_ GE410.out) | exact HB.out)⟩
end
noncomputable section
def lampblacklaw02_own.f (l0_0 : List Int) (l0_1 : List Int) : Option (List Int × List Int) := some (l0_0, l0_1)
set_option maxHeartbeats 8000000 in
set_option maxRecDepth 100000 in
theorem lampblacklaw02_own.calls (P0_0_ : Nat → Prop) (A0_0 : Option Addr) (c0_0 : Nat) (l0_0 : List Int) (P0_1_ : Nat → Prop) (A0_1 : Option Addr) (c0_1 : Nat) (l0_1 : List Int) (r1 : List Int) (r2 : List Int) (w : World) (hs0_0 : Kd.V (Kd.int .i64) 3 w w.heap.size (fun k_ => P0_0_ k_) (.slice A0_0 l0_0.length c0_0) l0_0) (hs0_1 : Kd.V (Kd.int .i64) 3 w w.heap.size (fun k_ => P0_1_ k_) (.slice A0_1 l0_1.length c0_1) l0_1) (h : lampblacklaw02_own.f l0_0 l0_1 = some (r1, r2)) :
  Calls Tryd.prog 48 #[.agg #[.slice A0_0 l0_0.length c0_0, .slice A0_1 l0_1.length c0_1]] w fun e w' => ∃ v0_ v1_ : Value, e = .returned (.agg #[v0_, v1_]) ∧ Kd.V (Kd.int .i64) 3 w' w.heap.size (fun k_ => ((P0_0_ k_ ∨ P0_1_ k_) ∨ w.heap.size ≤ k_)) v0_ r1 ∧ Kd.V (Kd.int .i64) 3 w' w.heap.size (fun k_ => ((P0_0_ k_ ∨ P0_1_ k_) ∨ w.heap.size ≤ k_)) v1_ r2 ∧ Below w.heap.size w w' := by
 have hu53 := Tryd.underlying53
 have hu52 := Tryd.underlying52
 have HO0_0 := Aside0.mk (show Kd.V (Kd.int .i64) 3 w w.heap.size (fun k_ => ((P0_0_ k_ ∨ P0_1_ k_) ∨ w.heap.size ≤ k_)) (.slice A0_0 l0_0.length c0_0) l0_0 from Kd.V_mono hs0_0 (fun k_ hk => .inl (.inl hk)))
 have HO0_1 := Aside0.mk (show Kd.V (Kd.int .i64) 3 w w.heap.size (fun k_ => ((P0_0_ k_ ∨ P0_1_ k_) ∨ w.heap.size ≤ k_)) (.slice A0_1 l0_1.length c0_1) l0_1 from Kd.V_mono hs0_1 (fun k_ hk => .inl (.inr hk)))
 have HB := Aside0.mk (Below.refl w.heap.size w)
 have H : (some (l0_0, l0_1)) = some (r1, r2) := h
 clear h
 simp only [Option.some.injEq, Prod.mk.injEq] at H
 obtain ⟨rfl, rfl⟩ := H
 go_enter Tryd.func48, Tryd.ntmps48
 go_wp2_with (first | ((with_reducible refine gate_dst (N := 1) rfl ?_); refine box_event ?hg (N := 1) ?hd (cs := #[.slice A0_0 l0_0.length c0_0, .slice A0_1 l0_1.length c0_1]) (t := 53) ?hr ?_; (case hd => rfl); (case hg => rfl); (case hr => first | (go_simp; done) | (go_simp; rfl)); intro gb440 hg w2 hbox hb; have n0_ := Aside0.mk (Kd.V_below (Kd.V_elderB (by (with_reducible repeat (first | apply Kd.V_alloc | apply Kd.V_drewN | apply Kd.V_drew)); exact HO0_0.out) gb440 (Nat.le_of_eq hg.symm)) hb); have n1_ := Aside0.mk (Kd.V_below (Kd.V_elderB (by (with_reducible repeat (first | apply Kd.V_alloc | apply Kd.V_drewN | apply Kd.V_drew)); exact HO0_1.out) gb440 (Nat.le_of_eq hg.symm)) hb); have n2_ := Aside0.mk (below_step (Qaw) hb); have n3_ := Aside0.mk (hbox); have n4_ := Aside0.mk ((by rw [hg]; exact (below_size (Qaw)) : w.heap.size ≤ gb440)); have n5_ := Aside0.mk ((by rw [hg]; exact (below_size (Qaw)) : w.heap.size ≤ gb440)); clear HO0_0; clear HO0_1; clear HB; have HO0_0 := n0_; have HO0_1 := n1_; have HB := n2_; have BK440 := n3_; have GW440 := n4_; have GE440 := n5_; clear n0_ n1_ n2_ n3_ n4_ n5_; clear hb hbox hg) | ((with_reducible refine gate_dst (N := 2) rfl ?_); refine box_event ?hg (N := 2) ?hd (cs := #[.slice none 0 0, .slice none 0 0]) (t := 52) ?hr ?_; (case hd => rfl); (case hg => rfl); (case hr => first | (go_simp; done) | (go_simp; rfl)); intro gb441 hg w3 hbox hb; have n0_ := Aside0.mk (Kd.V_below (Kd.V_elderB (by (with_reducible repeat (first | apply Kd.V_alloc | apply Kd.V_drewN | apply Kd.V_drew)); exact HO0_0.out) gb441 (Nat.le_of_eq hg.symm)) hb); have n1_ := Aside0.mk (Kd.V_below (Kd.V_elderB (by (with_reducible repeat (first | apply Kd.V_alloc | apply Kd.V_drewN | apply Kd.V_drew)); exact HO0_1.out) gb441 (Nat.le_of_eq hg.symm)) hb); have n2_ := Aside0.mk (blk_below (g := gb440) (o := .cells #[.slice A0_0 l0_0.length c0_0, .slice A0_1 l0_1.length c0_1] 53 (0, 0)) (Qbl BK440.out) hb); have n3_ := Aside0.mk (below_step (Qag GE440.out) hb); have n4_ := Aside0.mk (hbox); have n5_ := Aside0.mk ((by rw [hg]; exact (below_size (Qag GE440.out)) : w.heap.size ≤ gb441)); have n6_ := Aside0.mk ((by rw [hg]; exact (below_size (Qag GE440.out)) : w.heap.size ≤ gb441)); have n7_ := Aside0.mk ((by rw [hg]; exact Nat.ne_of_lt (blk_lt (g := gb440) (o := .cells #[.slice A0_0 l0_0.length c0_0, .slice A0_1 l0_1.length c0_1] 53 (0, 0)) (Qbl BK440.out)) : gb440 ≠ gb441)); have n8_ := Aside0.mk ((by rw [hg]; exact Nat.ne_of_gt (blk_lt (g := gb440) (o := .cells #[.slice A0_0 l0_0.length c0_0, .slice A0_1 l0_1.length c0_1] 53 (0, 0)) (Qbl BK440.out)) : gb441 ≠ gb440)); clear HO0_0; clear HO0_1; clear BK440; clear HB; have HO0_0 := n0_; have HO0_1 := n1_; have BK440 := n2_; have HB := n3_; have BK441 := n4_; have GW441 := n5_; have GE441 := n6_; have NB440_441 := n7_; have NB441_440 := n8_; clear n0_ n1_ n2_ n3_ n4_ n5_ n6_ n7_ n8_; clear hb hbox hg; have hnb4 := NB440_441.out; have hnc4 := NB441_440.out; have hcz5_0 : w3.cell? ⟨gb440, 0, none⟩ = some (.slice A0_0 l0_0.length c0_0) := (blk_cell BK440.out 0).trans rfl; have hcz5_1 : w3.cell? ⟨gb440, 1, none⟩ = some (.slice A0_1 l0_1.length c0_1) := (blk_cell BK440.out 1).trans rfl; have hfz5_0 := blk_frozen BK440.out 0; have hfz5_1 := blk_frozen BK440.out 1; have hcz6_0 : w3.cell? ⟨gb441, 0, none⟩ = some (.slice none 0 0) := (blk_cell BK441.out 0).trans rfl; have hcz6_1 : w3.cell? ⟨gb441, 1, none⟩ = some (.slice none 0 0) := (blk_cell BK441.out 1).trans rfl; have hfz6_0 := blk_frozen BK441.out 0; have hfz6_1 := blk_frozen BK441.out 1))
 refine bodyPost_ret (results_cell_row rfl _ _ gb441 52 #[.slice A0_0 l0_0.length c0_0, .slice A0_1 l0_1.length c0_1] (0, 0) _ rfl (by (with_reducible repeat (first | refine blk_drewN ?_ _ | refine blk_drew ?_ | refine blk_alloc ?_ _)); refine blk_put (cs := #[.slice A0_0 l0_0.length c0_0, .slice none 0 0]) ?_ 1 _ rfl; (with_reducible repeat (first | refine blk_drewN ?_ _ | refine blk_drew ?_ | refine blk_alloc ?_ _)); refine blk_put (cs := #[.slice none 0 0, .slice none 0 0]) ?_ 0 _ rfl; (with_reducible repeat (first | refine blk_drewN ?_ _ | refine blk_drew ?_ | refine blk_alloc ?_ _)); exact BK441.out) Tryd.underlying52 rfl (by kernel_rfl)) rfl ?_
 exact ⟨_, _, by first | rfl | (simp [errW_none, errW_some] <;> rfl) | (simp [*, errW_none, errW_some] <;> rfl), by (with_reducible repeat (first | apply Kd.V_alloc | apply Kd.V_drewN | apply Kd.V_drew)); exact Kd.V_mono (Kd.V_far (p := ⟨gb441, 1, none⟩) (Kd.V_far (p := ⟨gb441, 0, none⟩) (Kd.V_mono HO0_0.out (fun k_ hk => (⟨hk, hk.2⟩ : _ ∧ k_ ≠ gb441))) (fun _ hk => hk.2) (.slice A0_0 l0_0.length c0_0)) (fun _ hk => hk.2) (.slice A0_1 l0_1.length c0_1)) (fun _ hk => hk.1.1.1), by (with_reducible repeat (first | apply Kd.V_alloc | apply Kd.V_drewN | apply Kd.V_drew)); exact Kd.V_mono (Kd.V_far (p := ⟨gb441, 1, none⟩) (Kd.V_far (p := ⟨gb441, 0, none⟩) (Kd.V_mono HO0_1.out (fun k_ hk => (⟨hk, hk.2⟩ : _ ∧ k_ ≠ gb441))) (fun _ hk => hk.2) (.slice A0_0 l0_0.length c0_0)) (fun _ hk => hk.2) (.slice A0_1 l0_1.length c0_1)) (fun _ hk => hk.1.1.1), by repeat (first | (with_reducible first | exact HB.out | apply below_alloc | apply pw_below_drewN | apply below_drew1 | refine below_set ?_ GE440.out | refine below_set ?_ GE441.out) | exact HB.out)⟩
end
noncomputable section
mutual
def lampblackref02_IsNarrow.l0 : Nat → List Int → List Int → Int → Int → List Int → List Int → List Int → List Int → Option (Bool)
 | 0, _, _, _, _, _, _, _, _ => none
 | k + 1, x0, x17, x18, x19, x434000, x434001, x435000, x435001 => if x19 < x18 then (if 0 ≤ x19 then (if x19 < (x17.length : Int) then (lampblackref02_IsNarrow.l1 k x0 x19 (rd x17 x19) false x17 x18 x19 x435000 (x435000.length : Int) 0 x434000 x434001 x435000 x435001) else (none)) else (none)) else ((lampblackref02_IsTree.f k x0 x434000 x434001).bind fun bt435 => (some bt435.2))
def lampblackref02_IsNarrow.l1 : Nat → List Int → Int → Int → Bool → List Int → Int → Int → List Int → Int → Int → List Int → List Int → List Int → List Int → Option (Bool)
 | 0, _, _, _, _, _, _, _, _, _, _, _, _, _, _ => none
 | k + 1, x0, x7, x8, x9, x17, x18, x19, x25, x26, x27, x434000, x434001, x435000, x435001 => if x27 < x26 then (if 0 ≤ x27 then (if x27 < (x25.length : Int) then (if x9 = true then (lampblackref02_IsNarrow.l1 k x0 x7 x8 true x17 x18 x19 x25 x26 (wrap64 (x27 + 1)) x434000 x434001 x435000 x435001) else (lampblackref02_IsNarrow.l1 k x0 x7 x8 (x8 == (rd x25 x27)) x17 x18 x19 x25 x26 (wrap64 (x27 + 1)) x434000 x434001 x435000 x435001)) else (none)) else (none)) else (lampblackref02_IsNarrow.l2 k x0 x7 x8 x9 x17 x18 x19 x434000 (x434000.length : Int) 0 x434000 x434001 x435000 x435001)
def lampblackref02_IsNarrow.l2 : Nat → List Int → Int → Int → Bool → List Int → Int → Int → List Int → Int → Int → List Int → List Int → List Int → List Int → Option (Bool)
 | 0, _, _, _, _, _, _, _, _, _, _, _, _, _, _ => none
 | k + 1, x0, x7, x8, x9, x17, x18, x19, x39, x40, x41, x434000, x434001, x435000, x435001 => if x41 < x40 then (if 0 ≤ x41 then (if x41 < (x39.length : Int) then (if x7 = x41 then (lampblackref02_IsNarrow.l2 k x0 x7 x8 x9 x17 x18 x19 x39 x40 (wrap64 (x41 + 1)) x434000 x434001 x435000 x435001) else (if (Go.bits .andNot .i64 x8 (rd x39 x41)) = 0 then (some false) else (lampblackref02_IsNarrow.l2 k x0 x7 x8 x9 x17 x18 x19 x39 x40 (wrap64 (x41 + 1)) x434000 x434001 x435000 x435001))) else (none)) else (none)) else (if x9 = true then (lampblackref02_IsNarrow.l0 k x0 x17 x18 (wrap64 (x19 + 1)) x434000 x434001 x435000 x435001) else (some false))
end
def lampblackref02_IsNarrow.f (k : Nat) (l0 : List Int) (l1_0 : List Int) (l1_1 : List Int) (l2_0 : List Int) (l2_1 : List Int) : Option (Bool) := lampblackref02_IsNarrow.l0 k l0 l1_0 (l1_0.length : Int) 0 l1_0 l1_1 l2_0 l2_1
set_option maxHeartbeats 8000000 in
set_option maxRecDepth 100000 in
theorem lampblackref02_IsNarrow.calls (k : Nat) (A0 : Option Addr) (c0 : Nat) (l0 : List Int) (A1_0 : Option Addr) (c1_0 : Nat) (l1_0 : List Int) (A1_1 : Option Addr) (c1_1 : Nat) (l1_1 : List Int) (A2_0 : Option Addr) (c2_0 : Nat) (l2_0 : List Int) (A2_1 : Option Addr) (c2_1 : Nat) (l2_1 : List Int) (r : Bool) (w : World) (hr0 : Kd.C (Kd.int .i64) w A0 l0.length l0) (hc0 : l0.length ≤ c0) (hr1_0 : Kd.C (Kd.int .i64) w A1_0 l1_0.length l1_0) (hc1_0 : l1_0.length ≤ c1_0) (hr1_1 : Kd.C (Kd.int .i64) w A1_1 l1_1.length l1_1) (hc1_1 : l1_1.length ≤ c1_1) (hr2_0 : Kd.C (Kd.int .i64) w A2_0 l2_0.length l2_0) (hc2_0 : l2_0.length ≤ c2_0) (hr2_1 : Kd.C (Kd.int .i64) w A2_1 l2_1.length l2_1) (hc2_1 : l2_1.length ≤ c2_1) (h : lampblackref02_IsNarrow.f k l0 l1_0 l1_1 l2_0 l2_1 = some r) :
  Calls Tryd.prog 47 #[.slice A0 l0.length c0, .agg #[.slice A1_0 l1_0.length c1_0, .slice A1_1 l1_1.length c1_1], .agg #[.slice A2_0 l2_0.length c2_0, .slice A2_1 l2_1.length c2_1]] w fun e w' => e = .returned (.bool r) ∧ Below w.heap.size w w' := by
 have hu52 := Tryd.underlying52
 have HR0 := Aside0.mk hr0
 have HC0 := Aside0.mk hc0
 clear hr0 hc0
 have HR1_0 := Aside0.mk hr1_0
 have HC1_0 := Aside0.mk hc1_0
 clear hr1_0 hc1_0
 have HR1_1 := Aside0.mk hr1_1
 have HC1_1 := Aside0.mk hc1_1
 clear hr1_1 hc1_1
 have HR2_0 := Aside0.mk hr2_0
 have HC2_0 := Aside0.mk hc2_0
 clear hr2_0 hc2_0
 have HR2_1 := Aside0.mk hr2_1
 have HC2_1 := Aside0.mk hc2_1
 clear hr2_1 hc2_1
 have HB := Aside0.mk (Below.refl w.heap.size w)
 have H : (lampblackref02_IsNarrow.l0 k l0 l1_0 (l1_0.length : Int) 0 l1_0 l1_1 l2_0 l2_1) = some r := h
 clear h
 have H' := Aside0.mk H
 clear H
 go_enter Tryd.func47, Tryd.ntmps47
 go_wp2_with (first | ((with_reducible refine gate_dst (N := 4) rfl ?_); refine box_event ?hg (N := 4) ?hd (cs := #[.slice A1_0 l1_0.length c1_0, .slice A1_1 l1_1.length c1_1]) (t := 52) ?hr ?_; (case hd => rfl); (case hg => rfl); (case hr => first | (go_simp; done) | (go_simp; rfl)); intro gb433 hg w4 hbox hb; have n0_ := Aside0.mk (below_step (Qaw) hb); have n1_ := Aside0.mk (hbox); have n2_ := Aside0.mk ((by rw [hg]; exact (below_size (Qaw)) : w.heap.size ≤ gb433)); have n3_ := Aside0.mk ((by rw [hg]; exact (below_size (Qaw)) : w.heap.size ≤ gb433)); clear HB; have HB := n0_; have BK433 := n1_; have GW433 := n2_; have GE433 := n3_; clear n0_ n1_ n2_ n3_; clear hb hbox hg) | ((with_reducible refine gate_dst (N := 5) rfl ?_); refine box_event ?hg (N := 5) ?hd (cs := #[.slice A2_0 l2_0.length c2_0, .slice A2_1 l2_1.length c2_1]) (t := 52) ?hr ?_; (case hd => rfl); (case hg => rfl); (case hr => first | (go_simp; done) | (go_simp; rfl)); intro gb434 hg w5 hbox hb; have n0_ := Aside0.mk (blk_below (g := gb433) (o := .cells #[.slice A1_0 l1_0.length c1_0, .slice A1_1 l1_1.length c1_1] 52 (0, 0)) (Qbl BK433.out) hb); have n1_ := Aside0.mk (below_step (Qag GE433.out) hb); have n2_ := Aside0.mk (hbox); have n3_ := Aside0.mk ((by rw [hg]; exact (below_size (Qag GE433.out)) : w.heap.size ≤ gb434)); have n4_ := Aside0.mk ((by rw [hg]; exact (below_size (Qag GE433.out)) : w.heap.size ≤ gb434)); have n5_ := Aside0.mk ((by rw [hg]; exact Nat.ne_of_lt (blk_lt (g := gb433) (o := .cells #[.slice A1_0 l1_0.length c1_0, .slice A1_1 l1_1.length c1_1] 52 (0, 0)) (Qbl BK433.out)) : gb433 ≠ gb434)); have n6_ := Aside0.mk ((by rw [hg]; exact Nat.ne_of_gt (blk_lt (g := gb433) (o := .cells #[.slice A1_0 l1_0.length c1_0, .slice A1_1 l1_1.length c1_1] 52 (0, 0)) (Qbl BK433.out)) : gb434 ≠ gb433)); clear BK433; clear HB; have BK433 := n0_; have HB := n1_; have BK434 := n2_; have GW434 := n3_; have GE434 := n4_; have NB433_434 := n5_; have NB434_433 := n6_; clear n0_ n1_ n2_ n3_ n4_ n5_ n6_; clear hb hbox hg; have hnb6 := NB433_434.out; have hnc6 := NB434_433.out; have hcz7_0 : w5.cell? ⟨gb433, 0, none⟩ = some (.slice A1_0 l1_0.length c1_0) := (blk_cell BK433.out 0).trans rfl; have hcz7_1 : w5.cell? ⟨gb433, 1, none⟩ = some (.slice A1_1 l1_1.length c1_1) := (blk_cell BK433.out 1).trans rfl; have hfz7_0 := blk_frozen BK433.out 0; have hfz7_1 := blk_frozen BK433.out 1))
 go_loopg [19] k (fun kq v19 w' => ∃ (x19_1 : Int), v19 = .int .i64 x19_1 ∧ Aside0 (lampblackref02_IsNarrow.l0 kq l0 l1_0 (l1_0.length : Int) x19_1 l1_0 l1_1 l2_0 l2_1 = some r) ∧ Aside0 (kq ≤ k) ∧ Aside0 (w'.heap[gb433]? = some (.cells #[(.slice A1_0 l1_0.length c1_0), (.slice A1_1 l1_1.length c1_1)] 52 (0, 0))) ∧ Aside0 (w'.heap[gb434]? = some (.cells #[(.slice A2_0 l2_0.length c2_0), (.slice A2_1 l2_1.length c2_1)] 52 (0, 0))) ∧ Aside0 (Below w.heap.size w w'))
 case atStart => exact ⟨(0), (Qrs), H', ⟨Nat.le_refl _⟩, ⟨by (with_reducible repeat (first | refine blk_drewN ?_ _ | refine blk_drew ?_ | refine blk_alloc ?_ _)); exact BK433.out⟩, ⟨by (with_reducible repeat (first | refine blk_drewN ?_ _ | refine blk_drew ?_ | refine blk_alloc ?_ _)); exact BK434.out⟩, ⟨by repeat (first | (with_reducible first | exact HB.out | apply below_alloc | apply pw_below_drewN | apply below_drew1 | refine below_set ?_ GE433.out | refine below_set ?_ GE434.out) | exact HB.out)⟩⟩
 case round =>
  clear H'
  try clear c1
  try clear c2
  try clear p2
  try clear c4
  try clear c6
  try clear hcz7_0
  try clear hcz7_1
  try clear hfz7_0
  try clear hfz7_1
  obtain ⟨x19_1, rfl, HA, HK1, BK433, BK434, HB⟩ := hrel
  cases gk with
  | zero => exact absurd HA.out (by simp [lampblackref02_IsNarrow.l0])
  | succ k1 =>
   have H := HA.out
   clear HA
   simp only [lampblackref02_IsNarrow.l0] at H
   by_cases c8 : x19_1 < (l1_0.length : Int)
   ·rw [if_pos c8] at H
    have c8b0 : decide (x19_1 < (l1_0.length : Int)) = true := decide_eq_true c8
    clear c8
    by_cases c9 : 0 ≤ x19_1
    ·rw [if_pos c9] at H
     have c9b0 : decide (0 ≤ x19_1) = true := decide_eq_true c9
     clear c9
     by_cases c10 : x19_1 < (l1_0.length : Int)
     ·rw [if_pos c10] at H
      have c10b0 : decide (x19_1 < (l1_0.length : Int)) = true := decide_eq_true c10
      clear c10
      have H' := Aside0.mk H
      clear H
      have p437 : 0 ≤ (x19_1 : Int) := of_decide_eq_true (Qas)
      have q437 : x19_1 < (l1_0.length : Int) := of_decide_eq_true (Qas)
      obtain ⟨ad437, e437, hx437_0⟩ := Kd.at_int HR1_0.out x19_1 p437 q437
      cases e437
      replace hx437_0 := (HB.out.cell (World.block_lt_of_cell? w _ hx437_0)).trans hx437_0
      replace p437 := eq_true p437
      replace q437 := eq_true q437
      have hnb11 := NB434_433.out
      have hnc11 := NB433_434.out
      have hcz12_0 : wr.cell? ⟨gb434, 0, none⟩ = some (.slice A2_0 l2_0.length c2_0) := (blk_cell BK434.out 0).trans rfl
      have hcz12_1 : wr.cell? ⟨gb434, 1, none⟩ = some (.slice A2_1 l2_1.length c2_1) := (blk_cell BK434.out 1).trans rfl
      have hfz12_0 := blk_frozen BK434.out 0
      have hfz12_1 := blk_frozen BK434.out 1
      go_wp2
      go_loopg [9, 27] k1 (fun kq v9 v27 w' => ∃ (x9_2 : Bool) (x27_2 : Int), v9 = .bool x9_2 ∧ v27 = .int .i64 x27_2 ∧ Aside0 (lampblackref02_IsNarrow.l1 kq l0 x19_1 (rd l1_0 x19_1) x9_2 l1_0 (l1_0.length : Int) x19_1 l2_0 (l2_0.length : Int) x27_2 l1_0 l1_1 l2_0 l2_1 = some r) ∧ Aside0 (kq ≤ k1) ∧ Aside0 (w'.heap[gb433]? = some (.cells #[(.slice (some ad437) l1_0.length c1_0), (.slice A1_1 l1_1.length c1_1)] 52 (0, 0))) ∧ Aside0 (w'.heap[gb434]? = some (.cells #[(.slice A2_0 l2_0.length c2_0), (.slice A2_1 l2_1.length c2_1)] 52 (0, 0))) ∧ Aside0 (Below w.heap.size w w'))
      case atStart => exact ⟨(false), (0), (Qrs), (Qrs), H', ⟨Nat.le_refl _⟩, ⟨by (with_reducible repeat (first | refine blk_drewN ?_ _ | refine blk_drew ?_ | refine blk_alloc ?_ _)); exact BK433.out⟩, ⟨by (with_reducible repeat (first | refine blk_drewN ?_ _ | refine blk_drew ?_ | refine blk_alloc ?_ _)); exact BK434.out⟩, ⟨by repeat (first | (with_reducible first | exact HB.out | apply below_alloc | apply pw_below_drewN | apply below_drew1 | refine below_set ?_ GE433.out | refine below_set ?_ GE434.out) | exact HB.out)⟩⟩
      case round =>
       clear H'
       try clear c1
       try clear c2
       try clear p2
       try clear c4
       try clear p4
       try clear q4
       try clear hx4
       try clear c6
       try clear c8
       try clear c8b0
       try clear c9
       try clear c9b0
       try clear c10
       try clear c10b0
       try clear c11
       try clear hcz12_0
       try clear hcz12_1
       try clear hcz7_0
       try clear hcz7_1
       try clear hfz12_0
       try clear hfz12_1
       try clear hfz7_0
       try clear hfz7_1
       try clear hx437_0
       try clear p2
       try clear p437
       try clear q437
       obtain ⟨x9_2, x27_2, rfl, rfl, HA, HK2, BK433, BK434, HB⟩ := hrel
       cases gk with
       | zero => exact absurd HA.out (by simp [lampblackref02_IsNarrow.l1])
       | succ k2 =>
        have H := HA.out
        clear HA
        simp only [lampblackref02_IsNarrow.l1] at H
        by_cases c13 : x27_2 < (l2_0.length : Int)
        ·rw [if_pos c13] at H
         have c13b0 : decide (x27_2 < (l2_0.length : Int)) = true := decide_eq_true c13
         clear c13
         by_cases c14 : 0 ≤ x27_2
         ·rw [if_pos c14] at H
          have c14b0 : decide (0 ≤ x27_2) = true := decide_eq_true c14
          clear c14
          by_cases c15 : x27_2 < (l2_0.length : Int)
          ·rw [if_pos c15] at H
           have c15b0 : decide (x27_2 < (l2_0.length : Int)) = true := decide_eq_true c15
           clear c15
           by_cases c16 : x9_2 = true
           ·subst c16
            have H1 : (lampblackref02_IsNarrow.l1 k2 l0 x19_1 (rd l1_0 x19_1) true l1_0 (l1_0.length : Int) x19_1 l2_0 (l2_0.length : Int) (wrap64 (x27_2 + 1)) l1_0 l1_1 l2_0 l2_1) = some r := by rw [if_pos rfl] at H; exact H
            clear H
            have H := H1
            clear H1
            have H' := Aside0.mk H
            clear H
            have p438 : 0 ≤ (x27_2 : Int) := of_decide_eq_true (Qas)
            have q438 : x27_2 < (l2_0.length : Int) := of_decide_eq_true (Qas)
            obtain ⟨ad438, e438, hx438_0⟩ := Kd.at_int HR2_0.out x27_2 p438 q438
            cases e438
            replace hx438_0 := (HB.out.cell (World.block_lt_of_cell? w _ hx438_0)).trans hx438_0
            replace p438 := eq_true p438
            replace q438 := eq_true q438
            go_wp2
            go_roundg k2
            case measure => have := HK1.out; have := HK2.out; omega
            case rel => exact ⟨(true), (wrap64 (x27_2 + 1)), (Qrs), (Qrs), H', ⟨by have := HK1.out; have := HK2.out; omega⟩, ⟨by (with_reducible repeat (first | refine blk_drewN ?_ _ | refine blk_drew ?_ | refine blk_alloc ?_ _)); exact BK433.out⟩, ⟨by (with_reducible repeat (first | refine blk_drewN ?_ _ | refine blk_drew ?_ | refine blk_alloc ?_ _)); exact BK434.out⟩, ⟨by repeat (first | (with_reducible first | exact HB.out | apply below_alloc | apply pw_below_drewN | apply below_drew1 | refine below_set ?_ GE433.out | refine below_set ?_ GE434.out) | exact HB.out)⟩⟩
           ·replace c16 := Bool.eq_false_iff.mpr c16
            subst c16
            have H1 : (lampblackref02_IsNarrow.l1 k2 l0 x19_1 (rd l1_0 x19_1) ((rd l1_0 x19_1) == (rd l2_0 x27_2)) l1_0 (l1_0.length : Int) x19_1 l2_0 (l2_0.length : Int) (wrap64 (x27_2 + 1)) l1_0 l1_1 l2_0 l2_1) = some r := by rw [if_neg (show ¬ (false = true) by decide)] at H; exact H
            clear H
            have H := H1
            clear H1
            have H' := Aside0.mk H
            clear H
            have p438 : 0 ≤ (x27_2 : Int) := of_decide_eq_true (Qas)
            have q438 : x27_2 < (l2_0.length : Int) := of_decide_eq_true (Qas)
            obtain ⟨ad438, e438, hx438_0⟩ := Kd.at_int HR2_0.out x27_2 p438 q438
            cases e438
            replace hx438_0 := (HB.out.cell (World.block_lt_of_cell? w _ hx438_0)).trans hx438_0
            replace p438 := eq_true p438
            replace q438 := eq_true q438
            go_wp2
            go_roundg k2
            case measure => have := HK1.out; have := HK2.out; omega
            case rel => exact ⟨(((rd l1_0 x19_1) == (rd l2_0 x27_2))), (wrap64 (x27_2 + 1)), (Qrs), (Qrs), H', ⟨by have := HK1.out; have := HK2.out; omega⟩, ⟨by (with_reducible repeat (first | refine blk_drewN ?_ _ | refine blk_drew ?_ | refine blk_alloc ?_ _)); exact BK433.out⟩, ⟨by (with_reducible repeat (first | refine blk_drewN ?_ _ | refine blk_drew ?_ | refine blk_alloc ?_ _)); exact BK434.out⟩, ⟨by repeat (first | (with_reducible first | exact HB.out | apply below_alloc | apply pw_below_drewN | apply below_drew1 | refine below_set ?_ GE433.out | refine below_set ?_ GE434.out) | exact HB.out)⟩⟩
          ·rw [if_neg c15] at H
           exact absurd H (by simp)
         ·rw [if_neg c14] at H
          exact absurd H (by simp)
        ·rw [if_neg c13] at H
         have c13b0 : decide (x27_2 < (l2_0.length : Int)) = false := decide_eq_false c13
         clear c13
         have H' := Aside0.mk H
         clear H
         have hnb17 := NB433_434.out
         have hnc17 := NB434_433.out
         have hcz18_0 : wr.cell? ⟨gb433, 0, none⟩ = some (.slice (some ad437) l1_0.length c1_0) := (blk_cell BK433.out 0).trans rfl
         have hcz18_1 : wr.cell? ⟨gb433, 1, none⟩ = some (.slice A1_1 l1_1.length c1_1) := (blk_cell BK433.out 1).trans rfl
         have hfz18_0 := blk_frozen BK433.out 0
         have hfz18_1 := blk_frozen BK433.out 1
         go_wp2
         go_loopg [41] k2 (fun kq v41 w' => ∃ (x41_3 : Int), v41 = .int .i64 x41_3 ∧ Aside0 (lampblackref02_IsNarrow.l2 kq l0 x19_1 (rd l1_0 x19_1) x9_2 l1_0 (l1_0.length : Int) x19_1 l1_0 (l1_0.length : Int) x41_3 l1_0 l1_1 l2_0 l2_1 = some r) ∧ Aside0 (kq ≤ k2) ∧ Aside0 (w'.heap[gb433]? = some (.cells #[(.slice (some ad437) l1_0.length c1_0), (.slice A1_1 l1_1.length c1_1)] 52 (0, 0))) ∧ Aside0 (w'.heap[gb434]? = some (.cells #[(.slice A2_0 l2_0.length c2_0), (.slice A2_1 l2_1.length c2_1)] 52 (0, 0))) ∧ Aside0 (Below w.heap.size w w'))
         case atStart => exact ⟨(0), (Qrs), H', ⟨Nat.le_refl _⟩, ⟨by (with_reducible repeat (first | refine blk_drewN ?_ _ | refine blk_drew ?_ | refine blk_alloc ?_ _)); exact BK433.out⟩, ⟨by (with_reducible repeat (first | refine blk_drewN ?_ _ | refine blk_drew ?_ | refine blk_alloc ?_ _)); exact BK434.out⟩, ⟨by repeat (first | (with_reducible first | exact HB.out | apply below_alloc | apply pw_below_drewN | apply below_drew1 | refine below_set ?_ GE433.out | refine below_set ?_ GE434.out) | exact HB.out)⟩⟩
         case round =>
          clear H'
          try clear c1
          try clear c2
          try clear p2
          try clear c4
          try clear p4
          try clear q4
          try clear hx4
          try clear c6
          try clear p6
          try clear c8
          try clear c8b0
          try clear c9
          try clear c9b0
          try clear c10
          try clear c10b0
          try clear c11
          try clear c13
          try clear c13b0
          try clear c14
          try clear c14b0
          try clear c15
          try clear c15b0
          try clear c16
          try clear c17
          try clear hcz12_0
          try clear hcz12_1
          try clear hcz18_0
          try clear hcz18_1
          try clear hcz7_0
          try clear hcz7_1
          try clear hfz12_0
          try clear hfz12_1
          try clear hfz18_0
          try clear hfz18_1
          try clear hfz7_0
          try clear hfz7_1
          try clear hx437_0
          try clear hx438_0
          try clear p2
          try clear p4
          try clear p437
          try clear p438
          try clear q4
          try clear q437
          try clear q438
          obtain ⟨x41_3, rfl, HA, HK3, BK433, BK434, HB⟩ := hrel
          cases gk with
          | zero => exact absurd HA.out (by simp [lampblackref02_IsNarrow.l2])
          | succ k3 =>
           have H := HA.out
           clear HA
           simp only [lampblackref02_IsNarrow.l2] at H
           by_cases c19 : x41_3 < (l1_0.length : Int)
           ·rw [if_pos c19] at H
            have c19b0 : decide (x41_3 < (l1_0.length : Int)) = true := decide_eq_true c19
            clear c19
            by_cases c20 : 0 ≤ x41_3
            ·rw [if_pos c20] at H
             have c20b0 : decide (0 ≤ x41_3) = true := decide_eq_true c20
             clear c20
             by_cases c21 : x41_3 < (l1_0.length : Int)
             ·rw [if_pos c21] at H
              have c21b0 : decide (x41_3 < (l1_0.length : Int)) = true := decide_eq_true c21
              clear c21
              by_cases c22 : x19_1 = x41_3
              ·rw [if_pos c22] at H
               have c22b0 : (x19_1 == x41_3) = true := beq_iff_eq.mpr c22
               have c22b1 : (x19_1 != x41_3) = false := bne_eq_false_iff_eq.mpr c22
               clear c22
               have H' := Aside0.mk H
               clear H
               have p439 : 0 ≤ (x41_3 : Int) := of_decide_eq_true (Qas)
               have q439 : x41_3 < (l1_0.length : Int) := of_decide_eq_true (Qas)
               obtain ⟨ad439, e439, hx439_0⟩ := Kd.at_int HR1_0.out x41_3 p439 q439
               obtain rfl : ad437 = ad439 := (by injection e439)
               replace hx439_0 := (HB.out.cell (World.block_lt_of_cell? w _ hx439_0)).trans hx439_0
               replace p439 := eq_true p439
               replace q439 := eq_true q439
               go_wp2
               go_roundg k3
               case measure => have := HK1.out; have := HK2.out; have := HK3.out; omega
               case rel => exact ⟨(wrap64 (x41_3 + 1)), (Qrs), H', ⟨by have := HK1.out; have := HK2.out; have := HK3.out; omega⟩, ⟨by (with_reducible repeat (first | refine blk_drewN ?_ _ | refine blk_drew ?_ | refine blk_alloc ?_ _)); exact BK433.out⟩, ⟨by (with_reducible repeat (first | refine blk_drewN ?_ _ | refine blk_drew ?_ | refine blk_alloc ?_ _)); exact BK434.out⟩, ⟨by repeat (first | (with_reducible first | exact HB.out | apply below_alloc | apply pw_below_drewN | apply below_drew1 | refine below_set ?_ GE433.out | refine below_set ?_ GE434.out) | exact HB.out)⟩⟩
              ·rw [if_neg c22] at H
               have c22b0 : (x19_1 == x41_3) = false := beq_eq_false_iff_ne.mpr c22
               have c22b1 : (x19_1 != x41_3) = true := bne_iff_ne.mpr c22
               by_cases c23 : (Go.bits .andNot .i64 (rd l1_0 x19_1) (rd l1_0 x41_3)) = 0
               ·rw [if_pos c23] at H
                have c23b0 : ((Go.bits .andNot .i64 (rd l1_0 x19_1) (rd l1_0 x41_3)) == 0) = true := beq_iff_eq.mpr c23
                have c23b1 : ((Go.bits .andNot .i64 (rd l1_0 x19_1) (rd l1_0 x41_3)) != 0) = false := bne_eq_false_iff_eq.mpr c23
                clear c23
                obtain rfl := Option.some.inj H
                have p439 : 0 ≤ (x41_3 : Int) := of_decide_eq_true (Qas)
                have q439 : x41_3 < (l1_0.length : Int) := of_decide_eq_true (Qas)
                obtain ⟨ad439, e439, hx439_0⟩ := Kd.at_int HR1_0.out x41_3 p439 q439
                obtain rfl : ad437 = ad439 := (by injection e439)
                replace hx439_0 := (HB.out.cell (World.block_lt_of_cell? w _ hx439_0)).trans hx439_0
                replace p439 := eq_true p439
                replace q439 := eq_true q439
                go_wp2
                go_ret
                exact ⟨by first | rfl | (simp [errW_none, errW_some] <;> rfl) | (simp [*, errW_none, errW_some] <;> rfl), by repeat (first | (with_reducible first | exact HB.out | apply below_alloc | apply pw_below_drewN | apply below_drew1 | refine below_set ?_ GE433.out | refine below_set ?_ GE434.out) | exact HB.out)⟩
               ·rw [if_neg c23] at H
                have c23b0 : ((Go.bits .andNot .i64 (rd l1_0 x19_1) (rd l1_0 x41_3)) == 0) = false := beq_eq_false_iff_ne.mpr c23
                have c23b1 : ((Go.bits .andNot .i64 (rd l1_0 x19_1) (rd l1_0 x41_3)) != 0) = true := bne_iff_ne.mpr c23
                have H' := Aside0.mk H
                clear H
                have p439 : 0 ≤ (x41_3 : Int) := of_decide_eq_true (Qas)
                have q439 : x41_3 < (l1_0.length : Int) := of_decide_eq_true (Qas)
                obtain ⟨ad439, e439, hx439_0⟩ := Kd.at_int HR1_0.out x41_3 p439 q439
                obtain rfl : ad437 = ad439 := (by injection e439)
                replace hx439_0 := (HB.out.cell (World.block_lt_of_cell? w _ hx439_0)).trans hx439_0
                replace p439 := eq_true p439
                replace q439 := eq_true q439
                go_wp2
                go_roundg k3
                case measure => have := HK1.out; have := HK2.out; have := HK3.out; omega
                case rel => exact ⟨(wrap64 (x41_3 + 1)), (Qrs), H', ⟨by have := HK1.out; have := HK2.out; have := HK3.out; omega⟩, ⟨by (with_reducible repeat (first | refine blk_drewN ?_ _ | refine blk_drew ?_ | refine blk_alloc ?_ _)); exact BK433.out⟩, ⟨by (with_reducible repeat (first | refine blk_drewN ?_ _ | refine blk_drew ?_ | refine blk_alloc ?_ _)); exact BK434.out⟩, ⟨by repeat (first | (with_reducible first | exact HB.out | apply below_alloc | apply pw_below_drewN | apply below_drew1 | refine below_set ?_ GE433.out | refine below_set ?_ GE434.out) | exact HB.out)⟩⟩
             ·rw [if_neg c21] at H
              exact absurd H (by simp)
            ·rw [if_neg c20] at H
             exact absurd H (by simp)
           ·rw [if_neg c19] at H
            have c19b0 : decide (x41_3 < (l1_0.length : Int)) = false := decide_eq_false c19
            clear c19
            by_cases c24 : x9_2 = true
            ·subst c24
             have H1 : (lampblackref02_IsNarrow.l0 k3 l0 l1_0 (l1_0.length : Int) (wrap64 (x19_1 + 1)) l1_0 l1_1 l2_0 l2_1) = some r := by rw [if_pos rfl] at H; exact H
             clear H
             have H := H1
             clear H1
             have H' := Aside0.mk H
             clear H
             go_wp2
             go_roundg k3
             case measure => have := HK1.out; have := HK2.out; have := HK3.out; omega
             case rel => exact ⟨(wrap64 (x19_1 + 1)), (Qrs), H', ⟨by have := HK1.out; have := HK2.out; have := HK3.out; omega⟩, ⟨by (with_reducible repeat (first | refine blk_drewN ?_ _ | refine blk_drew ?_ | refine blk_alloc ?_ _)); exact BK433.out⟩, ⟨by (with_reducible repeat (first | refine blk_drewN ?_ _ | refine blk_drew ?_ | refine blk_alloc ?_ _)); exact BK434.out⟩, ⟨by repeat (first | (with_reducible first | exact HB.out | apply below_alloc | apply pw_below_drewN | apply below_drew1 | refine below_set ?_ GE433.out | refine below_set ?_ GE434.out) | exact HB.out)⟩⟩
            ·replace c24 := Bool.eq_false_iff.mpr c24
             subst c24
             have H1 : (some false) = some r := by rw [if_neg (show ¬ (false = true) by decide)] at H; exact H
             clear H
             have H := H1
             clear H1
             obtain rfl := Option.some.inj H
             go_wp2
             go_ret
             exact ⟨by first | rfl | (simp [errW_none, errW_some] <;> rfl) | (simp [*, errW_none, errW_some] <;> rfl), by repeat (first | (with_reducible first | exact HB.out | apply below_alloc | apply pw_below_drewN | apply below_drew1 | refine below_set ?_ GE433.out | refine below_set ?_ GE434.out) | exact HB.out)⟩
     ·rw [if_neg c10] at H
      exact absurd H (by simp)
    ·rw [if_neg c9] at H
     exact absurd H (by simp)
   ·rw [if_neg c8] at H
    have c8b0 : decide (x19_1 < (l1_0.length : Int)) = false := decide_eq_false c8
    clear c8
    replace H := Option.bind_eq_some_iff.mp H
    obtain ⟨⟨t435, t436⟩, A250, H⟩ := H
    replace H : (some t436) = some r := H
    have A25 := Aside0.mk A250
    clear A250
    obtain rfl := Option.some.inj H
    have hnb26 := NB433_434.out
    have hnc26 := NB434_433.out
    have hcz27_0 : wr.cell? ⟨gb433, 0, none⟩ = some (.slice A1_0 l1_0.length c1_0) := (blk_cell BK433.out 0).trans rfl
    have hcz27_1 : wr.cell? ⟨gb433, 1, none⟩ = some (.slice A1_1 l1_1.length c1_1) := (blk_cell BK433.out 1).trans rfl
    have hfz27_0 := blk_frozen BK433.out 0
    have hfz27_1 := blk_frozen BK433.out 1
    go_wp2_with (first | ((with_reducible refine gate_callee (f := 53) rfl ?_); refine goesL_ (some 62) rfl rfl Tryd.func53 (by kernel_rfl) rfl #[.slice A0 l0.length c0, .agg #[.slice A1_0 l1_0.length c1_0, .slice A1_1 l1_1.length c1_1]] rfl (Qls) ?_; (with_reducible refine (lampblackref02_IsTree.calls k1 _ _ l0 _ _ l1_0 _ _ l1_1 t435 t436 _ ?side1 ?side2 ?side3 ?side4 ?side5 ?side6 A25.out).mono ?_); (case side1 => exact Qsc (Kd.C_below HR0.out HB.out)); (case side2 => exact HC0.out); (case side3 => exact Qsc (Kd.C_below HR1_0.out HB.out)); (case side4 => exact HC1_0.out); (case side5 => exact Qsc (Kd.C_below HR1_1.out HB.out)); (case side6 => exact HC1_1.out); rintro e w28 ⟨rfl, hb⟩; refine ⟨_, rfl, ?_⟩; have n0_ := Aside0.mk (blk_below (g := gb433) (o := .cells #[.slice A1_0 l1_0.length c1_0, .slice A1_1 l1_1.length c1_1] 52 (0, 0)) (Qbl BK433.out) hb); have n1_ := Aside0.mk (blk_below (g := gb434) (o := .cells #[.slice A2_0 l2_0.length c2_0, .slice A2_1 l2_1.length c2_1] 52 (0, 0)) (Qbl BK434.out) hb); have n2_ := Aside0.mk (below_step (Qah GE433.out GE434.out) hb); clear BK433; clear BK434; clear HB; have BK433 := n0_; have BK434 := n1_; have HB := n2_; clear n0_ n1_ n2_; (try clear hb); (try clear hb2); (try clear hk); (try clear hi)))
    go_ret
    exact ⟨by first | rfl | (simp [errW_none, errW_some] <;> rfl) | (simp [*, errW_none, errW_some] <;> rfl), by repeat (first | (with_reducible first | exact HB.out | apply below_alloc | apply pw_below_drewN | apply below_drew1 | refine below_set ?_ GE433.out | refine below_set ?_ GE434.out) | exact HB.out)⟩
end
end Go.Proofs.YtoffehihicabcaaDoor.X
end
section
namespace Go.Proofs.YtoffehihicabcaaDoor.X
open Go.RowKit YtoffehihicabcaaDoorW.PrintWords YtoffehihicabcaaDoorW.PrintLast YtoffehihicabcaaDoorW.PrintMore
theorem own_lt2 {W : World} {base : Nat} {e : TypeId} {size : Nat} {v : Value} {k : Nat} {xs : List Value} (h : W.ownsRow base e size v k xs) (b : Nat) (hb : v.ownBlock = some b) : b < W.heap.size := by
 rcases h.2 with ⟨rfl, _⟩ | ⟨g, cap, cur, rfl, _, hg, _⟩
 ·simp [Value.ownBlock] at hb
 ·obtain rfl : g = b := by simpa [Value.ownBlock] using hb
  exact (Array.getElem?_eq_some_iff.1 hg).1
theorem own_base2 {W : World} {base : Nat} {e : TypeId} {size : Nat} {v : Value} {k : Nat} {xs : List Value} (h : W.ownsRow base e size v k xs) (b : Nat) (hb : v.ownBlock = some b) : base ≤ b := by
 rcases h.2 with ⟨rfl, _⟩ | ⟨g, cap, cur, rfl, hg, _⟩
 ·simp [Value.ownBlock] at hb
 ·obtain rfl : g = b := by simpa [Value.ownBlock] using hb
  exact hg
theorem own_succ {W : World} {base : Nat} {e : TypeId} {size : Nat} {v : Value} {k : Nat} {xs : List Value} (h : W.ownsRow base e size v (k + 1) xs) : ∃ g cap, v = .slice (some ⟨g, 0, none⟩) (k + 1) cap := by
 rcases h.2 with ⟨_, h0⟩ | ⟨g, cap, cur, rfl, _⟩
 ·omega
 ·exact ⟨g, cap, rfl⟩
theorem grown_then {a b c : World} {r : Option Nat} (h : a.grownBy b r) (k : b.grownBy c r) : a.grownBy c r := h.trans k
theorem grown_new {a b c : World} {r q : Option Nat} (h : a.grownBy b r) (k : b.grownBy c q) (hq : ∀ j, q = some j → a.heap.size ≤ j ∨ some j = r) : a.grownBy c r :=
 ⟨k.os.trans h.os, k.tape.trans h.tape, k.output.trans h.output, Nat.le_trans h.size k.size, fun i hi hne => (k.block i (Nat.lt_of_lt_of_le hi h.size) (fun e => (hq i e.symm).elim (fun h => by omega) hne)).trans (h.block i hi hne)⟩
end Go.Proofs.YtoffehihicabcaaDoor.X
end
section
namespace Go.Proofs.YtoffehihicabcaaDoor.X
open Go.RowKit YtoffehihicabcaaDoorW.PrintWords YtoffehihicabcaaDoorW.PrintLast YtoffehihicabcaaDoorW.PrintMore Go.Shelf
def renD : Ren := ⟨fun _ => 103, fun x => x, fun x => x⟩
theorem laysD : Lays2.n23 Tryd.prog renD where
 mixed := by kernel_rfl
 f23 := by kernel_rfl
 t0 := by kernel_rfl
 a0 := fun w => by kernel_rfl
 z0 := fun w => by kernel_rfl
 v0 := fun w => by kernel_rfl
 t3 := by kernel_rfl
 a3 := fun w => by kernel_rfl
 z3 := fun w => by kernel_rfl
 v3 := fun w => by kernel_rfl
 t4 := by kernel_rfl
 a4 := fun w => by kernel_rfl
 z4 := fun w => by kernel_rfl
 v4 := fun w => by kernel_rfl
 t22 := by kernel_rfl
 a22 := fun w => by kernel_rfl
 z22 := fun w => by kernel_rfl
 v22 := fun w => by kernel_rfl
 i3 := by kernel_rfl
theorem put_own {W : World} {base g n cap q : Nat} {xs : List Int} {d : Array Int} (h : W.ownsRow base 3 1 (.slice (some ⟨g, 0, none⟩) n cap) n (xs.map (Value.int .i64))) (hd : d.size = n) (m : Nat) (hm : m ≤ n) :
  (Sort.putRow (Value.int .i64) (Sort.ahead W q) g 0 d).ownsRow base 3 1 (.slice (some ⟨g, 0, none⟩) m cap) m ((d.toList.take m).map (Value.int .i64)) := by
 obtain ⟨h1, h2⟩ := h
 rcases h2 with ⟨h2, _⟩ | ⟨g2, cap2, cur, e, hg, hh, hc, hmx, hs, hx⟩
 ·cases h2
 ·injection e with e1 e2 e3
  injection e1 with e1
  injection e1 with e1
  subst e1 e3
  refine ⟨by simp; omega, .inr ⟨g, cap, Sort.putCells (Value.int .i64) 0 d cur, rfl, hg, ?_, by omega, hmx, by simp [Sort.putCells, hs], ?_⟩⟩
  ·have hh2 : W.heap[g]? = some (.cells cur 3 (0, 0)) := hh
   simp [Sort.putRow, Sort.mapBlock, Sort.ahead, Array.getElem?_modify, hh2, Sort.onCells]
  ·apply List.ext_getElem?
   intro k
   by_cases hk : k < m
   ·have hk2 : k < cur.size := by omega
    rw [List.getElem?_take, if_pos (by omega), List.getElem?_map, List.getElem?_take, if_pos hk, Array.getElem?_toList, Array.getElem?_toList]
    simp only [Sort.putCells, Array.getElem?_mapIdx, Array.getElem?_eq_getElem hk2, Option.map_some, Nat.zero_add, Nat.sub_zero]
    rw [if_pos ⟨by omega, by omega⟩, Array.getElem?_eq_getElem (show k < d.size by omega), Option.map_some, getElem!_pos d k (by omega)]
   ·rw [List.getElem?_eq_none (by simp; omega), List.getElem?_eq_none (by simp; omega)]
theorem put_grown (W : World) (g q : Nat) (d : Array Int) : W.grownBy (Sort.putRow (Value.int .i64) (Sort.ahead W q) g 0 d) (some g) :=
 ⟨rfl, rfl, rfl, by simp, fun k hk hne => by
  have : g ≠ k := fun e => hne (by rw [e])
  simp [Sort.putRow, Sort.mapBlock, Sort.ahead, Array.getElem?_modify, this]⟩
theorem holds_own {W : World} {base g n cap : Nat} {xs : List Int} (h : W.ownsRow base 3 1 (.slice (some ⟨g, 0, none⟩) n cap) n (xs.map (Value.int .i64))) (hn : n = xs.length) : Sort.Holds (Value.int .i64) W g 0 xs.toArray := by
 intro j hj
 have hj2 : j < xs.length := by simpa using hj
 have hR : Kd.R (Kd.int .i64) 3 W base (fun _ => True) (.slice (some ⟨g, 0, none⟩) xs.length cap) xs := Kd.R_of_own (by rw [← hn]; exact h) (fun _ _ => trivial)
 have hc := Kd.R_cell (0 : Int) hR (j : Int) (by omega) (by omega)
 rw [Int.toNat_natCast] at hc
 rw [Nat.zero_add]
 refine ⟨?_, hc.2⟩
 rw [hc.1]
 have : rdOf (0 : Int) xs (j : Int) = xs.toArray[j]! := by
  rw [getElem!_pos _ j hj]
  unfold rdOf
  rw [Int.toNat_natCast, List.getD_eq_getElem?_getD, List.getElem?_eq_getElem hj2]
  rfl
 rw [this]
theorem del_calls (W : World) (base g cap i : Nat) (xs : List Int) (hR : Kd.R (Kd.int .i64) 3 W base (fun k => k = g) (.slice (some ⟨g, 0, none⟩) xs.length cap) xs) (hi : i < xs.length) :
  Calls Tryd.prog 103 #[.slice (some ⟨g, 0, none⟩) xs.length cap, .int .i64 (i : Int), .int .i64 ((i + 1 : Nat) : Int)] W fun e w' => e = .returned (.slice (some ⟨g, 0, none⟩) (xs.eraseIdx i).length cap) ∧ Kd.R (Kd.int .i64) 3 w' base (fun k => k = g) (.slice (some ⟨g, 0, none⟩) (xs.eraseIdx i).length cap) (xs.eraseIdx i) ∧ W.grownBy w' (some g) := by
 have ho := Kd.own_of_R hR
 have hcap : xs.length ≤ cap ∧ cap ≤ maxLen := by
  rcases ho.2 with ⟨h2, _⟩ | ⟨g2, cap2, cur, e, hg, hh, hc, hmx, hs, hx⟩
  ·cases h2
  ·injection e with e1 e2 e3
   subst e3
   exact ⟨hc, hmx⟩
 have hl : (xs.eraseIdx i).length = xs.length - 1 := by rw [List.length_eraseIdx, if_pos hi]
 refine (Any.slices_Delete_int laysD g 0 cap i (i + 1) xs W (holds_own ho rfl) hcap.1 (by have := hcap.2; unfold maxLen at this; omega) (by omega) (by omega)).mono ?_
 rintro e w' ⟨rfl, q, rfl⟩
 have hd : ((xs.take i ++ xs.drop (i + 1) ++ List.replicate (i + 1 - i) 0).toArray : Array Int).size = xs.length := by
  simp; omega
 have h2 := put_own (q := q) ho hd (xs.length - 1) (by omega)
 have ht : ((xs.take i ++ xs.drop (i + 1) ++ List.replicate (i + 1 - i) 0).toArray : Array Int).toList.take (xs.length - 1) = xs.eraseIdx i := by
  rw [List.eraseIdx_eq_take_drop_succ]
  simp only
  rw [List.take_left' (by simp; omega)]
 rw [ht] at h2
 refine ⟨by rw [hl, show i + 1 - i = 1 by omega], Kd.R_of_own (by rw [hl]; exact h2) (fun k hk => by simp [Value.ownBlock] at hk; exact hk.symm), put_grown W g q _⟩
end Go.Proofs.YtoffehihicabcaaDoor.X
end
section
namespace Go.Proofs.YtoffehihicabcaaDoor.T
open Go.RowKit YtoffehihicabcaaDoorW.PrintWords YtoffehihicabcaaDoorW.PrintLast YtoffehihicabcaaDoorW.PrintMore
def diff (a b : Nat) : Nat := a ^^^ (a &&& b)
theorem diff_testBit (a b i : Nat) : (diff a b).testBit i = (a.testBit i && !b.testBit i) := by
 unfold diff; simp; cases a.testBit i <;> cases b.testBit i <;> rfl
theorem diff_le (a b : Nat) : diff a b ≤ a := by
 have h : diff a b &&& a = diff a b := by
  apply Nat.eq_of_testBit_eq; intro i; simp [diff_testBit]
  cases a.testBit i <;> simp
 rw [← h]; exact Nat.and_le_right
theorem i64_small (n : Int) (h0 : 0 ≤ n) (h1 : n < 2 ^ 62) : IntKind.i64.wrap n = n := by rw [IntKind.wrap_i64]; omega
theorem w64_small (n : Int) (h0 : -(2 ^ 62) ≤ n) (h1 : n < 2 ^ 62) : wrap64 n = n := by unfold wrap64; omega
theorem u64_low (a : Nat) (ha : a < 2 ^ 62) : (BitVec.ofInt 64 (a : Int)).toNat = a := by
 rw [BitVec.ofInt_natCast, BitVec.toNat_ofNat]; exact Nat.mod_eq_of_lt (by omega)
theorem b_and (a b : Nat) (ha : a < 2 ^ 62) (hb : b < 2 ^ 62) : Go.bits .and .i64 (a : Int) (b : Int) = ((a &&& b : Nat) : Int) := by
 have hx : a &&& b < 2 ^ 62 := Nat.and_lt_two_pow _ hb
 show IntKind.i64.wrap ((BitVec.ofInt 64 (a : Int) &&& BitVec.ofInt 64 (b : Int)).toNat : Int) = _
 rw [BitVec.toNat_and, u64_low a ha, u64_low b hb]
 exact i64_small _ (by omega) (by omega)
theorem b_or (a b : Nat) (ha : a < 2 ^ 62) (hb : b < 2 ^ 62) : Go.bits .or .i64 (a : Int) (b : Int) = ((a ||| b : Nat) : Int) := by
 have hx : a ||| b < 2 ^ 62 := Nat.or_lt_two_pow ha hb
 show IntKind.i64.wrap ((BitVec.ofInt 64 (a : Int) ||| BitVec.ofInt 64 (b : Int)).toNat : Int) = _
 rw [BitVec.toNat_or, u64_low a ha, u64_low b hb]
 exact i64_small _ (by omega) (by omega)
theorem b_andNot (a b : Nat) (ha : a < 2 ^ 62) (hb : b < 2 ^ 62) : Go.bits .andNot .i64 (a : Int) (b : Int) = ((diff a b : Nat) : Int) := by
 have hx : diff a b < 2 ^ 62 := Nat.lt_of_le_of_lt (diff_le a b) ha
 show IntKind.i64.wrap ((BitVec.ofInt 64 (a : Int) &&& ~~~ BitVec.ofInt 64 (b : Int)).toNat : Int) = _
 have e : (BitVec.ofInt 64 (a : Int) &&& ~~~ BitVec.ofInt 64 (b : Int)).toNat = diff a b := by
  apply Nat.eq_of_testBit_eq
  intro i
  rw [diff_testBit, BitVec.testBit_toNat, BitVec.getLsbD_and, BitVec.getLsbD_not, ← BitVec.testBit_toNat, ← BitVec.testBit_toNat, u64_low a ha, u64_low b hb]
  by_cases hi : i < 64
  ·simp [hi]
  ·have : a.testBit i = false := Nat.testBit_lt_two_pow (Nat.lt_of_lt_of_le ha (Nat.pow_le_pow_right (by omega) (by omega)))
   simp [this]
 rw [e]
 exact i64_small _ (by omega) (by omega)
theorem s_one (i : Nat) (hi : i < 62) : shl .i64 1 (i : Int) = ((2 ^ i : Nat) : Int) := by
 have h1 : 2 ^ i < 2 ^ 62 := Nat.pow_lt_pow_right (by omega) hi
 unfold shl
 rw [show min (i : Int).toNat IntKind.i64.bits = i by simp [IntKind.bits]; omega, Int.one_mul]
 rw [show ((2 : Int) ^ i) = ((2 ^ i : Nat) : Int) by simp]
 exact i64_small _ (Int.natCast_nonneg _) (by omega)
theorem s_shr (a i : Nat) (hi : i < 62) : shr .i64 (a : Int) (i : Int) = ((a / 2 ^ i : Nat) : Int) := by
 unfold shr
 rw [show min (i : Int).toNat IntKind.i64.bits = i by simp [IntKind.bits]; omega]
 simp
theorem bit_at (a i : Nat) (ha : a < 2 ^ 62) (hi : i < 62) : Go.bits .and .i64 (shr .i64 (a : Int) (i : Int)) 1 = ((a.testBit i).toNat : Int) := by
 rw [s_shr a i hi]
 have h1 : a / 2 ^ i < 2 ^ 62 := Nat.lt_of_le_of_lt (Nat.div_le_self _ _) ha
 have := b_and (a / 2 ^ i) 1 h1 (by omega)
 rw [show ((1 : Nat) : Int) = 1 from rfl] at this
 rw [this, Nat.and_one_is_mod, Nat.testBit_eq_decide_div_mod_eq]
 by_cases h : a / 2 ^ i % 2 = 1
 ·simp [h]
 ·have : a / 2 ^ i % 2 = 0 := by omega
  simp [this]
theorem bit_zero (a i : Nat) (ha : a < 2 ^ 62) (hi : i < 62) : Go.bits .and .i64 (shr .i64 (a : Int) (i : Int)) 1 = 0 ↔ a.testBit i = false := by
 rw [bit_at a i ha hi]; cases a.testBit i <;> simp
def gi (l : List Nat) : List Int := l.map fun (x : Nat) => (x : Int)
theorem gi_length (l : List Nat) : (gi l).length = l.length := by simp [gi]
theorem rd_gi (l : List Nat) (i : Nat) : rd (gi l) (i : Int) = ((l.getD i 0 : Nat) : Int) := by
 unfold rd gi
 simp only [Int.toNat_natCast, List.getD_eq_getElem?_getD, List.getElem?_map]
 cases l[i]? <;> rfl
theorem gi_nonneg (l : List Int) (h : ∀ x ∈ l, 0 ≤ x) : ∃ m : List Nat, l = gi m := by
 refine ⟨l.map Int.toNat, ?_⟩
 unfold gi
 rw [List.map_map]
 conv => lhs; rw [← List.map_id l]
 apply List.map_congr_left
 intro x hx
 have := h x hx
 simp; omega
theorem testBit_ge {a n i : Nat} (h : a < 2 ^ n) (hi : n ≤ i) : a.testBit i = false := Nat.testBit_lt_two_pow (Nat.lt_of_lt_of_le h (Nat.pow_le_pow_right (by omega) hi))
def allFrom (p : Nat → Bool) (n : Nat) : Nat → Nat → Bool
 | 0, _ => true
 | d + 1, i => p i && allFrom p n d (i + 1)
theorem allFrom_iff (p : Nat → Bool) (n : Nat) : ∀ d i, allFrom p n d i = true ↔ ∀ j, i ≤ j → j < i + d → p j = true
 | 0, i => by simp only [allFrom]; exact ⟨fun _ j h1 h2 => by omega, fun _ => trivial⟩
 | d + 1, i => by
  simp only [allFrom, Bool.and_eq_true, allFrom_iff p n d (i + 1)]
  constructor
  ·rintro ⟨h0, h⟩ j h1 h2
   by_cases e : j = i
   ·subst e; exact h0
   ·exact h j (by omega) (by omega)
  ·intro h
   exact ⟨h i (by omega) (by omega), fun j h1 h2 => h j (by omega) (by omega)⟩
def ibit (x : Int) (i : Nat) : Int := Go.bits .and .i64 (shr .i64 x (i : Int)) 1
theorem ibit_nat (a i : Nat) (ha : a < 2 ^ 62) (hi : i < 62) : ibit (a : Int) i = ((a.testBit i).toNat : Int) := bit_at a i ha hi
theorem wrap_succ (i : Nat) (h : i < 2 ^ 61) : wrap64 ((i : Int) + 1) = ((i + 1 : Nat) : Int) := by
 rw [w64_small _ (by omega) (by omega)]; omega
theorem Ev.bind1 {α β : Type} {g : Option α} {f : Nat → α → Option β} {a : α} {r : β} (h : g = some a) (k : Ev (fun n => f n a) r) : Ev (fun n => g.bind (f n)) r := by subst h; exact k
theorem Ev.some {α : Type} {r r' : α} (h : r = r') : Ev (fun _ => some r) r' := by subst h; exact Ev.now r
theorem Ev.if_pos {α : Type} {c : Prop} [Decidable c] {g f : Nat → Option α} {r : α} (h : c) (k : Ev g r) : Ev (fun n => if c then g n else f n) r := by
 refine Ev.congr (fun n => ?_) k
 rw [_root_.if_pos h]
theorem Ev.if_neg {α : Type} {c : Prop} [Decidable c] {g f : Nat → Option α} {r : α} (h : ¬ c) (k : Ev f r) : Ev (fun n => if c then g n else f n) r := by
 refine Ev.congr (fun n => ?_) k
 rw [_root_.if_neg h]
theorem Ev.ite {α : Type} {c : Prop} [Decidable c] {g f : Nat → Option α} {r : α} (h1 : c → Ev g r) (h2 : ¬ c → Ev f r) : Ev (fun n => if c then g n else f n) r := by
 by_cases h : c
 ·exact Ev.if_pos h (h1 h)
 ·exact Ev.if_neg h (h2 h)
def rowOk (g : List Int) (i : Nat) : Bool :=
 !decide (rd g (i : Int) < 0) && !decide (rd g (i : Int) ≥ shl .i64 1 (g.length : Int)) && !(ibit (rd g (i : Int)) i == 1) &&
  allFrom (fun j => decide (ibit (rd g (i : Int)) j = ibit (rd g (j : Int)) i)) g.length g.length 0
def chk (m : Nat) (g : List Int) : Bool := decide (1 ≤ g.length) && decide (g.length ≤ m) && allFrom (rowOk g) g.length g.length 0
structure Gr (m : Nat) (G : List Nat) : Prop where
 pos : 1 ≤ G.length
 most : G.length ≤ m
 lt : ∀ i, i < G.length → G.getD i 0 < 2 ^ G.length
 irr : ∀ i, i < G.length → (G.getD i 0).testBit i = false
 symm : ∀ i j, i < G.length → j < G.length → (G.getD i 0).testBit j = (G.getD j 0).testBit i
theorem chk_iff (m : Nat) (hm : m ≤ 13) (g : List Int) : chk m g = true ↔ ∃ G, g = gi G ∧ Gr m G := by
 have p62 : ∀ n : Nat, n ≤ 13 → 2 ^ n < 2 ^ 62 := fun n hn => Nat.pow_lt_pow_right (by omega) (by omega)
 constructor
 ·intro h
  simp only [chk, Bool.and_eq_true, decide_eq_true_eq, allFrom_iff] at h
  obtain ⟨⟨h1, h2⟩, h3⟩ := h
  have hn : g.length ≤ 13 := by omega
  have hrow : ∀ i, i < g.length → (0 ≤ rd g (i : Int) ∧ rd g (i : Int) < ((2 ^ g.length : Nat) : Int)) ∧ ibit (rd g (i : Int)) i ≠ 1 ∧ ∀ j, j < g.length → ibit (rd g (i : Int)) j = ibit (rd g (j : Int)) i := by
   intro i hi
   have := h3 i (by omega) (by omega)
   simp only [rowOk, Bool.and_eq_true, Bool.not_eq_true', decide_eq_false_iff_not, beq_eq_false_iff_ne, allFrom_iff, decide_eq_true_eq] at this
   obtain ⟨⟨⟨a, b⟩, c⟩, d⟩ := this
   rw [s_one _ (by omega)] at b
   exact ⟨⟨by omega, by omega⟩, c, fun j hj => d j (by omega) (by omega)⟩
  obtain ⟨G, rfl⟩ := gi_nonneg g (fun x hx => by
   obtain ⟨i, hi, rfl⟩ := List.getElem_of_mem hx
   have := (hrow i hi).1.1
   unfold rd at this
   rw [Int.toNat_natCast, List.getD_eq_getElem?_getD, List.getElem?_eq_getElem hi] at this
   exact this)
  simp only [gi_length, rd_gi] at hrow h1 h2 hn
  have hlt : ∀ i, i < G.length → G.getD i 0 < 2 ^ G.length := fun i hi => by have := (hrow i hi).1.2; omega
  refine ⟨G, rfl, h1, h2, hlt, fun i hi => ?_, fun i j hi hj => ?_⟩
  ·have := (hrow i hi).2.1
   rw [ibit_nat _ _ (Nat.lt_trans (hlt i hi) (p62 _ hn)) (by omega)] at this
   cases hb : (G.getD i 0).testBit i
   ·rfl
   ·rw [hb] at this; exact (this rfl).elim
  ·have := (hrow i hi).2.2 j hj
   rw [ibit_nat _ _ (Nat.lt_trans (hlt i hi) (p62 _ hn)) (by omega), ibit_nat _ _ (Nat.lt_trans (hlt j hj) (p62 _ hn)) (by omega)] at this
   cases ha : (G.getD i 0).testBit j <;> cases hb : (G.getD j 0).testBit i <;> rw [ha, hb] at this <;> simp_all
 ·rintro ⟨G, rfl, hG⟩
  have hn : G.length ≤ 13 := Nat.le_trans hG.most hm
  simp only [chk, Bool.and_eq_true, decide_eq_true_eq, allFrom_iff, gi_length]
  refine ⟨⟨hG.pos, hG.most⟩, fun i _ hi => ?_⟩
  have hi : i < G.length := by omega
  simp only [rowOk, Bool.and_eq_true, Bool.not_eq_true', decide_eq_false_iff_not, beq_eq_false_iff_ne, allFrom_iff, decide_eq_true_eq, rd_gi, gi_length]
  rw [s_one _ (by omega)]
  have hl := hG.lt i hi
  refine ⟨⟨⟨by omega, by omega⟩, ?_⟩, fun j _ hj => ?_⟩
  ·rw [ibit_nat _ _ (Nat.lt_trans hl (p62 _ hn)) (by omega), hG.irr i hi]; simp
  ·have hj : j < G.length := by omega
   rw [ibit_nat _ _ (Nat.lt_trans hl (p62 _ hn)) (by omega), ibit_nat _ _ (Nat.lt_trans (hG.lt j hj) (p62 _ hn)) (by omega), hG.symm i j hi hj]
def Adj (G : List Nat) (u w : Nat) : Prop := (G.getD u 0).testBit w = true
theorem getD_out (G : List Nat) (i : Nat) (h : G.length ≤ i) : G.getD i 0 = 0 := by
 rw [List.getD_eq_getElem?_getD, List.getElem?_eq_none h]; rfl
theorem Gr.row {m : Nat} {G : List Nat} (h : Gr m G) (i : Nat) : G.getD i 0 < 2 ^ G.length := by
 by_cases hi : i < G.length
 ·exact h.lt i hi
 ·rw [getD_out G i (by omega)]; exact Nat.two_pow_pos _
theorem Gr.adj_lt {m : Nat} {G : List Nat} (h : Gr m G) {u w : Nat} (a : Adj G u w) : w < G.length := by
 apply Classical.byContradiction
 intro hw
 unfold Adj at a
 rw [testBit_ge (h.row u) (by omega)] at a
 cases a
theorem Gr.adj_lt' {m : Nat} {G : List Nat} (h : Gr m G) {u w : Nat} (a : Adj G u w) : u < G.length := by
 apply Classical.byContradiction
 intro hu
 unfold Adj at a
 rw [getD_out G u (by omega)] at a
 simp at a
def around (G : List Nat) (s : Nat) : Nat → Nat
 | 0 => 0
 | d + 1 => around G s d ||| (if s.testBit d then G.getD d 0 else 0)
theorem bit_lt {x n j : Nat} (h : x < 2 ^ n) (hb : x.testBit j = true) : j < n := by
 apply Classical.byContradiction
 intro hj
 rw [testBit_ge h (by omega)] at hb
 cases hb
inductive Con (adj : Nat → Nat → Prop) (w : Nat → Prop) (s : Nat → Prop) : Nat → Prop
 | base {u : Nat} : s u → Con adj w s u
 | step {x u : Nat} : Con adj w s x → adj x u → w u → Con adj w s u
def bset (x : Nat) (i : Nat) : Prop := x.testBit i = true
end Go.Proofs.YtoffehihicabcaaDoor.T
end
section
namespace Go.Proofs.YtoffehihicabcaaDoor.T
def AtMost (k : Nat) (P : Nat → Prop) : Prop := ∃ l : List Nat, l.length ≤ k ∧ ∀ u, P u → u ∈ l
theorem AtMost.mono {k k' : Nat} {P Q : Nat → Prop} (h : AtMost k P) (hk : k ≤ k') (hq : ∀ u, Q u → P u) : AtMost k' Q := by
 obtain ⟨l, hl, hp⟩ := h
 exact ⟨l, Nat.le_trans hl hk, fun u hu => hp u (hq u hu)⟩
theorem AtMost.map {k : Nat} {P Q : Nat → Prop} (f : Nat → Nat) (h : AtMost k P) (hq : ∀ u, Q u → ∃ x, P x ∧ f x = u) : AtMost k Q := by
 obtain ⟨l, hl, hp⟩ := h
 refine ⟨l.map f, by simpa using hl, fun u hu => ?_⟩
 obtain ⟨x, hx, rfl⟩ := hq u hu
 exact List.mem_map_of_mem (hp x hx)
theorem AtMost.below {n : Nat} {P : Nat → Prop} (h : ∀ u, P u → u < n) : AtMost n P := ⟨List.range n, by simp, fun u hu => List.mem_range.2 (h u hu)⟩
inductive Way (adj : Nat → Nat → Prop) (S : Nat → Prop) (v : Nat) : Nat → Prop
 | one {u : Nat} : adj v u → Way adj S v u
 | more {x u : Nat} : Way adj S v x → S x → adj x u → Way adj S v u
def Nb (adj : Nat → Nat → Prop) (S : Nat → Prop) (v u : Nat) : Prop := Way adj S v u ∧ ¬ S u ∧ u ≠ v
inductive Elim (V : Nat → Prop) (adj : Nat → Nat → Prop) (k : Nat) : (Nat → Prop) → Prop
 | nil : Elim V adj k (fun _ => False)
 | snoc {S : Nat → Prop} (v : Nat) : Elim V adj k S → V v → ¬ S v → AtMost k (Nb adj S v) → Elim V adj k (fun u => S u ∨ u = v)
theorem Elim.mono {V : Nat → Prop} {adj : Nat → Nat → Prop} {k k' : Nat} {S : Nat → Prop} (h : Elim V adj k S) (hk : k ≤ k') : Elim V adj k' S := by
 induction h with
 | nil => exact .nil
 | snoc v _ hv hs ha ih => exact .snoc v ih hv hs (ha.mono hk fun _ h => h)
theorem Elim.sub {V : Nat → Prop} {adj : Nat → Nat → Prop} {k : Nat} {S : Nat → Prop} (h : Elim V adj k S) : ∀ u, S u → V u := by
 induction h with
 | nil => intro u hu; exact hu.elim
 | snoc v _ hv _ _ ih =>
  intro u hu
  rcases hu with hu | hu
  ·exact ih u hu
  ·subst hu; exact hv
end Go.Proofs.YtoffehihicabcaaDoor.T
end
section
namespace Go.Proofs.YtoffehihicabcaaDoor.T
open Go.RowKit YtoffehihicabcaaDoorW.PrintWords YtoffehihicabcaaDoorW.PrintLast YtoffehihicabcaaDoorW.PrintMore
def pc (x : Nat) : Nat → Nat
 | 0 => 0
 | d + 1 => pc x d + (x.testBit d).toNat
theorem pc_le (x : Nat) : ∀ n, pc x n ≤ n
 | 0 => Nat.le_refl _
 | d + 1 => by have := pc_le x d; simp only [pc]; cases x.testBit d <;> simp <;> omega
def els (x : Nat) (n : Nat) : List Nat := (List.range n).filter fun i => x.testBit i
theorem els_length (x : Nat) : ∀ n, (els x n).length = pc x n
 | 0 => rfl
 | d + 1 => by
  have ih := els_length x d
  unfold els at *
  rw [List.range_succ, List.filter_append, List.length_append, ih]
  simp only [pc]
  cases h : x.testBit d <;> simp [h]
theorem mem_els {x n j : Nat} : j ∈ els x n ↔ j < n ∧ x.testBit j = true := by unfold els; simp
theorem nodup_le {l m : List Nat} (h : l.Nodup) (hs : ∀ x ∈ l, x ∈ m) : l.length ≤ m.length := by
 induction l generalizing m with
 | nil => simp
 | cons a l ih =>
  obtain ⟨h1, h2⟩ := List.nodup_cons.1 h
  have ha := hs a List.mem_cons_self
  have := ih (m := m.erase a) h2 (fun x hx => by
   have hxa : x ≠ a := fun e => h1 (e ▸ hx)
   exact (List.mem_erase_of_ne hxa).2 (hs x (List.mem_cons_of_mem _ hx)))
  rw [List.length_erase_of_mem ha] at this
  have : 0 < m.length := List.length_pos_of_mem ha
  simp only [List.length_cons]
  omega
theorem Con.mono {adj : Nat → Nat → Prop} {w s w' s' : Nat → Prop} (hw : ∀ u, w u → w' u) (hs : ∀ u, s u → s' u) {u : Nat} (h : Con adj w s u) : Con adj w' s' u := by
 induction h with
 | base h => exact .base (hs _ h)
 | step _ a h ih => exact .step ih a (hw _ h)
theorem two_pow_bit (v j : Nat) : bset (2 ^ v) j ↔ j = v := by
 unfold bset; rw [Nat.testBit_two_pow, decide_eq_true_eq]; exact ⟨fun h => h.symm, fun h => h.symm⟩
theorem diff_bset (a b j : Nat) : bset (diff a b) j ↔ bset a j ∧ ¬ bset b j := by
 unfold bset; rw [diff_testBit]; cases a.testBit j <;> cases b.testBit j <;> simp
end Go.Proofs.YtoffehihicabcaaDoor.T
end
section
namespace Go.Proofs.YtoffehihicabcaaDoor.X
open Go.RowKit YtoffehihicabcaaDoorW.PrintWords YtoffehihicabcaaDoorW.PrintLast YtoffehihicabcaaDoorW.PrintMore
attribute [local go_sem] max2_int min2_int max_two min_two max_three min_three max_four min_four
noncomputable section
mutual
def lampblackref01_Reached.l0 : Nat → List Int → Int → Int → Int → Int → Option (Int)
 | 0, _, _, _, _, _ => none
 | k + 1, x0, x1, x7, x12, x13 => if x13 < x12 then (lampblackref01_Reached.l1 k x0 x1 x7 x12 x13 (x0.length : Int) 0) else (some x7)
def lampblackref01_Reached.l1 : Nat → List Int → Int → Int → Int → Int → Int → Int → Option (Int)
 | 0, _, _, _, _, _, _, _ => none
 | k + 1, x0, x1, x7, x12, x13, x16, x17 => if x17 < x16 then (if 0 ≤ x17 then (if (Go.bits .and .i64 (shr .i64 x7 x17) 1) = 1 then (if x17 < (x0.length : Int) then (lampblackref01_Reached.l1 k x0 x1 (Go.bits .or .i64 x7 (Go.bits .and .i64 (rd x0 x17) x1)) x12 x13 x16 (wrap64 (x17 + 1))) else (none)) else (lampblackref01_Reached.l1 k x0 x1 x7 x12 x13 x16 (wrap64 (x17 + 1)))) else (none)) else (lampblackref01_Reached.l0 k x0 x1 x7 x12 (wrap64 (x13 + 1)))
end
def lampblackref01_Reached.f (k : Nat) (l0 : List Int) (a1 : Int) (a2 : Int) : Option (Int) := if 0 ≤ a2 then (lampblackref01_Reached.l0 k l0 a1 (shl .i64 1 a2) (l0.length : Int) 0) else (none)
end
end Go.Proofs.YtoffehihicabcaaDoor.X
end
section
namespace Go.Proofs.YtoffehihicabcaaDoor.X
open Go.RowKit YtoffehihicabcaaDoorW.PrintWords YtoffehihicabcaaDoorW.PrintLast YtoffehihicabcaaDoorW.PrintMore YtoffehihicabcaaDoor.T
theorem isGraph_l1 (m : Nat) (g : List Int) (hn : g.length ≤ 13) (i : Nat) (hi : i < g.length) (r : Bool)
  (hrest : Ev (fun k => lampblackref01_IsGraph.l0 k g (m : Int) g (g.length : Int) ((i + 1 : Nat) : Int)) r) :
  ∀ d j, j + d = g.length → Ev (fun k => lampblackref01_IsGraph.l1 k g (m : Int) (i : Int) (rd g (i : Int)) g (g.length : Int) (i : Int) (g.length : Int) (j : Int))
   (allFrom (fun j => decide (ibit (rd g (i : Int)) j = ibit (rd g (j : Int)) i)) g.length d j && r) := by
 intro d
 induction d with
 | zero =>
  intro j hj
  refine Ev.step (fun k => ?_) hrest
  rw [lampblackref01_IsGraph.l1, if_neg (by omega), wrap_succ i (by omega)]
 | succ d ih =>
  intro j hj
  simp only [allFrom]
  by_cases hb : ibit (rd g (i : Int)) j = ibit (rd g (j : Int)) i
  ·refine Ev.step (f := fun k => lampblackref01_IsGraph.l1 k g (m : Int) (i : Int) (rd g (i : Int)) g (g.length : Int) (i : Int) (g.length : Int) ((j + 1 : Nat) : Int)) (fun k => ?_) ?_
   ·rw [lampblackref01_IsGraph.l1, if_pos (by omega), if_pos (by omega), if_pos (by omega), if_pos (by omega), wrap_succ j (by omega)]
    exact if_pos hb
   ·have := ih (j + 1) (by omega)
    simpa [hb] using this
  ·refine Ev.step (f := fun _ => some false) (fun k => ?_) (Ev.some (by simp [hb]))
   rw [lampblackref01_IsGraph.l1, if_pos (by omega), if_pos (by omega), if_pos (by omega), if_pos (by omega)]
   exact if_neg hb
theorem isGraph_l0 (m : Nat) (hm : m ≤ 13) (g : List Int) (h1 : 1 ≤ g.length) (hn : g.length ≤ m) :
  ∀ d i, i + d = g.length → Ev (fun k => lampblackref01_IsGraph.l0 k g (m : Int) g (g.length : Int) (i : Int)) (allFrom (rowOk g) g.length d i) := by
 intro d
 induction d with
 | zero =>
  intro i hi
  refine Ev.step (f := fun _ => some true) (fun k => ?_) (Ev.some (by simp [allFrom]))
  rw [lampblackref01_IsGraph.l0, if_neg (by omega), if_pos (by omega), decide_eq_true (by omega)]
 | succ d ih =>
  intro i hi
  have stop : ∀ k, lampblackref01_IsGraph.j1 (k + 1) g (m : Int) (i : Int) (rd g (i : Int)) g (g.length : Int) (i : Int) true = some false := fun k => by
   rw [lampblackref01_IsGraph.j1, if_pos rfl]
  simp only [allFrom, rowOk]
  by_cases h1' : rd g (i : Int) < 0
  ·refine Ev.step (fun k => ?_) (f := fun k => lampblackref01_IsGraph.j1 k g (m : Int) (i : Int) (rd g (i : Int)) g (g.length : Int) (i : Int) true) ?_
   ·rw [lampblackref01_IsGraph.l0, if_pos (by omega), if_pos (by omega), if_pos (by omega), if_neg (by omega), if_pos h1']
   ·exact Ev.step stop (Ev.some (by simp [h1']))
  ·by_cases h2 : rd g (i : Int) ≥ shl .i64 1 (g.length : Int)
   ·refine Ev.step (fun k => ?_) (f := fun k => lampblackref01_IsGraph.j1 k g (m : Int) (i : Int) (rd g (i : Int)) g (g.length : Int) (i : Int) true) ?_
    ·rw [lampblackref01_IsGraph.l0, if_pos (by omega), if_pos (by omega), if_pos (by omega), if_neg (by omega), if_neg h1', if_pos h2]
    ·exact Ev.step stop (Ev.some (by simp [h2]))
   ·refine Ev.step (fun k => ?_) (f := fun k => lampblackref01_IsGraph.j1 k g (m : Int) (i : Int) (rd g (i : Int)) g (g.length : Int) (i : Int) (ibit (rd g (i : Int)) i == 1)) ?_
    ·rw [lampblackref01_IsGraph.l0, if_pos (by omega), if_pos (by omega), if_pos (by omega), if_neg (by omega), if_neg h1', if_neg h2]
     rfl
    ·by_cases h3 : (ibit (rd g (i : Int)) i == 1) = true
     ·simp only [h3]
      exact Ev.step stop (Ev.some (by simp))
     ·refine Ev.step (fun k => by rw [lampblackref01_IsGraph.j1, if_neg h3]) ?_
      have := isGraph_l1 m g (by omega) i (by omega) _ (ih (i + 1) (by omega)) g.length 0 (by omega)
      have h3' : (ibit (rd g (i : Int)) i == 1) = false := by simpa using h3
      simp only [h1', h2, h3', decide_false, Bool.not_false, Bool.true_and]
      exact this
theorem isGraph_ev (m : Nat) (hm : m ≤ 13) (g : List Int) (hg : g.length < 2 ^ 60) : Ev (fun k => lampblackref01_IsGraph.f k g (m : Int)) (chk m g) := by
 unfold lampblackref01_IsGraph.f
 by_cases h1 : 1 ≤ g.length
 ·by_cases h2 : g.length ≤ m
  ·have := isGraph_l0 m hm g h1 h2 g.length 0 (by omega)
   simpa [chk, h1, h2] using this
  ·refine Ev.step (f := fun k => lampblackref01_IsGraph.j1 k g (m : Int) 0 (rd g 0) g (g.length : Int) 0 true) (fun k => ?_) (Ev.step (f := fun _ => some false) (fun k => ?_) (Ev.some (by simp [chk, h2])))
   ·rw [lampblackref01_IsGraph.l0, if_pos (by omega), if_pos (by omega), if_pos (by omega), if_pos (by omega)]
   ·rw [lampblackref01_IsGraph.j1, if_pos rfl]
 ·refine Ev.step (f := fun _ => some false) (fun k => ?_) (Ev.some (by simp [chk, h1]))
  rw [lampblackref01_IsGraph.l0, if_neg (by omega), if_neg (by omega)]
end Go.Proofs.YtoffehihicabcaaDoor.X
end
section
namespace Go.Proofs.YtoffehihicabcaaDoor.T
open Go.RowKit YtoffehihicabcaaDoorW.PrintWords YtoffehihicabcaaDoorW.PrintLast YtoffehihicabcaaDoorW.PrintMore
theorem all_bit (n u : Nat) : bset (2 ^ n - 1) u ↔ u < n := by
 unfold bset; rw [Nat.testBit_two_pow_sub_one, decide_eq_true_eq]
end Go.Proofs.YtoffehihicabcaaDoor.T
end
section
namespace Go.Proofs.YtoffehihicabcaaDoor.X
open Go.RowKit YtoffehihicabcaaDoorW.PrintWords YtoffehihicabcaaDoorW.PrintLast YtoffehihicabcaaDoorW.PrintMore YtoffehihicabcaaDoor.T
theorem read_l1 (g : List Int) (hn : g.length ≤ 9) (i : Nat) (hi : i < g.length) (r : List Int × Bool)
  (hrest : Ev (fun k => width_read.l0 k g (g.length : Int) g (g.length : Int) ((i + 1 : Nat) : Int)) r) :
  ∀ d j, j + d = g.length → Ev (fun k => width_read.l1 k g (g.length : Int) (i : Int) (rd g (i : Int)) g (g.length : Int) (i : Int) (g.length : Int) (j : Int))
   (cond (allFrom (fun j => decide (ibit (rd g (i : Int)) j = ibit (rd g (j : Int)) i)) g.length d j) r (([] : List Int), false)) := by
 intro d
 induction d with
 | zero =>
  intro j hj
  refine Ev.step (fun k => ?_) hrest
  rw [width_read.l1, if_neg (by omega), wrap_succ i (by omega)]
 | succ d ih =>
  intro j hj
  simp only [allFrom]
  by_cases hb : ibit (rd g (i : Int)) j = ibit (rd g (j : Int)) i
  ·refine Ev.step (f := fun k => width_read.l1 k g (g.length : Int) (i : Int) (rd g (i : Int)) g (g.length : Int) (i : Int) (g.length : Int) ((j + 1 : Nat) : Int)) (fun k => ?_) ?_
   ·rw [width_read.l1, if_pos (by omega), if_pos (by omega), if_pos (by omega), if_pos (by omega), wrap_succ j (by omega)]
    exact if_pos hb
   ·have := ih (j + 1) (by omega)
    simpa [hb] using this
  ·refine Ev.step (f := fun _ => some (([] : List Int), false)) (fun k => ?_) (Ev.some (by simp [hb]))
   rw [width_read.l1, if_pos (by omega), if_pos (by omega), if_pos (by omega), if_pos (by omega)]
   exact if_neg hb
theorem read_l0 (g : List Int) (hn : g.length ≤ 9) :
  ∀ d i, i + d = g.length → Ev (fun k => width_read.l0 k g (g.length : Int) g (g.length : Int) (i : Int)) (cond (allFrom (rowOk g) g.length d i) (g, true) (([] : List Int), false)) := by
 intro d
 induction d with
 | zero =>
  intro i hi
  refine Ev.step (f := fun _ => some (g, true)) (fun k => ?_) (Ev.some (by simp [allFrom]))
  rw [width_read.l0, if_neg (by omega)]
 | succ d ih =>
  intro i hi
  have stop : ∀ k, width_read.j2 (k + 1) g (g.length : Int) (i : Int) (rd g (i : Int)) g (g.length : Int) (i : Int) true = some (([] : List Int), false) := fun k => by
   rw [width_read.j2, if_pos rfl]
  simp only [allFrom, rowOk]
  by_cases h1 : rd g (i : Int) < 0
  ·refine Ev.step (fun k => ?_) (f := fun k => width_read.j2 k g (g.length : Int) (i : Int) (rd g (i : Int)) g (g.length : Int) (i : Int) true) ?_
   ·rw [width_read.l0, if_pos (by omega), if_pos (by omega), if_pos (by omega), if_pos h1]
   ·exact Ev.step stop (Ev.some (by simp [h1]))
  ·by_cases h2 : rd g (i : Int) ≥ shl .i64 1 (g.length : Int)
   ·refine Ev.step (fun k => ?_) (f := fun k => width_read.j2 k g (g.length : Int) (i : Int) (rd g (i : Int)) g (g.length : Int) (i : Int) true) ?_
    ·rw [width_read.l0, if_pos (by omega), if_pos (by omega), if_pos (by omega), if_neg h1, if_pos (by omega), if_pos h2]
    ·exact Ev.step stop (Ev.some (by simp [h2]))
   ·refine Ev.step (fun k => ?_) (f := fun k => width_read.j2 k g (g.length : Int) (i : Int) (rd g (i : Int)) g (g.length : Int) (i : Int) (ibit (rd g (i : Int)) i == 1)) ?_
    ·rw [width_read.l0, if_pos (by omega), if_pos (by omega), if_pos (by omega), if_neg h1, if_pos (by omega), if_neg h2]
     rfl
    ·by_cases h3 : (ibit (rd g (i : Int)) i == 1) = true
     ·simp only [h3]
      exact Ev.step stop (Ev.some (by simp))
     ·refine Ev.step (fun k => by rw [width_read.j2, if_neg h3]) ?_
      have := read_l1 g hn i (by omega) _ (ih (i + 1) (by omega)) g.length 0 (by omega)
      have h3' : (ibit (rd g (i : Int)) i == 1) = false := by simpa using h3
      simp only [h1, h2, h3', decide_false, Bool.not_false, Bool.true_and]
      cases h4 : allFrom (fun j => decide (ibit (rd g (i : Int)) j = ibit (rd g (j : Int)) i)) g.length g.length 0
      ·simpa [h4] using this
      ·simpa [h4] using this
theorem read_ev (g : List Int) (hg : g.length < 2 ^ 60) : Ev (fun k => width_read.f k g) (cond (chk 9 g) (g, true) (([] : List Int), false)) := by
 have stop : ∀ k, width_read.j0 (k + 1) g (g.length : Int) true = some (([] : List Int), false) := fun k => by
  rw [width_read.j0, if_pos rfl]
 by_cases h1 : g.length < 1
 ·refine Ev.congr (f := fun k => width_read.j0 k g (g.length : Int) true) (fun k => ?_) (Ev.step stop (Ev.some ?_))
  ·rw [width_read.f, if_pos (by omega)]
  ·have : ¬ 1 ≤ g.length := by omega
   simp [chk, this]
 ·refine Ev.congr (f := fun k => width_read.j0 k g (g.length : Int) (decide ((g.length : Int) > 9))) (fun k => ?_) ?_
  ·rw [width_read.f, if_neg (by omega)]
  ·by_cases h2 : g.length ≤ 9
   ·have e : decide ((g.length : Int) > 9) = false := decide_eq_false (by omega)
    rw [e]
    refine Ev.step (fun k => by rw [width_read.j0, if_neg (by simp)]) ?_
    have := read_l0 g h2 g.length 0 (by omega)
    have h3 : decide (1 ≤ g.length) = true := decide_eq_true (by omega)
    simpa [chk, h2, h3] using this
   ·have e : decide ((g.length : Int) > 9) = true := decide_eq_true (by omega)
    rw [e]
    refine Ev.step stop (Ev.some ?_)
    simp [chk, h2]
end Go.Proofs.YtoffehihicabcaaDoor.X
end
section
namespace Go.Proofs.YtoffehihicabcaaDoor.X
open Go.RowKit YtoffehihicabcaaDoorW.PrintWords YtoffehihicabcaaDoorW.PrintLast YtoffehihicabcaaDoorW.PrintMore
attribute [local go_sem] max2_int min2_int max_two min_two max_three min_three max_four min_four
noncomputable section
end
noncomputable section
end
noncomputable section
end
end Go.Proofs.YtoffehihicabcaaDoor.X
end
section
namespace Go.Proofs.YtoffehihicabcaaDoor.X
open Go.RowKit YtoffehihicabcaaDoorW.PrintWords YtoffehihicabcaaDoorW.PrintLast YtoffehihicabcaaDoorW.PrintMore YtoffehihicabcaaDoor.T
theorem small (G : List Nat) (h : G.length ≤ 9) {x : Nat} (hx : x < 2 ^ G.length) : x < 512 := Nat.lt_of_lt_of_le hx (show 2 ^ G.length ≤ 2 ^ 9 from Nat.pow_le_pow_right (by omega) h)
theorem all_eq (G : List Nat) (h : G.length ≤ 9) : width_town_all.f (gi G) = some ((2 ^ G.length - 1 : Nat) : Int) := by
 unfold width_town_all.f
 have h1 : 2 ^ G.length ≤ 2 ^ 9 := Nat.pow_le_pow_right (by omega) h
 have h2 := Nat.two_pow_pos G.length
 rw [gi_length, s_one _ (by omega), w64_small _ (by omega) (by omega)]
 congr 1
 omega
theorem mx_nat (a b : Nat) : mx (a : Int) (b : Int) = ((max a b : Nat) : Int) := by unfold mx; split <;> omega
theorem mn_nat (a b : Nat) : mn (a : Int) (b : Int) = ((min a b : Nat) : Int) := by unfold mn; split <;> omega
theorem awake_ev : Ev (fun k => lampblacklaw02_awake.f k) true := Ev.of (lampblacklaw02_awake.mono) (k := 40) (by decide +kernel)
end Go.Proofs.YtoffehihicabcaaDoor.X
end
section
namespace Go.Proofs.YtoffehihicabcaaDoor.X
open Go.RowKit YtoffehihicabcaaDoorW.PrintWords YtoffehihicabcaaDoorW.PrintLast YtoffehihicabcaaDoorW.PrintMore
attribute [local go_sem] max2_int min2_int max_two min_two max_three min_three max_four min_four
noncomputable section
mutual
def lampblackref02_Connected.j0 : Nat → List Int → Int → Bool → Option (Bool)
 | 0, _, _, _ => none
 | k + 1, x0, x1, x14 => if x14 = true then (some false) else (lampblackref02_Connected.l0 k x0 x1 0)
def lampblackref02_Connected.l0 : Nat → List Int → Int → Int → Option (Bool)
 | 0, _, _, _ => none
 | k + 1, x0, x1, x5 => if 0 ≤ x5 then (if (Go.bits .and .i64 (shr .i64 x1 x5) 1) = 0 then (lampblackref02_Connected.l0 k x0 x1 (wrap64 (x5 + 1))) else ((lampblackref01_Reached.f k x0 x1 x5).bind fun t219 => (some (t219 == x1)))) else (none)
end
def lampblackref02_Connected.f (k : Nat) (l0 : List Int) (a1 : Int) : Option (Bool) := if a1 ≤ 0 then (lampblackref02_Connected.j0 k l0 a1 true) else (lampblackref02_Connected.j0 k l0 a1 (decide (a1 ≥ (shl .i64 1 (l0.length : Int)))))
end
noncomputable section
def lampblackref02_Around.l0 : Nat → List Int → Int → Int → Int → Int → Option (Int)
 | 0, _, _, _, _, _ => none
 | k + 1, x0, x1, x5, x8, x9 => if x9 < x8 then (if 0 ≤ x9 then (if (Go.bits .and .i64 (shr .i64 x1 x9) 1) = 1 then (if x9 < (x0.length : Int) then (lampblackref02_Around.l0 k x0 x1 (Go.bits .or .i64 x5 (rd x0 x9)) x8 (wrap64 (x9 + 1))) else (none)) else (lampblackref02_Around.l0 k x0 x1 x5 x8 (wrap64 (x9 + 1)))) else (none)) else (some x5)
def lampblackref02_Around.f (k : Nat) (l0 : List Int) (a1 : Int) : Option (Int) := lampblackref02_Around.l0 k l0 a1 0 (l0.length : Int) 0
end
noncomputable section
def lampblackref02_Touch.f (k : Nat) (l0 : List Int) (a1 : Int) (a2 : Int) : Option (Bool) := (lampblackref02_Around.f k l0 a1).bind fun t221 => (some ((Go.bits .and .i64 (Go.bits .or .i64 a1 t221) a2) != 0))
end
noncomputable section
end
end Go.Proofs.YtoffehihicabcaaDoor.X
end
section
namespace Go.Proofs.YtoffehihicabcaaDoor.X
open Go.RowKit YtoffehihicabcaaDoorW.PrintWords YtoffehihicabcaaDoorW.PrintLast YtoffehihicabcaaDoorW.PrintMore YtoffehihicabcaaDoor.T
def low (a : Nat) : Nat := (els a 9).headD 0
theorem size_all : ∀ x : Fin 512, lampblackref02_Size.f 12 (x.val : Int) = some (pc x.val 9 : Int) := by decide +kernel
theorem size_ev (x : Nat) (hx : x < 512) : Ev (fun k => lampblackref02_Size.f k (x : Int)) ((pc x 9 : Nat) : Int) := Ev.of (lampblackref02_Size.mono _) (size_all ⟨x, hx⟩)
theorem valid_ev (g : List Int) (hg : g.length < 2 ^ 60) : Ev (fun k => lampblackref02_Valid.f k g) (chk 9 g) := by
 unfold lampblackref02_Valid.f
 exact Ev.bind (isGraph_ev 9 (by omega) g hg) (Ev.some rfl)
theorem few_eq (g : List Int) (hg : g.length < 2 ^ 44) : ∃ h, lampblacklaw02_Few.f g = some h ∧ (chk 9 g = true → h = g) ∧ (chk 9 g = false → chk 9 h = false) ∧ h.length ≤ 13 := by
 have hm : mn (g.length : Int) 13 = ((min g.length 13 : Nat) : Int) := mn_nat g.length 13
 refine ⟨g.take (min g.length 13), ?_, ?_, ?_, ?_⟩
 ·unfold lampblacklaw02_Few.f slices_Clone_Graph.f
  simp only [hm, Int.toNat_natCast]
  rw [if_pos (by omega), if_pos (by omega)]
  simp only [Option.bind_some, List.length_nil, List.nil_append]
  rw [if_pos (by rw [List.length_take]; omega)]
  rfl
 ·intro h
  simp only [chk, Bool.and_eq_true, decide_eq_true_eq] at h
  exact List.take_of_length_le (by omega)
 ·intro h
  by_cases hl : g.length ≤ 13
  ·rw [List.take_of_length_le (by omega)]; exact h
  ·unfold chk
   have : ¬ (List.take (min g.length 13) g).length ≤ 9 := by rw [List.length_take]; omega
   rw [decide_eq_false this, Bool.and_false, Bool.false_and]
 ·rw [List.length_take]; omega
def cycB (P : List Int) : Nat → Int → Bool
 | 0, at_ => decide (0 ≤ at_)
 | d + 1, at_ => if at_ < 0 then false else cycB P d (rd P at_)
def InP (P : List Int) : Prop := ∀ i, i < P.length → -1 ≤ rd P (i : Int) ∧ rd P (i : Int) < (P.length : Int)
def bothB (u v : Nat) (b : Int) : Bool := b.toNat.testBit u && b.toNat.testBit v
def bitI (x : Int) (v : Nat) : Bool := x.toNat.testBit v
def tl1 (B P : List Int) (n all_ : Nat) : Nat → Nat → Nat → Nat → Option (Nat × Nat)
 | 0, _, ro, ac => some (ro, ac)
 | d + 1, i, ro, ac => if rd P (i : Int) < -1 then none else if (n : Int) ≤ rd P (i : Int) then none else if rd B (i : Int) < 0 then none else if (all_ : Int) < rd B (i : Int) then none else tl1 B P n all_ d (i + 1) (if rd P (i : Int) < 0 then ro + 1 else ro) (ac ||| (rd B (i : Int)).toNat)
def topsF (B P : List Int) (v : Nat) : Nat → Nat → Nat → Nat
 | 0, _, t => t
 | d + 1, i, t => topsF B P v d (i + 1) (if bitI (rd B (i : Int)) v && (decide (rd P (i : Int) < 0) || !bitI (rd B (rd P (i : Int))) v) then t + 1 else t)
def nbF (B : List Int) (v : Nat) : List Nat → Bool
 | [] => true
 | u :: us => B.any (bothB u v) && nbF B v us
def tl2 (G : List Nat) (B P : List Int) : Nat → Nat → Bool
 | 0, _ => true
 | d + 1, v => if topsF B P v B.length 0 0 = 1 then nbF B v (els (G.getD v 0) 9) && tl2 G B P d (v + 1) else false
def treeB2 (G : List Nat) (B P : List Int) : Option (Nat × Nat) → Bool
 | none => false
 | some r => if r.1 = 1 then if r.2 = 2 ^ G.length - 1 then if P.any (cycB P P.length) then false else tl2 G B P G.length 0 else false else false
def treeB (G : List Nat) (B P : List Int) : Bool := if B.length < 1 then false else if 30 < B.length then false else if P.length = B.length then treeB2 G B P (tl1 B P B.length (2 ^ G.length - 1) B.length 0 0 0) else false
theorem tl1_ok (B P : List Int) (n all_ : Nat) : ∀ (d i ro ac : Nat) (r : Nat × Nat), tl1 B P n all_ d i ro ac = some r → ∀ j, i ≤ j → j < i + d → -1 ≤ rd P (j : Int) ∧ rd P (j : Int) < (n : Int) ∧ 0 ≤ rd B (j : Int) ∧ rd B (j : Int) ≤ (all_ : Int)
 | 0, i, _, _, _, _, j, h1, h2 => by omega
 | d + 1, i, ro, ac, r, h, j, h1, h2 => by
  simp only [tl1] at h
  split at h
  ·cases h
  ·split at h
   ·cases h
   ·split at h
    ·cases h
    ·split at h
     ·cases h
     ·by_cases e : j = i
      ·subst e; omega
      ·exact tl1_ok B P n all_ d (i + 1) _ _ r h j (by omega) (by omega)
end Go.Proofs.YtoffehihicabcaaDoor.X
end
section
namespace Go.Proofs.YtoffehihicabcaaDoor.X
open Go.RowKit YtoffehihicabcaaDoorW.PrintWords YtoffehihicabcaaDoorW.PrintLast YtoffehihicabcaaDoorW.PrintMore
attribute [local go_sem] max2_int min2_int max_two min_two max_three min_three max_four min_four
noncomputable section
def width_Tree_width.l0 : Nat → Int → List Int → Int → Int → Option (Int)
 | 0, _, _, _, _ => none
 | k + 1, x3, x7, x8, x9 => if x9 < x8 then (if 0 ≤ x9 then (if x9 < (x7.length : Int) then ((width_count.f (rd x7 x9)).bind fun t510 => (width_Tree_width.l0 k (mx x3 t510) x7 x8 (wrap64 (x9 + 1)))) else (none)) else (none)) else (some (wrap64 (x3 - 1)))
end
end Go.Proofs.YtoffehihicabcaaDoor.X
end
section
namespace Go.Proofs.YtoffehihicabcaaDoor.X
open Go.RowKit YtoffehihicabcaaDoorW.PrintWords YtoffehihicabcaaDoorW.PrintLast YtoffehihicabcaaDoorW.PrintMore YtoffehihicabcaaDoor.T
def upI (P : List Int) (a : Int) : Int := if a < 0 then a else rd P a
def upN (P : List Int) : Nat → Int → Int
 | 0, a => a
 | d + 1, a => upN P d (upI P a)
theorem upN_neg (P : List Int) {a : Int} (h : a < 0) : ∀ d, upN P d a = a
 | 0 => rfl
 | d + 1 => by rw [upN, upI, if_pos h, upN_neg P h d]
theorem cycB_up (P : List Int) : ∀ d a, cycB P d a = decide (0 ≤ upN P d a)
 | 0, a => rfl
 | d + 1, a => by
  rw [cycB, upN, upI]
  by_cases h : a < 0
  ·rw [if_pos h, if_pos h, upN_neg P h d]
   simp; omega
  ·rw [if_neg h, if_neg h, cycB_up P d]
theorem upN_add (P : List Int) : ∀ (d e : Nat) (a : Int), upN P (d + e) a = upN P e (upN P d a)
 | 0, e, a => by rw [Nat.zero_add]; rfl
 | d + 1, e, a => by rw [show d + 1 + e = (d + e) + 1 by omega, upN, upN_add P d e, upN]
def rootsF (P : List Int) : Nat → Nat → Nat → Nat
 | 0, _, t => t
 | d + 1, i, t => rootsF P d (i + 1) (if rd P (i : Int) < 0 then t + 1 else t)
def unionF (B : List Int) : Nat → Nat → Nat → Nat
 | 0, _, t => t
 | d + 1, i, t => unionF B d (i + 1) (t ||| (rd B (i : Int)).toNat)
def mostF (B : List Int) : Nat → Nat → Nat → Nat
 | 0, _, t => t
 | d + 1, i, t => mostF B d (i + 1) (max t (pc (rd B (i : Int)).toNat 9))
def InT (G : List Nat) (B P : List Int) (n i : Nat) : Prop := -1 ≤ rd P (i : Int) ∧ rd P (i : Int) < (n : Int) ∧ 0 ≤ rd B (i : Int) ∧ rd B (i : Int) < ((2 ^ G.length : Nat) : Int)
structure TD (G : List Nat) (B P : List Int) : Prop where
 pos : 1 ≤ B.length
 most : B.length ≤ 30
 len : P.length = B.length
 inn : ∀ i, i < B.length → InT G B P B.length i
 root : rootsF P B.length 0 0 = 1
 acyc : ∀ i : Nat, i < B.length → upN P B.length (i : Int) < 0
 tops : ∀ v, v < G.length → topsF B P v B.length 0 0 = 1
 edge : ∀ v u, Adj G v u → ∃ i : Nat, i < B.length ∧ bitI (rd B (i : Int)) v = true ∧ bitI (rd B (i : Int)) u = true
theorem tl1_eq (G : List Nat) (B P : List Int) (n : Nat) : ∀ (d i ro ac : Nat), (∀ j, i ≤ j → j < i + d → InT G B P n j) → tl1 B P n (2 ^ G.length - 1) d i ro ac = some (rootsF P d i ro, unionF B d i ac)
 | 0, i, ro, ac, _ => rfl
 | d + 1, i, ro, ac, h => by
  obtain ⟨h1, h2, h3, h4⟩ := h i (Nat.le_refl _) (by omega)
  have := Nat.two_pow_pos G.length
  rw [tl1, if_neg (by omega), if_neg (by omega), if_neg (by omega), if_neg (by omega), tl1_eq G B P n d (i + 1) _ _ fun j hj hj2 => h j (by omega) (by omega)]
  rfl
theorem tl1_in (G : List Nat) (B P : List Int) (n : Nat) {d i ro ac : Nat} {r : Nat × Nat} (h : tl1 B P n (2 ^ G.length - 1) d i ro ac = some r) (j : Nat) (h1 : i ≤ j) (h2 : j < i + d) : InT G B P n j := by
 have := tl1_ok B P n _ d i ro ac r h j h1 h2
 have := Nat.two_pow_pos G.length
 exact ⟨by omega, by omega, by omega, by omega⟩
theorem unionF_bit (B : List Int) (v : Nat) : ∀ (d i t : Nat), bset (unionF B d i t) v ↔ bset t v ∨ ∃ j, i ≤ j ∧ j < i + d ∧ bitI (rd B (j : Int)) v = true
 | 0, i, t => ⟨fun h => .inl h, fun h => by
   rcases h with h | ⟨j, h1, h2, _⟩
   ·exact h
   ·omega⟩
 | d + 1, i, t => by
  rw [unionF, unionF_bit B v d (i + 1)]
  have e : bset (t ||| (rd B (i : Int)).toNat) v ↔ bset t v ∨ bitI (rd B (i : Int)) v = true := by
   unfold bset bitI
   rw [Nat.testBit_or, Bool.or_eq_true]
  rw [e]
  constructor
  ·rintro ((h | h) | ⟨j, h1, h2, h3⟩)
   ·exact .inl h
   ·exact .inr ⟨i, Nat.le_refl _, by omega, h⟩
   ·exact .inr ⟨j, by omega, by omega, h3⟩
  ·rintro (h | ⟨j, h1, h2, h3⟩)
   ·exact .inl (.inl h)
   ·by_cases e : j = i
    ·subst e; exact .inl (.inr h3)
    ·exact .inr ⟨j, by omega, by omega, h3⟩
theorem unionF_lt (B : List Int) {N : Nat} : ∀ (d i t : Nat), t < 2 ^ N → (∀ j, i ≤ j → j < i + d → 0 ≤ rd B (j : Int) ∧ rd B (j : Int) < ((2 ^ N : Nat) : Int)) → unionF B d i t < 2 ^ N
 | 0, i, t, h, _ => h
 | d + 1, i, t, h, hb => by
  rw [unionF]
  have := hb i (Nat.le_refl _) (by omega)
  exact unionF_lt B d (i + 1) _ (Nat.or_lt_two_pow h (by omega)) fun j h1 h2 => hb j (by omega) (by omega)
theorem topsF_none (B P : List Int) (v : Nat) : ∀ (d i t : Nat), (∀ j, i ≤ j → j < i + d → bitI (rd B (j : Int)) v = false) → topsF B P v d i t = t
 | 0, i, t, _ => rfl
 | d + 1, i, t, h => by
  rw [topsF, h i (Nat.le_refl _) (by omega), topsF_none B P v d (i + 1) _ fun j h1 h2 => h j (by omega) (by omega)]
  simp
theorem nbF_iff (B : List Int) (v : Nat) : ∀ l : List Nat, nbF B v l = true ↔ ∀ u ∈ l, ∃ i : Nat, i < B.length ∧ bitI (rd B (i : Int)) v = true ∧ bitI (rd B (i : Int)) u = true
 | [] => by simp [nbF]
 | u :: l => by
  rw [nbF, Bool.and_eq_true, nbF_iff B v l, List.any_eq_true]
  have e : (∃ x ∈ B, bothB u v x = true) ↔ ∃ i : Nat, i < B.length ∧ bitI (rd B (i : Int)) v = true ∧ bitI (rd B (i : Int)) u = true := by
   constructor
   ·rintro ⟨x, hx, h⟩
    obtain ⟨i, hi, rfl⟩ := List.mem_iff_getElem.1 hx
    have hr : rd B (i : Int) = B[i] := by unfold rd; rw [Int.toNat_natCast, List.getD_eq_getElem?_getD, List.getElem?_eq_getElem hi]; rfl
    unfold bothB at h
    rw [Bool.and_eq_true] at h
    exact ⟨i, hi, by rw [hr]; exact h.2, by rw [hr]; exact h.1⟩
   ·rintro ⟨i, hi, h1, h2⟩
    have hr : rd B (i : Int) = B[i] := by unfold rd; rw [Int.toNat_natCast, List.getD_eq_getElem?_getD, List.getElem?_eq_getElem hi]; rfl
    rw [hr] at h1 h2
    exact ⟨B[i], List.getElem_mem hi, by unfold bothB; rw [Bool.and_eq_true]; exact ⟨h2, h1⟩⟩
  rw [e]
  simp
theorem tl2_iff (G : List Nat) (B P : List Int) : ∀ (d v : Nat), tl2 G B P d v = true ↔ ∀ u, v ≤ u → u < v + d → topsF B P u B.length 0 0 = 1 ∧ nbF B u (els (G.getD u 0) 9) = true
 | 0, v => by
  rw [tl2]
  exact ⟨fun _ u h1 h2 => by omega, fun _ => rfl⟩
 | d + 1, v => by
  rw [tl2]
  constructor
  ·intro h u h1 h2
   by_cases ht : topsF B P v B.length 0 0 = 1
   ·rw [if_pos ht, Bool.and_eq_true, tl2_iff G B P d (v + 1)] at h
    by_cases e : u = v
    ·subst e; exact ⟨ht, h.1⟩
    ·exact h.2 u (by omega) (by omega)
   ·rw [if_neg ht] at h; cases h
  ·intro h
   obtain ⟨h1, h2⟩ := h v (Nat.le_refl _) (by omega)
   rw [if_pos h1, h2, Bool.true_and, tl2_iff G B P d (v + 1)]
   exact fun u h3 h4 => h u (by omega) (by omega)
theorem up_within {P : List Int} {n : Nat} (hP : ∀ i, i < n → rd P (i : Int) < (n : Int)) {i : Nat} (hi : i < n) {m : Nat} (hm : upN P m (i : Int) < 0) : upN P n (i : Int) < 0 := by
 apply Classical.byContradiction
 intro hno
 have stay : ∀ d e : Nat, upN P d (i : Int) < 0 → upN P (d + e) (i : Int) < 0 := fun d e h => by rw [upN_add, upN_neg P h]; exact h
 have hin : ∀ d, d ≤ n → ∃ j : Nat, upN P d (i : Int) = (j : Int) ∧ j < n := by
  intro d
  induction d with
  | zero => intro _; exact ⟨i, rfl, hi⟩
  | succ d ih =>
   intro hd
   obtain ⟨j, h1, h2⟩ := ih (by omega)
   have h3 : upN P (d + 1) (i : Int) = rd P (j : Int) := by
    rw [upN_add P d 1, h1]
    show upI P (j : Int) = _
    rw [upI, if_neg (by omega)]
   have h4 : ¬ upN P (d + 1) (i : Int) < 0 := fun h => hno (by
    have := stay (d + 1) (n - (d + 1)) h
    rwa [show d + 1 + (n - (d + 1)) = n by omega] at this)
   have := hP j h2
   exact ⟨(rd P (j : Int)).toNat, by rw [h3] at h4 ⊢; omega, by rw [h3] at h4; omega⟩
 obtain ⟨a, b, hab, hb, e⟩ : ∃ a b, a < b ∧ b ≤ n ∧ upN P a (i : Int) = upN P b (i : Int) := by
  apply Classical.byContradiction
  intro hx
  have hnd : ((List.range (n + 1)).map fun d => (upN P d (i : Int)).toNat).Nodup := by
   refine List.pairwise_map.2 (List.Pairwise.imp_of_mem (fun {a b} ha hb hlt e => hx ⟨a, b, hlt, by have := List.mem_range.1 hb; omega, ?_⟩) List.pairwise_lt_range)
   obtain ⟨j, h1, _⟩ := hin a (by have := List.mem_range.1 ha; omega)
   obtain ⟨j', h1', _⟩ := hin b (by have := List.mem_range.1 hb; omega)
   rw [h1, h1'] at e ⊢
   have e2 : j = j' := by simpa using e
   rw [e2]
  have := nodup_le hnd (m := List.range n) fun x hx => by
   obtain ⟨d, hd, rfl⟩ := List.mem_map.1 hx
   obtain ⟨j, h1, h2⟩ := hin d (by have := List.mem_range.1 hd; omega)
   rw [h1]
   exact List.mem_range.2 (by simpa using h2)
  simp at this
  omega
 have round : ∀ k, upN P (a + k * (b - a)) (i : Int) = upN P a (i : Int) := by
  intro k
  induction k with
  | zero => simp
  | succ k ih =>
   rw [show a + (k + 1) * (b - a) = (a + k * (b - a)) + (b - a) by rw [Nat.succ_mul]; omega, upN_add, ih, ← upN_add, show a + (b - a) = b by omega, ← e]
 obtain ⟨j, h1, h2⟩ := hin a (by omega)
 have h3 := round m
 have h4 : m ≤ a + m * (b - a) := by
  have : m * 1 ≤ m * (b - a) := Nat.mul_le_mul_left m (by omega)
  omega
 have h5 := stay m (a + m * (b - a) - m) hm
 rw [show m + (a + m * (b - a) - m) = a + m * (b - a) by omega, h3, h1] at h5
 omega
theorem rd_mem {P : List Int} {i : Nat} (hi : i < P.length) : rd P (i : Int) = P[i] := by unfold rd; rw [Int.toNat_natCast, List.getD_eq_getElem?_getD, List.getElem?_eq_getElem hi]; rfl
theorem acyc_iff {P : List Int} {n : Nat} (hl : P.length = n) (hP : ∀ i, i < n → rd P (i : Int) < (n : Int)) : P.any (cycB P n) = false ↔ ∀ i : Nat, i < n → upN P n (i : Int) < 0 := by
 rw [List.any_eq_false]
 have up1 : ∀ i : Nat, upN P n (rd P (i : Int)) = upN P (n + 1) (i : Int) := fun i => by
  rw [upN, upI, if_neg (by omega)]
 constructor
 ·intro h i hi
  have h1 := h (rd P (i : Int)) (by rw [rd_mem (by omega)]; exact List.getElem_mem _)
  rw [cycB_up] at h1
  have h2 : upN P (n + 1) (i : Int) < 0 := by rw [← up1]; simpa using h1
  exact up_within hP hi h2
 ·intro h x hx
  obtain ⟨i, hi, rfl⟩ := List.mem_iff_getElem.1 hx
  rw [cycB_up, ← rd_mem hi, up1, show n + 1 = n + 1 from rfl, upN_add P n 1]
  have := h i (by omega)
  show ¬ decide (0 ≤ upI P (upN P n (i : Int))) = true
  rw [upI, if_pos this]
  simp; omega
theorem treeB_iff {G : List Nat} (hG : Gr 9 G) (B P : List Int) : treeB G B P = true ↔ TD G B P := by
 have hn := hG.most
 have h0 := Nat.two_pow_pos G.length
 unfold treeB
 constructor
 ·intro h
  by_cases h1 : B.length < 1
  ·rw [if_pos h1] at h; cases h
  rw [if_neg h1] at h
  by_cases h2 : 30 < B.length
  ·rw [if_pos h2] at h; cases h
  rw [if_neg h2] at h
  by_cases h3 : P.length = B.length
  ·rw [if_pos h3] at h
   cases ht : tl1 B P B.length (2 ^ G.length - 1) B.length 0 0 0 with
   | none => rw [ht] at h; cases h
   | some r =>
    rw [ht] at h
    have hin : ∀ i, i < B.length → InT G B P B.length i := fun i hi => tl1_in G B P B.length ht i (Nat.zero_le _) (by omega)
    rw [tl1_eq G B P B.length B.length 0 0 0 fun j _ hj => hin j (by omega)] at ht
    obtain rfl := Option.some.inj ht
    simp only [treeB2] at h
    by_cases h4 : rootsF P B.length 0 0 = 1
    ·rw [if_pos h4] at h
     by_cases h5 : unionF B B.length 0 0 = 2 ^ G.length - 1
     ·rw [if_pos h5] at h
      by_cases h6 : P.any (cycB P P.length) = true
      ·rw [if_pos h6] at h; cases h
      ·rw [if_neg h6, tl2_iff] at h
       rw [h3] at h6
       refine ⟨by omega, by omega, h3, hin, h4, (acyc_iff h3 fun i hi => (hin i hi).2.1).1 (by simpa using h6), fun v hv => (h v (Nat.zero_le _) (by omega)).1, fun v u hvu => ?_⟩
       have hv := hG.adj_lt' hvu
       have hu := hG.adj_lt hvu
       exact (nbF_iff B v _).1 (h v (Nat.zero_le _) (by omega)).2 u (mem_els.2 ⟨by omega, hvu⟩)
     ·rw [if_neg h5] at h; cases h
    ·rw [if_neg h4] at h; cases h
  ·rw [if_neg h3] at h; cases h
 ·intro h
  have e1 := h.pos
  have e2 := h.most
  rw [if_neg (by omega), if_neg (by omega), if_pos h.len, tl1_eq G B P B.length B.length 0 0 0 fun j _ hj => h.inn j (by omega)]
  have hun : unionF B B.length 0 0 = 2 ^ G.length - 1 := Nat.eq_of_testBit_eq fun v => by
   have h1 := unionF_bit B v B.length 0 0
   have h2 := all_bit G.length v
   have h3 : bset (unionF B B.length 0 0) v ↔ bset (2 ^ G.length - 1) v := by
    rw [h1, h2]
    constructor
    ·intro h4
     have h5 : unionF B B.length 0 0 < 2 ^ G.length := unionF_lt B B.length 0 0 h0 fun j _ hj => ⟨(h.inn j (by omega)).2.2.1, (h.inn j (by omega)).2.2.2⟩
     exact bit_lt h5 (h1.2 h4)
    ·intro hv
     apply Classical.byContradiction
     intro h4
     have h5 := h.tops v hv
     rw [topsF_none B P v B.length 0 0 fun j _ hj => by
      cases hb : bitI (rd B (j : Int)) v
      ·rfl
      ·exact absurd (.inr ⟨j, Nat.zero_le _, by omega, hb⟩) h4] at h5
     cases h5
   unfold bset at h3
   exact Bool.eq_iff_iff.2 h3
  simp only [treeB2]
  have hac := (acyc_iff h.len fun i hi => (h.inn i hi).2.1).2 h.acyc
  rw [if_pos h.root, if_pos hun, h.len, if_neg (by rw [hac]; simp), tl2_iff]
  intro v _ hv
  refine ⟨h.tops v (by omega), (nbF_iff B v _).2 fun u hu => h.edge v u (mem_els.1 hu).2⟩
def metF (B : List Int) (v : Nat) : Nat → Nat → Nat → Nat
 | 0, _, t => t
 | d + 1, i, t => metF B v d (i + 1) (if bitI (rd B (i : Int)) v then t ||| (rd B (i : Int)).toNat else t)
theorem metF_bit (B : List Int) (v u : Nat) : ∀ (d i t : Nat), bset (metF B v d i t) u ↔ bset t u ∨ ∃ j, i ≤ j ∧ j < i + d ∧ bitI (rd B (j : Int)) v = true ∧ bitI (rd B (j : Int)) u = true
 | 0, i, t => ⟨fun h => .inl h, fun h => by
   rcases h with h | ⟨j, h1, h2, _⟩
   ·exact h
   ·omega⟩
 | d + 1, i, t => by
  rw [metF, metF_bit B v u d (i + 1)]
  have e : bset (if bitI (rd B (i : Int)) v then t ||| (rd B (i : Int)).toNat else t) u ↔ bset t u ∨ (bitI (rd B (i : Int)) v = true ∧ bitI (rd B (i : Int)) u = true) := by
   by_cases hb : bitI (rd B (i : Int)) v = true
   ·rw [if_pos hb]
    unfold bset bitI at *
    rw [Nat.testBit_or, Bool.or_eq_true]
    simp [hb]
   ·rw [if_neg hb]
    simp [hb]
  rw [e]
  constructor
  ·rintro ((h | h) | ⟨j, h1, h2, h3⟩)
   ·exact .inl h
   ·exact .inr ⟨i, Nat.le_refl _, by omega, h⟩
   ·exact .inr ⟨j, by omega, by omega, h3⟩
  ·rintro (h | ⟨j, h1, h2, h3⟩)
   ·exact .inl (.inl h)
   ·by_cases e : j = i
    ·subst e; exact .inl (.inr h3)
    ·exact .inr ⟨j, by omega, by omega, h3⟩
section
variable {G : List Nat} (hG : Gr 9 G) {B P : List Int} {n : Nat} (hB : B.length = n) (hP : P.length = n) (hn : n ≤ 30)
include hG hB hP hn
theorem isTree_l4 (hin : ∀ i, i < n → InT G B P n i) (m v : Nat) (hv : v < G.length) (X : Int × Bool)
  (hbad : (topsF B P v n 0 0 ≠ 1 ∨ ∃ u, Adj G v u ∧ ¬ bset (metF B v n 0 0) u) → X = (0, false))
  (hgood : topsF B P v n 0 0 = 1 → (∀ u, Adj G v u → bset (metF B v n 0 0) u) → Ev (fun k => lampblackref02_IsTree.l3 k (gi G) (m : Int) (G.length : Int) ((v + 1 : Nat) : Int) B P) X) :
  ∀ d i t a, i + d = n → t ≤ i → a < 2 ^ G.length → topsF B P v d i t = topsF B P v n 0 0 → metF B v d i a = metF B v n 0 0 →
   Ev (fun k => lampblackref02_IsTree.l4 k (gi G) (m : Int) (v : Int) (t : Int) (a : Int) (G.length : Int) (v : Int) B (n : Int) (i : Int) B P) X := by
 have hg9 := hG.most
 have h29 : 2 ^ G.length ≤ 2 ^ 9 := Nat.pow_le_pow_right (by omega) hg9
 intro d
 induction d with
 | zero =>
  intro i t a hi ht ha h1 h2
  rw [topsF] at h1
  rw [metF] at h2
  have hrow := hG.lt v hv
  by_cases h3 : t = 1
  ·have hr : rd (gi G) (v : Int) = ((G.getD v 0 : Nat) : Int) := rd_gi G v
   have hd := b_andNot (G.getD v 0) a (by omega) (by omega)
   by_cases h4 : ∀ u, Adj G v u → bset (metF B v n 0 0) u
   ·have h0 : diff (G.getD v 0) a = 0 := Nat.eq_of_testBit_eq fun u => by
     rw [diff_testBit, Nat.zero_testBit]
     cases hb : (G.getD v 0).testBit u
     ·rfl
     ·have := h4 u hb
      rw [← h2] at this
      unfold bset at this
      rw [this]; rfl
    refine Ev.step (fun k => ?_) (hgood (by omega) h4)
    rw [lampblackref02_IsTree.l4, if_neg (by omega), if_pos (by omega), if_pos (by omega), if_pos (by rw [gi_length]; omega), hr, hd, h0, if_pos (by omega), wrap_succ v (by omega)]
   ·rw [hbad (.inr (by
     apply Classical.byContradiction
     intro hno
     exact h4 fun u hu => Classical.byContradiction fun hx => hno ⟨u, hu, hx⟩))]
    have h0 : diff (G.getD v 0) a ≠ 0 := fun h => h4 fun u hu => by
     have h5 := diff_testBit (G.getD v 0) a u
     rw [h, Nat.zero_testBit] at h5
     have h6 : (G.getD v 0).testBit u = true := hu
     rw [h6] at h5
     rw [← h2]
     unfold bset
     simpa using h5
    refine Ev.step (f := fun _ => some (0, false)) (fun k => ?_) (Ev.some rfl)
    rw [lampblackref02_IsTree.l4, if_neg (by omega), if_pos (by omega), if_pos (by omega), if_pos (by rw [gi_length]; omega), hr, hd, if_neg (by omega)]
  ·rw [hbad (.inl (by omega))]
   refine Ev.step (f := fun _ => some (0, false)) (fun k => ?_) (Ev.some rfl)
   rw [lampblackref02_IsTree.l4, if_neg (by omega), if_neg (by omega)]
 | succ d ih =>
  intro i t a hi ht ha h1 h2
  have hil : i < n := by omega
  obtain ⟨p1, p2, b1, b2⟩ := hin i hil
  rw [topsF] at h1
  rw [metF] at h2
  obtain ⟨b, hb⟩ : ∃ b : Nat, rd B (i : Int) = (b : Int) := ⟨(rd B (i : Int)).toNat, by omega⟩
  have hbt : (rd B (i : Int)).toNat = b := by omega
  have hbl : b < 2 ^ G.length := by omega
  have hbi : bitI (rd B (i : Int)) v = b.testBit v := by unfold bitI; rw [hbt]
  rw [hbi] at h1 h2
  rw [hbt] at h2
  cases hbv : b.testBit v
  ·rw [hbv] at h1 h2
   simp at h1 h2
   refine Ev.step (fun k => ?_) (ih (i + 1) t a (by omega) (by omega) ha h1 h2)
   rw [lampblackref02_IsTree.l4, if_pos (by omega), if_pos (by omega), if_pos (by omega), if_pos (by omega), hb, if_pos ((bit_zero b v (by omega) (by omega)).2 hbv), wrap_succ i (by omega)]
  ·rw [hbv] at h1 h2
   simp only [Bool.true_and, if_true] at h1 h2
   have hor := b_or a b (by omega) (by omega)
   have hal : a ||| b < 2 ^ G.length := Nat.or_lt_two_pow ha hbl
   have hnz : ¬ Go.bits .and .i64 (shr .i64 (b : Int) (v : Int)) 1 = 0 := fun h => by
    rw [bit_zero b v (by omega) (by omega), hbv] at h; cases h
   by_cases hp : rd P (i : Int) < 0
   ·rw [decide_eq_true hp, Bool.true_or, if_pos rfl] at h1
    refine Ev.step (fun k => ?_) (ih (i + 1) (t + 1) (a ||| b) (by omega) (by omega) hal h1 h2)
    rw [lampblackref02_IsTree.l4, if_pos (by omega), if_pos (by omega), if_pos (by omega), if_pos (by omega), hb, if_neg hnz, if_pos (by omega), if_pos hp, hor, wrap_succ i (by omega), wrap_succ t (by omega)]
   ·rw [decide_eq_false hp, Bool.false_or] at h1
    obtain ⟨q, hq⟩ : ∃ q : Nat, rd P (i : Int) = (q : Int) := ⟨(rd P (i : Int)).toNat, by omega⟩
    have hqn : q < n := by omega
    obtain ⟨_, _, c1, c2⟩ := hin q hqn
    obtain ⟨c, hc⟩ : ∃ c : Nat, rd B (q : Int) = (c : Int) := ⟨(rd B (q : Int)).toNat, by omega⟩
    have hcl : c < 2 ^ G.length := by omega
    have hci : bitI (rd B (q : Int)) v = c.testBit v := by unfold bitI; rw [hc]; rfl
    rw [hq, hci] at h1
    cases hcv : c.testBit v
    ·rw [hcv] at h1
     simp only [Bool.not_false, if_true] at h1
     refine Ev.step (fun k => ?_) (ih (i + 1) (t + 1) (a ||| b) (by omega) (by omega) hal h1 h2)
     rw [lampblackref02_IsTree.l4, if_pos (by omega), if_pos (by omega), if_pos (by omega), if_pos (by omega), hb, if_neg hnz, if_pos (by omega), if_neg hp, hq, if_pos (by omega), if_pos (by omega), hc, if_pos ((bit_zero c v (by omega) (by omega)).2 hcv), hor, wrap_succ i (by omega), wrap_succ t (by omega)]
    ·rw [hcv] at h1
     simp only [Bool.not_true, Bool.false_eq_true, if_false] at h1
     refine Ev.step (fun k => ?_) (ih (i + 1) t (a ||| b) (by omega) (by omega) hal h1 h2)
     rw [lampblackref02_IsTree.l4, if_pos (by omega), if_pos (by omega), if_pos (by omega), if_pos (by omega), hb, if_neg hnz, if_pos (by omega), if_neg hp, hq, if_pos (by omega), if_pos (by omega), hc, if_neg (fun h => by rw [bit_zero c v (by omega) (by omega), hcv] at h; cases h), hor, wrap_succ i (by omega)]
theorem isTree_l3 (hin : ∀ i, i < n → InT G B P n i) (m : Nat) (hm : m ≤ 9) (X : Int × Bool)
  (hbad : (∃ v, v < G.length ∧ (topsF B P v n 0 0 ≠ 1 ∨ ∃ u, Adj G v u ∧ ¬ bset (metF B v n 0 0) u)) → X = (0, false))
  (hgood : (∀ v, v < G.length → topsF B P v n 0 0 = 1 ∧ ∀ u, Adj G v u → bset (metF B v n 0 0) u) → X = ((m : Int) - 1, true)) :
  ∀ d v, v + d = G.length → (∀ u, u < v → topsF B P u n 0 0 = 1 ∧ ∀ w, Adj G u w → bset (metF B u n 0 0) w) → Ev (fun k => lampblackref02_IsTree.l3 k (gi G) (m : Int) (G.length : Int) (v : Int) B P) X := by
 have hg9 := hG.most
 intro d
 induction d with
 | zero =>
  intro v hv hbe
  rw [hgood fun u hu => hbe u (by omega)]
  refine Ev.step (f := fun _ => some (wrap64 ((m : Int) - 1), true)) (fun k => by rw [lampblackref02_IsTree.l3, if_neg (by omega)]) (Ev.some ?_)
  rw [w64_small _ (by omega) (by omega)]
 | succ d ih =>
  intro v hv hbe
  refine Ev.step (fun k => by rw [lampblackref02_IsTree.l3, if_pos (by omega), hB]) ?_
  refine isTree_l4 hG hB hP hn hin m v (by omega) X (fun h => hbad ⟨v, by omega, h⟩) (fun h1 h2 => ih (v + 1) (by omega) fun u hu => ?_) n 0 0 0 (by omega) (Nat.le_refl _) (Nat.two_pow_pos _) rfl rfl
  by_cases e : u = v
  ·subst e; exact ⟨h1, h2⟩
  ·exact hbe u (by omega)
omit hG in
theorem isTree_l2 (hin : ∀ i, i < n → InT G B P n i) (ro m i : Nat) (hi : i < n) (X : Int × Bool)
  (hbad : ¬ upN P n (i : Int) < 0 → X = (0, false))
  (hgood : upN P n (i : Int) < 0 → Ev (fun k => lampblackref02_IsTree.l1 k (gi G) (n : Int) (ro : Int) (m : Int) (n : Int) ((i + 1 : Nat) : Int) B P) X) :
  ∀ d j a, j + d = n → a < (n : Int) → upN P d a = upN P n (i : Int) → Ev (fun k => lampblackref02_IsTree.l2 k (gi G) (n : Int) (ro : Int) (m : Int) a (n : Int) (i : Int) (n : Int) (j : Int) B P) X := by
 intro d
 induction d with
 | zero =>
  intro j a hj ha h
  rw [upN] at h
  by_cases h0 : a < 0
  ·refine Ev.step (fun k => ?_) (hgood (by omega))
   rw [lampblackref02_IsTree.l2, if_neg (by omega), if_neg (by omega), wrap_succ i (by omega)]
  ·rw [hbad (by omega)]
   refine Ev.step (f := fun _ => some (0, false)) (fun k => ?_) (Ev.some rfl)
   rw [lampblackref02_IsTree.l2, if_neg (by omega), if_pos (by omega)]
 | succ d ih =>
  intro j a hj ha h
  rw [upN, upI] at h
  by_cases h0 : a < 0
  ·rw [if_pos h0] at h
   refine Ev.step (fun k => ?_) (ih (j + 1) a (by omega) ha h)
   rw [lampblackref02_IsTree.l2, if_pos (by omega), if_neg (by omega), wrap_succ j (by omega)]
  ·rw [if_neg h0] at h
   have h2 := (hin a.toNat (by omega)).2.1
   rw [show ((a.toNat : Nat) : Int) = a by omega] at h2
   refine Ev.step (fun k => ?_) (ih (j + 1) (rd P a) (by omega) h2 h)
   rw [lampblackref02_IsTree.l2, if_pos (by omega), if_pos (by omega), if_pos (by omega), if_pos (by omega), wrap_succ j (by omega)]
omit hG in
theorem isTree_l1 (hin : ∀ i, i < n → InT G B P n i) (ro m : Nat) (X : Int × Bool)
  (hbad : ((∃ i : Nat, i < n ∧ ¬ upN P n (i : Int) < 0) ∨ ro ≠ 1) → X = (0, false))
  (hgood : (∀ i : Nat, i < n → upN P n (i : Int) < 0) → ro = 1 → Ev (fun k => lampblackref02_IsTree.l3 k (gi G) (m : Int) (G.length : Int) 0 B P) X) :
  ∀ d i, i + d = n → (∀ j : Nat, j < i → upN P n (j : Int) < 0) → Ev (fun k => lampblackref02_IsTree.l1 k (gi G) (n : Int) (ro : Int) (m : Int) (n : Int) (i : Int) B P) X := by
 intro d
 induction d with
 | zero =>
  intro i hi hbe
  by_cases h1 : ro = 1
  ·refine Ev.step (fun k => ?_) (hgood (fun j hj => hbe j (by omega)) h1)
   rw [lampblackref02_IsTree.l1, if_neg (by omega), if_pos (by omega), gi_length]
  ·rw [hbad (.inr h1)]
   refine Ev.step (f := fun _ => some (0, false)) (fun k => ?_) (Ev.some rfl)
   rw [lampblackref02_IsTree.l1, if_neg (by omega), if_neg (by omega)]
 | succ d ih =>
  intro i hi hbe
  refine Ev.step (fun k => by rw [lampblackref02_IsTree.l1, if_pos (by omega)]) ?_
  refine isTree_l2 hB hP hn hin ro m i (by omega) X (fun h => hbad (.inl ⟨i, by omega, h⟩)) (fun h => ih (i + 1) (by omega) fun j hj => ?_) n 0 (i : Int) (by omega) (by omega) rfl
  by_cases e : j = i
  ·subst e; exact h
  ·exact hbe j (by omega)
theorem isTree_l0 (X : Int × Bool) (hbad : (∃ i, i < n ∧ ¬ InT G B P n i) → X = (0, false)) (RO MO : Nat)
  (hgood : (∀ i, i < n → InT G B P n i) → Ev (fun k => lampblackref02_IsTree.l1 k (gi G) (n : Int) (RO : Int) (MO : Int) (n : Int) 0 B P) X) :
  ∀ d i ro m, i + d = n → ro ≤ i → rootsF P d i ro = RO → mostF B d i m = MO → (∀ j, j < i → InT G B P n j) → Ev (fun k => lampblackref02_IsTree.l0 k (gi G) (n : Int) (ro : Int) (m : Int) P (n : Int) (i : Int) B P) X := by
 have hg9 := hG.most
 have h29 : 2 ^ G.length ≤ 2 ^ 9 := Nat.pow_le_pow_right (by omega) hg9
 intro d
 induction d with
 | zero =>
  intro i ro m hi hro h1 h2 hbe
  rw [rootsF] at h1
  rw [mostF] at h2
  subst h1 h2
  exact Ev.step (fun k => by rw [lampblackref02_IsTree.l0, if_neg (by omega), hP]) (hgood fun j hj => hbe j (by omega))
 | succ d ih =>
  intro i ro m hi hro h1 h2 hbe
  have hil : i < n := by omega
  have hs := s_one G.length (by omega)
  have bad : ¬ InT G B P n i → Ev (fun k => lampblackref02_IsTree.j2 k (gi G) (n : Int) (ro : Int) (m : Int) (i : Int) (rd P (i : Int)) P (n : Int) (i : Int) true B P) X := fun h => by
   rw [hbad ⟨i, hil, h⟩]
   exact Ev.step (f := fun _ => some (0, false)) (fun k => by rw [lampblackref02_IsTree.j2, if_pos rfl]) (Ev.some rfl)
  by_cases p1 : rd P (i : Int) < -1
  ·refine Ev.step (fun k => ?_) (bad fun h => by have := h.1; omega)
   rw [lampblackref02_IsTree.l0, if_pos (by omega), if_pos (by omega), if_pos (by omega), if_pos p1]
  by_cases p2 : rd P (i : Int) ≥ (n : Int)
  ·refine Ev.step (fun k => ?_) (bad fun h => by have := h.2.1; omega)
   rw [lampblackref02_IsTree.l0, if_pos (by omega), if_pos (by omega), if_pos (by omega), if_neg p1, if_pos p2]
  by_cases b1 : rd B (i : Int) < 0
  ·refine Ev.step (fun k => ?_) (bad fun h => by have := h.2.2.1; omega)
   rw [lampblackref02_IsTree.l0, if_pos (by omega), if_pos (by omega), if_pos (by omega), if_neg p1, if_neg p2, if_pos (by omega), if_pos b1]
  by_cases b2 : rd B (i : Int) ≥ ((2 ^ G.length : Nat) : Int)
  ·refine Ev.step (fun k => ?_) (bad fun h => by have := h.2.2.2; omega)
   rw [lampblackref02_IsTree.l0, if_pos (by omega), if_pos (by omega), if_pos (by omega), if_neg p1, if_neg p2, if_pos (by omega), if_neg b1, gi_length, hs, decide_eq_true b2]
  ·have hin : InT G B P n i := ⟨by omega, by omega, by omega, by omega⟩
   obtain ⟨b, hb⟩ : ∃ b : Nat, rd B (i : Int) = (b : Int) := ⟨(rd B (i : Int)).toNat, by omega⟩
   have hbt : (rd B (i : Int)).toNat = b := by omega
   rw [rootsF] at h1
   rw [mostF, hbt] at h2
   have hbe2 : ∀ j, j < i + 1 → InT G B P n j := fun j hj => by
    by_cases e : j = i
    ·subst e; exact hin
    ·exact hbe j (by omega)
   have hsz := size_ev b (by omega)
   refine Ev.step (fun k => by rw [lampblackref02_IsTree.l0, if_pos (by omega), if_pos (by omega), if_pos (by omega), if_neg p1, if_neg p2, if_pos (by omega), if_neg b1, gi_length, hs, decide_eq_false b2]) ?_
   refine Ev.step (fun k => by rw [lampblackref02_IsTree.j2, if_neg (by simp), if_pos (by omega), if_pos (by omega), hb]) (Ev.bind hsz ?_)
   by_cases hp : rd P (i : Int) < 0
   ·rw [if_pos hp] at h1
    refine Ev.if_pos hp ?_
    rw [mx_nat, wrap_succ i (by omega), wrap_succ ro (by omega)]
    exact ih (i + 1) (ro + 1) _ (by omega) (by omega) h1 h2 hbe2
   ·rw [if_neg hp] at h1
    refine Ev.if_neg hp ?_
    rw [mx_nat, wrap_succ i (by omega)]
    exact ih (i + 1) ro _ (by omega) (by omega) h1 h2 hbe2
end
theorem mostF_le (B : List Int) : ∀ (d i t : Nat), t ≤ 9 → mostF B d i t ≤ 9
 | 0, i, t, h => h
 | d + 1, i, t, h => by
  rw [mostF]
  have := pc_le (rd B (i : Int)).toNat 9
  exact mostF_le B d (i + 1) _ (by omega)
theorem refIsTree_ev {G : List Nat} (hG : Gr 9 G) (B P : List Int) : ∃ r : Int × Bool, Ev (fun k => lampblackref02_IsTree.f k (gi G) B P) r ∧ ((TD G B P ∧ r = ((mostF B B.length 0 0 : Int) - 1, true)) ∨ (¬ TD G B P ∧ r = (0, false))) := by
 have no : ∀ b : Bool, b = true → Ev (fun k => lampblackref02_IsTree.j0 k (gi G) (B.length : Int) b B P) (0, false) := fun b hb => by
  rw [hb]
  exact Ev.step (f := fun _ => some (0, false)) (fun k => by rw [lampblackref02_IsTree.j0, if_pos rfl]) (Ev.some rfl)
 unfold lampblackref02_IsTree.f
 by_cases h1 : B.length < 1
 ·exact ⟨_, Ev.if_pos (by omega) (no true rfl), .inr ⟨fun h => by have := h.pos; omega, rfl⟩⟩
 by_cases h2 : 30 < B.length
 ·exact ⟨_, Ev.if_neg (by omega) (Ev.if_pos (by omega) (no true rfl)), .inr ⟨fun h => by have := h.most; omega, rfl⟩⟩
 by_cases h3 : P.length = B.length
 ·obtain ⟨r, hr⟩ : ∃ r : Int × Bool, (TD G B P ∧ r = ((mostF B B.length 0 0 : Int) - 1, true)) ∨ (¬ TD G B P ∧ r = (0, false)) := by
   by_cases h : TD G B P
   ·exact ⟨_, .inl ⟨h, rfl⟩⟩
   ·exact ⟨_, .inr ⟨h, rfl⟩⟩
  have hbad : ¬ TD G B P → r = (0, false) := fun h => by
   rcases hr with hr | hr
   ·exact absurd hr.1 h
   ·exact hr.2
  have hgood : TD G B P → r = ((mostF B B.length 0 0 : Int) - 1, true) := fun h => by
   rcases hr with hr | hr
   ·exact hr.2
   ·exact absurd h hr.1
  refine ⟨r, Ev.if_neg (by omega) (Ev.if_neg (by omega) ?_), hr⟩
  have hne : ((P.length : Int) != (B.length : Int)) = false := by rw [h3]; simp
  rw [hne]
  refine Ev.step (fun k => by rw [lampblackref02_IsTree.j0, if_neg (by simp), h3]) ?_
  refine isTree_l0 hG rfl h3 (by omega) r (fun ⟨i, hi, h⟩ => hbad fun ht => h (ht.inn i hi)) (rootsF P B.length 0 0) (mostF B B.length 0 0) (fun hin => ?_) B.length 0 0 0 (by omega) (Nat.le_refl _) rfl rfl (fun _ h => by omega)
  refine isTree_l1 (G := G) rfl h3 (by omega) hin _ _ r (fun h => hbad fun ht => ?_) (fun hac hro => ?_) B.length 0 (by omega) (fun _ h => by omega)
  ·rcases h with ⟨i, hi, h⟩ | h
   ·exact h (ht.acyc i hi)
   ·exact h ht.root
  ·have hedge : ∀ v u, bset (metF B v B.length 0 0) u ↔ ∃ i : Nat, i < B.length ∧ bitI (rd B (i : Int)) v = true ∧ bitI (rd B (i : Int)) u = true := fun v u => by
    rw [metF_bit]
    constructor
    ·rintro (h | ⟨j, _, h2, h3⟩)
     ·simp [bset] at h
     ·exact ⟨j, by omega, h3⟩
    ·rintro ⟨j, h2, h3⟩
     exact .inr ⟨j, Nat.zero_le _, by omega, h3⟩
   refine isTree_l3 hG rfl h3 (by omega) hin _ (mostF_le B _ 0 0 (by omega)) r (fun ⟨v, hv, h⟩ => hbad fun ht => ?_) (fun h => hgood ?_) G.length 0 (by omega) (fun _ h => by omega)
   ·rcases h with h | ⟨u, hu, h⟩
    ·exact h (ht.tops v hv)
    ·exact h ((hedge v u).2 (ht.edge v u hu))
   ·exact ⟨by omega, by omega, h3, hin, hro, hac, fun v hv => (h v hv).1, fun v u hvu => (hedge v u).1 ((h v (hG.adj_lt' hvu)).2 u hvu)⟩
 ·refine ⟨_, Ev.if_neg (by omega) (Ev.if_neg (by omega) (no _ ?_)), .inr ⟨fun h => h3 h.len, rfl⟩⟩
  simp; omega
end Go.Proofs.YtoffehihicabcaaDoor.X
end
section
namespace Go.Proofs.YtoffehihicabcaaDoor.T
open Go.RowKit YtoffehihicabcaaDoorW.PrintWords YtoffehihicabcaaDoorW.PrintLast YtoffehihicabcaaDoorW.PrintMore
def IsOrd (n : Nat) (l : List Int) : Prop := ∃ P : List Nat, l = gi P ∧ P.Nodup ∧ (∀ v ∈ P, v < n) ∧ P.length = n
theorem gi_inj {a b : List Nat} (h : gi a = gi b) : a = b := by
 induction a generalizing b with
 | nil => cases b with
  | nil => rfl
  | cons => simp [gi] at h
 | cons x a ih => cases b with
  | nil => simp [gi] at h
  | cons y b =>
   simp only [gi, List.map_cons, List.cons.injEq] at h
   rw [ih (show gi a = gi b from h.2)]
   congr 1
   omega
theorem IsOrd.of {n : Nat} {P : List Nat} (h1 : P.Nodup) (h2 : ∀ v ∈ P, v < n) : IsOrd n (gi P) ↔ P.length = n := by
 constructor
 ·rintro ⟨Q, e, _, _, h⟩
  rw [gi_inj e]; exact h
 ·intro h; exact ⟨P, rfl, h1, h2, h⟩
theorem IsOrd.length {n : Nat} {l : List Int} (h : IsOrd n l) : l.length = n := by
 obtain ⟨P, rfl, _, _, h⟩ := h
 rw [gi_length, h]
def lft (G : List Nat) (gone : Nat) : Nat := diff (2 ^ G.length - 1) gone
theorem lft_bit (G : List Nat) (gone v : Nat) : bset (lft G gone) v ↔ v < G.length ∧ ¬ bset gone v := by
 unfold lft; rw [diff_bset, all_bit]
theorem eq_bits {x y : Nat} (h : ∀ j, bset x j ↔ bset y j) : x = y := Nat.eq_of_testBit_eq fun j => by
 have := h j
 unfold bset at this
 exact Bool.eq_iff_iff.2 this
theorem or_bit (x v j : Nat) : bset (x ||| 2 ^ v) j ↔ bset x j ∨ j = v := by
 unfold bset
 rw [Nat.testBit_or, Bool.or_eq_true]
 have := two_pow_bit v j
 unfold bset at this
 rw [this]
theorem lft_or {G : List Nat} {gone v : Nat} : lft G (gone ||| 2 ^ v) = diff (lft G gone) (2 ^ v) := by
 apply eq_bits
 intro j
 rw [lft_bit, or_bit, diff_bset, lft_bit, two_pow_bit, not_or]
 exact and_assoc.symm
section
variable {G : List Nat} (hn : G.length ≤ 9)
include hn
end
end Go.Proofs.YtoffehihicabcaaDoor.T
end
section
namespace Go.Proofs.YtoffehihicabcaaDoor.X
open Go.RowKit YtoffehihicabcaaDoorW.PrintWords YtoffehihicabcaaDoorW.PrintLast YtoffehihicabcaaDoorW.PrintMore YtoffehihicabcaaDoor.T
theorem und3 : Tryd.prog.underlying 3 = some (.int .i64) := by kernel_rfl
theorem law3 : Maps.Keyed Tryd.prog 3 := Maps.int_keyed und3
theorem key3 (g : Nat) (hg : g < 2 ^ 62) : keyOf Tryd.prog 3 (.int .i64 (g : Int)) = some (.int .i64 (g : Int)) := Maps.keyOf_int_mk und3 (by
 have h1 : (IntKind.i64.min : Int) = -9223372036854775808 := by decide
 have h2 : (IntKind.i64.max : Int) = 9223372036854775807 := by decide
 simp only [Lit.wf, decide_eq_true_eq, Bool.and_eq_true, h1, h2]
 omega)
def Knows (N : Nat) (f : Nat → Bool) (D : DataW Unit) : Prop :=
 (∀ kl, Maps.has D kl = true → ∃ g : Nat, g < N ∧ kl = .int .i64 (g : Int)) ∧ ∀ g : Nat, g < N → Maps.has D (.int .i64 (g : Int)) = true → D.atKey (.int .i64 (g : Int)) (.lit (.bool false)) = .lit (.bool (f g))
theorem own_bound {W : World} {b n N : Nat} {f : Nat → Bool} {D : DataW Unit} (h : W.ownsMap Tryd.prog 3 (plainElem Tryd.prog 4) b n D) (hk : Knows N f D) : W.ownsMap Tryd.prog 3 (plainElem Tryd.prog 4) b N D := by
 obtain ⟨L, e, h1, h2⟩ := h.canon law3
 obtain ⟨es, clock, hb, F, hs, hD⟩ := h
 refine ⟨es, clock, hb, F, ?_, hD⟩
 rw [hD] at e
 have e := DataW.map.inj e
 have hlen : es.size = L.length := by rw [← e, length_sorted]; simp
 rw [hlen]
 have hnd : (L.map fun p => match p.1 with | .int _ z => z.toNat | _ => 0).Nodup := by
  refine List.pairwise_map.2 (((Maps.apart_of_rising h1).imp_of_mem fun {a b} ha hb hab e2 => hab ?_))
  have key : ∀ p ∈ L, ∃ g : Nat, g < N ∧ p.1 = .int .i64 (g : Int) := fun p hp => hk.1 p.1 (by
   rw [hD, e, Maps.has_eq]
   exact List.any_eq_true.2 ⟨p, hp, WideAt.sameKey_self (h2 p hp)⟩)
  obtain ⟨g1, _, k1⟩ := key a ha
  obtain ⟨g2, _, k2⟩ := key b hb
  rw [k1, k2] at e2 ⊢
  simp at e2
  rw [e2]
 have hle : (L.map fun p => match p.1 with | .int _ z => z.toNat | _ => 0).length ≤ (List.range N).length := by
  refine nodup_le hnd fun x hx => ?_
  obtain ⟨p, hp, rfl⟩ := List.mem_map.1 hx
  obtain ⟨g, hg, k⟩ := hk.1 p.1 (by
   rw [hD, e, Maps.has_eq]
   exact List.any_eq_true.2 ⟨p, hp, WideAt.sameKey_self (h2 p hp)⟩)
  rw [k]
  exact List.mem_range.2 (by simpa using hg)
 simpa using hle
structure KM (W0 W : World) (mB N : Nat) (f : Nat → Bool) : Prop where
 map : ∃ D, W.ownsMap Tryd.prog 3 (plainElem Tryd.prog 4) mB N D ∧ Knows N f D
 grown : W0.grownBy W (some mB)
theorem KM.low {W0 W V : World} {mB N : Nat} {f : Nat → Bool} (h : KM W0 W mB N f) (hg : W.grownBy V none) : KM W0 V mB N f := by
 obtain ⟨⟨D, h1, h2⟩, h3⟩ := h
 exact ⟨⟨D, h1.kept hg (by simp), h2⟩, grown_new h3 hg (fun _ e => by cases e)⟩
theorem KM.put {W0 W V : World} {mB N g : Nat} {f : Nat → Bool} {D : DataW Unit} (h : KM W0 W mB N f) (hk : Knows N f D) (hg : g < N) (hN : N < 2 ^ 62) (ho : V.ownsMap Tryd.prog 3 (plainElem Tryd.prog 4) mB (N + 1) (D.put (.int .i64 (g : Int)) (.lit (.bool (f g))))) (hD : Maps.IsMap D) (hgr : W.grownBy V (some mB)) : KM W0 V mB N f := by
 have hkl := law3.key (key3 g (by omega))
 have hk2 : Knows N f (D.put (.int .i64 (g : Int)) (.lit (.bool (f g)))) := by
  refine ⟨fun kl hh => ?_, fun g' hg' hh => ?_⟩
  ·by_cases e : kl = .int .i64 (g : Int)
   ·exact ⟨g, hg, e⟩
   ·rw [Maps.has_put_other e] at hh
    exact hk.1 kl hh
  ·by_cases e : (Lit.int .i64 (g' : Int)) = .int .i64 (g : Int)
   ·have eg : g' = g := by
     injection e with _ e
     omega
    subst eg
    rw [Maps.atKey_put_same hD hkl]
   ·rw [Maps.has_put_other e] at hh
    rw [Maps.atKey_put_other e]
    exact hk.2 g' hg' hh
 exact ⟨⟨_, own_bound ho hk2, hk2⟩, grown_then h.grown hgr⟩
end Go.Proofs.YtoffehihicabcaaDoor.X
end
section
namespace Go.Proofs.YtoffehihicabcaaDoor.X
open Go.RowKit YtoffehihicabcaaDoorW.PrintWords YtoffehihicabcaaDoorW.PrintLast YtoffehihicabcaaDoorW.PrintMore YtoffehihicabcaaDoor.T
attribute [local go_sem] max2_int min2_int max_two min_two max_three min_three max_four min_four run_makeMap
section
variable (tB kB bB cB mB : Nat)
end
theorem gi_toNatO (G : List Nat) : (gi G).map Int.toNat = G := by
 unfold gi
 rw [List.map_map]
 conv => rhs; rw [← List.map_id G]
 exact List.map_congr_left fun x _ => by simp
end Go.Proofs.YtoffehihicabcaaDoor.X
end
section
namespace Go.Proofs.YtoffehihicabcaaDoor.X
open Go.RowKit YtoffehihicabcaaDoorW.PrintWords YtoffehihicabcaaDoorW.PrintLast YtoffehihicabcaaDoorW.PrintMore
attribute [local go_sem] max2_int min2_int max_two min_two max_three min_three max_four min_four
noncomputable section
def lampblackref02_turn.f (k : Nat) (l0 : List Int) (a1 : Int) (a2 : Int) : Option (Int) := if 0 ≤ a2 then ((lampblackref01_Reached.f k l0 (Go.bits .or .i64 a1 (shl .i64 1 a2)) a2).bind fun t343 => ((lampblackref02_Around.f k l0 t343).bind fun t344 => ((lampblackref02_Size.f k (Go.bits .andNot .i64 (Go.bits .andNot .i64 t344 a1) (shl .i64 1 a2))).bind fun t345 => (some t345)))) else (none)
end
noncomputable section
mutual
def lampblackref02_rest.l0 : Nat → List Int → Int → List Int → Int → Option (List Int)
 | 0, _, _, _, _ => none
 | k + 1, x0, x3, x4, x5 => if x5 ≥ 0 then (if 0 ≤ x5 then (if x5 < (x4.length : Int) then (lampblackref02_rest.l1 k x0 x3 (x4.set (x5 : Int).toNat x3) x5 (x0.length : Int) 0) else (none)) else (none)) else (some x4)
def lampblackref02_rest.l1 : Nat → List Int → Int → List Int → Int → Int → Int → Option (List Int)
 | 0, _, _, _, _, _, _ => none
 | k + 1, x0, x3, x4, x5, x24, x25 => if x25 < x24 then (if 0 ≤ x25 then (if (Go.bits .and .i64 (shr .i64 x5 x25) 1) = 0 then (if 0 ≤ x5 then (if x5 < (x4.length : Int) then ((lampblackref02_turn.f k x0 x5 x25).bind fun t351 => (if 0 ≤ (Go.bits .or .i64 x5 (shl .i64 1 x25)) then (if (Go.bits .or .i64 x5 (shl .i64 1 x25)) < (x4.length : Int) then (lampblackref02_rest.l1 k x0 x3 (x4.set (x5 : Int).toNat (mn (rd x4 x5) (mx t351 (rd x4 (Go.bits .or .i64 x5 (shl .i64 1 x25)))))) x5 x24 (wrap64 (x25 + 1))) else (none)) else (none))) else (none)) else (none)) else (lampblackref02_rest.l1 k x0 x3 x4 x5 x24 (wrap64 (x25 + 1)))) else (none)) else (lampblackref02_rest.l0 k x0 x3 x4 (wrap64 (x5 - 1)))
end
end
noncomputable section
mutual
def lampblackref02_Order.l0 : Nat → List Int → List Int → List Int → Int → Int → Int → Option (List Int)
 | 0, _, _, _, _, _, _ => none
 | k + 1, x0, x3, x4, x5, x10, x11 => if x11 < x10 then (lampblackref02_Order.l1 k x0 x3 x4 x5 x10 x11 (x0.length : Int) 0) else (some x4)
def lampblackref02_Order.l1 : Nat → List Int → List Int → List Int → Int → Int → Int → Int → Int → Option (List Int)
 | 0, _, _, _, _, _, _, _, _ => none
 | k + 1, x0, x3, x4, x5, x10, x11, x14, x15 => if x15 < x14 then (if 0 ≤ x15 then (if (Go.bits .and .i64 (shr .i64 x5 x15) 1) = 0 then ((lampblackref02_turn.f k x0 x5 x15).bind fun t363 => (if 0 ≤ (Go.bits .or .i64 x5 (shl .i64 1 x15)) then (if (Go.bits .or .i64 x5 (shl .i64 1 x15)) < (x3.length : Int) then (if 0 < (x3.length : Int) then (if (mx t363 (rd x3 (Go.bits .or .i64 x5 (shl .i64 1 x15)))) ≤ (rd x3 0) then (if x4.length < 17592186044416 then (lampblackref02_Order.l0 k x0 x3 (x4 ++ [x15]) (Go.bits .or .i64 x5 (shl .i64 1 x15)) x10 (wrap64 (x11 + 1))) else (none)) else (lampblackref02_Order.l1 k x0 x3 x4 x5 x10 x11 x14 (wrap64 (x15 + 1)))) else (none)) else (none)) else (none))) else (lampblackref02_Order.l1 k x0 x3 x4 x5 x10 x11 x14 (wrap64 (x15 + 1)))) else (none)) else (lampblackref02_Order.l0 k x0 x3 x4 x5 x10 (wrap64 (x11 + 1)))
end
end
noncomputable section
end
noncomputable section
def lampblackref02_Along.l0 : Nat → List Int → Int → Int → List Int → Int → Int → Option (Int)
 | 0, _, _, _, _, _, _ => none
 | k + 1, x0, x5, x6, x9, x10, x11 => if x11 < x10 then (if 0 ≤ x11 then (if x11 < (x9.length : Int) then ((lampblackref02_turn.f k x0 x6 (rd x9 x11)).bind fun t371 => (if 0 ≤ (rd x9 x11) then (lampblackref02_Along.l0 k x0 (mx x5 t371) (Go.bits .or .i64 x6 (shl .i64 1 (rd x9 x11))) x9 x10 (wrap64 (x11 + 1))) else (none))) else (none)) else (none)) else (some x5)
end
noncomputable section
def lampblackref02_IsOrder.l0 : Nat → List Int → Int → Int → List Int → Int → Int → Option (Bool)
 | 0, _, _, _, _, _, _ => none
 | k + 1, x0, x1, x5, x8, x9, x10 => if x10 < x9 then (if 0 ≤ x10 then (if x10 < (x8.length : Int) then (if (rd x8 x10) < 0 then (some false) else (if (rd x8 x10) ≥ x1 then (some false) else (if 0 ≤ (rd x8 x10) then (if (Go.bits .and .i64 (shr .i64 x5 (rd x8 x10)) 1) = 1 then (some false) else (lampblackref02_IsOrder.l0 k x0 x1 (Go.bits .or .i64 x5 (shl .i64 1 (rd x8 x10))) x8 x9 (wrap64 (x10 + 1)))) else (none)))) else (none)) else (none)) else (some ((x0.length : Int) == x1))
end
noncomputable section
def width_town_isOrder.l0 : Nat → List Int → List Int → Int → List Int → Int → Int → Option (Bool)
 | 0, _, _, _, _, _, _ => none
 | k + 1, x0, x1, x5, x8, x9, x10 => if x10 < x9 then (if 0 ≤ x10 then (if x10 < (x8.length : Int) then (if (rd x8 x10) < 0 then (some false) else (if (rd x8 x10) ≥ (x0.length : Int) then (some false) else (if 0 ≤ (rd x8 x10) then (width_town_isOrder.l0 k x0 x1 (Go.bits .or .i64 x5 (shl .i64 1 (rd x8 x10))) x8 x9 (wrap64 (x10 + 1))) else (none)))) else (none)) else (none)) else (if (x1.length : Int) = (x0.length : Int) then ((width_town_all.f x0).bind fun t335 => (some (x5 == t335))) else (some false))
end
noncomputable section
mutual
def width_Along.j0 : Nat → List Int → List Int → Bool → Option (Int × Int)
 | 0, _, _, _ => none
 | k + 1, x1, x6, x24 => if x24 = true then (some (0, 2)) else (width_Along.l0 k x6 0 0 x1 (x1.length : Int) 0)
def width_Along.l0 : Nat → List Int → Int → Int → List Int → Int → Int → Option (Int × Int)
 | 0, _, _, _, _, _, _ => none
 | k + 1, x6, x8, x9, x25, x26, x27 => if x27 < x26 then (if 0 ≤ x27 then (if x27 < (x25.length : Int) then ((width_town_degree.f k x6 (rd x25 x27) x8).bind fun t342 => (if 0 ≤ (rd x25 x27) then (width_Along.l0 k x6 (Go.bits .or .i64 x8 (shl .i64 1 (rd x25 x27))) (mx x9 t342) x25 x26 (wrap64 (x27 + 1))) else (none))) else (none)) else (none)) else (some (x9, 0))
end
end
noncomputable section
end
noncomputable section
mutual
def width_town_decompose.l0 : Nat → List Int → List Int → Int → List Int → Int → Int → List Int → List Int → Option (List Int × List Int)
 | 0, _, _, _, _, _, _, _, _ => none
 | k + 1, x0, x3, x5, x13, x14, x15, x565000, x565001 => if x15 < x14 then (if 0 ≤ x15 then (if x15 < (x13.length : Int) then (if 0 ≤ (rd x13 x15) then ((width_town_part.f k x0 (shl .i64 1 (rd x13 x15)) (Go.bits .or .i64 x5 (shl .i64 1 (rd x13 x15)))).bind fun t566 => ((width_town_around.f k x0 t566).bind fun t567 => (if x565000.length < 17592186044416 then (width_town_decompose.l1 k x0 x3 (Go.bits .or .i64 x5 (shl .i64 1 (rd x13 x15))) (Go.bits .andNot .i64 (Go.bits .andNot .i64 t567 x5) (shl .i64 1 (rd x13 x15))) (wrap64 (x15 + 1)) (wrap64 (x15 + 1)) x13 x14 x15 (x565000 ++ [Go.bits .or .i64 (Go.bits .andNot .i64 (Go.bits .andNot .i64 t567 x5) (shl .i64 1 (rd x13 x15))) (shl .i64 1 (rd x13 x15))]) x565001) else (none)))) else (none)) else (none)) else (none)) else (some (x565000, x565001))
def width_town_decompose.l1 : Nat → List Int → List Int → Int → Int → Int → Int → List Int → Int → Int → List Int → List Int → Option (List Int × List Int)
 | 0, _, _, _, _, _, _, _, _, _, _, _ => none
 | k + 1, x0, x3, x5, x8, x9, x10, x13, x14, x15, x565000, x565001 => if x10 < (x3.length : Int) then (if 0 ≤ x10 then (if 0 ≤ (rd x3 x10) then (if (Go.bits .and .i64 (shr .i64 x8 (rd x3 x10)) 1) = 1 then (if x10 = (x3.length : Int) then (if x565001.length < 17592186044416 then (width_town_decompose.l0 k x0 x3 x5 x13 x14 (wrap64 (x15 + 1)) x565000 (x565001 ++ [(-1)])) else (none)) else (if x565001.length < 17592186044416 then (width_town_decompose.l0 k x0 x3 x5 x13 x14 (wrap64 (x15 + 1)) x565000 (x565001 ++ [x10])) else (none))) else (width_town_decompose.l1 k x0 x3 x5 x8 x9 (wrap64 (x10 + 1)) x13 x14 x15 x565000 x565001)) else (none)) else (none)) else (if x9 = (x3.length : Int) then (if x565001.length < 17592186044416 then (width_town_decompose.l0 k x0 x3 x5 x13 x14 (wrap64 (x15 + 1)) x565000 (x565001 ++ [(-1)])) else (none)) else (if x565001.length < 17592186044416 then (width_town_decompose.l0 k x0 x3 x5 x13 x14 (wrap64 (x15 + 1)) x565000 (x565001 ++ [x9])) else (none)))
end
def width_town_decompose.T9 : Bool × List (List Nat × List Nat) := (true, [([], []), ([0], [0]), ([], []), ([], []), ([3], [3]), ([2, 4], [2, 4]), ([5], [5]), ([1, 6], [1, 6]), ([0, 1, 2, 3, 4, 5, 6, 7], []), ([8, 7, 7, 0, 1, 2, 3, 4, 5, 6, 7], [7, 8])])
def width_town_decompose.B9 : List Nat := [0, 1, 0, 0, 8, 28, 60, 127, 255, 511]
theorem width_town_decompose.tab9 : rtab .any (opsOf Tryd.f83 9) = width_town_decompose.T9 := by kernel_rfl
theorem width_town_decompose.bits9 : waitsOk width_town_decompose.T9.2 width_town_decompose.B9 = true := by kernel_rfl
end
noncomputable section
end
end Go.Proofs.YtoffehihicabcaaDoor.X
end
section
namespace Go.Proofs.YtoffehihicabcaaDoor.X
open Go.RowKit YtoffehihicabcaaDoorW.PrintWords YtoffehihicabcaaDoorW.PrintLast YtoffehihicabcaaDoorW.PrintMore YtoffehihicabcaaDoor.T
structure OrdL (G O : List Nat) : Prop where
 nd : O.Nodup
 inn : ∀ v ∈ O, v < G.length
 len : O.length = G.length
section
variable {G O : List Nat} (hG : Gr 9 G) (h : OrdL G O)
include hG h
omit hG in
end
end Go.Proofs.YtoffehihicabcaaDoor.X
end
section
namespace Go.Proofs.YtoffehihicabcaaDoor.T
open Go.RowKit YtoffehihicabcaaDoorW.PrintWords YtoffehihicabcaaDoorW.PrintLast YtoffehihicabcaaDoorW.PrintMore
def TopOf (par : Nat → Option Nat) (β : Nat → Nat → Prop) (v k : Nat) : Prop := β k v ∧ ∀ p, par k = some p → ¬ β p v
structure ATD (I : Nat → Prop) (par : Nat → Option Nat) (β : Nat → Nat → Prop) (V : Nat → Prop) (adj : Nat → Nat → Prop) (ρ : Nat → Nat) : Prop where
 inn : ∀ k p, I k → par k = some p → I p
 rank : ∀ k p, I k → par k = some p → ρ p < ρ k
 root : ∃ r, I r ∧ par r = none ∧ ∀ k, I k → par k = none → k = r
 sub : ∀ k v, I k → β k v → V v
 top : ∀ v, V v → ∃ t, I t ∧ TopOf par β v t ∧ ∀ k, I k → TopOf par β v k → k = t
 edge : ∀ u v, adj u v → ∃ k, I k ∧ β k u ∧ β k v
inductive Anc (par : Nat → Option Nat) : Nat → Nat → Prop
 | refl (k : Nat) : Anc par k k
 | step {k q t : Nat} : par k = some q → Anc par q t → Anc par k t
section
variable {I : Nat → Prop} {par : Nat → Option Nat} {β : Nat → Nat → Prop} {V : Nat → Prop} {adj : Nat → Nat → Prop} {ρ : Nat → Nat} (h : ATD I par β V adj ρ)
include h
theorem anc_rank {k t : Nat} (hk : I k) (ha : Anc par k t) : ρ t ≤ ρ k ∧ (t ≠ k → ρ t < ρ k) := by
 induction ha with
 | refl k => exact ⟨Nat.le_refl _, fun e => absurd rfl e⟩
 | @step k q t e _ ih =>
  have h1 := h.rank k q hk e
  have h2 := (ih (h.inn k q hk e)).1
  exact ⟨by omega, fun _ => by omega⟩
theorem anc_in {k t : Nat} (hk : I k) (ha : Anc par k t) : I t := by
 induction ha with
 | refl k => exact hk
 | @step k q t e _ ih => exact ih (h.inn k q hk e)
theorem up_top {v t : Nat} (ht : ∀ k, I k → TopOf par β v k → k = t) : ∀ (d k : Nat), ρ k ≤ d → I k → β k v → Anc par k t := by
 intro d
 induction d with
 | zero =>
  intro k hd hk hb
  have : TopOf par β v k := ⟨hb, fun p e => by have := h.rank k p hk e; omega⟩
  rw [← ht k hk this]
  exact .refl k
 | succ d ih =>
  intro k hd hk hb
  by_cases hx : ∃ p, par k = some p ∧ β p v
  ·obtain ⟨p, e, hp⟩ := hx
   have := h.rank k p hk e
   exact .step e (ih p (by omega) (h.inn k p hk e) hp)
  ·have : TopOf par β v k := ⟨hb, fun p e hp => hx ⟨p, e, hp⟩⟩
   rw [← ht k hk this]
   exact .refl k
theorem up_has {v t : Nat} (ht : ∀ k, I k → TopOf par β v k → k = t) {m a : Nat} (hm : I m) (ha : Anc par m a) (hb : β m v) (hr : ρ t ≤ ρ a) : β a v := by
 induction ha with
 | refl k => exact hb
 | @step k q a e hqa ih =>
  have hq := h.inn k q hm e
  refine ih hq ?_ hr
  apply Classical.byContradiction
  intro hn
  have : TopOf par β v k := ⟨hb, fun p e2 hp => by
   rw [e] at e2
   obtain rfl := Option.some.inj e2
   exact hn hp⟩
  have ek := ht k hm this
  have h1 := h.rank k q hm e
  have h2 := (anc_rank h hq hqa).1
  rw [← ek] at hr
  omega
theorem anc_root {r : Nat} (hr : ∀ k, I k → par k = none → k = r) : ∀ (d k : Nat), ρ k ≤ d → I k → Anc par k r := by
 intro d
 induction d with
 | zero =>
  intro k hd hk
  cases e : par k with
  | none => rw [hr k hk e]; exact .refl r
  | some p => have := h.rank k p hk e; omega
 | succ d ih =>
  intro k hd hk
  cases e : par k with
  | none => rw [hr k hk e]; exact .refl r
  | some p =>
   have := h.rank k p hk e
   exact .step e (ih p (by omega) (h.inn k p hk e))
theorem merge_atd {i p : Nat} (hi : I i) (hp : par i = some p) :
  ATD (fun k => I k ∧ k ≠ i) (fun k => if par k = some i then some p else par k) (fun k v => β k v ∨ (k = p ∧ β i v)) V adj ρ := by
 have hpI := h.inn i p hi hp
 have hrp := h.rank i p hi hp
 have hpi : p ≠ i := fun e => by rw [e] at hrp; omega
 have par' : ∀ k q, I k → (if par k = some i then some p else par k) = some q → (par k = some i ∧ q = p) ∨ (par k ≠ some i ∧ par k = some q) := fun k q hk e => by
  by_cases hx : par k = some i
  ·rw [if_pos hx] at e; exact .inl ⟨hx, (Option.some.inj e).symm⟩
  ·rw [if_neg hx] at e; exact .inr ⟨hx, e⟩
 refine ⟨fun k q hk e => ?_, fun k q hk e => ?_, ?_, fun k v hk hb => ?_, fun v hv => ?_, fun u v huv => ?_⟩
 ·rcases par' k q hk.1 e with ⟨_, rfl⟩ | ⟨h1, h2⟩
  ·exact ⟨hpI, hpi⟩
  ·exact ⟨h.inn k q hk.1 h2, fun e => h1 (by rw [h2, e])⟩
 ·rcases par' k q hk.1 e with ⟨h1, rfl⟩ | ⟨_, h2⟩
  ·have := h.rank k i hk.1 h1; omega
  ·exact h.rank k q hk.1 h2
 ·obtain ⟨r, r1, r2, r3⟩ := h.root
  refine ⟨r, ⟨r1, fun e => by rw [e, hp] at r2; cases r2⟩, ?_, fun k hk e => ?_⟩
  ·show (if par r = some i then some p else par r) = none
   rw [if_neg (by rw [r2]; simp), r2]
  ·have e : (if par k = some i then some p else par k) = none := e
   by_cases hx : par k = some i
   ·rw [if_pos hx] at e; cases e
   ·rw [if_neg hx] at e; exact r3 k hk.1 e
 ·rcases hb with hb | ⟨_, hb⟩
  ·exact h.sub k v hk.1 hb
  ·exact h.sub i v hi hb
 ·obtain ⟨t, t1, t2, t3⟩ := h.top v hv
  have low : ∀ k, I k → β k v → ρ t ≤ ρ k := fun k hk hb => (anc_rank h hk (up_top h t3 _ k (Nat.le_refl _) hk hb)).1
  have first : ∀ k, (I k ∧ k ≠ i) → TopOf (fun k => if par k = some i then some p else par k) (fun k v => β k v ∨ (k = p ∧ β i v)) v k → (t = i ∧ k = p) ∨ (t ≠ i ∧ k = t) := by
   rintro k ⟨hk, hki⟩ ⟨hb, hno⟩
   have hb : β k v ∨ (k = p ∧ β i v) := hb
   have hno : ∀ q, (if par k = some i then some p else par k) = some q → ¬ (β q v ∨ (q = p ∧ β i v)) := hno
   by_cases hkv : β k v
   ·-- k is a top
    have : TopOf par β v k := ⟨hkv, fun q e hq => by
     by_cases hx : par k = some i
     ·rw [hx] at e
      obtain rfl := Option.some.inj e
      exact hno p (if_pos hx) (.inr ⟨rfl, hq⟩)
     ·exact hno q (by rw [if_neg hx, e]) (.inl hq)⟩
    have ek := t3 k hk this
    exact .inr ⟨fun e => hki (ek.trans e), ek⟩
   ·rcases hb with hb1 | ⟨e0, hb2⟩
    ·exact absurd hb1 hkv
    ·have : TopOf par β v i := ⟨hb2, fun q e hq => by
      rw [hp] at e
      have e3 := Option.some.inj e
      rw [e0, e3] at hkv
      exact hkv hq⟩
     exact .inl ⟨(t3 i hi this).symm, e0⟩
  by_cases hti : t = i
  ·refine ⟨p, ⟨hpI, hpi⟩, ⟨.inr ⟨rfl, by rw [← hti]; exact t2.1⟩, fun q e => ?_⟩, fun k hk ht => ?_⟩
   ·rcases par' p q hpI e with ⟨h1, _⟩ | ⟨_, h2⟩
    ·have := h.rank p i hpI h1; omega
    ·have h3 := h.rank p q hpI h2
     rintro (hq | ⟨rfl, _⟩)
     ·have := low q (h.inn p q hpI h2) hq
      rw [hti] at this
      omega
     ·omega
   ·rcases first k hk ht with ⟨_, e⟩ | ⟨e, _⟩
    ·exact e
    ·exact absurd hti e
  ·refine ⟨t, ⟨t1, hti⟩, ⟨.inl t2.1, fun q e => ?_⟩, fun k hk ht => ?_⟩
   ·rcases par' t q t1 e with ⟨h1, rfl⟩ | ⟨h1, h2⟩
    ·have hA : ¬ β i v := t2.2 i h1
     have := h.rank t i t1 h1
     rintro (hq | ⟨_, hq⟩)
     ·have := low _ hpI hq; omega
     ·exact hA hq
    ·have hq0 := t2.2 q h2
     rintro (hq | ⟨rfl, hq⟩)
     ·exact hq0 hq
     ·-- q = p: i would be a top
      have : TopOf par β v i := ⟨hq, fun q' e' hq' => by
       rw [hp] at e'
       obtain rfl := Option.some.inj e'
       exact hq0 hq'⟩
      exact hti (t3 i hi this).symm
   ·rcases first k hk ht with ⟨e, _⟩ | ⟨_, e⟩
    ·exact absurd e hti
    ·exact e
 ·obtain ⟨k, k1, k2, k3⟩ := h.edge u v huv
  by_cases e : k = i
  ·subst e
   exact ⟨p, ⟨hpI, hpi⟩, .inr ⟨rfl, k2⟩, .inr ⟨rfl, k3⟩⟩
  ·exact ⟨k, ⟨k1, e⟩, .inl k2, .inl k3⟩
theorem narrow_all (hnar : ∀ i p, I i → par i = some p → (∃ v, β i v ∧ ¬ β p v) ∧ ∃ v, β p v ∧ ¬ β i v) {a b : Nat} (ha : I a) (hb : I b) (hab : a ≠ b) : ∃ v, β a v ∧ ¬ β b v := by
 apply Classical.byContradiction
 intro hno
 have hsub : ∀ v, β a v → β b v := fun v hv => Classical.byContradiction fun hx => hno ⟨v, hv, hx⟩
 by_cases hanc : Anc par b a
 ·-- the child of a on the way down to b
  have key : ∀ {b a : Nat}, Anc par b a → I b → a ≠ b → ∃ c, I c ∧ par c = some a ∧ ∀ v, β b v → β a v → β c v := by
   intro b a hba
   induction hba with
   | refl k => intro _ e; exact absurd rfl e
   | @step k q t e hqt ih =>
    intro hk hne
    have hq := h.inn k q hk e
    by_cases hqt' : t = q
    ·subst hqt'
     exact ⟨k, hk, e, fun v hv _ => hv⟩
    ·obtain ⟨c, c1, c2, c3⟩ := ih hq hqt'
     refine ⟨c, c1, c2, fun v hv hta => c3 v ?_ hta⟩
     obtain ⟨tv, t1, t2, t3⟩ := h.top v (h.sub k v hk hv)
     have htI := anc_in h hq hqt
     have h1 := (anc_rank h htI (up_top h t3 _ t (Nat.le_refl _) htI hta)).1
     have h2 := (anc_rank h hq hqt).1
     exact up_has h t3 hk (.step e (.refl q)) hv (by omega)
  obtain ⟨c, c1, c2, c3⟩ := key hanc hb hab
  obtain ⟨v, v1, v2⟩ := (hnar c a c1 c2).2
  exact v2 (c3 v (hsub v v1) v1)
 ·cases e : par a with
  | none =>
   obtain ⟨r, r1, r2, r3⟩ := h.root
   have := r3 a ha e
   rw [this] at hanc
   exact hanc (anc_root h r3 _ b (Nat.le_refl _) hb)
  | some q =>
   obtain ⟨v, v1, v2⟩ := (hnar a q ha e).1
   have : TopOf par β v a := ⟨v1, fun p e2 hp => by
    rw [e] at e2
    obtain rfl := Option.some.inj e2
    exact v2 hp⟩
   obtain ⟨t, t1, t2, t3⟩ := h.top v (h.sub a v ha v1)
   have ea := t3 a ha this
   rw [ea] at hanc
   exact hanc (up_top h t3 _ b (Nat.le_refl _) hb (hsub v v1))
theorem narrow_few (hnar : ∀ i p, I i → par i = some p → (∃ v, β i v ∧ ¬ β p v) ∧ ∃ v, β p v ∧ ¬ β i v) (hV : ∃ v, V v) {k : Nat} (hk : I k) : ∃ v, V v ∧ TopOf par β v k := by
 cases e : par k with
 | some p =>
  obtain ⟨v, v1, v2⟩ := (hnar k p hk e).1
  exact ⟨v, h.sub k v hk v1, v1, fun q e2 hq => by
   rw [e] at e2
   obtain rfl := Option.some.inj e2
   exact v2 hq⟩
 | none =>
  obtain ⟨v, v1⟩ : ∃ v, β k v := by
   by_cases hc : ∃ c, I c ∧ par c = some k
   ·obtain ⟨c, c1, c2⟩ := hc
    obtain ⟨v, v1, _⟩ := (hnar c k c1 c2).2
    exact ⟨v, v1⟩
   ·obtain ⟨r, r1, r2, r3⟩ := h.root
    obtain ⟨v, hv⟩ := hV
    obtain ⟨t, t1, t2, _⟩ := h.top v hv
    have hkr := r3 k hk e
    have ha : Anc par t k := by rw [hkr]; exact anc_root h r3 _ t (Nat.le_refl _) t1
    have : t = k := by
     apply Classical.byContradiction
     intro hne
     have key : ∀ {b a : Nat}, Anc par b a → I b → a ≠ b → ∃ c, I c ∧ par c = some a := by
      intro b a hba
      induction hba with
      | refl k => intro _ e; exact absurd rfl e
      | @step k q t e hqt ih =>
       intro hk hne
       by_cases hqt' : t = q
       ·subst hqt'; exact ⟨k, hk, e⟩
       ·exact ih (h.inn k q hk e) hqt'
     exact hc (key ha t1 (Ne.symm hne))
    exact ⟨v, by rw [← this]; exact t2.1⟩
  exact ⟨v, h.sub k v hk v1, v1, fun q e2 => by rw [e] at e2; cases e2⟩
end
end Go.Proofs.YtoffehihicabcaaDoor.T
end
section
namespace Go.Proofs.YtoffehihicabcaaDoor.X
open Go.RowKit YtoffehihicabcaaDoorW.PrintWords YtoffehihicabcaaDoorW.PrintLast YtoffehihicabcaaDoorW.PrintMore YtoffehihicabcaaDoor.T
def parO (P : List Int) (k : Nat) : Option Nat := if rd P (k : Int) < 0 then none else some (rd P (k : Int)).toNat
def bet (B : List Int) (k v : Nat) : Prop := bitI (rd B (k : Int)) v = true
theorem parO_some {P : List Int} {k p : Nat} : parO P k = some p ↔ rd P (k : Int) = (p : Int) := by
 unfold parO
 by_cases h : rd P (k : Int) < 0
 ·rw [if_pos h]
  exact ⟨fun e => (by cases e), fun e => by omega⟩
 ·rw [if_neg h]
  constructor
  ·intro e; have := Option.some.inj e; omega
  ·intro e; congr 1; omega
theorem parO_none {P : List Int} {k : Nat} : parO P k = none ↔ rd P (k : Int) < 0 := by
 unfold parO
 by_cases h : rd P (k : Int) < 0
 ·rw [if_pos h]; exact ⟨fun _ => h, fun _ => rfl⟩
 ·rw [if_neg h]; exact ⟨fun e => (by cases e), fun e => absurd e h⟩
theorem top_cond (B P : List Int) (v k : Nat) : (bitI (rd B (k : Int)) v && (decide (rd P (k : Int) < 0) || !bitI (rd B (rd P (k : Int))) v)) = true ↔ TopOf (parO P) (bet B) v k := by
 unfold TopOf bet
 rw [Bool.and_eq_true, Bool.or_eq_true, decide_eq_true_eq, Bool.not_eq_true']
 constructor
 ·rintro ⟨h1, h2⟩
  refine ⟨h1, fun p e hp => ?_⟩
  rw [parO_some] at e
  rcases h2 with h2 | h2
  ·omega
  ·rw [e, hp] at h2; cases h2
 ·rintro ⟨h1, h2⟩
  refine ⟨h1, ?_⟩
  by_cases h : rd P (k : Int) < 0
  ·exact .inl h
  ·right
   have h3 := h2 (rd P (k : Int)).toNat (parO_some.2 (by omega))
   rw [show (((rd P (k : Int)).toNat : Nat) : Int) = rd P (k : Int) by omega] at h3
   simpa using h3
theorem tops_len (B P : List Int) (v : Nat) : ∀ (d i t : Nat), topsF B P v d i t = t + ((List.range' i d).filter fun (k : Nat) => bitI (rd B (k : Int)) v && (decide (rd P (k : Int) < 0) || !bitI (rd B (rd P (k : Int))) v)).length
 | 0, i, t => by simp [topsF]
 | d + 1, i, t => by
  rw [topsF, tops_len B P v d (i + 1), List.range'_succ, List.filter_cons]
  split <;> simp <;> omega
theorem roots_len (P : List Int) : ∀ (d i t : Nat), rootsF P d i t = t + ((List.range' i d).filter fun (k : Nat) => decide (rd P (k : Int) < 0)).length
 | 0, i, t => by simp [rootsF]
 | d + 1, i, t => by
  rw [rootsF, roots_len P d (i + 1), List.range'_succ, List.filter_cons]
  by_cases h : rd P (i : Int) < 0
  ·rw [if_pos h, if_pos (by simp [h])]; simp; omega
  ·rw [if_neg h, if_neg (by simp [h])]
theorem one_len (n : Nat) (q : Nat → Bool) : ((List.range' 0 n).filter q).length = 1 ↔ ∃ t, t < n ∧ q t = true ∧ ∀ k, k < n → q k = true → k = t := by
 have hnd : ((List.range' 0 n).filter q).Nodup := List.Pairwise.filter _ (List.nodup_range' (step := 1))
 have hm : ∀ k, k ∈ (List.range' 0 n).filter q ↔ k < n ∧ q k = true := fun k => by
  rw [List.mem_filter, List.mem_range'_1]
  constructor
  ·rintro ⟨h1, h2⟩; exact ⟨by omega, h2⟩
  ·rintro ⟨h1, h2⟩; exact ⟨by omega, h2⟩
 constructor
 ·intro h
  obtain ⟨t, ht⟩ := List.length_eq_one_iff.1 h
  have h1 := (hm t).1 (by rw [ht]; exact List.mem_singleton.2 rfl)
  refine ⟨t, h1.1, h1.2, fun k hk hq => ?_⟩
  have := (hm k).2 ⟨hk, hq⟩
  rw [ht] at this
  exact List.mem_singleton.1 this
 ·rintro ⟨t, h1, h2, h3⟩
  refine Nat.le_antisymm ?_ (List.length_pos_of_mem ((hm t).2 ⟨h1, h2⟩))
  have := nodup_le hnd (m := [t]) fun k hk => by
   have := (hm k).1 hk
   rw [h3 k this.1 this.2]
   exact List.mem_singleton.2 rfl
  simpa using this
def depF (P : List Int) : Nat → Int → Nat
 | 0, _ => 0
 | d + 1, a => if a < 0 then 0 else depF P d (rd P a) + 1
theorem depF_more (P : List Int) : ∀ (d : Nat) (a : Int), upN P d a < 0 → depF P (d + 1) a = depF P d a
 | 0, a, h => by
  rw [upN] at h
  show (if a < 0 then 0 else depF P 0 (rd P a) + 1) = 0
  rw [if_pos h]
 | d + 1, a, h => by
  rw [upN, upI] at h
  rw [depF]
  by_cases h0 : a < 0
  ·rw [if_pos h0, depF, if_pos h0]
  ·rw [if_neg h0] at h
   rw [if_neg h0, depF_more P d _ h]
   conv => rhs; rw [depF, if_neg h0]
theorem td_to {G : List Nat} {B P : List Int} (hG : Gr 9 G) (h : TD G B P) : ATD (fun k => k < B.length) (parO P) (bet B) (fun v => v < G.length) (Adj G) (fun k => depF P B.length (k : Int)) := by
 have inn : ∀ k p : Nat, k < B.length → parO P k = some p → p < B.length := fun k p hk e => by
  rw [parO_some] at e
  have := (h.inn k hk).2.1
  omega
 refine ⟨inn, fun k p hk e => ?_, ?_, fun k v hk hb => ?_, fun v hv => ?_, fun u v huv => ?_⟩
 ·have hp := inn k p hk e
  rw [parO_some] at e
  have h1 := depF_more P B.length (k : Int) (h.acyc k hk)
  rw [depF, if_neg (by omega), e] at h1
  show depF P B.length (p : Int) < depF P B.length (k : Int)
  omega
 ·have h1 := h.root
  rw [roots_len, Nat.zero_add, one_len] at h1
  obtain ⟨r, r1, r2, r3⟩ := h1
  exact ⟨r, r1, parO_none.2 (by simpa using r2), fun k hk e => r3 k hk (by simpa using parO_none.1 e)⟩
 ·have := h.inn k hk
  unfold bet bitI at hb
  exact bit_lt (show (rd B (k : Int)).toNat < 2 ^ G.length by have := this.2.2; omega) hb
 ·have h1 := h.tops v hv
  rw [tops_len, Nat.zero_add, one_len] at h1
  obtain ⟨t, t1, t2, t3⟩ := h1
  exact ⟨t, t1, (top_cond B P v t).1 t2, fun k hk ht => t3 k hk ((top_cond B P v k).2 ht)⟩
 ·exact h.edge u v huv
theorem td_of {G : List Nat} {B P : List Int} {ρ : Nat → Nat} (h1 : 1 ≤ B.length) (h2 : B.length ≤ 30) (h3 : P.length = B.length) (h4 : ∀ i, i < B.length → InT G B P B.length i) (h : ATD (fun k => k < B.length) (parO P) (bet B) (fun v => v < G.length) (Adj G) ρ) : TD G B P := by
 have climb : ∀ d (k : Nat), k < B.length → ρ k ≤ d → upN P (d + 1) (k : Int) < 0 := by
  intro d
  induction d with
  | zero =>
   intro k hk hd
   cases e : parO P k with
   | none =>
    have := parO_none.1 e
    rw [upN, upN, upI, if_neg (by omega)]
    exact this
   | some p => have := h.rank k p hk e; omega
  | succ d ih =>
   intro k hk hd
   cases e : parO P k with
   | none =>
    have := parO_none.1 e
    rw [upN, upI, if_neg (by omega), upN_neg P this]
    exact this
   | some p =>
    have h5 := h.rank k p hk e
    have h6 := h.inn k p hk e
    rw [parO_some] at e
    rw [upN, upI, if_neg (by omega), e]
    exact ih p h6 (by omega)
 refine ⟨h1, h2, h3, h4, ?_, fun i hi => up_within (fun j hj => (h4 j hj).2.1) hi (climb _ i hi (Nat.le_refl _)), fun v hv => ?_, fun v u hvu => h.edge v u hvu⟩
 ·rw [roots_len, Nat.zero_add, one_len]
  obtain ⟨r, r1, r2, r3⟩ := h.root
  exact ⟨r, r1, by simpa using parO_none.1 r2, fun k hk e => r3 k hk (parO_none.2 (by simpa using e))⟩
 ·rw [tops_len, Nat.zero_add, one_len]
  obtain ⟨t, t1, t2, t3⟩ := h.top v hv
  exact ⟨t, t1, (top_cond B P v t).2 t2, fun k hk e => t3 k hk ((top_cond B P v k).1 e)⟩
end Go.Proofs.YtoffehihicabcaaDoor.X
end
section
namespace Go.Proofs.YtoffehihicabcaaDoor.T
open Go.RowKit YtoffehihicabcaaDoorW.PrintWords YtoffehihicabcaaDoorW.PrintLast YtoffehihicabcaaDoorW.PrintMore
def up (v u : Nat) : Nat := if u < v then u else u + 1
def down (v u : Nat) : Nat := if u < v then u else u - 1
theorem down_up (v u : Nat) : down v (up v u) = u := by
 unfold down up
 by_cases h : u < v
 ·rw [if_pos h, if_pos h]
 ·rw [if_neg h, if_neg (by omega)]; omega
theorem up_ne (v u : Nat) : up v u ≠ v := by unfold up; split <;> omega
theorem up_inj (v a b : Nat) (h : up v a = up v b) : a = b := by rw [← down_up v a, h, down_up]
theorem up_onto {v u : Nat} (h : u ≠ v) : up v (down v u) = u := by
 unfold up down
 by_cases h1 : u < v
 ·rw [if_pos h1, if_pos h1]
 ·rw [if_neg h1, if_neg (by omega)]; omega
end Go.Proofs.YtoffehihicabcaaDoor.T
end
section
namespace Go.Proofs.YtoffehihicabcaaDoor.X
open Go.RowKit YtoffehihicabcaaDoorW.PrintWords YtoffehihicabcaaDoorW.PrintLast YtoffehihicabcaaDoorW.PrintMore YtoffehihicabcaaDoor.T
theorem atd_map {I I' : Nat → Prop} {par par' : Nat → Option Nat} {β β' : Nat → Nat → Prop} {V : Nat → Prop} {adj : Nat → Nat → Prop} {ρ : Nat → Nat} (f : Nat → Nat) (hf : ∀ a b, f a = f b → a = b) (hI : ∀ k, I' k → I (f k)) (hI2 : ∀ k, I k → ∃ k', I' k' ∧ f k' = k)
  (hp : ∀ k, I' k → par (f k) = (par' k).map f) (hb : ∀ k v, I' k → (β' k v ↔ β (f k) v)) (h : ATD I par β V adj ρ) : ATD I' par' β' V adj (fun k => ρ (f k)) := by
 have some' : ∀ k q, I' k → par' k = some q → par (f k) = some (f q) := fun k q hk e => by rw [hp k hk, e]; rfl
 have inn : ∀ k q, I' k → par' k = some q → I' q := fun k q hk e => by
  obtain ⟨q', h1, h2⟩ := hI2 _ (h.inn _ _ (hI k hk) (some' k q hk e))
  rw [← hf _ _ h2]; exact h1
 have top' : ∀ v k, I' k → (TopOf par' β' v k ↔ TopOf par β v (f k)) := fun v k hk => by
  constructor
  ·rintro ⟨h1, h2⟩
   refine ⟨(hb k v hk).1 h1, fun q e hq => ?_⟩
   rw [hp k hk] at e
   cases e2 : par' k with
   | none => rw [e2] at e; cases e
   | some q' =>
    rw [e2] at e
    have e3 : f q' = q := Option.some.inj e
    exact h2 q' e2 ((hb q' v (inn k q' hk e2)).2 (by rw [e3]; exact hq))
  ·rintro ⟨h1, h2⟩
   exact ⟨(hb k v hk).2 h1, fun q e hq => h2 (f q) (some' k q hk e) ((hb q v (inn k q hk e)).1 hq)⟩
 refine ⟨inn, fun k q hk e => h.rank _ _ (hI k hk) (some' k q hk e), ?_, fun k v hk hv => h.sub _ v (hI k hk) ((hb k v hk).1 hv), fun v hv => ?_, fun u v huv => ?_⟩
 ·obtain ⟨r, r1, r2, r3⟩ := h.root
  obtain ⟨r', h1, h2⟩ := hI2 r r1
  refine ⟨r', h1, ?_, fun k hk e => hf _ _ ?_⟩
  ·have := hp r' h1
   rw [h2, r2] at this
   cases e : par' r' with
   | none => rfl
   | some q => rw [e] at this; cases this
  ·rw [h2]
   exact r3 _ (hI k hk) (by rw [hp k hk, e]; rfl)
 ·obtain ⟨t, t1, t2, t3⟩ := h.top v hv
  obtain ⟨t', h1, h2⟩ := hI2 t t1
  exact ⟨t', h1, (top' v t' h1).2 (by rw [h2]; exact t2), fun k hk hk2 => hf _ _ (by rw [h2]; exact t3 _ (hI k hk) ((top' v k hk).1 hk2))⟩
 ·obtain ⟨k, k1, k2, k3⟩ := h.edge u v huv
  obtain ⟨k', h1, h2⟩ := hI2 k k1
  exact ⟨k', h1, (hb k' u h1).2 (by rw [h2]; exact k2), (hb k' v h1).2 (by rw [h2]; exact k3)⟩
def mergeB (B : List Int) (i p : Nat) : List Int := (B.set p ((((rd B (p : Int)).toNat ||| (rd B (i : Int)).toNat : Nat)) : Int)).eraseIdx i
def mergeP (P : List Int) (i p : Nat) : List Int := ((P.map fun q => if q = (i : Int) then (p : Int) else q).eraseIdx i).map fun q => if q > (i : Int) then q - 1 else q
theorem rd_set (l : List Int) (i j : Nat) (x : Int) (hi : i < l.length) : rd (l.set i x) (j : Int) = if j = i then x else rd l (j : Int) := by
 unfold rd
 simp only [Int.toNat_natCast, List.getD_eq_getElem?_getD, List.getElem?_set]
 by_cases h : i = j
 ·subst h; simp [hi]
 ·rw [if_neg h, if_neg (fun e => h e.symm)]
theorem rd_erase (l : List Int) (i j : Nat) : rd (l.eraseIdx i) (j : Int) = rd l ((T.up i j : Nat) : Int) := by
 unfold rd T.up
 simp only [Int.toNat_natCast, List.getD_eq_getElem?_getD, List.getElem?_eraseIdx]
 split <;> rfl
theorem rd_map (l : List Int) (f : Int → Int) (j : Nat) (hj : j < l.length) : rd (l.map f) (j : Int) = f (rd l (j : Int)) := by
 unfold rd
 simp only [Int.toNat_natCast, List.getD_eq_getElem?_getD, List.getElem?_map, List.getElem?_eq_getElem hj]
 rfl
theorem mergeB_len {B : List Int} {i p : Nat} (hi : i < B.length) : (mergeB B i p).length = B.length - 1 := by
 unfold mergeB
 rw [List.length_eraseIdx, if_pos (by rw [List.length_set]; exact hi), List.length_set]
theorem mergeP_len {P : List Int} {i p : Nat} (hi : i < P.length) : (mergeP P i p).length = P.length - 1 := by
 unfold mergeP
 rw [List.length_map, List.length_eraseIdx, if_pos (by rw [List.length_map]; exact hi), List.length_map]
theorem mergeB_rd {B : List Int} {i p : Nat} (hp : p < B.length) (j : Nat) : rd (mergeB B i p) (j : Int) = if T.up i j = p then (((rd B (p : Int)).toNat ||| (rd B (i : Int)).toNat : Nat) : Int) else rd B ((T.up i j : Nat) : Int) := by
 unfold mergeB
 rw [rd_erase, rd_set _ _ _ _ hp]
theorem mergeP_rd {P : List Int} {i p : Nat} (hi : i < P.length) {j : Nat} (hj : j < P.length - 1) : rd (mergeP P i p) (j : Int) = if (if rd P ((T.up i j : Nat) : Int) = (i : Int) then (p : Int) else rd P ((T.up i j : Nat) : Int)) > (i : Int) then (if rd P ((T.up i j : Nat) : Int) = (i : Int) then (p : Int) else rd P ((T.up i j : Nat) : Int)) - 1 else (if rd P ((T.up i j : Nat) : Int) = (i : Int) then (p : Int) else rd P ((T.up i j : Nat) : Int)) := by
 have hu : T.up i j < P.length := by unfold T.up; split <;> omega
 unfold mergeP
 rw [rd_map _ _ _ (by rw [List.length_eraseIdx, if_pos (by rw [List.length_map]; exact hi), List.length_map]; exact hj), rd_erase, rd_map _ _ _ hu]
theorem merge_td {G : List Nat} (hG : Gr 9 G) {B P : List Int} (h : TD G B P) {i p : Nat} (hi : i < B.length) (hp : rd P (i : Int) = (p : Int)) : TD G (mergeB B i p) (mergeP P i p) := by
 have hA := td_to hG h
 have hpn : p < B.length := hA.inn i p hi (parO_some.2 hp)
 have hrk := hA.rank i p hi (parO_some.2 hp)
 have hpi : p ≠ i := fun e => by rw [e] at hrk; omega
 have hl := h.len
 have hM := merge_atd hA hi (parO_some.2 hp)
 have hbl := mergeB_len (B := B) (p := p) hi
 have hpl := mergeP_len (P := P) (p := p) (show i < P.length by omega)
 have h30 := h.most
 have upl : ∀ k, k < B.length - 1 → T.up i k < B.length := fun k hk => by unfold T.up; split <;> omega
 have hrow : ∀ k, k < B.length - 1 → InT G (mergeB B i p) (mergeP P i p) (B.length - 1) k ∧ parO (mergeP P i p) k = (if rd P ((T.up i k : Nat) : Int) < 0 then none else some (T.down i (if rd P ((T.up i k : Nat) : Int) = (i : Int) then p else (rd P ((T.up i k : Nat) : Int)).toNat))) := fun k hk => by
  have hu := upl k hk
  obtain ⟨a1, a2, a3, a4⟩ := h.inn _ hu
  obtain ⟨b1, b2, b3, b4⟩ := h.inn p hpn
  obtain ⟨c1, c2, c3, c4⟩ := h.inn i hi
  have hq := mergeP_rd (P := P) (p := p) (show i < P.length by omega) (show k < P.length - 1 by omega)
  have hself : rd P ((T.up i k : Nat) : Int) ≠ ((T.up i k : Nat) : Int) := fun e => by
   have := hA.rank _ _ hu (parO_some.2 e)
   omega
  generalize rd P ((T.up i k : Nat) : Int) = q at *
  have hor : ((rd B (p : Int)).toNat ||| (rd B (i : Int)).toNat) < 2 ^ G.length := Nat.or_lt_two_pow (by omega) (by omega)
  have hB : 0 ≤ rd (mergeB B i p) (k : Int) ∧ rd (mergeB B i p) (k : Int) < ((2 ^ G.length : Nat) : Int) := by
   rw [mergeB_rd hpn]
   split <;> omega
  constructor
  ·unfold InT
   refine ⟨?_, ?_, hB.1, hB.2⟩
   ·rw [hq]
    by_cases e : q = (i : Int)
    ·rw [if_pos e]; split <;> omega
    ·rw [if_neg e]; split <;> omega
   ·rw [hq]
    by_cases e : q = (i : Int)
    ·rw [if_pos e]; split <;> omega
    ·rw [if_neg e]; split <;> omega
  ·unfold parO
   rw [hq]
   by_cases h0 : q < 0
   ·rw [if_neg (show ¬ q = (i : Int) by omega), if_neg (show ¬ q > (i : Int) by omega), if_pos h0, if_pos h0]
   ·rw [if_neg h0]
    unfold T.down
    by_cases e : q = (i : Int)
    ·rw [if_pos e, if_pos e]
     by_cases e2 : (p : Int) > (i : Int)
     ·rw [if_pos e2, if_neg (by omega), if_neg (by omega)]; congr 1; omega
     ·rw [if_neg e2, if_neg (by omega), if_pos (by omega)]; congr 1
    ·rw [if_neg e, if_neg e]
     by_cases e2 : q > (i : Int)
     ·rw [if_pos e2, if_neg (by omega), if_neg (by omega)]; congr 1; omega
     ·rw [if_neg e2, if_neg (by omega), if_pos (by omega)]
 refine td_of (by rw [hbl]; omega) (by omega) (by omega) (fun k hk => by rw [hbl] at hk ⊢; exact (hrow k hk).1) (ρ := fun k => depF P B.length ((T.up i k : Nat) : Int)) ?_
 refine atd_map (T.up i) (T.up_inj i) (fun k hk => ?_) (fun k hk => ?_) (fun k hk => ?_) (fun k v hk => ?_) hM
 ·rw [hbl] at hk
  exact ⟨upl k hk, T.up_ne i k⟩
 ·refine ⟨T.down i k, ?_, T.up_onto hk.2⟩
  show T.down i k < (mergeB B i p).length
  have h1 : k < B.length := hk.1
  have h2 : k ≠ i := hk.2
  rw [hbl]
  unfold T.down
  split <;> omega
 ·rw [hbl] at hk
  rw [(hrow k hk).2]
  show (if parO P (T.up i k) = some i then some p else parO P (T.up i k)) = _
  have hu := upl k hk
  have hin := (h.inn _ hu).1
  by_cases h0 : rd P ((T.up i k : Nat) : Int) < 0
  ·have := parO_none.2 h0
   rw [this, if_pos h0, if_neg (by simp)]
   rfl
  ·rw [if_neg h0]
   have hs : parO P (T.up i k) = some (rd P ((T.up i k : Nat) : Int)).toNat := by unfold parO; rw [if_neg h0]
   rw [hs]
   by_cases e : rd P ((T.up i k : Nat) : Int) = (i : Int)
   ·rw [if_pos e, if_pos (by rw [e]; simp)]
    simp only [Option.map_some]
    rw [T.up_onto hpi]
   ·rw [if_neg e, if_neg (fun hx => e (by have := Option.some.inj hx; omega))]
    simp only [Option.map_some]
    rw [T.up_onto (by omega)]
 ·rw [hbl] at hk
  unfold bet
  rw [mergeB_rd hpn]
  by_cases e : T.up i k = p
  ·rw [if_pos e, e]
   unfold bitI
   rw [Int.toNat_natCast, Nat.testBit_or, Bool.or_eq_true]
   simp
  ·rw [if_neg e]
   simp [e]
def bagN (B : List Int) (i : Int) : Nat := (rd B i).toNat
def okM (B P : List Int) (i : Nat) : Bool := decide (0 ≤ rd P (i : Int)) && (decide (diff (bagN B (i : Int)) (bagN B (rd P (i : Int))) = 0) || decide (diff (bagN B (rd P (i : Int))) (bagN B (i : Int)) = 0))
def pickM (B P : List Int) : Option Nat := (List.range P.length).find? (okM B P)
def narN : Nat → List Int → List Int → List Int × List Int
 | 0, B, P => (B, P)
 | d + 1, B, P => match pickM B P with
  | some i => narN d (mergeB B i (rd P (i : Int)).toNat) (mergeP P i (rd P (i : Int)).toNat)
  | none => (B, P)
theorem diff_zero {a b : Nat} : diff a b = 0 ↔ ∀ v, bset a v → bset b v := by
 constructor
 ·intro h v hv
  have := diff_testBit a b v
  rw [h, Nat.zero_testBit] at this
  unfold bset at *
  rw [hv] at this
  simpa using this
 ·intro h
  apply Nat.eq_of_testBit_eq
  intro v
  rw [diff_testBit, Nat.zero_testBit]
  cases ha : a.testBit v
  ·rfl
  ·have := h v ha
   unfold bset at this
   rw [this]; rfl
theorem pickM_some {B P : List Int} {i : Nat} (h : pickM B P = some i) : i < P.length ∧ 0 ≤ rd P (i : Int) ∧ ((∀ v, bset (bagN B (i : Int)) v → bset (bagN B (rd P (i : Int))) v) ∨ ∀ v, bset (bagN B (rd P (i : Int))) v → bset (bagN B (i : Int)) v) := by
 unfold pickM at h
 have h1 := List.find?_some h
 have h2 := List.mem_of_find?_eq_some h
 unfold okM at h1
 rw [Bool.and_eq_true, Bool.or_eq_true, decide_eq_true_eq, decide_eq_true_eq, decide_eq_true_eq, diff_zero, diff_zero] at h1
 exact ⟨List.mem_range.1 h2, h1.1, h1.2⟩
theorem or_absorb {a b : Nat} (h : ∀ v, bset b v → bset a v) : a ||| b = a := by
 apply Nat.eq_of_testBit_eq
 intro v
 rw [Nat.testBit_or]
 cases hb : b.testBit v
 ·simp
 ·have := h v hb
  unfold bset at this
  rw [this]; rfl
theorem merge_bags {G : List Nat} {B P : List Int} (h : TD G B P) {i : Nat} (hpk : pickM B P = some i) : ∃ p : Nat, rd P (i : Int) = (p : Int) ∧ i < B.length ∧ p < B.length ∧ ∀ j : Nat, j < (mergeB B i p).length → ∃ k : Nat, k < B.length ∧ rd (mergeB B i p) (j : Int) = rd B (k : Int) := by
 obtain ⟨h1, h2, h3⟩ := pickM_some hpk
 have hi : i < B.length := by rw [← h.len]; exact h1
 obtain ⟨a1, a2, a3, a4⟩ := h.inn i hi
 obtain ⟨p, hp⟩ : ∃ p : Nat, rd P (i : Int) = (p : Int) := ⟨(rd P (i : Int)).toNat, by omega⟩
 have hpn : p < B.length := by omega
 obtain ⟨b1, b2, b3, b4⟩ := h.inn p hpn
 refine ⟨p, hp, hi, hpn, fun j hj => ?_⟩
 rw [mergeB_len hi] at hj
 have hu : T.up i j < B.length := by unfold T.up; split <;> omega
 rw [mergeB_rd hpn]
 by_cases e : T.up i j = p
 ·rw [if_pos e]
  rw [hp] at h3
  unfold bagN at h3
  rcases h3 with h3 | h3
  ·exact ⟨p, hpn, by rw [or_absorb h3]; omega⟩
  ·exact ⟨i, hi, by rw [Nat.or_comm, or_absorb h3]; omega⟩
 ·rw [if_neg e]
  exact ⟨_, hu, rfl⟩
theorem nar_spec {G : List Nat} (hG : Gr 9 G) : ∀ (d : Nat) (B P : List Int), B.length ≤ d → TD G B P → TD G (narN d B P).1 (narN d B P).2 ∧ pickM (narN d B P).1 (narN d B P).2 = none ∧ ∀ j : Nat, j < (narN d B P).1.length → ∃ k : Nat, k < B.length ∧ rd (narN d B P).1 (j : Int) = rd B (k : Int)
 | 0, B, P, hl, h => by have := h.pos; omega
 | d + 1, B, P, hl, h => by
  rw [narN]
  cases hpk : pickM B P with
  | none => exact ⟨h, hpk, fun j hj => ⟨j, hj, rfl⟩⟩
  | some i =>
   obtain ⟨p, hp, hi, hpn, hb⟩ := merge_bags h hpk
   have hpt : (rd P (i : Int)).toNat = p := by omega
   simp only
   rw [hpt]
   have ht := merge_td hG h hi hp
   obtain ⟨r1, r2, r3⟩ := nar_spec hG d (mergeB B i p) (mergeP P i p) (by rw [mergeB_len hi]; omega) ht
   refine ⟨r1, r2, fun j hj => ?_⟩
   obtain ⟨k, hk, e⟩ := r3 j hj
   obtain ⟨m, hm, e2⟩ := hb k hk
   exact ⟨m, hm, by rw [e, e2]⟩
theorem pick_none {G : List Nat} {B P : List Int} (h : TD G B P) (hpk : pickM B P = none) : ∀ i p, i < B.length → parO P i = some p → (∃ v, bet B i v ∧ ¬ bet B p v) ∧ ∃ v, bet B p v ∧ ¬ bet B i v := by
 intro i p hi e
 rw [parO_some] at e
 have h1 := List.find?_eq_none.1 hpk i (List.mem_range.2 (by rw [h.len]; exact hi))
 unfold okM at h1
 rw [e] at h1
 have h2 : ¬ (diff (bagN B (i : Int)) (bagN B (p : Int)) = 0) ∧ ¬ (diff (bagN B (p : Int)) (bagN B (i : Int)) = 0) := by
  constructor
  ·intro h3; rw [h3] at h1; simp at h1
  ·intro h3; rw [h3] at h1; simp at h1
 rw [diff_zero, diff_zero] at h2
 constructor
 ·apply Classical.byContradiction
  intro hn
  exact h2.1 fun v hv => Classical.byContradiction fun hx => hn ⟨v, hv, hx⟩
 ·apply Classical.byContradiction
  intro hn
  exact h2.2 fun v hv => Classical.byContradiction fun hx => hn ⟨v, hv, hx⟩
theorem nar_within {G : List Nat} (hG : Gr 9 G) {B P : List Int} (h : TD G B P) (hpk : pickM B P = none) {a b : Nat} (ha : a < B.length) (hb : b < B.length) (hab : a ≠ b) : ∃ v, bet B a v ∧ ¬ bet B b v :=
 narrow_all (td_to hG h) (pick_none h hpk) ha hb hab
theorem nar_few {G : List Nat} (hG : Gr 9 G) {B P : List Int} (h : TD G B P) (hpk : pickM B P = none) : B.length ≤ G.length := by
 classical
 have hA := td_to hG h
 have hex : ∀ k, k < B.length → ∃ v, v < G.length ∧ TopOf (parO P) (bet B) v k := fun k hk => narrow_few hA (pick_none h hpk) ⟨0, hG.pos⟩ hk
 let f : Nat → Nat := fun k => if hk : k < B.length then Classical.choose (hex k hk) else 0
 have hf : ∀ k, k < B.length → f k < G.length ∧ TopOf (parO P) (bet B) (f k) k := fun k hk => by
  have := Classical.choose_spec (hex k hk)
  show (if hk : k < B.length then Classical.choose (hex k hk) else 0) < G.length ∧ TopOf (parO P) (bet B) (if hk : k < B.length then Classical.choose (hex k hk) else 0) k
  rw [dif_pos hk]
  exact this
 have hnd : ((List.range B.length).map f).Nodup := by
  refine List.pairwise_map.2 (List.Pairwise.imp_of_mem (fun {a b} ha hb hlt e => ?_) List.pairwise_lt_range)
  have h1 := hf a (List.mem_range.1 ha)
  have h2 := hf b (List.mem_range.1 hb)
  obtain ⟨t, t1, t2, t3⟩ := hA.top (f a) h1.1
  have e1 := t3 a (List.mem_range.1 ha) h1.2
  have e2 := t3 b (List.mem_range.1 hb) (by rw [e]; exact h2.2)
  omega
 have := nodup_le hnd (m := List.range G.length) fun x hx => by
  obtain ⟨k, hk, rfl⟩ := List.mem_map.1 hx
  exact List.mem_range.2 (hf k (List.mem_range.1 hk)).1
 simpa using this
end Go.Proofs.YtoffehihicabcaaDoor.X
end
