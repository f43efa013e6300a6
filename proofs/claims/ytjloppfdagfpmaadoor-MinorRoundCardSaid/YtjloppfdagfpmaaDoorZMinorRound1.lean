/- Part 1 of what MinorRound rests on: contracts of the functions that it reaches, and what they compute, in plain words. -/
import Derived.Test.YtjloppfdagfpmaaDoorZMinorRound0
import Derived.Laws.EntriesVeiled
import Derived.WalkSpells
set_option linter.unusedVariables false
set_option linter.unusedSimpArgs false
section
namespace Go.Proofs.YtjloppfdagfpmaaDoor.X
open Go.RowKit YtjloppfdagfpmaaDoorW.PrintWords YtjloppfdagfpmaaDoorW.PrintLast YtjloppfdagfpmaaDoorW.PrintMore
attribute [local go_sem] max2_int min2_int max_two min_two max_three min_three max_four min_four
/-! ### lampblacklaw07_awake: function 17 -/
def lampblacklaw07_awake.f (k : Nat)  : Option (Bool) := (minor_Model.f (([2, 1] : List Int)) (([2, 1] : List Int))).bind fun bt135 => (if bt135.2 = 0 then ((slices_Equal_int_int.f k bt135.1 (([1, 2] : List Int))).bind fun t142 => (some t142)) else (some false))
theorem lampblacklaw07_awake.mono : ∀ k, LeO (lampblacklaw07_awake.f k ) (lampblacklaw07_awake.f (k + 1) ) := by
 intro  k
 unfold lampblacklaw07_awake.f
 repeat' first
   | (with_reducible exact slices_Equal_int_int.mono _ _ _)
   | (with_reducible exact LeO.refl _)
   | (with_reducible exact LeO.none _)
   | (with_reducible refine LeO.ite ?_ ?_)
   | (with_reducible refine LeO.bind ?_ (fun _ => ?_))
   | exact slices_Equal_int_int.mono _ _ _
   | exact LeO.none _
   | refine LeO.ite ?_ ?_
   | refine LeO.bind ?_ (fun _ => ?_)
set_option maxHeartbeats 8000000 in
set_option maxRecDepth 100000 in
theorem lampblacklaw07_awake.calls (k : Nat)  (r : Bool) (w : World) (hGL : GL w) (h : lampblacklaw07_awake.f k  = some r) :
  Calls Tryd.prog 17 #[] w fun e w' => e = .returned (.bool r) ∧ Below w.heap.size w w' := by
 have HGL := Aside0.mk hGL
 clear hGL
 have HB := Aside0.mk (Below.refl w.heap.size w)
 have H : ((minor_Model.f (([2, 1] : List Int)) (([2, 1] : List Int))).bind fun bt135 => (if bt135.2 = 0 then ((slices_Equal_int_int.f k bt135.1 (([1, 2] : List Int))).bind fun t142 => (some t142)) else (some false))) = some r := h
 clear h
 obtain ⟨y129, hy129⟩ : ∃ y_ : List Int, y_ = (([2, 1] : List Int)) := ⟨_, rfl⟩
 replace H : ((minor_Model.f y129 (([2, 1] : List Int))).bind fun bt135 => (if bt135.2 = 0 then ((slices_Equal_int_int.f k bt135.1 (([1, 2] : List Int))).bind fun t142 => (some t142)) else (some false))) = some r := by first | (rw [hy129]; with_reducible exact H) | (have H2_ := (Option.bind_some _ _).symm.trans H; rw [hy129]; with_reducible exact H2_) | (have H2_ := (Option.bind_some _ _).symm.trans H; with_reducible exact H2_) | with_reducible exact H | (rw [hy129]; exact H) | exact H
 have Ny129 := Aside0.mk hy129
 clear hy129
 obtain ⟨y132, hy132⟩ : ∃ y_ : List Int, y_ = (([2, 1] : List Int)) := ⟨_, rfl⟩
 replace H : ((minor_Model.f y129 y132).bind fun bt135 => (if bt135.2 = 0 then ((slices_Equal_int_int.f k bt135.1 (([1, 2] : List Int))).bind fun t142 => (some t142)) else (some false))) = some r := by first | (rw [hy132]; with_reducible exact H) | (have H2_ := (Option.bind_some _ _).symm.trans H; rw [hy132]; with_reducible exact H2_) | (have H2_ := (Option.bind_some _ _).symm.trans H; with_reducible exact H2_) | with_reducible exact H | (rw [hy132]; exact H) | exact H
 have Ny132 := Aside0.mk hy132
 clear hy132
 replace H := Option.bind_eq_some_iff.mp H
 obtain ⟨⟨t135, t136⟩, A10, H⟩ := H
 replace H : (if t136 = 0 then ((slices_Equal_int_int.f k t135 (([1, 2] : List Int))).bind fun t142 => (some t142)) else (some false)) = some r := H
 have A1 := Aside0.mk A10
 clear A10
 by_cases c2 : t136 = 0
 ·rw [if_pos c2] at H
  have c2b0 : (t136 == 0) = true := beq_iff_eq.mpr c2
  have c2b1 : (t136 != 0) = false := bne_eq_false_iff_eq.mpr c2
  clear c2
  obtain ⟨y139, hy139⟩ : ∃ y_ : List Int, y_ = (([1, 2] : List Int)) := ⟨_, rfl⟩
  replace H : ((slices_Equal_int_int.f k t135 y139).bind fun t142 => (some t142)) = some r := by first | (rw [hy139]; with_reducible exact H) | (have H2_ := (Option.bind_some _ _).symm.trans H; rw [hy139]; with_reducible exact H2_) | (have H2_ := (Option.bind_some _ _).symm.trans H; with_reducible exact H2_) | with_reducible exact H | (rw [hy139]; exact H) | exact H
  have Ny139 := Aside0.mk hy139
  clear hy139
  replace H := Option.bind_eq_some_iff.mp H
  obtain ⟨t142, A30, H⟩ := H
  replace H : (some t142) = some r := H
  have A3 := Aside0.mk A30
  clear A30
  obtain rfl := Option.some.inj H
  go_enter Tryd.func17, Tryd.ntmps17
  go_wp2_with (first | ((with_reducible refine gate_dst (N := 4) rfl ?_); (try (refine gate_guard (by rfl) ?_; dsimp only)); refine Kd.R_lit (Kd.int .i64) _ 3 ?hg (N := 4) ?hd (xs := ([2, 1] : List Int)) (inner := [.int .i64 2, .int .i64 1]) (ok := fun _ => True) (okp := fun _ => True) ?hr ?hp (fun _ hk => hk) trivial (Below.refl _ _) (Nat.le_refl _) (by simp) ?_; (case hd => rfl); (case hg => rfl); (case hr => first | (go_simp; done) | (go_simp; rfl)); (case hp => exact (Reps.one (show Kd.M (Kd.int .i64) _ _ _ 2 [.int .i64 2] from rfl) (Reps.one (show Kd.M (Kd.int .i64) _ _ _ 1 [.int .i64 1] from rfl) (Reps.none _ _)))); intro v130 w4 ho5 hb hg_ hnew_; clear hg_ hnew_; (first | rw [← Ny129.out] at ho5 | (simp only [Int.reduceToNat] at ho5; rw [← Ny129.out] at ho5)); have n0_ := Aside0.mk (Kd.R_lower ho5 (below_size (Qaw))); have n1_ := Aside0.mk (below_step (Qaw) hb); clear HB; have HO131 := n0_; have HB := n1_; clear n0_ n1_; clear hb ho5) | ((with_reducible refine gate_dst (N := 5) rfl ?_); (try (refine gate_guard (by rfl) ?_; dsimp only)); refine Kd.R_lit (Kd.int .i64) _ 3 ?hg (N := 5) ?hd (xs := ([2, 1] : List Int)) (inner := [.int .i64 2, .int .i64 1]) (ok := fun _ => True) (okp := fun _ => True) ?hr ?hp (fun _ hk => hk) trivial (Below.refl _ _) (Nat.le_refl _) (by simp) ?_; (case hd => rfl); (case hg => rfl); (case hr => first | (go_simp; done) | (go_simp; rfl)); (case hp => exact (Reps.one (show Kd.M (Kd.int .i64) _ _ _ 2 [.int .i64 2] from rfl) (Reps.one (show Kd.M (Kd.int .i64) _ _ _ 1 [.int .i64 1] from rfl) (Reps.none _ _)))); intro v133 w6 ho7 hb hg_ hnew_; clear hg_ hnew_; (first | rw [← Ny132.out] at ho7 | (simp only [Int.reduceToNat] at ho7; rw [← Ny132.out] at ho7)); have n0_ := Aside0.mk (Kd.R_elder' (Qro HO131.out) (Kd.R_base ho7) hb); have n1_ := Aside0.mk (Kd.R_lower (Kd.R_new' ho7 (Kd.R_lt (Qro HO131.out))) (below_size (Qaw))); have n2_ := Aside0.mk (below_step (Qaw) hb); clear HO131; clear HB; have HO131 := n0_; have HO134 := n1_; have HB := n2_; clear n0_ n1_ n2_; clear hb ho7; obtain ⟨Ao8, co8, eo8⟩ := Kd.R_slice HO131.out; subst eo8; obtain ⟨Ao9, co9, eo9⟩ := Kd.R_slice HO134.out; subst eo9) | ((with_reducible refine gate_callee (f := 21) rfl ?_); refine goesL_ (some 6) rfl rfl Tryd.func21 (by kernel_rfl) rfl #[.slice Ao8 y129.length co8, .slice Ao9 y132.length co9] rfl (Qls) ?_; (with_reducible refine (minor_Model.calls (hGL := (Qlg)) _ _ y129 _ _ y132 t135 t136 _ ?side1 ?side2 ?side3 ?side4 A1.out).mono ?_); (case side1 => exact Qsc (Kd.R_reads' HO131.out).2.2); (case side2 => exact (Kd.R_reads' HO131.out).2.1); (case side3 => exact Qsc (Kd.R_reads' HO134.out).2.2); (case side4 => exact (Kd.R_reads' HO134.out).2.1); rintro e w10 ⟨v137, rfl, ho0, hb⟩; refine ⟨_, rfl, ?_⟩; have n0_ := Aside0.mk (Kd.R_elder' (Qro HO131.out) (Kd.R_base ho0) hb); have n1_ := Aside0.mk (Kd.R_elder' (Qro HO134.out) (Kd.R_base ho0) hb); have n2_ := Aside0.mk (Kd.R_lower (Kd.R_new' (Kd.R_new' ho0 (Kd.R_lt (Qro HO131.out))) (Kd.R_lt (Qro HO134.out))) (below_size (Qaw))); have n3_ := Aside0.mk (below_step (Qaw) hb); clear HO131; clear HO134; clear HB; have HO131 := n0_; have HO134 := n1_; have HO138 := n2_; have HB := n3_; clear n0_ n1_ n2_ n3_; (try clear hb); (try clear hb2); (try clear hk); (try clear hi); (try clear ho0)) | ((with_reducible refine gate_dst (N := 13) rfl ?_); (try (refine gate_guard (by rfl) ?_; dsimp only)); refine Kd.R_lit (Kd.int .i64) _ 3 ?hg (N := 13) ?hd (xs := ([1, 2] : List Int)) (inner := [.int .i64 1, .int .i64 2]) (ok := fun _ => True) (okp := fun _ => True) ?hr ?hp (fun _ hk => hk) trivial (Below.refl _ _) (Nat.le_refl _) (by simp) ?_; (case hd => rfl); (case hg => rfl); (case hr => first | (go_simp; done) | (go_simp; rfl)); (case hp => exact (Reps.one (show Kd.M (Kd.int .i64) _ _ _ 1 [.int .i64 1] from rfl) (Reps.one (show Kd.M (Kd.int .i64) _ _ _ 2 [.int .i64 2] from rfl) (Reps.none _ _)))); intro v140 w11 ho12 hb hg_ hnew_; clear hg_ hnew_; (first | rw [← Ny139.out] at ho12 | (simp only [Int.reduceToNat] at ho12; rw [← Ny139.out] at ho12)); have n0_ := Aside0.mk (Kd.R_elder' (Qro HO131.out) (Kd.R_base ho12) hb); have n1_ := Aside0.mk (Kd.R_elder' (Qro HO134.out) (Kd.R_base ho12) hb); have n2_ := Aside0.mk (Kd.R_elder' (Qro HO138.out) (Kd.R_base ho12) hb); have n3_ := Aside0.mk (Kd.R_lower (Kd.R_new' (Kd.R_new' (Kd.R_new' ho12 (Kd.R_lt (Qro HO131.out))) (Kd.R_lt (Qro HO134.out))) (Kd.R_lt (Qro HO138.out))) (below_size (Qaw))); have n4_ := Aside0.mk (below_step (Qaw) hb); clear HO131; clear HO134; clear HO138; clear HB; have HO131 := n0_; have HO134 := n1_; have HO138 := n2_; have HO141 := n3_; have HB := n4_; clear n0_ n1_ n2_ n3_ n4_; clear hb ho12; obtain ⟨Ao13, co13, eo13⟩ := Kd.R_slice HO138.out; subst eo13; obtain ⟨Ao14, co14, eo14⟩ := Kd.R_slice HO141.out; subst eo14) | (go_at_call 27; (with_reducible refine (slices_Equal_int_int.calls k _ _ t135 _ _ y139 t142 _ ?side1 ?side2 ?side3 ?side4 A3.out).mono ?_); (case side1 => exact Qsc (Kd.R_reads' HO138.out).2.2); (case side2 => exact (Kd.R_reads' HO138.out).2.1); (case side3 => exact Qsc (Kd.R_reads' HO141.out).2.2); (case side4 => exact (Kd.R_reads' HO141.out).2.1); rintro e w' ⟨rfl, ⟨nd, rfl⟩⟩))
  go_ret
  exact ⟨by first | rfl | (simp [errW_none, errW_some] <;> rfl) | (simp [*, errW_none, errW_some] <;> rfl), by repeat (first | (with_reducible first | exact HB.out | apply below_alloc | apply pw_below_drewN | apply below_drew1) | exact HB.out)⟩
 ·rw [if_neg c2] at H
  have c2b0 : (t136 == 0) = false := beq_eq_false_iff_ne.mpr c2
  have c2b1 : (t136 != 0) = true := bne_iff_ne.mpr c2
  obtain rfl := Option.some.inj H
  go_enter Tryd.func17, Tryd.ntmps17
  go_wp2_with (first | ((with_reducible refine gate_dst (N := 4) rfl ?_); (try (refine gate_guard (by rfl) ?_; dsimp only)); refine Kd.R_lit (Kd.int .i64) _ 3 ?hg (N := 4) ?hd (xs := ([2, 1] : List Int)) (inner := [.int .i64 2, .int .i64 1]) (ok := fun _ => True) (okp := fun _ => True) ?hr ?hp (fun _ hk => hk) trivial (Below.refl _ _) (Nat.le_refl _) (by simp) ?_; (case hd => rfl); (case hg => rfl); (case hr => first | (go_simp; done) | (go_simp; rfl)); (case hp => exact (Reps.one (show Kd.M (Kd.int .i64) _ _ _ 2 [.int .i64 2] from rfl) (Reps.one (show Kd.M (Kd.int .i64) _ _ _ 1 [.int .i64 1] from rfl) (Reps.none _ _)))); intro v130 w15 ho16 hb hg_ hnew_; clear hg_ hnew_; (first | rw [← Ny129.out] at ho16 | (simp only [Int.reduceToNat] at ho16; rw [← Ny129.out] at ho16)); have n0_ := Aside0.mk (Kd.R_lower ho16 (below_size (Qaw))); have n1_ := Aside0.mk (below_step (Qaw) hb); clear HB; have HO131 := n0_; have HB := n1_; clear n0_ n1_; clear hb ho16) | ((with_reducible refine gate_dst (N := 5) rfl ?_); (try (refine gate_guard (by rfl) ?_; dsimp only)); refine Kd.R_lit (Kd.int .i64) _ 3 ?hg (N := 5) ?hd (xs := ([2, 1] : List Int)) (inner := [.int .i64 2, .int .i64 1]) (ok := fun _ => True) (okp := fun _ => True) ?hr ?hp (fun _ hk => hk) trivial (Below.refl _ _) (Nat.le_refl _) (by simp) ?_; (case hd => rfl); (case hg => rfl); (case hr => first | (go_simp; done) | (go_simp; rfl)); (case hp => exact (Reps.one (show Kd.M (Kd.int .i64) _ _ _ 2 [.int .i64 2] from rfl) (Reps.one (show Kd.M (Kd.int .i64) _ _ _ 1 [.int .i64 1] from rfl) (Reps.none _ _)))); intro v133 w17 ho18 hb hg_ hnew_; clear hg_ hnew_; (first | rw [← Ny132.out] at ho18 | (simp only [Int.reduceToNat] at ho18; rw [← Ny132.out] at ho18)); have n0_ := Aside0.mk (Kd.R_elder' (Qro HO131.out) (Kd.R_base ho18) hb); have n1_ := Aside0.mk (Kd.R_lower (Kd.R_new' ho18 (Kd.R_lt (Qro HO131.out))) (below_size (Qaw))); have n2_ := Aside0.mk (below_step (Qaw) hb); clear HO131; clear HB; have HO131 := n0_; have HO134 := n1_; have HB := n2_; clear n0_ n1_ n2_; clear hb ho18; obtain ⟨Ao19, co19, eo19⟩ := Kd.R_slice HO131.out; subst eo19; obtain ⟨Ao20, co20, eo20⟩ := Kd.R_slice HO134.out; subst eo20) | ((with_reducible refine gate_callee (f := 21) rfl ?_); refine goesL_ (some 6) rfl rfl Tryd.func21 (by kernel_rfl) rfl #[.slice Ao19 y129.length co19, .slice Ao20 y132.length co20] rfl (Qls) ?_; (with_reducible refine (minor_Model.calls (hGL := (Qlg)) _ _ y129 _ _ y132 t135 t136 _ ?side1 ?side2 ?side3 ?side4 A1.out).mono ?_); (case side1 => exact Qsc (Kd.R_reads' HO131.out).2.2); (case side2 => exact (Kd.R_reads' HO131.out).2.1); (case side3 => exact Qsc (Kd.R_reads' HO134.out).2.2); (case side4 => exact (Kd.R_reads' HO134.out).2.1); rintro e w21 ⟨v137, rfl, ho0, hb⟩; refine ⟨_, rfl, ?_⟩; have n0_ := Aside0.mk (Kd.R_elder' (Qro HO131.out) (Kd.R_base ho0) hb); have n1_ := Aside0.mk (Kd.R_elder' (Qro HO134.out) (Kd.R_base ho0) hb); have n2_ := Aside0.mk (Kd.R_lower (Kd.R_new' (Kd.R_new' ho0 (Kd.R_lt (Qro HO131.out))) (Kd.R_lt (Qro HO134.out))) (below_size (Qaw))); have n3_ := Aside0.mk (below_step (Qaw) hb); clear HO131; clear HO134; clear HB; have HO131 := n0_; have HO134 := n1_; have HO138 := n2_; have HB := n3_; clear n0_ n1_ n2_ n3_; (try clear hb); (try clear hb2); (try clear hk); (try clear hi); (try clear ho0)))
  go_ret
  exact ⟨by first | rfl | (simp [errW_none, errW_some] <;> rfl) | (simp [*, errW_none, errW_some] <;> rfl), by repeat (first | (with_reducible first | exact HB.out | apply below_alloc | apply pw_below_drewN | apply below_drew1) | exact HB.out)⟩
end Go.Proofs.YtjloppfdagfpmaaDoor.X
end
section
namespace Go.Proofs.YtjloppfdagfpmaaDoor.X
open Go.RowKit YtjloppfdagfpmaaDoorW.PrintWords YtjloppfdagfpmaaDoorW.PrintLast YtjloppfdagfpmaaDoorW.PrintMore
attribute [local go_sem] max2_int min2_int max_two min_two max_three min_three max_four min_four
/-! ### api_Graph_int_30: function 30 -/
def api_Graph_int_30.l0 : Nat → List Int → List Int → Int → Int → Option (Bool)
 | 0, _, _, _, _ => none
 | k + 1, x0, x1, x12, x13 => if x13 < x12 then (if 0 ≤ x13 then (if x13 < (x0.length : Int) then (if x13 < (x1.length : Int) then (if (rd x0 x13) = (rd x1 x13) then (api_Graph_int_30.l0 k x0 x1 x12 (wrap64 (x13 + 1))) else (some false)) else (none)) else (none)) else (none)) else (some true)
end Go.Proofs.YtjloppfdagfpmaaDoor.X
end
section
/- (minor) What the laws share: connected sets, valid graphs, patterns, beginnings, equal slices, an edge is a minor of itself. -/
namespace Go.Proofs.YtjloppfdagfpmaaDoor.X
open Go.RowKit YtjloppfdagfpmaaDoorW.PrintWords YtjloppfdagfpmaaDoorW.PrintLast YtjloppfdagfpmaaDoorW.PrintMore YtjloppfdagfpmaaDoor.T
theorem mn_nat (a b : Nat) : mn (a : Int) (b : Int) = ((min a b : Nat) : Int) := by unfold mn; split <;> omega
def low (a : Nat) : Nat := (els a 9).headD 0
theorem few_eq (g : List Int) (hg : g.length < 2 ^ 44) : ∃ h, lampblacklaw07_Few.f g = some h ∧ (chk 8 g = true → h = g) ∧ (chk 8 g = false → chk 8 h = false) ∧ h.length ≤ 12 := by
 have hm : mn (g.length : Int) 12 = ((min g.length 12 : Nat) : Int) := mn_nat g.length 12
 refine ⟨g.take (min g.length 12), ?_, ?_, ?_, ?_⟩
 ·unfold lampblacklaw07_Few.f slices_Clone_Graph.f
  simp only [hm, Int.toNat_natCast]
  rw [if_pos (by omega), if_pos (by omega)]
  simp only [Option.bind_some, List.length_nil, List.nil_append]
  rw [if_pos (by rw [List.length_take]; omega)]
  rfl
 ·intro h
  simp only [chk, Bool.and_eq_true, decide_eq_true_eq] at h
  exact List.take_of_length_le (by omega)
 ·intro h
  by_cases hl : g.length ≤ 12
  ·rw [List.take_of_length_le (by omega)]; exact h
  ·unfold chk
   have : ¬ (List.take (min g.length 12) g).length ≤ 8 := by rw [List.length_take]; omega
   rw [decide_eq_false this, Bool.and_false, Bool.false_and]
 ·rw [List.length_take]; omega
theorem awake_ev : Ev (fun k => lampblacklaw07_awake.f k) true := Ev.of (lampblacklaw07_awake.mono) (k := 40) (by decide +kernel)
end Go.Proofs.YtjloppfdagfpmaaDoor.X
end
section
/- A node with few neighbours taken away, these made neighbours of each other: width and minors. -/
namespace Go.Proofs.YtjloppfdagfpmaaDoor.T
open Go.RowKit YtjloppfdagfpmaaDoorW.PrintWords YtjloppfdagfpmaaDoorW.PrintLast YtjloppfdagfpmaaDoorW.PrintMore
def Fil (adj : Nat → Nat → Prop) (v x y : Nat) : Prop := x ≠ y ∧ x ≠ v ∧ y ≠ v ∧ (adj x y ∨ (adj x v ∧ adj v y))
theorem fil_symm {adj : Nat → Nat → Prop} (hs : ∀ x y, adj x y → adj y x) {v : Nat} : ∀ x y, Fil adj v x y → Fil adj v y x := by
 rintro x y ⟨h1, h2, h3, h | ⟨h, h'⟩⟩
 ·exact ⟨h1.symm, h3, h2, .inl (hs _ _ h)⟩
 ·exact ⟨h1.symm, h3, h2, .inr ⟨hs _ _ h', hs _ _ h⟩⟩
theorem way_fil {adj : Nat → Nat → Prop} (hi : ∀ x, ¬ adj x x) {S : Nat → Prop} {v x y : Nat} (hx : x ≠ v) (hyv : y ≠ v) (hyx : y ≠ x) (hv : ¬ S v) (h : Way adj (fun u => S u ∨ u = v) x y) : Way (Fil adj v) S x y := by
 have key : ∀ y, Way adj (fun u => S u ∨ u = v) x y → (y ≠ v → y = x ∨ Way (Fil adj v) S x y) ∧ (y = v → adj x v ∨ ∃ z, z ≠ v ∧ z ≠ x ∧ Way (Fil adj v) S x z ∧ S z ∧ adj z v) := by
  intro y h
  induction h with
  | @one u ha =>
   refine ⟨fun hu => ?_, fun hu => .inl (hu ▸ ha)⟩
   exact .inr (.one ⟨fun e => hi x (e ▸ ha), hx, hu, .inl ha⟩)
  | @more z u hz hS ha ih =>
   refine ⟨fun hu => ?_, fun hu => ?_⟩
   ·by_cases hux : u = x
    ·exact .inl hux
    ·right
     by_cases hzv : z = v
     ·subst hzv
      rcases ih.2 rfl with h | ⟨q, hq1, hq2, hq3, hq4, hq5⟩
      ·exact .one ⟨fun e => hux e.symm, hx, hu, .inr ⟨h, ha⟩⟩
      ·by_cases e : q = u
       ·subst e; exact hq3
       ·exact .more hq3 hq4 ⟨e, hq1, hu, .inr ⟨hq5, ha⟩⟩
     ·rcases ih.1 hzv with e | hw
      ·subst e; exact .one ⟨fun e => hux e.symm, hx, hu, .inl ha⟩
      ·exact .more hw (hS.resolve_right hzv) ⟨fun e => hi u (e ▸ ha), hzv, hu, .inl ha⟩
   ·subst hu
    have hzv : z ≠ u := fun e => hi u (e ▸ ha)
    by_cases hzx : z = x
    ·subst hzx; exact .inl ha
    ·exact .inr ⟨z, hzv, hzx, (ih.1 hzv).resolve_left hzx, hS.resolve_right hzv, ha⟩
 exact ((key y h).1 hyv).resolve_left hyx
theorem elim_fil {V : Nat → Prop} {adj : Nat → Nat → Prop} (hi : ∀ x, ¬ adj x x) {k v : Nat} (hv : V v) (hk : AtMost k (adj v)) {S : Nat → Prop} (h : Elim (fun x => V x ∧ x ≠ v) (Fil adj v) k S) : Elim V adj k (fun u => S u ∨ u = v) := by
 induction h with
 | nil =>
  refine (Elim.snoc v Elim.nil hv id (hk.mono (Nat.le_refl _) fun u hu => ?_)).ext fun u => Iff.rfl
  have key : ∀ u, Way adj (fun _ => False) v u → adj v u := by
   intro u hw
   cases hw with
   | one h => exact h
   | more _ h _ => exact h.elim
  exact key u hu.1
 | @snoc S w h1 hw hSw ha ih =>
  have hSv : ¬ S v := fun hc => (h1.sub v hc).2 rfl
  refine (Elim.snoc w ih hw.1 (fun hc => hc.elim hSw hw.2) (ha.mono (Nat.le_refl _) fun u hu => ?_)).ext fun u => ?_
  ·obtain ⟨hu1, hu2, hu3⟩ := hu
   rw [not_or] at hu2
   exact ⟨way_fil hi hw.2 hu2.2 hu3 hSv hu1, hu2.1, hu3⟩
  ·constructor
   ·rintro ((h | h) | h)
    ·exact .inl (.inl h)
    ·exact .inr h
    ·exact .inl (.inr h)
   ·rintro ((h | h) | h)
    ·exact .inl (.inl h)
    ·exact .inr h
    ·exact .inl (.inr h)
theorem mnr_mono {V : Nat → Prop} {adj adj' : Nat → Nat → Prop} {k : Nat} {pe : Nat → Nat → Prop} {W : Nat → Prop} (hV : ∀ x, W x → V x) (h : ∀ x y, adj' x y → adj x y) (hm : Mnr W adj' k pe) : Mnr V adj k pe :=
 mnr_map (fun x u => u = x) (fun x hx => ⟨conn_one adj x, fun u hu => by rw [hu]; exact hV x hx⟩) (fun x y u _ _ h1 h2 => h1.symm.trans h2) (fun x y _ _ ha => ⟨x, y, rfl, rfl, h x y ha⟩) hm
theorem fil_mnr {V : Nat → Prop} {adj : Nat → Nat → Prop} (hs : ∀ x y, adj x y → adj y x) (hi : ∀ x, ¬ adj x x) {v : Nat} (hv : V v) (h2 : AtMost 2 (adj v)) {k : Nat} {pe : Nat → Nat → Prop} (h : Mnr (fun x => V x ∧ x ≠ v) (Fil adj v) k pe) : Mnr V adj k pe := by
 by_cases h1 : AtMost 1 (adj v)
 ·refine mnr_mono (fun x hx => hx.1) (fun x y hxy => ?_) h
  obtain ⟨hne, _, _, ha | ⟨ha, hb⟩⟩ := hxy
  ·exact ha
  ·exfalso
   obtain ⟨l, hl, hm⟩ := h1
   have m1 := hm x (hs _ _ ha)
   have m2 := hm y hb
   have := nodup_le (l := [x, y]) (m := l) (by simp [hne]) (by
    intro z hz
    simp at hz
    rcases hz with rfl | rfl
    ·exact m1
    ·exact m2)
   simp at this
   omega
 ·obtain ⟨a, ha, _⟩ := not_atMost h1 [] (by simp)
  have hne : a ≠ v := fun e => hi v (e ▸ ha)
  refine ctr_mnr (u := a) (v := v) hs (hs _ _ ha) hv hne ?_
  refine mnr_mono (fun x hx => hx) (fun x y hxy => ?_) h
  obtain ⟨h3, h4, h5, hb | ⟨hb, hc⟩⟩ := hxy
  ·exact ⟨h3, h4, h5, .inl hb⟩
  ·refine ⟨h3, h4, h5, .inr ?_⟩
   by_cases e1 : x = a
   ·exact .inl ⟨e1, hc⟩
   ·by_cases e2 : y = a
    ·exact .inr ⟨e2, hs _ _ hb⟩
    ·exfalso
     obtain ⟨l, hl, hm⟩ := h2
     have := nodup_le (l := [x, y, a]) (m := l) (by simp; exact ⟨⟨h3, e1⟩, e2⟩) (by
      intro z hz
      simp at hz
      rcases hz with rfl | rfl | rfl
      ·exact hm _ (hs _ _ hb)
      ·exact hm _ hc
      ·exact hm _ ha)
     simp at this
     omega
end Go.Proofs.YtjloppfdagfpmaaDoor.T
end
section
/- Minors of a graph with a node less, or with two neighbours made one; of complete patterns with a node less. -/
namespace Go.Proofs.YtjloppfdagfpmaaDoor.T
open Go.RowKit YtjloppfdagfpmaaDoorW.PrintWords YtjloppfdagfpmaaDoorW.PrintLast YtjloppfdagfpmaaDoorW.PrintMore
theorem mnr_pe {V : Nat → Prop} {adj : Nat → Nat → Prop} {k : Nat} {pe pe' : Nat → Nat → Prop} (hp : ∀ i j, i < k → j < k → pe' i j → pe i j) (h : Mnr V adj k pe) : Mnr V adj k pe' := by
 obtain ⟨M, h1, h2, h3⟩ := h
 exact ⟨M, h1, h2, fun i j hi hj hij => h3 i j hi hj (hp i j hi hj hij)⟩
end Go.Proofs.YtjloppfdagfpmaaDoor.T
end
section
/- No triangle as a minor: width 1, fewer edges than nodes in each part; no K(4): width 2. -/
namespace Go.Proofs.YtjloppfdagfpmaaDoor.T
open Go.RowKit YtjloppfdagfpmaaDoorW.PrintWords YtjloppfdagfpmaaDoorW.PrintLast YtjloppfdagfpmaaDoorW.PrintMore
theorem elim_of {k : Nat} (hk : k ≤ 2) (core : ∀ (V : List Nat) (adj : Nat → Nat → Prop), V ≠ [] → (∀ x y, adj x y → adj y x) → (∀ x, ¬ adj x x) → (∀ x y, adj x y → x ∈ V) → (∀ x, x ∈ V → ¬ AtMost k (adj x)) → Mnr (fun x => x ∈ V) adj (k + 2) (fun i j => i ≠ j)) :
  ∀ (n : Nat) (V : List Nat) (adj : Nat → Nat → Prop), V.length = n → (∀ x y, adj x y → adj y x) → (∀ x, ¬ adj x x) → (∀ x y, adj x y → x ∈ V) → ¬ Mnr (fun x => x ∈ V) adj (k + 2) (fun i j => i ≠ j) → Elim (fun x => x ∈ V) adj k (fun x => x ∈ V) := by
 intro n
 induction n using Nat.strongRecOn with
 | _ n ih =>
  intro V adj hl hs hi hV hno
  by_cases hne : V = []
  ·subst hne
   exact Elim.nil.ext fun u => by simp
  ·have : ∃ v, v ∈ V ∧ AtMost k (adj v) := by
    apply Classical.byContradiction
    intro hn
    exact hno (core V adj hne hs hi hV fun x hx hm => hn ⟨x, hx, hm⟩)
   obtain ⟨v, hv, hm⟩ := this
   have e : (fun x => x ∈ V ∧ x ≠ v) = fun x => x ∈ V.filter (fun x => decide (x ≠ v)) := funext fun x => propext (by simp)
   have less : (V.filter (fun x => decide (x ≠ v))).length < V.length := List.length_filter_lt_length_iff_exists.2 ⟨v, hv, by simp⟩
   have h1 := ih _ (by omega) (V.filter fun x => decide (x ≠ v)) (Fil adj v) rfl (fil_symm hs) (fun x h => h.1 rfl) (by
    rintro x y ⟨h1, h2, h3, h | ⟨h, h'⟩⟩
    ·simp; exact ⟨hV _ _ h, h2⟩
    ·simp; exact ⟨hV _ _ h, h2⟩) (fun h => hno (fil_mnr hs hi hv (hm.mono hk fun u h => h) (by rw [e]; exact h)))
   rw [← e] at h1
   refine (elim_fil hi hv hm h1).ext fun u => ?_
   constructor
   ·rintro (h | h)
    ·exact h.1
    ·rw [h]; exact hv
   ·intro h
    by_cases e : u = v
    ·exact .inr e
    ·exact .inl ⟨h, e⟩
theorem range_mem (n : Nat) : (fun x => x ∈ List.range n) = fun x => x < n := funext fun x => propext List.mem_range
theorem no_k4 {m : Nat} {G : List Nat} (hG : Gr m G) (h : ¬ Mnr (fun x => x < G.length) (Adj G) 4 (fun i j => i ≠ j)) : Elim (fun x => x < G.length) (Adj G) 2 (fun x => x < G.length) := by
 rw [← range_mem] at h ⊢
 exact elim_of (by omega) (fun V adj h1 h2 h3 h4 h5 => deg3_k4 _ V adj rfl h1 h2 h3 h4 h5) _ _ _ rfl (fun x y h => hG.adj_symm h) (fun x h => hG.adj_irr h) (fun x y h => List.mem_range.2 (hG.adj_lt' h)) h
/-! Edges within a set. -/
theorem diff_tb (X v j : Nat) : (diff X (2 ^ v)).testBit j = (X.testBit j && !decide (j = v)) := by
 rw [Bool.eq_iff_iff, Bool.and_eq_true, Bool.not_eq_true', decide_eq_false_iff_not]
 have h := diff_bset X (2 ^ v) j
 rw [two_pow_bit] at h
 exact h
theorem pc_split {X v : Nat} (h : bset X v) : ∀ n, pc X n = pc (diff X (2 ^ v)) n + (if v < n then 1 else 0)
 | 0 => rfl
 | n + 1 => by
  have ih := pc_split h n
  simp only [pc]
  rw [diff_tb, ih]
  by_cases e : n = v
  ·subst e
   have : X.testBit n = true := h
   simp [this]
  ·by_cases h3 : v < n
   ·simp [e, h3, show v < n + 1 by omega]; omega
   ·simp [e, h3, show ¬ v < n + 1 by omega]
theorem diff_pc {X v n : Nat} (hv : bset X v) (hvn : v < n) : pc X n = pc (diff X (2 ^ v)) n + 1 := by rw [pc_split hv n, if_pos hvn]
end Go.Proofs.YtjloppfdagfpmaaDoor.T
end
section
namespace Go.Proofs.YtjloppfdagfpmaaDoor.X
open Go.RowKit YtjloppfdagfpmaaDoorW.PrintWords YtjloppfdagfpmaaDoorW.PrintLast YtjloppfdagfpmaaDoorW.PrintMore
attribute [local go_sem] max2_int min2_int max_two min_two max_three min_three max_four min_four
/-! ### lampblacklaw07_has: function 20 -/
def lampblacklaw07_has.f (l0 : List Int) (l1 : List Int) : Option (Bool × Bool) := (lampblacklaw07_Few.f l0).bind fun t164 => ((minor_Model.f t164 l1).bind fun bt167 => (if bt167.2 = 0 then (some ((bt167.2 == 0), true)) else (some ((bt167.2 == 0), (bt167.2 == 4)))))
set_option maxHeartbeats 8000000 in
set_option maxRecDepth 100000 in
theorem lampblacklaw07_has.calls (A0 : Option Addr) (c0 : Nat) (l0 : List Int) (A1 : Option Addr) (c1 : Nat) (l1 : List Int) (r1 : Bool) (r2 : Bool) (w : World) (hGL : GL w) (hr0 : Kd.C (Kd.int .i64) w A0 l0.length l0) (hc0 : l0.length ≤ c0) (hr1 : Kd.C (Kd.int .i64) w A1 l1.length l1) (hc1 : l1.length ≤ c1) (h : lampblacklaw07_has.f l0 l1 = some (r1, r2)) :
  Calls Tryd.prog 20 #[.slice A0 l0.length c0, .slice A1 l1.length c1] w fun e w' => e = .returned (.tuple #[.bool r1, .bool r2]) ∧ Below w.heap.size w w' := by
 have HGL := Aside0.mk hGL
 clear hGL
 have HR0 := Aside0.mk hr0
 have HC0 := Aside0.mk hc0
 clear hr0 hc0
 have HR1 := Aside0.mk hr1
 have HC1 := Aside0.mk hc1
 clear hr1 hc1
 have HB := Aside0.mk (Below.refl w.heap.size w)
 have H : ((lampblacklaw07_Few.f l0).bind fun t164 => ((minor_Model.f t164 l1).bind fun bt167 => (if bt167.2 = 0 then (some ((bt167.2 == 0), true)) else (some ((bt167.2 == 0), (bt167.2 == 4)))))) = some (r1, r2) := h
 clear h
 replace H := Option.bind_eq_some_iff.mp H
 obtain ⟨t164, A30, H⟩ := H
 replace H : ((minor_Model.f t164 l1).bind fun bt167 => (if bt167.2 = 0 then (some ((bt167.2 == 0), true)) else (some ((bt167.2 == 0), (bt167.2 == 4))))) = some (r1, r2) := H
 have A3 := Aside0.mk A30
 clear A30
 replace H := Option.bind_eq_some_iff.mp H
 obtain ⟨⟨t167, t168⟩, A40, H⟩ := H
 replace H : (if t168 = 0 then (some ((t168 == 0), true)) else (some ((t168 == 0), (t168 == 4)))) = some (r1, r2) := H
 have A4 := Aside0.mk A40
 clear A40
 by_cases c5 : t168 = 0
 ·rw [if_pos c5] at H
  have c5b0 : (t168 == 0) = true := beq_iff_eq.mpr c5
  have c5b1 : (t168 != 0) = false := bne_eq_false_iff_eq.mpr c5
  clear c5
  simp only [Option.some.injEq, Prod.mk.injEq] at H
  obtain ⟨rfl, rfl⟩ := H
  go_enter Tryd.func20, Tryd.ntmps20
  go_wp2_with (first | ((with_reducible refine gate_callee (f := 22) rfl ?_); refine goesL_ (some 10) rfl rfl Tryd.func22 (by kernel_rfl) rfl #[.slice A0 l0.length c0] rfl (Qls) ?_; (with_reducible refine (lampblacklaw07_Few.calls _ _ l0 t164 _ ?side1 ?side2 A3.out).mono ?_); (case side1 => exact Qsc HR0.out); (case side2 => exact HC0.out); rintro e w6 ⟨v165, rfl, ho0, hb⟩; refine ⟨_, rfl, ?_⟩; have n0_ := Aside0.mk (Kd.R_lower ho0 (below_size (Qaw))); have n1_ := Aside0.mk (below_step (Qaw) hb); clear HB; have HO166 := n0_; have HB := n1_; clear n0_ n1_; (try clear hb); (try clear hb2); (try clear hk); (try clear hi); (try clear ho0); obtain ⟨Ao7, co7, eo7⟩ := Kd.R_slice HO166.out; subst eo7) | ((with_reducible refine gate_callee (f := 21) rfl ?_); refine goesL_ (some 12) rfl rfl Tryd.func21 (by kernel_rfl) rfl #[.slice Ao7 t164.length co7, .slice A1 l1.length c1] rfl (Qls) ?_; (with_reducible refine (minor_Model.calls (hGL := (Qlg)) _ _ t164 _ _ l1 t167 t168 _ ?side1 ?side2 ?side3 ?side4 A4.out).mono ?_); (case side1 => exact Qsc (Kd.R_reads' HO166.out).2.2); (case side2 => exact (Kd.R_reads' HO166.out).2.1); (case side3 => exact Qsc (Kd.C_below HR1.out HB.out)); (case side4 => exact HC1.out); rintro e w8 ⟨v169, rfl, ho0, hb⟩; refine ⟨_, rfl, ?_⟩; have n0_ := Aside0.mk (Kd.R_elder' (Qro HO166.out) (Kd.R_base ho0) hb); have n1_ := Aside0.mk (Kd.R_lower (Kd.R_new' ho0 (Kd.R_lt (Qro HO166.out))) (below_size (Qaw))); have n2_ := Aside0.mk (below_step (Qaw) hb); clear HO166; clear HB; have HO166 := n0_; have HO170 := n1_; have HB := n2_; clear n0_ n1_ n2_; (try clear hb); (try clear hb2); (try clear hk); (try clear hi); (try clear ho0)))
  go_ret2
  exact ⟨by first | rfl | (simp [errW_none, errW_some] <;> rfl) | (simp [*, errW_none, errW_some] <;> rfl), by repeat (first | (with_reducible first | exact HB.out | apply below_alloc | apply pw_below_drewN | apply below_drew1) | exact HB.out)⟩
 ·rw [if_neg c5] at H
  have c5b0 : (t168 == 0) = false := beq_eq_false_iff_ne.mpr c5
  have c5b1 : (t168 != 0) = true := bne_iff_ne.mpr c5
  simp only [Option.some.injEq, Prod.mk.injEq] at H
  obtain ⟨rfl, rfl⟩ := H
  go_enter Tryd.func20, Tryd.ntmps20
  go_wp2_with (first | ((with_reducible refine gate_callee (f := 22) rfl ?_); refine goesL_ (some 10) rfl rfl Tryd.func22 (by kernel_rfl) rfl #[.slice A0 l0.length c0] rfl (Qls) ?_; (with_reducible refine (lampblacklaw07_Few.calls _ _ l0 t164 _ ?side1 ?side2 A3.out).mono ?_); (case side1 => exact Qsc HR0.out); (case side2 => exact HC0.out); rintro e w9 ⟨v165, rfl, ho0, hb⟩; refine ⟨_, rfl, ?_⟩; have n0_ := Aside0.mk (Kd.R_lower ho0 (below_size (Qaw))); have n1_ := Aside0.mk (below_step (Qaw) hb); clear HB; have HO166 := n0_; have HB := n1_; clear n0_ n1_; (try clear hb); (try clear hb2); (try clear hk); (try clear hi); (try clear ho0); obtain ⟨Ao10, co10, eo10⟩ := Kd.R_slice HO166.out; subst eo10) | ((with_reducible refine gate_callee (f := 21) rfl ?_); refine goesL_ (some 12) rfl rfl Tryd.func21 (by kernel_rfl) rfl #[.slice Ao10 t164.length co10, .slice A1 l1.length c1] rfl (Qls) ?_; (with_reducible refine (minor_Model.calls (hGL := (Qlg)) _ _ t164 _ _ l1 t167 t168 _ ?side1 ?side2 ?side3 ?side4 A4.out).mono ?_); (case side1 => exact Qsc (Kd.R_reads' HO166.out).2.2); (case side2 => exact (Kd.R_reads' HO166.out).2.1); (case side3 => exact Qsc (Kd.C_below HR1.out HB.out)); (case side4 => exact HC1.out); rintro e w11 ⟨v169, rfl, ho0, hb⟩; refine ⟨_, rfl, ?_⟩; have n0_ := Aside0.mk (Kd.R_elder' (Qro HO166.out) (Kd.R_base ho0) hb); have n1_ := Aside0.mk (Kd.R_lower (Kd.R_new' ho0 (Kd.R_lt (Qro HO166.out))) (below_size (Qaw))); have n2_ := Aside0.mk (below_step (Qaw) hb); clear HO166; clear HB; have HO166 := n0_; have HO170 := n1_; have HB := n2_; clear n0_ n1_ n2_; (try clear hb); (try clear hb2); (try clear hk); (try clear hi); (try clear ho0)))
  go_ret2
  exact ⟨by first | rfl | (simp [errW_none, errW_some] <;> rfl) | (simp [*, errW_none, errW_some] <;> rfl), by repeat (first | (with_reducible first | exact HB.out | apply below_alloc | apply pw_below_drewN | apply below_drew1) | exact HB.out)⟩
end Go.Proofs.YtjloppfdagfpmaaDoor.X
end
section
namespace Go.Proofs.YtjloppfdagfpmaaDoor.X
open Go.RowKit YtjloppfdagfpmaaDoorW.PrintWords YtjloppfdagfpmaaDoorW.PrintLast YtjloppfdagfpmaaDoorW.PrintMore
attribute [local go_sem] max2_int min2_int max_two min_two max_three min_three max_four min_four
/-! ### lampblackref07_join: function 75 -/
def lampblackref07_join.f (l0 : List Int) (a1 : Int) (a2 : Int) : Option (List Int) := if 0 ≤ a1 then (if a1 < (l0.length : Int) then (if 0 ≤ a2 then ((some (l0.set (a1 : Int).toNat (Go.bits .or .i64 (rd l0 a1) (shl .i64 1 a2)) : List Int)).bind fun y250 => (if a2 < (l0.length : Int) then (some (y250.set (a2 : Int).toNat (Go.bits .or .i64 (rd y250 a2) (shl .i64 1 a1)))) else (none))) else (none)) else (none)) else (none)
def lampblackref07_join.T0 : Bool × List (List Nat × List Nat) := (true, [([], []), ([], []), ([0, 1], [0, 1]), ([2], [2]), ([], []), ([4], [4]), ([3, 5], [3, 5]), ([0, 1, 0, 1, 2, 3, 4, 5, 6], [0, 1]), ([7, 6, 0, 1, 2, 3, 4, 5, 6], [6, 7])])
def lampblackref07_join.B0 : List Nat := [0, 0, 3, 7, 0, 16, 63, 127, 255]
theorem lampblackref07_join.tab0 : rtab .any (opsOf Tryd.f75 0) = lampblackref07_join.T0 := by kernel_rfl
theorem lampblackref07_join.bits0 : waitsOk lampblackref07_join.T0.2 lampblackref07_join.B0 = true := by kernel_rfl
def lampblackref07_join.T1 : Bool × List (List Nat × List Nat) := (true, [([], []), ([], []), ([0, 1], [0, 1]), ([2], [2]), ([], []), ([4], [4]), ([3, 5], [3, 5]), ([0, 1, 0, 1, 2, 3, 4, 5, 6], [0, 1]), ([7, 6, 0, 1, 2, 3, 4, 5, 6], [6, 7])])
def lampblackref07_join.B1 : List Nat := [0, 0, 3, 7, 0, 16, 63, 127, 255]
theorem lampblackref07_join.tab1 : rtab .any (opsOf Tryd.f75 1) = lampblackref07_join.T1 := by kernel_rfl
theorem lampblackref07_join.bits1 : waitsOk lampblackref07_join.T1.2 lampblackref07_join.B1 = true := by kernel_rfl
set_option maxHeartbeats 8000000 in
set_option maxRecDepth 100000 in
theorem lampblackref07_join.calls (P0_ : Nat → Prop) (u9000_ : Value) (l0 : List Int) (a1 : Int) (a2 : Int) (r : List Int) (w0 w : World) (hB : Below w0.heap.size w0 w) (ho0 : Kd.R (Kd.int .i64) 3 w w0.heap.size P0_ u9000_ l0) (h : lampblackref07_join.f l0 a1 a2 = some r) :
  Calls Tryd.prog 75 #[u9000_, .int .i64 a1, .int .i64 a2] w fun e w' => e = .returned (.tuple #[]) ∧ Kd.R (Kd.int .i64) 3 w' w0.heap.size (fun k_ => (P0_ k_ ∨ w.heap.size ≤ k_)) u9000_ r ∧ Below w0.heap.size w0 w' ∧ Kept w w' (fun k_ => P0_ k_) := by
 have HO0 := Aside0.mk (show Kd.R (Kd.int .i64) 3 w w0.heap.size (fun k_ => (P0_ k_ ∨ w.heap.size ≤ k_)) u9000_ l0 from Kd.R_mono ho0 (fun k_ hk => (.inl hk)))
 have HK := Aside0.mk (Kept.refl w (fun k_ => P0_ k_))
 have HW0 := Aside0.mk hB.size
 have HB := Aside0.mk hB
 clear hB
 have H : (if 0 ≤ a1 then (if a1 < (l0.length : Int) then (if 0 ≤ a2 then ((some (l0.set (a1 : Int).toNat (Go.bits .or .i64 (rd l0 a1) (shl .i64 1 a2)) : List Int)).bind fun y250 => (if a2 < (l0.length : Int) then (some (y250.set (a2 : Int).toNat (Go.bits .or .i64 (rd y250 a2) (shl .i64 1 a1)))) else (none))) else (none)) else (none)) else (none)) = some r := h
 clear h
 by_cases c4 : 0 ≤ a1
 ·rw [if_pos c4] at H
  have c4b0 : decide (0 ≤ a1) = true := decide_eq_true c4
  clear c4
  by_cases c5 : a1 < (l0.length : Int)
  ·rw [if_pos c5] at H
   have c5b0 : decide (a1 < (l0.length : Int)) = true := decide_eq_true c5
   clear c5
   by_cases c6 : 0 ≤ a2
   ·rw [if_pos c6] at H
    have c6b0 := eq_true c6
    have c6b1 : decide (0 ≤ a2) = true := decide_eq_true c6
    clear c6
    obtain ⟨ji7, hji7⟩ : ∃ j_ : Int, (shl .i64 1 a2) = j_ := ⟨_, rfl⟩
    replace H : ((some (l0.set (a1 : Int).toNat (Go.bits .or .i64 (rd l0 a1) (ji7)) : List Int)).bind fun y250 => (if a2 < (l0.length : Int) then (some (y250.set (a2 : Int).toNat (Go.bits .or .i64 (rd y250 a2) (shl .i64 1 a1)))) else (none))) = some r := by first | (rw [hji7] at H; exact H) | (simp only [hji7] at H ⊢; exact H)
    have hji7_ : (IntKind.i64.wrap (1 * 2 ^ min a2.toNat 64)) = ji7 := hji7
    have hji7z : a2 ≤ 64 → (IntKind.i64.wrap (1 * 2 ^ a2.toNat)) = ji7 := shl_small hji7
    have hji7u : (IntKind.i64.wrap (2 ^ min a2.toNat 64)) = ji7 := by have h_ := hji7_; rw [Int.one_mul] at h_; exact h_
    have hji7v : a2 ≤ 64 → (IntKind.i64.wrap (2 ^ a2.toNat)) = ji7 := fun hle_ => by have h_ := hji7z hle_; rw [Int.one_mul] at h_; exact h_
    have hji7y : (wrap64 (1 * 2 ^ min a2.toNat 64)) = ji7 := (i64_w _).symm.trans hji7_
    have hji7x : a2 ≤ 64 → (wrap64 (1 * 2 ^ a2.toNat)) = ji7 := fun h_ => (i64_w _).symm.trans (hji7z h_)
    obtain ⟨y250, hy250⟩ : ∃ y_ : List Int, y_ = (l0.set (a1 : Int).toNat (Go.bits .or .i64 (rd l0 a1) (ji7))) := ⟨_, rfl⟩
    replace H : (if a2 < (l0.length : Int) then (some (y250.set (a2 : Int).toNat (Go.bits .or .i64 (rd y250 a2) (shl .i64 1 a1)))) else (none)) = some r := by first | (rw [hy250]; with_reducible exact H) | (have H2_ := (Option.bind_some _ _).symm.trans H; rw [hy250]; with_reducible exact H2_) | (have H2_ := (Option.bind_some _ _).symm.trans H; with_reducible exact H2_) | with_reducible exact H | (rw [hy250]; exact H) | exact H
    have Ny250 := Aside0.mk hy250
    clear hy250
    by_cases c9 : a2 < (l0.length : Int)
    ·rw [if_pos c9] at H
     have c9b0 : decide (a2 < (l0.length : Int)) = true := decide_eq_true c9
     clear c9
     have c10b0 := eq_true (of_decide_eq_true (by first | (with_reducible assumption) | assumption) : 0 ≤ a1)
     obtain ⟨ji11, hji11⟩ : ∃ j_ : Int, (shl .i64 1 a1) = j_ := ⟨_, rfl⟩
     replace H : (some (y250.set (a2 : Int).toNat (Go.bits .or .i64 (rd y250 a2) (ji11)))) = some r := by first | (rw [hji11] at H; exact H) | (simp only [hji11] at H ⊢; exact H)
     have hji11_ : (IntKind.i64.wrap (1 * 2 ^ min a1.toNat 64)) = ji11 := hji11
     have hji11z : a1 ≤ 64 → (IntKind.i64.wrap (1 * 2 ^ a1.toNat)) = ji11 := shl_small hji11
     have hji11u : (IntKind.i64.wrap (2 ^ min a1.toNat 64)) = ji11 := by have h_ := hji11_; rw [Int.one_mul] at h_; exact h_
     have hji11v : a1 ≤ 64 → (IntKind.i64.wrap (2 ^ a1.toNat)) = ji11 := fun hle_ => by have h_ := hji11z hle_; rw [Int.one_mul] at h_; exact h_
     have hji11y : (wrap64 (1 * 2 ^ min a1.toNat 64)) = ji11 := (i64_w _).symm.trans hji11_
     have hji11x : a1 ≤ 64 → (wrap64 (1 * 2 ^ a1.toNat)) = ji11 := fun h_ => (i64_w _).symm.trans (hji11z h_)
     obtain ⟨y252, hy252⟩ : ∃ y_ : List Int, y_ = (y250.set (a2 : Int).toNat (Go.bits .or .i64 (rd y250 a2) (ji11))) := ⟨_, rfl⟩
     replace H : (some y252) = some r := by first | (rw [hy252]; with_reducible exact H) | (have H2_ := (Option.bind_some _ _).symm.trans H; rw [hy252]; with_reducible exact H2_) | (have H2_ := (Option.bind_some _ _).symm.trans H; with_reducible exact H2_) | with_reducible exact H | (rw [hy252]; exact H) | exact H
     have Ny252 := Aside0.mk hy252
     clear hy252
     obtain rfl := Option.some.inj H
     go_enter Tryd.func75, Tryd.ntmps75
     try go_wp2
     have n0_ := Aside0.mk (Kd.R_drew HO0.out)
     have n1_ := Aside0.mk (Kept.drew HK.out)
     have n2_ := Aside0.mk (below_drew1 HB.out)
     clear HO0
     clear HK
     clear HB
     have HO0 := n0_
     have HK := n1_
     have HB := n2_
     clear n0_ n1_ n2_
     obtain ⟨Ao14, co14, eo14⟩ := Kd.R_slice HO0.out
     (first | subst eo14 | (injection eo14 with f1_ f2_ f3_; have f4_ := f1_.symm; have f5_ := f3_.symm; clear f1_ f2_ f3_; subst f4_; subst f5_))
     have p249 : 0 ≤ (a1 : Int) := of_decide_eq_true (by first | (with_reducible assumption) | assumption)
     have q249 : a1 < (l0.length : Int) := of_decide_eq_true (by first | (with_reducible assumption) | assumption)
     obtain ⟨ad249, e249, hx249_0⟩ := Kd.at_int (Kd.R_reads' HO0.out).2.2 a1 p249 q249
     cases e249
     replace p249 := eq_true p249
     replace q249 := eq_true q249
     have p8 : 0 ≤ (a1 : Int) := of_decide_eq_true (by first | (with_reducible assumption) | assumption)
     have q8 : (a1 : Int) < ((l0.length : Int) : Int) := of_decide_eq_true (by first | (with_reducible assumption) | assumption)
     obtain ⟨go8, co8, eo8, gb8, gl8, cl8, HG8⟩ := Kd.R_form HO0.out (by omega)
     (first | cases eo8 | (injection eo8 with ea_ en_ ec_; (first | subst ea_ | (injection ea_ with ea_; subst ea_)); subst ec_; clear en_))
     have GB8 := Aside0.mk gb8
     have GG8 := Aside0.mk HG8
     clear gb8 gl8 HG8
     have HMgo8 := Aside0.mk (show (P0_ go8 ∨ w.heap.size ≤ go8) from (HO0.out.1 _ rfl))
     (first | simp only [add_plain] at hx249_0 | skip)
     obtain ⟨hx8_0, hf8_0⟩ := Kd.R_celln 0 HO0.out (a1 : Int) p8 q8
     replace p8 := eq_true p8
     replace q8 := eq_true q8
     have HP15 := Kd.R_putn HO0.out (a1 : Int) (Go.bits .or .i64 (rd l0 a1) (ji7))
     rw [← Ny250.out] at HP15
     have HQ15 := Aside0.mk HP15
     clear HP15
     refine start_ (n := 9) (S := fun w' => w'.cell? ⟨go8, (a1).toNat, none⟩ = some (.int .i64 (rd l0 a1))) (ds := [8]) (Qbz 9 0) (by kernel_rfl) rfl rfl (hx249_0) (fun hHeld => ?_); refine with_tabW lampblackref07_join.tab0 lampblackref07_join.bits0 (fun HT_ HW_ => ?_)
     generalize w.drew = w13 at HO0 HK HB GG8 HQ15 hf8_0 hx249_0 hx8_0 hHeld ⊢
     refine pure_ (i := 0) (N := some 6) (v := ?_) (a' := ?_) (Qbz 9 1) rfl rfl (any_of HT_.out (by kernel_rfl)) (fun _ _ _ h => h) (Or.inl ⟨by rfl, ?_⟩) ?_ ?_
     rotate_left
     ·intro w'
      go_simp
      with_reducible rfl
     rotate_left
     ·simp only [Act.put, Qp1, Qp2, Qp3, i64_w, i32_w]
      rfl
     refine pure_ (i := 1) (N := some 7) (v := ?_) (a' := ?_) (Qbz 9 3) rfl rfl (any_of HT_.out (by kernel_rfl)) (fun _ _ _ h => h) (Or.inl ⟨by rfl, ?_⟩) ?_ ?_
     rotate_left
     ·intro w'
      go_simp
      with_reducible rfl
     rotate_left
     ·simp only [Act.put, Qp1, Qp2, Qp3, i64_w, i32_w]
      rfl
     refine pure_ (i := 2) (N := some 8) (v := ?_) (a' := ?_) (Qbz 9 7) rfl rfl (any_of HT_.out (by kernel_rfl)) (fun _ _ _ h => h) (Or.inl ⟨by rfl, ?_⟩) ?_ ?_
     rotate_left
     ·intro w'
      go_simp
      with_reducible rfl
     rotate_left
     ·simp only [Act.put, Qp1, Qp2, Qp3, i64_w, i32_w]
      rfl
     refine pure_ (i := 4) (N := some 10) (v := ?_) (a' := ?_) (Qbz 9 23) rfl rfl (any_of HT_.out (by kernel_rfl)) (fun _ _ _ h => h) (Or.inl ⟨by rfl, ?_⟩) ?_ ?_
     rotate_left
     ·intro w'
      go_simp
      with_reducible rfl
     rotate_left
     ·simp only [Act.put, Qp1, Qp2, Qp3, i64_w, i32_w]
      rfl
     refine pure_ (i := 5) (N := some 11) (v := ?_) (a' := ?_) (Qbz 9 55) rfl rfl (any_of HT_.out (by kernel_rfl)) (fun _ _ _ h => h) (Or.inl ⟨by rfl, ?_⟩) ?_ ?_
     rotate_left
     ·intro w'
      go_simp
      with_reducible rfl
     rotate_left
     ·simp only [Act.put, Qp1, Qp2, Qp3, i64_w, i32_w]
      rfl
     refine take_ (i := 3) (N := some 9) (v := ?_) (a' := ?_) (Qbz 9 63) rfl rfl (take_ofW HT_.out HW_.out (by kernel_rfl)) (fun _ _ _ h => h) (Or.inl ⟨by rfl, ?_⟩) hHeld ?_ ?_
     rotate_left
     ·intro w' s0
      go_simp
      with_reducible rfl
     rotate_left
     ·simp only [Act.put, Qp1, Qp2, Qp3, i64_w, i32_w]
      rfl
     refine pure_ (i := 6) (N := some 12) (v := ?_) (a' := ?_) (Qbz 9 127) rfl rfl (any_of HT_.out (by kernel_rfl)) (fun _ _ _ h => h) (Or.inl ⟨by rfl, ?_⟩) ?_ ?_
     rotate_left
     ·intro w'
      go_simp
      with_reducible rfl
     rotate_left
     ·simp only [Act.put, Qp1, Qp2, Qp3, i64_w, i32_w]
      rfl
     refine pure_ (i := 7) (N := some 13) (v := ?_) (a' := ?_) (Qbz 9 255) rfl rfl (any_of HT_.out (by kernel_rfl)) (fun _ _ _ h => h) (Or.inl ⟨by rfl, ?_⟩) ?_ ?_
     rotate_left
     ·intro w'
      go_simp
      with_reducible rfl
     rotate_left
     ·simp only [Act.put, Qp1, Qp2, Qp3, i64_w, i32_w]
      rfl
     refine last_ (i := 8) (N := none) (Qbz 9 511) rfl rfl (one_of HT_.out (by kernel_rfl)) (by decide) (fun K hK => ?_)
     refine skip_ (w1 := ?_) (by rfl) rfl ?_ ?_
     rotate_left
     ·go_simp
      rfl
     refine hK.out _ _ ?_
     clear hK K
     refine done_ (done_of HT_.out (by kernel_rfl)) ?_
     try go_wp2
     have n0_ : Aside0 (Kd.R (Kd.int .i64) 3 (w13.setCell ⟨go8, (a1 : Int).toNat, none⟩ (.int .i64 (Go.bits .or .i64 (rd l0 a1) (ji7)))) w0.heap.size (fun k_ => (P0_ k_ ∨ w.heap.size ≤ k_)) (.slice (some ⟨go8, 0, none⟩) l0.length co14) y250) := ⟨by (with_reducible repeat (first | apply Kd.R_alloc | apply Kd.R_drewN | apply Kd.R_drew)); exact HQ15.out⟩
     have n1_ : Aside0 (Kept w (w13.setCell ⟨go8, (a1 : Int).toNat, none⟩ (.int .i64 (Go.bits .or .i64 (rd l0 a1) (ji7)))) (fun k_ => P0_ k_)) := ⟨by repeat (first | (with_reducible first | exact HK.out | apply Kept.alloc | apply Kept.drewN | apply Kept.drew | refine Kept.setCell ?_ HMgo8.out _) | exact HK.out)⟩
     have n2_ : Aside0 (Below w0.heap.size w0 (w13.setCell ⟨go8, (a1 : Int).toNat, none⟩ (.int .i64 (Go.bits .or .i64 (rd l0 a1) (ji7))))) := ⟨by repeat (first | (with_reducible first | exact HB.out | apply below_alloc | apply pw_below_drewN | apply below_drew1 | refine below_set ?_ GB8.out) | exact HB.out)⟩
     (try clear HO0)
     (try clear HK)
     (try clear HB)
     generalize (w13.setCell ⟨go8, (a1 : Int).toNat, none⟩ (.int .i64 (Go.bits .or .i64 (rd l0 a1) (ji7)))) = w16 at n0_ n1_ n2_ ⊢
     have HO0 := n0_
     have HK := n1_
     have HB := n2_
     clear n0_ n1_ n2_
     have n0_ := Aside0.mk (Kd.R_drew HO0.out)
     have n1_ := Aside0.mk (Kept.drew HK.out)
     have n2_ := Aside0.mk (below_drew1 HB.out)
     clear HO0
     clear HK
     clear HB
     have HO0 := n0_
     have HK := n1_
     have HB := n2_
     clear n0_ n1_ n2_
     have p251 : 0 ≤ (a2 : Int) := of_decide_eq_true (by first | (with_reducible assumption) | assumption)
     have q251 : a2 < (y250.length : Int) := (by have h_ : (a2 : Int) < ((l0.length : Int) : Int) := of_decide_eq_true (by first | (with_reducible assumption) | assumption); first | (have e_ := (Kd.R_reads' HO0.out).1; omega) | simpa only [Ny250.out, List.length_set] using h_)
     have ql251 : ((a2 : Int) < ((l0.length : Int) : Int)) = True := eq_true (of_decide_eq_true (by first | (with_reducible assumption) | assumption))
     obtain ⟨ad251, e251, hx251_0⟩ := Kd.at_int (Kd.R_reads' HO0.out).2.2 a2 p251 q251
     obtain rfl : (⟨go8, 0, none⟩ : Addr) = ad251 := (by injection e251)
     (first | simp only [add_plain] at hx251_0 | simp only [add_at] at hx251_0 | simp only [Addr.add, Nat.zero_add] at hx251_0 | skip)
     replace p251 := eq_true p251
     replace q251 := eq_true q251
     have p12 : 0 ≤ (a2 : Int) := of_decide_eq_true (by first | (with_reducible assumption) | assumption)
     have q12 : (a2 : Int) < ((l0.length : Int) : Int) := of_decide_eq_true (by first | (with_reducible assumption) | assumption)
     obtain ⟨hx12_0, hf12_0⟩ := Kd.R_celln 0 HO0.out (a2 : Int) p12 q12
     replace p12 := eq_true p12
     replace q12 := eq_true q12
     have HP18 := Kd.R_putn HO0.out (a2 : Int) (Go.bits .or .i64 (rd y250 a2) (ji11))
     rw [← Ny252.out] at HP18
     have HQ18 := Aside0.mk HP18
     clear HP18
     refine start_ (n := 9) (S := fun w' => w'.cell? ⟨go8, (a2).toNat, none⟩ = some (.int .i64 (rd y250 a2))) (ds := [8]) (Qbz 9 0) (by kernel_rfl) rfl rfl (hx251_0) (fun hHeld => ?_); refine with_tabW lampblackref07_join.tab1 lampblackref07_join.bits1 (fun HT_ HW_ => ?_)
     generalize w16.drew = w17 at HO0 HK HB HQ15 HQ18 hf12_0 hx12_0 hx251_0 hHeld ⊢
     refine pure_ (i := 0) (N := some 14) (v := ?_) (a' := ?_) (Qbz 9 1) rfl rfl (any_of HT_.out (by kernel_rfl)) (fun _ _ _ h => h) (Or.inl ⟨by rfl, ?_⟩) ?_ ?_
     rotate_left
     ·intro w'
      go_simp
      with_reducible rfl
     rotate_left
     ·simp only [Act.put, Qp1, Qp2, Qp3, i64_w, i32_w]
      rfl
     refine pure_ (i := 1) (N := some 15) (v := ?_) (a' := ?_) (Qbz 9 3) rfl rfl (any_of HT_.out (by kernel_rfl)) (fun _ _ _ h => h) (Or.inl ⟨by rfl, ?_⟩) ?_ ?_
     rotate_left
     ·intro w'
      go_simp
      with_reducible rfl
     rotate_left
     ·simp only [Act.put, Qp1, Qp2, Qp3, i64_w, i32_w]
      rfl
     refine pure_ (i := 2) (N := some 16) (v := ?_) (a' := ?_) (Qbz 9 7) rfl rfl (any_of HT_.out (by kernel_rfl)) (fun _ _ _ h => h) (Or.inl ⟨by rfl, ?_⟩) ?_ ?_
     rotate_left
     ·intro w'
      go_simp
      with_reducible rfl
     rotate_left
     ·simp only [Act.put, Qp1, Qp2, Qp3, i64_w, i32_w]
      rfl
     refine pure_ (i := 4) (N := some 18) (v := ?_) (a' := ?_) (Qbz 9 23) rfl rfl (any_of HT_.out (by kernel_rfl)) (fun _ _ _ h => h) (Or.inl ⟨by rfl, ?_⟩) ?_ ?_
     rotate_left
     ·intro w'
      go_simp
      with_reducible rfl
     rotate_left
     ·simp only [Act.put, Qp1, Qp2, Qp3, i64_w, i32_w]
      rfl
     refine pure_ (i := 5) (N := some 19) (v := ?_) (a' := ?_) (Qbz 9 55) rfl rfl (any_of HT_.out (by kernel_rfl)) (fun _ _ _ h => h) (Or.inl ⟨by rfl, ?_⟩) ?_ ?_
     rotate_left
     ·intro w'
      go_simp
      with_reducible rfl
     rotate_left
     ·simp only [Act.put, Qp1, Qp2, Qp3, i64_w, i32_w]
      rfl
     refine take_ (i := 3) (N := some 17) (v := ?_) (a' := ?_) (Qbz 9 63) rfl rfl (take_ofW HT_.out HW_.out (by kernel_rfl)) (fun _ _ _ h => h) (Or.inl ⟨by rfl, ?_⟩) hHeld ?_ ?_
     rotate_left
     ·intro w' s0
      go_simp
      with_reducible rfl
     rotate_left
     ·simp only [Act.put, Qp1, Qp2, Qp3, i64_w, i32_w]
      rfl
     refine pure_ (i := 6) (N := some 20) (v := ?_) (a' := ?_) (Qbz 9 127) rfl rfl (any_of HT_.out (by kernel_rfl)) (fun _ _ _ h => h) (Or.inl ⟨by rfl, ?_⟩) ?_ ?_
     rotate_left
     ·intro w'
      go_simp
      with_reducible rfl
     rotate_left
     ·simp only [Act.put, Qp1, Qp2, Qp3, i64_w, i32_w]
      rfl
     refine pure_ (i := 7) (N := some 21) (v := ?_) (a' := ?_) (Qbz 9 255) rfl rfl (any_of HT_.out (by kernel_rfl)) (fun _ _ _ h => h) (Or.inl ⟨by rfl, ?_⟩) ?_ ?_
     rotate_left
     ·intro w'
      go_simp
      with_reducible rfl
     rotate_left
     ·simp only [Act.put, Qp1, Qp2, Qp3, i64_w, i32_w]
      rfl
     refine last_ (i := 8) (N := none) (Qbz 9 511) rfl rfl (one_of HT_.out (by kernel_rfl)) (by decide) (fun K hK => ?_)
     refine skip_ (w1 := ?_) (by rfl) rfl ?_ ?_
     rotate_left
     ·go_simp
      rfl
     refine hK.out _ _ ?_
     clear hK K
     refine done_ (done_of HT_.out (by kernel_rfl)) ?_
     try go_wp2
     first | go_end0 | ((try simp only [Exit.inBlock, Exit.then]); refine bodyPost_ret (results_none rfl _ _ _) rfl ?_)
     exact ⟨by first | rfl | (simp [errW_none, errW_some] <;> rfl) | (simp only [← hji7, ← hji11]; first | rfl | (simp [errW_none, errW_some] <;> rfl)) | (simp [*, errW_none, errW_some] <;> rfl), by (with_reducible repeat (first | apply Kd.R_alloc | apply Kd.R_drewN | apply Kd.R_drew)); exact HQ18.out, by repeat (first | (with_reducible first | exact HB.out | apply below_alloc | apply pw_below_drewN | apply below_drew1 | refine below_set ?_ GB8.out) | exact HB.out), by repeat (first | (with_reducible first | exact HK.out | apply Kept.alloc | apply Kept.drewN | apply Kept.drew | refine Kept.setCell ?_ HMgo8.out _) | exact HK.out)⟩
    ·rw [if_neg c9] at H
     exact absurd H (by simp)
   ·rw [if_neg c6] at H
    exact absurd H (by simp)
  ·rw [if_neg c5] at H
   exact absurd H (by simp)
 ·rw [if_neg c4] at H
  exact absurd H (by simp)
end Go.Proofs.YtjloppfdagfpmaaDoor.X
end
section
namespace Go.Proofs.YtjloppfdagfpmaaDoor.X
open Go.RowKit YtjloppfdagfpmaaDoorW.PrintWords YtjloppfdagfpmaaDoorW.PrintLast YtjloppfdagfpmaaDoorW.PrintMore
attribute [local go_sem] max2_int min2_int max_two min_two max_three min_three max_four min_four
/-! ### lampblackref07_K: function 33 -/
mutual
def lampblackref07_K.l0 : Nat → List Int → Int → Int → Option (List Int)
 | 0, _, _, _ => none
 | k + 1, x3, x8, x9 => if x9 < x8 then (lampblackref07_K.l1 k x3 x9 x8 x9 x9 0) else (some x3)
def lampblackref07_K.l1 : Nat → List Int → Int → Int → Int → Int → Int → Option (List Int)
 | 0, _, _, _, _, _, _ => none
 | k + 1, x3, x4, x8, x9, x12, x13 => if x13 < x12 then ((lampblackref07_join.f x3 x4 x13).bind fun t261 => (lampblackref07_K.l1 k t261 x4 x8 x9 x12 (wrap64 (x13 + 1)))) else (lampblackref07_K.l0 k x3 x8 (wrap64 (x9 + 1)))
end
def lampblackref07_K.f (k : Nat) (a0 : Int) : Option (List Int) := if 0 ≤ a0 then (if (a0 : Int).toNat ≤ 35184372088832 then (lampblackref07_K.l0 k (List.replicate (a0 : Int).toNat 0) a0 0) else (none)) else (none)
theorem lampblackref07_K.mono_l : ∀ k, (∀ y0 y1 y2, LeO (lampblackref07_K.l0 k y0 y1 y2) (lampblackref07_K.l0 (k + 1) y0 y1 y2)) ∧ (∀ y0 y1 y2 y3 y4 y5, LeO (lampblackref07_K.l1 k y0 y1 y2 y3 y4 y5) (lampblackref07_K.l1 (k + 1) y0 y1 y2 y3 y4 y5))
 | 0 => ⟨fun _ _ _ r h => by simp [lampblackref07_K.l0] at h, fun _ _ _ _ _ _ r h => by simp [lampblackref07_K.l1] at h⟩
 | k + 1 => by
  obtain ⟨ih0, ih1⟩ := lampblackref07_K.mono_l k
  refine ⟨?_, ?_⟩
  ·intro y0 y1 y2
   unfold lampblackref07_K.l0
   repeat' first
   | (with_reducible exact ih0 _ _ _)
   | (with_reducible exact ih1 _ _ _ _ _ _)
   | (with_reducible exact LeO.refl _)
   | (with_reducible exact LeO.none _)
   | (with_reducible refine LeO.ite ?_ ?_)
   | (with_reducible refine LeO.bind ?_ (fun _ => ?_))
   | exact ih0 _ _ _
   | exact ih1 _ _ _ _ _ _
   | exact LeO.none _
   | refine LeO.ite ?_ ?_
   | refine LeO.bind ?_ (fun _ => ?_)
  ·intro y0 y1 y2 y3 y4 y5
   unfold lampblackref07_K.l1
   repeat' first
   | (with_reducible exact ih0 _ _ _)
   | (with_reducible exact ih1 _ _ _ _ _ _)
   | (with_reducible exact LeO.refl _)
   | (with_reducible exact LeO.none _)
   | (with_reducible refine LeO.ite ?_ ?_)
   | (with_reducible refine LeO.bind ?_ (fun _ => ?_))
   | exact ih0 _ _ _
   | exact ih1 _ _ _ _ _ _
   | exact LeO.none _
   | refine LeO.ite ?_ ?_
   | refine LeO.bind ?_ (fun _ => ?_)
theorem lampblackref07_K.mono : ∀ a0 k, LeO (lampblackref07_K.f k a0) (lampblackref07_K.f (k + 1) a0) := by
 intro a0 k
 obtain ⟨ih0, ih1⟩ := lampblackref07_K.mono_l k
 unfold lampblackref07_K.f
 repeat' first
   | (with_reducible exact ih0 _ _ _)
   | (with_reducible exact ih1 _ _ _ _ _ _)
   | (with_reducible exact LeO.refl _)
   | (with_reducible exact LeO.none _)
   | (with_reducible refine LeO.ite ?_ ?_)
   | (with_reducible refine LeO.bind ?_ (fun _ => ?_))
   | exact ih0 _ _ _
   | exact ih1 _ _ _ _ _ _
   | exact LeO.none _
   | refine LeO.ite ?_ ?_
   | refine LeO.bind ?_ (fun _ => ?_)
set_option maxHeartbeats 8000000 in
set_option maxRecDepth 100000 in
theorem lampblackref07_K.calls (k : Nat) (a0 : Int) (r : List Int) (w : World) (h : lampblackref07_K.f k a0 = some r) :
  Calls Tryd.prog 33 #[.int .i64 a0] w fun e w' => ∃ v0_ : Value, e = .returned (v0_) ∧ Kd.R (Kd.int .i64) 3 w' w.heap.size (fun _ => True) v0_ r ∧ Below w.heap.size w w' := by
 have HB := Aside0.mk (Below.refl w.heap.size w)
 have H : (if 0 ≤ a0 then (if (a0 : Int).toNat ≤ 35184372088832 then (lampblackref07_K.l0 k (List.replicate (a0 : Int).toNat 0) a0 0) else (none)) else (none)) = some r := h
 clear h
 by_cases c2 : 0 ≤ a0
 ·rw [if_pos c2] at H
  have c2b0 := eq_true c2
  have c2b1 : decide (0 ≤ a0) = true := decide_eq_true c2
  clear c2
  by_cases c3 : (a0 : Int).toNat ≤ 35184372088832
  ·rw [if_pos c3] at H
   have c3b0 := eq_true c3
   have c3b1 : decide ((a0 : Int).toNat ≤ 35184372088832) = true := decide_eq_true c3
   clear c3
   obtain ⟨y258, hy258⟩ : ∃ y_ : List Int, y_ = (List.replicate (a0 : Int).toNat 0) := ⟨_, rfl⟩
   replace H : (lampblackref07_K.l0 k y258 a0 0) = some r := by first | (rw [hy258]; with_reducible exact H) | (have H2_ := (Option.bind_some _ _).symm.trans H; rw [hy258]; with_reducible exact H2_) | (have H2_ := (Option.bind_some _ _).symm.trans H; with_reducible exact H2_) | with_reducible exact H | (rw [hy258]; exact H) | exact H
   have Ny258 := Aside0.mk hy258
   clear hy258
   have H' := Aside0.mk H
   clear H
   go_enter Tryd.func33, Tryd.ntmps33
   go_wp2_with (first | ((with_reducible refine gate_dst (N := 7) rfl ?_); refine Kd.R_make (Kd.int .i64) _ 3 rfl (N := 7) rfl 23 _ _ rfl a0 rfl rfl Tryd.underlying23 (.int .i64 0) 8 info3 rfl (by decide) (by omega) 0 (ok := fun _ => True) (okp := fun _ => True) rfl (fun _ hk => hk) trivial (of_decide_eq_true (by first | (with_reducible assumption) | assumption)) (Nat.le_trans (Nat.mul_le_mul_right _ (of_decide_eq_true (by first | (with_reducible assumption) | assumption) : a0.toNat ≤ 35184372088832)) (by omega)) (Below.refl _ _) (Nat.le_refl _) ?_; intro v259 w4 ho5 hb hg_ hnew_; clear hg_ hnew_; (first | rw [← Ny258.out] at ho5 | (simp only [Int.reduceToNat] at ho5; rw [← Ny258.out] at ho5)); have n0_ := Aside0.mk (Kd.R_lower ho5 (below_size (Qaw))); have n1_ := Aside0.mk (below_step (Qaw) hb); clear HB; have HO260 := n0_; have HB := n1_; clear n0_ n1_; clear hb ho5))
   go_loopg [9] k (fun kq v9 w' => ∃ (x3_1 : List Int) (x9_1 : Int), v9 = .int .i64 x9_1 ∧ Aside0 (lampblackref07_K.l0 kq x3_1 a0 x9_1 = some r) ∧ Aside0 (kq ≤ k) ∧ Aside0 (Kd.R (Kd.int .i64) 3 w' w.heap.size (fun _ => True) v259 x3_1) ∧ Aside0 (Below w.heap.size w w'))
   case atStart => exact ⟨(y258), (0), (by first | rfl | (simp; done) | (simp [*]; done)), H', ⟨Nat.le_refl _⟩, ⟨by (with_reducible repeat (first | apply Kd.R_alloc | apply Kd.R_drewN | apply Kd.R_drew)); exact HO260.out⟩, ⟨by repeat (first | (with_reducible first | exact HB.out | apply below_alloc | apply pw_below_drewN | apply below_drew1) | exact HB.out)⟩⟩
   case round =>
    clear H'
    try clear c2
    try clear c2b0
    try clear c2b1
    try clear p2
    try clear c3
    try clear c3b0
    try clear c3b1
    obtain ⟨x3_1, x9_1, rfl, HA, HK1, HO_3, HB⟩ := hrel
    cases gk with
    | zero => exact absurd HA.out (by simp [lampblackref07_K.l0])
    | succ k1 =>
     have H := HA.out
     clear HA
     simp only [lampblackref07_K.l0] at H
     by_cases c6 : x9_1 < a0
     ·rw [if_pos c6] at H
      have c6b0 : decide (x9_1 < a0) = true := decide_eq_true c6
      clear c6
      have H' := Aside0.mk H
      clear H
      go_wp2
      go_loopg [13] k1 (fun kq v13 w' => ∃ (x3_2 : List Int) (x13_2 : Int), v13 = .int .i64 x13_2 ∧ Aside0 (lampblackref07_K.l1 kq x3_2 x9_1 a0 x9_1 x9_1 x13_2 = some r) ∧ Aside0 (kq ≤ k1) ∧ Aside0 (Kd.R (Kd.int .i64) 3 w' w.heap.size (fun _ => True) v259 x3_2) ∧ Aside0 (Below w.heap.size w w'))
      case atStart => exact ⟨(x3_1), (0), (by first | rfl | (simp; done) | (simp [*]; done)), H', ⟨Nat.le_refl _⟩, ⟨by (with_reducible repeat (first | apply Kd.R_alloc | apply Kd.R_drewN | apply Kd.R_drew)); exact HO_3.out⟩, ⟨by repeat (first | (with_reducible first | exact HB.out | apply below_alloc | apply pw_below_drewN | apply below_drew1) | exact HB.out)⟩⟩
      case round =>
       clear H'
       try clear c2
       try clear c2b0
       try clear c2b1
       try clear p2
       try clear c3
       try clear c3b0
       try clear c3b1
       try clear c6
       try clear c6b0
       try clear p2
       obtain ⟨x3_2, x13_2, rfl, HA, HK2, HO_3, HB⟩ := hrel
       cases gk with
       | zero => exact absurd HA.out (by simp [lampblackref07_K.l1])
       | succ k2 =>
        have H := HA.out
        clear HA
        simp only [lampblackref07_K.l1] at H
        by_cases c7 : x13_2 < x9_1
        ·rw [if_pos c7] at H
         have c7b0 : decide (x13_2 < x9_1) = true := decide_eq_true c7
         clear c7
         replace H := Option.bind_eq_some_iff.mp H
         obtain ⟨t261, A80, H⟩ := H
         replace H : (lampblackref07_K.l1 k2 t261 x9_1 a0 x9_1 x9_1 (wrap64 (x13_2 + 1))) = some r := H
         have A8 := Aside0.mk A80
         clear A80
         have H' := Aside0.mk H
         clear H
         obtain ⟨Ao9, co9, eo9⟩ := Kd.R_slice HO_3.out
         subst eo9
         go_wp2_with (first | ((with_reducible refine gate_callee (f := 75) rfl ?_); refine goesL_ (some 19) rfl rfl Tryd.func75 (by kernel_rfl) rfl #[.slice Ao9 x3_2.length co9, .int .i64 x9_1, .int .i64 x13_2] rfl (Qls) ?_; (with_reducible refine (lampblackref07_join.calls (fun k_ => some k_ = (.slice Ao9 x3_2.length co9 : Value).ownBlock) (.slice Ao9 x3_2.length co9) x3_2 x9_1 x13_2 t261 w _ ?side1 ?side2 A8.out).mono ?_); (case side1 => repeat (first | (with_reducible first | exact HB.out | apply below_alloc | apply pw_below_drewN | apply below_drew1) | exact HB.out)); (case side2 => exact Kd.R_tight rfl HO_3.out); rintro e w10 ⟨rfl, hy0, hb, hkp⟩; refine ⟨_, rfl, ?_⟩; have n0_ := Aside0.mk (Kd.R_reok rfl hy0 (fun k_ e_ => HO_3.out.1 k_ e_)); have n1_ := Aside0.mk (hb); clear HO_3; clear HB; have HO_3 := n0_; have HB := n1_; clear n0_ n1_; (try clear hb); (try clear hkp); (try clear hy0)))
         go_roundg k2
         case measure => have := HK1.out; have := HK2.out; omega
         case rel => exact ⟨(t261), (wrap64 (x13_2 + 1)), (by first | rfl | (simp; done) | (simp [*]; done)), H', ⟨by have := HK1.out; have := HK2.out; omega⟩, ⟨by (with_reducible repeat (first | apply Kd.R_alloc | apply Kd.R_drewN | apply Kd.R_drew)); exact HO_3.out⟩, ⟨by repeat (first | (with_reducible first | exact HB.out | apply below_alloc | apply pw_below_drewN | apply below_drew1) | exact HB.out)⟩⟩
        ·rw [if_neg c7] at H
         have c7b0 : decide (x13_2 < x9_1) = false := decide_eq_false c7
         clear c7
         have H' := Aside0.mk H
         clear H
         go_wp2
         go_roundg k2
         case measure => have := HK1.out; have := HK2.out; omega
         case rel => exact ⟨(x3_2), (wrap64 (x9_1 + 1)), (by first | rfl | (simp; done) | (simp [*]; done)), H', ⟨by have := HK1.out; have := HK2.out; omega⟩, ⟨by (with_reducible repeat (first | apply Kd.R_alloc | apply Kd.R_drewN | apply Kd.R_drew)); exact HO_3.out⟩, ⟨by repeat (first | (with_reducible first | exact HB.out | apply below_alloc | apply pw_below_drewN | apply below_drew1) | exact HB.out)⟩⟩
     ·rw [if_neg c6] at H
      have c6b0 : decide (x9_1 < a0) = false := decide_eq_false c6
      clear c6
      obtain rfl := Option.some.inj H
      go_wp2
      go_ret
      exact ⟨_, by first | rfl | (simp [errW_none, errW_some] <;> rfl) | (simp [*, errW_none, errW_some] <;> rfl), by (with_reducible repeat (first | apply Kd.R_alloc | apply Kd.R_drewN | apply Kd.R_drew)); exact HO_3.out, by repeat (first | (with_reducible first | exact HB.out | apply below_alloc | apply pw_below_drewN | apply below_drew1) | exact HB.out)⟩
  ·rw [if_neg c3] at H
   exact absurd H (by simp)
 ·rw [if_neg c2] at H
  exact absurd H (by simp)
end Go.Proofs.YtjloppfdagfpmaaDoor.X
end
section
/- (minor) Model and has in plain words; complete graphs as patterns. -/
namespace Go.Proofs.YtjloppfdagfpmaaDoor.X
open Go.RowKit YtjloppfdagfpmaaDoorW.PrintWords YtjloppfdagfpmaaDoorW.PrintLast YtjloppfdagfpmaaDoorW.PrintMore YtjloppfdagfpmaaDoor.T
theorem gi_inj {A B : List Nat} (h : gi A = gi B) : A = B := by rw [← gi_toNat A, h, gi_toNat]
theorem gr_of_chk {m : Nat} (hm : m ≤ 13) {G : List Nat} (h : chk m (gi G) = true) : Gr m G := by
 obtain ⟨G', e, hG⟩ := (chk_iff m (by omega) _).1 h
 rw [gi_inj e]; exact hG
theorem Model_eq {G P : List Nat} (hG : Gr 8 G) (hP : Gr 6 P) : minor_Model.f (gi G) (gi P) = some ((findN G P).elim ([], 4) fun M => (gi M, 0)) := by
 have h1 := hG.most
 have h2 := hP.most
 unfold minor_Model.f
 rw [if_pos ⟨by rw [gi_length]; omega, by rw [gi_length]; omega⟩, (chk_iff 8 (by omega) _).2 ⟨G, rfl, hG⟩, (chk_iff 6 (by omega) _).2 ⟨P, rfl, hP⟩, gi_toNat, gi_toNat]
 rfl
def IsMnr (G P : List Nat) : Prop := Mnr (fun x => x < G.length) (Adj G) P.length (Adj P)
theorem find_mnr {m m' : Nat} {G P : List Nat} (hG : Gr m G) (hm : m ≤ 9) (hP : Gr m' P) (hm' : m' ≤ 9) : (findN G P).isSome = true ↔ IsMnr G P := by
 unfold IsMnr
 rw [← mod_iff hG hm hP hm']
 have hn := Nat.le_trans hG.most hm
 cases h : findN G P with
 | none => exact ⟨fun h => (by cases h), fun ⟨M, hM⟩ => (find_none hn hP.pos h M hM).elim⟩
 | some R => exact ⟨fun _ => ⟨R, (find_some hn hP.pos h).1⟩, fun _ => rfl⟩
theorem few_ok {G : List Nat} (hG : Gr 8 G) : lampblacklaw07_Few.f (gi G) = some (gi G) := by
 obtain ⟨h, e, e1, _, _⟩ := few_eq (gi G) (by rw [gi_length]; have := hG.most; omega)
 rw [e1 ((chk_iff 8 (by omega) _).2 ⟨G, rfl, hG⟩)] at e
 exact e
theorem has_eq {G P : List Nat} (hG : Gr 8 G) (hP : Gr 6 P) : ∃ b, lampblacklaw07_has.f (gi G) (gi P) = some (b, true) ∧ (b = true ↔ IsMnr G P) := by
 have hf := find_mnr hG (by omega) hP (by omega)
 unfold lampblacklaw07_has.f
 rw [few_ok hG]
 simp only [Option.bind_some]
 rw [Model_eq hG hP]
 cases h : findN G P with
 | none =>
  refine ⟨false, rfl, ?_⟩
  rw [← hf, h]
  simp
 | some R =>
  refine ⟨true, rfl, ?_⟩
  rw [← hf, h]
  simp
def kN (n : Nat) : List Nat := (List.range n).map fun i => diff (2 ^ n - 1) (2 ^ i)
theorem kN_length (n : Nat) : (kN n).length = n := by unfold kN; simp
theorem kN_chk : ∀ i : Fin 6, chk 6 (gi (kN (i.val + 1))) = true := by decide +kernel
theorem kN_gr {n : Nat} (h1 : 1 ≤ n) (h6 : n ≤ 6) : Gr 6 (kN n) := by
 have := kN_chk ⟨n - 1, by omega⟩
 rw [show (n - 1 + 1) = n by omega] at this
 exact gr_of_chk (by omega) this
theorem kN_adj {n i j : Nat} (hi : i < n) (hj : j < n) : Adj (kN n) i j ↔ i ≠ j := by
 show ((kN n).getD i 0).testBit j = true ↔ _
 unfold kN
 rw [List.getD_eq_getElem?_getD, List.getElem?_map, List.getElem?_range hi, Option.map_some, Option.getD_some, diff_testBit, Bool.and_eq_true]
 constructor
 ·rintro ⟨_, h⟩ rfl
  simp at h
 ·intro h
  refine ⟨(all_bit n j).2 hj, ?_⟩
  have : ¬ bset (2 ^ i) j := fun h2 => h ((two_pow_bit i j).1 h2).symm
  simpa [bset] using this
theorem mnr_k {G : List Nat} {n : Nat} : IsMnr G (kN n) ↔ Mnr (fun x => x < G.length) (Adj G) n (fun i j => i ≠ j) := by
 unfold IsMnr
 rw [kN_length]
 exact ⟨mnr_pe fun i j hi hj h => (kN_adj hi hj).2 h, mnr_pe fun i j hi hj h => (kN_adj hi hj).1 h⟩
theorem refK_all : ∀ i : Fin 6, lampblackref07_K.f 60 ((i.val : Int) + 1) = some (gi (kN (i.val + 1))) := by decide +kernel
theorem refK_ev {n : Nat} (h1 : 1 ≤ n) (h6 : n ≤ 6) : Ev (fun k => lampblackref07_K.f k (n : Int)) (gi (kN n)) := by
 have := refK_all ⟨n - 1, by omega⟩
 rw [show (((⟨n - 1, by omega⟩ : Fin 6).val : Int) + 1) = (n : Int) by simp; omega, show ((⟨n - 1, by omega⟩ : Fin 6).val + 1) = n by simp; omega] at this
 exact Ev.of (lampblackref07_K.mono _) this
end Go.Proofs.YtjloppfdagfpmaaDoor.X
end
section
namespace Go.Proofs.YtjloppfdagfpmaaDoor.X
open Go.RowKit YtjloppfdagfpmaaDoorW.PrintWords YtjloppfdagfpmaaDoorW.PrintLast YtjloppfdagfpmaaDoorW.PrintMore
attribute [local go_sem] max2_int min2_int max_two min_two max_three min_three max_four min_four
/-! ### minor_town_join: function 62 -/
def minor_town_join.f (l0 : List Int) (a1 : Int) (a2 : Int) : Option (List Int) := if 0 ≤ a1 then (if a1 < (l0.length : Int) then (if 0 ≤ a2 then ((some (l0.set (a1 : Int).toNat (Go.bits .or .i64 (rd l0 a1) (shl .i64 1 a2)) : List Int)).bind fun y146 => (if a2 < (l0.length : Int) then (some (y146.set (a2 : Int).toNat (Go.bits .or .i64 (rd y146 a2) (shl .i64 1 a1)))) else (none))) else (none)) else (none)) else (none)
def minor_town_join.T0 : Bool × List (List Nat × List Nat) := (true, [([], []), ([], []), ([0, 1], [0, 1]), ([2], [2]), ([], []), ([4], [4]), ([3, 5], [3, 5]), ([0, 1, 0, 1, 2, 3, 4, 5, 6], [0, 1]), ([7, 6, 0, 1, 2, 3, 4, 5, 6], [6, 7])])
def minor_town_join.B0 : List Nat := [0, 0, 3, 7, 0, 16, 63, 127, 255]
theorem minor_town_join.tab0 : rtab .any (opsOf Tryd.f62 0) = minor_town_join.T0 := by kernel_rfl
theorem minor_town_join.bits0 : waitsOk minor_town_join.T0.2 minor_town_join.B0 = true := by kernel_rfl
def minor_town_join.T1 : Bool × List (List Nat × List Nat) := (true, [([], []), ([], []), ([0, 1], [0, 1]), ([2], [2]), ([], []), ([4], [4]), ([3, 5], [3, 5]), ([0, 1, 0, 1, 2, 3, 4, 5, 6], [0, 1]), ([7, 6, 0, 1, 2, 3, 4, 5, 6], [6, 7])])
def minor_town_join.B1 : List Nat := [0, 0, 3, 7, 0, 16, 63, 127, 255]
theorem minor_town_join.tab1 : rtab .any (opsOf Tryd.f62 1) = minor_town_join.T1 := by kernel_rfl
theorem minor_town_join.bits1 : waitsOk minor_town_join.T1.2 minor_town_join.B1 = true := by kernel_rfl
set_option maxHeartbeats 8000000 in
set_option maxRecDepth 100000 in
theorem minor_town_join.calls (P0_ : Nat → Prop) (u9000_ : Value) (l0 : List Int) (a1 : Int) (a2 : Int) (r : List Int) (w0 w : World) (hB : Below w0.heap.size w0 w) (ho0 : Kd.R (Kd.int .i64) 3 w w0.heap.size P0_ u9000_ l0) (h : minor_town_join.f l0 a1 a2 = some r) :
  Calls Tryd.prog 62 #[u9000_, .int .i64 a1, .int .i64 a2] w fun e w' => e = .returned (.tuple #[]) ∧ Kd.R (Kd.int .i64) 3 w' w0.heap.size (fun k_ => (P0_ k_ ∨ w.heap.size ≤ k_)) u9000_ r ∧ Below w0.heap.size w0 w' ∧ Kept w w' (fun k_ => P0_ k_) := by
 have HO0 := Aside0.mk (show Kd.R (Kd.int .i64) 3 w w0.heap.size (fun k_ => (P0_ k_ ∨ w.heap.size ≤ k_)) u9000_ l0 from Kd.R_mono ho0 (fun k_ hk => (.inl hk)))
 have HK := Aside0.mk (Kept.refl w (fun k_ => P0_ k_))
 have HW0 := Aside0.mk hB.size
 have HB := Aside0.mk hB
 clear hB
 have H : (if 0 ≤ a1 then (if a1 < (l0.length : Int) then (if 0 ≤ a2 then ((some (l0.set (a1 : Int).toNat (Go.bits .or .i64 (rd l0 a1) (shl .i64 1 a2)) : List Int)).bind fun y146 => (if a2 < (l0.length : Int) then (some (y146.set (a2 : Int).toNat (Go.bits .or .i64 (rd y146 a2) (shl .i64 1 a1)))) else (none))) else (none)) else (none)) else (none)) = some r := h
 clear h
 by_cases c4 : 0 ≤ a1
 ·rw [if_pos c4] at H
  have c4b0 : decide (0 ≤ a1) = true := decide_eq_true c4
  clear c4
  by_cases c5 : a1 < (l0.length : Int)
  ·rw [if_pos c5] at H
   have c5b0 : decide (a1 < (l0.length : Int)) = true := decide_eq_true c5
   clear c5
   by_cases c6 : 0 ≤ a2
   ·rw [if_pos c6] at H
    have c6b0 := eq_true c6
    have c6b1 : decide (0 ≤ a2) = true := decide_eq_true c6
    clear c6
    obtain ⟨ji7, hji7⟩ : ∃ j_ : Int, (shl .i64 1 a2) = j_ := ⟨_, rfl⟩
    replace H : ((some (l0.set (a1 : Int).toNat (Go.bits .or .i64 (rd l0 a1) (ji7)) : List Int)).bind fun y146 => (if a2 < (l0.length : Int) then (some (y146.set (a2 : Int).toNat (Go.bits .or .i64 (rd y146 a2) (shl .i64 1 a1)))) else (none))) = some r := by first | (rw [hji7] at H; exact H) | (simp only [hji7] at H ⊢; exact H)
    have hji7_ : (IntKind.i64.wrap (1 * 2 ^ min a2.toNat 64)) = ji7 := hji7
    have hji7z : a2 ≤ 64 → (IntKind.i64.wrap (1 * 2 ^ a2.toNat)) = ji7 := shl_small hji7
    have hji7u : (IntKind.i64.wrap (2 ^ min a2.toNat 64)) = ji7 := by have h_ := hji7_; rw [Int.one_mul] at h_; exact h_
    have hji7v : a2 ≤ 64 → (IntKind.i64.wrap (2 ^ a2.toNat)) = ji7 := fun hle_ => by have h_ := hji7z hle_; rw [Int.one_mul] at h_; exact h_
    have hji7y : (wrap64 (1 * 2 ^ min a2.toNat 64)) = ji7 := (i64_w _).symm.trans hji7_
    have hji7x : a2 ≤ 64 → (wrap64 (1 * 2 ^ a2.toNat)) = ji7 := fun h_ => (i64_w _).symm.trans (hji7z h_)
    obtain ⟨y146, hy146⟩ : ∃ y_ : List Int, y_ = (l0.set (a1 : Int).toNat (Go.bits .or .i64 (rd l0 a1) (ji7))) := ⟨_, rfl⟩
    replace H : (if a2 < (l0.length : Int) then (some (y146.set (a2 : Int).toNat (Go.bits .or .i64 (rd y146 a2) (shl .i64 1 a1)))) else (none)) = some r := by first | (rw [hy146]; with_reducible exact H) | (have H2_ := (Option.bind_some _ _).symm.trans H; rw [hy146]; with_reducible exact H2_) | (have H2_ := (Option.bind_some _ _).symm.trans H; with_reducible exact H2_) | with_reducible exact H | (rw [hy146]; exact H) | exact H
    have Ny146 := Aside0.mk hy146
    clear hy146
    by_cases c9 : a2 < (l0.length : Int)
    ·rw [if_pos c9] at H
     have c9b0 : decide (a2 < (l0.length : Int)) = true := decide_eq_true c9
     clear c9
     have c10b0 := eq_true (of_decide_eq_true (by first | (with_reducible assumption) | assumption) : 0 ≤ a1)
     obtain ⟨ji11, hji11⟩ : ∃ j_ : Int, (shl .i64 1 a1) = j_ := ⟨_, rfl⟩
     replace H : (some (y146.set (a2 : Int).toNat (Go.bits .or .i64 (rd y146 a2) (ji11)))) = some r := by first | (rw [hji11] at H; exact H) | (simp only [hji11] at H ⊢; exact H)
     have hji11_ : (IntKind.i64.wrap (1 * 2 ^ min a1.toNat 64)) = ji11 := hji11
     have hji11z : a1 ≤ 64 → (IntKind.i64.wrap (1 * 2 ^ a1.toNat)) = ji11 := shl_small hji11
     have hji11u : (IntKind.i64.wrap (2 ^ min a1.toNat 64)) = ji11 := by have h_ := hji11_; rw [Int.one_mul] at h_; exact h_
     have hji11v : a1 ≤ 64 → (IntKind.i64.wrap (2 ^ a1.toNat)) = ji11 := fun hle_ => by have h_ := hji11z hle_; rw [Int.one_mul] at h_; exact h_
     have hji11y : (wrap64 (1 * 2 ^ min a1.toNat 64)) = ji11 := (i64_w _).symm.trans hji11_
     have hji11x : a1 ≤ 64 → (wrap64 (1 * 2 ^ a1.toNat)) = ji11 := fun h_ => (i64_w _).symm.trans (hji11z h_)
     obtain ⟨y148, hy148⟩ : ∃ y_ : List Int, y_ = (y146.set (a2 : Int).toNat (Go.bits .or .i64 (rd y146 a2) (ji11))) := ⟨_, rfl⟩
     replace H : (some y148) = some r := by first | (rw [hy148]; with_reducible exact H) | (have H2_ := (Option.bind_some _ _).symm.trans H; rw [hy148]; with_reducible exact H2_) | (have H2_ := (Option.bind_some _ _).symm.trans H; with_reducible exact H2_) | with_reducible exact H | (rw [hy148]; exact H) | exact H
     have Ny148 := Aside0.mk hy148
     clear hy148
     obtain rfl := Option.some.inj H
     go_enter Tryd.func62, Tryd.ntmps62
     try go_wp2
     have n0_ := Aside0.mk (Kd.R_drew HO0.out)
     have n1_ := Aside0.mk (Kept.drew HK.out)
     have n2_ := Aside0.mk (below_drew1 HB.out)
     clear HO0
     clear HK
     clear HB
     have HO0 := n0_
     have HK := n1_
     have HB := n2_
     clear n0_ n1_ n2_
     obtain ⟨Ao14, co14, eo14⟩ := Kd.R_slice HO0.out
     (first | subst eo14 | (injection eo14 with f1_ f2_ f3_; have f4_ := f1_.symm; have f5_ := f3_.symm; clear f1_ f2_ f3_; subst f4_; subst f5_))
     have p145 : 0 ≤ (a1 : Int) := of_decide_eq_true (by first | (with_reducible assumption) | assumption)
     have q145 : a1 < (l0.length : Int) := of_decide_eq_true (by first | (with_reducible assumption) | assumption)
     obtain ⟨ad145, e145, hx145_0⟩ := Kd.at_int (Kd.R_reads' HO0.out).2.2 a1 p145 q145
     cases e145
     replace p145 := eq_true p145
     replace q145 := eq_true q145
     have p8 : 0 ≤ (a1 : Int) := of_decide_eq_true (by first | (with_reducible assumption) | assumption)
     have q8 : (a1 : Int) < ((l0.length : Int) : Int) := of_decide_eq_true (by first | (with_reducible assumption) | assumption)
     obtain ⟨go8, co8, eo8, gb8, gl8, cl8, HG8⟩ := Kd.R_form HO0.out (by omega)
     (first | cases eo8 | (injection eo8 with ea_ en_ ec_; (first | subst ea_ | (injection ea_ with ea_; subst ea_)); subst ec_; clear en_))
     have GB8 := Aside0.mk gb8
     have GG8 := Aside0.mk HG8
     clear gb8 gl8 HG8
     have HMgo8 := Aside0.mk (show (P0_ go8 ∨ w.heap.size ≤ go8) from (HO0.out.1 _ rfl))
     (first | simp only [add_plain] at hx145_0 | skip)
     obtain ⟨hx8_0, hf8_0⟩ := Kd.R_celln 0 HO0.out (a1 : Int) p8 q8
     replace p8 := eq_true p8
     replace q8 := eq_true q8
     have HP15 := Kd.R_putn HO0.out (a1 : Int) (Go.bits .or .i64 (rd l0 a1) (ji7))
     rw [← Ny146.out] at HP15
     have HQ15 := Aside0.mk HP15
     clear HP15
     refine start_ (n := 9) (S := fun w' => w'.cell? ⟨go8, (a1).toNat, none⟩ = some (.int .i64 (rd l0 a1))) (ds := [8]) (Qbz 9 0) (by kernel_rfl) rfl rfl (hx145_0) (fun hHeld => ?_); refine with_tabW minor_town_join.tab0 minor_town_join.bits0 (fun HT_ HW_ => ?_)
     generalize w.drew = w13 at HO0 HK HB GG8 HQ15 hf8_0 hx145_0 hx8_0 hHeld ⊢
     refine pure_ (i := 0) (N := some 6) (v := ?_) (a' := ?_) (Qbz 9 1) rfl rfl (any_of HT_.out (by kernel_rfl)) (fun _ _ _ h => h) (Or.inl ⟨by rfl, ?_⟩) ?_ ?_
     rotate_left
     ·intro w'
      go_simp
      with_reducible rfl
     rotate_left
     ·simp only [Act.put, Qp1, Qp2, Qp3, i64_w, i32_w]
      rfl
     refine pure_ (i := 1) (N := some 7) (v := ?_) (a' := ?_) (Qbz 9 3) rfl rfl (any_of HT_.out (by kernel_rfl)) (fun _ _ _ h => h) (Or.inl ⟨by rfl, ?_⟩) ?_ ?_
     rotate_left
     ·intro w'
      go_simp
      with_reducible rfl
     rotate_left
     ·simp only [Act.put, Qp1, Qp2, Qp3, i64_w, i32_w]
      rfl
     refine pure_ (i := 2) (N := some 8) (v := ?_) (a' := ?_) (Qbz 9 7) rfl rfl (any_of HT_.out (by kernel_rfl)) (fun _ _ _ h => h) (Or.inl ⟨by rfl, ?_⟩) ?_ ?_
     rotate_left
     ·intro w'
      go_simp
      with_reducible rfl
     rotate_left
     ·simp only [Act.put, Qp1, Qp2, Qp3, i64_w, i32_w]
      rfl
     refine pure_ (i := 4) (N := some 10) (v := ?_) (a' := ?_) (Qbz 9 23) rfl rfl (any_of HT_.out (by kernel_rfl)) (fun _ _ _ h => h) (Or.inl ⟨by rfl, ?_⟩) ?_ ?_
     rotate_left
     ·intro w'
      go_simp
      with_reducible rfl
     rotate_left
     ·simp only [Act.put, Qp1, Qp2, Qp3, i64_w, i32_w]
      rfl
     refine pure_ (i := 5) (N := some 11) (v := ?_) (a' := ?_) (Qbz 9 55) rfl rfl (any_of HT_.out (by kernel_rfl)) (fun _ _ _ h => h) (Or.inl ⟨by rfl, ?_⟩) ?_ ?_
     rotate_left
     ·intro w'
      go_simp
      with_reducible rfl
     rotate_left
     ·simp only [Act.put, Qp1, Qp2, Qp3, i64_w, i32_w]
      rfl
     refine take_ (i := 3) (N := some 9) (v := ?_) (a' := ?_) (Qbz 9 63) rfl rfl (take_ofW HT_.out HW_.out (by kernel_rfl)) (fun _ _ _ h => h) (Or.inl ⟨by rfl, ?_⟩) hHeld ?_ ?_
     rotate_left
     ·intro w' s0
      go_simp
      with_reducible rfl
     rotate_left
     ·simp only [Act.put, Qp1, Qp2, Qp3, i64_w, i32_w]
      rfl
     refine pure_ (i := 6) (N := some 12) (v := ?_) (a' := ?_) (Qbz 9 127) rfl rfl (any_of HT_.out (by kernel_rfl)) (fun _ _ _ h => h) (Or.inl ⟨by rfl, ?_⟩) ?_ ?_
     rotate_left
     ·intro w'
      go_simp
      with_reducible rfl
     rotate_left
     ·simp only [Act.put, Qp1, Qp2, Qp3, i64_w, i32_w]
      rfl
     refine pure_ (i := 7) (N := some 13) (v := ?_) (a' := ?_) (Qbz 9 255) rfl rfl (any_of HT_.out (by kernel_rfl)) (fun _ _ _ h => h) (Or.inl ⟨by rfl, ?_⟩) ?_ ?_
     rotate_left
     ·intro w'
      go_simp
      with_reducible rfl
     rotate_left
     ·simp only [Act.put, Qp1, Qp2, Qp3, i64_w, i32_w]
      rfl
     refine last_ (i := 8) (N := none) (Qbz 9 511) rfl rfl (one_of HT_.out (by kernel_rfl)) (by decide) (fun K hK => ?_)
     refine skip_ (w1 := ?_) (by rfl) rfl ?_ ?_
     rotate_left
     ·go_simp
      rfl
     refine hK.out _ _ ?_
     clear hK K
     refine done_ (done_of HT_.out (by kernel_rfl)) ?_
     try go_wp2
     have n0_ : Aside0 (Kd.R (Kd.int .i64) 3 (w13.setCell ⟨go8, (a1 : Int).toNat, none⟩ (.int .i64 (Go.bits .or .i64 (rd l0 a1) (ji7)))) w0.heap.size (fun k_ => (P0_ k_ ∨ w.heap.size ≤ k_)) (.slice (some ⟨go8, 0, none⟩) l0.length co14) y146) := ⟨by (with_reducible repeat (first | apply Kd.R_alloc | apply Kd.R_drewN | apply Kd.R_drew)); exact HQ15.out⟩
     have n1_ : Aside0 (Kept w (w13.setCell ⟨go8, (a1 : Int).toNat, none⟩ (.int .i64 (Go.bits .or .i64 (rd l0 a1) (ji7)))) (fun k_ => P0_ k_)) := ⟨by repeat (first | (with_reducible first | exact HK.out | apply Kept.alloc | apply Kept.drewN | apply Kept.drew | refine Kept.setCell ?_ HMgo8.out _) | exact HK.out)⟩
     have n2_ : Aside0 (Below w0.heap.size w0 (w13.setCell ⟨go8, (a1 : Int).toNat, none⟩ (.int .i64 (Go.bits .or .i64 (rd l0 a1) (ji7))))) := ⟨by repeat (first | (with_reducible first | exact HB.out | apply below_alloc | apply pw_below_drewN | apply below_drew1 | refine below_set ?_ GB8.out) | exact HB.out)⟩
     (try clear HO0)
     (try clear HK)
     (try clear HB)
     generalize (w13.setCell ⟨go8, (a1 : Int).toNat, none⟩ (.int .i64 (Go.bits .or .i64 (rd l0 a1) (ji7)))) = w16 at n0_ n1_ n2_ ⊢
     have HO0 := n0_
     have HK := n1_
     have HB := n2_
     clear n0_ n1_ n2_
     have n0_ := Aside0.mk (Kd.R_drew HO0.out)
     have n1_ := Aside0.mk (Kept.drew HK.out)
     have n2_ := Aside0.mk (below_drew1 HB.out)
     clear HO0
     clear HK
     clear HB
     have HO0 := n0_
     have HK := n1_
     have HB := n2_
     clear n0_ n1_ n2_
     have p147 : 0 ≤ (a2 : Int) := of_decide_eq_true (by first | (with_reducible assumption) | assumption)
     have q147 : a2 < (y146.length : Int) := (by have h_ : (a2 : Int) < ((l0.length : Int) : Int) := of_decide_eq_true (by first | (with_reducible assumption) | assumption); first | (have e_ := (Kd.R_reads' HO0.out).1; omega) | simpa only [Ny146.out, List.length_set] using h_)
     have ql147 : ((a2 : Int) < ((l0.length : Int) : Int)) = True := eq_true (of_decide_eq_true (by first | (with_reducible assumption) | assumption))
     obtain ⟨ad147, e147, hx147_0⟩ := Kd.at_int (Kd.R_reads' HO0.out).2.2 a2 p147 q147
     obtain rfl : (⟨go8, 0, none⟩ : Addr) = ad147 := (by injection e147)
     (first | simp only [add_plain] at hx147_0 | simp only [add_at] at hx147_0 | simp only [Addr.add, Nat.zero_add] at hx147_0 | skip)
     replace p147 := eq_true p147
     replace q147 := eq_true q147
     have p12 : 0 ≤ (a2 : Int) := of_decide_eq_true (by first | (with_reducible assumption) | assumption)
     have q12 : (a2 : Int) < ((l0.length : Int) : Int) := of_decide_eq_true (by first | (with_reducible assumption) | assumption)
     obtain ⟨hx12_0, hf12_0⟩ := Kd.R_celln 0 HO0.out (a2 : Int) p12 q12
     replace p12 := eq_true p12
     replace q12 := eq_true q12
     have HP18 := Kd.R_putn HO0.out (a2 : Int) (Go.bits .or .i64 (rd y146 a2) (ji11))
     rw [← Ny148.out] at HP18
     have HQ18 := Aside0.mk HP18
     clear HP18
     refine start_ (n := 9) (S := fun w' => w'.cell? ⟨go8, (a2).toNat, none⟩ = some (.int .i64 (rd y146 a2))) (ds := [8]) (Qbz 9 0) (by kernel_rfl) rfl rfl (hx147_0) (fun hHeld => ?_); refine with_tabW minor_town_join.tab1 minor_town_join.bits1 (fun HT_ HW_ => ?_)
     generalize w16.drew = w17 at HO0 HK HB HQ15 HQ18 hf12_0 hx12_0 hx147_0 hHeld ⊢
     refine pure_ (i := 0) (N := some 14) (v := ?_) (a' := ?_) (Qbz 9 1) rfl rfl (any_of HT_.out (by kernel_rfl)) (fun _ _ _ h => h) (Or.inl ⟨by rfl, ?_⟩) ?_ ?_
     rotate_left
     ·intro w'
      go_simp
      with_reducible rfl
     rotate_left
     ·simp only [Act.put, Qp1, Qp2, Qp3, i64_w, i32_w]
      rfl
     refine pure_ (i := 1) (N := some 15) (v := ?_) (a' := ?_) (Qbz 9 3) rfl rfl (any_of HT_.out (by kernel_rfl)) (fun _ _ _ h => h) (Or.inl ⟨by rfl, ?_⟩) ?_ ?_
     rotate_left
     ·intro w'
      go_simp
      with_reducible rfl
     rotate_left
     ·simp only [Act.put, Qp1, Qp2, Qp3, i64_w, i32_w]
      rfl
     refine pure_ (i := 2) (N := some 16) (v := ?_) (a' := ?_) (Qbz 9 7) rfl rfl (any_of HT_.out (by kernel_rfl)) (fun _ _ _ h => h) (Or.inl ⟨by rfl, ?_⟩) ?_ ?_
     rotate_left
     ·intro w'
      go_simp
      with_reducible rfl
     rotate_left
     ·simp only [Act.put, Qp1, Qp2, Qp3, i64_w, i32_w]
      rfl
     refine pure_ (i := 4) (N := some 18) (v := ?_) (a' := ?_) (Qbz 9 23) rfl rfl (any_of HT_.out (by kernel_rfl)) (fun _ _ _ h => h) (Or.inl ⟨by rfl, ?_⟩) ?_ ?_
     rotate_left
     ·intro w'
      go_simp
      with_reducible rfl
     rotate_left
     ·simp only [Act.put, Qp1, Qp2, Qp3, i64_w, i32_w]
      rfl
     refine pure_ (i := 5) (N := some 19) (v := ?_) (a' := ?_) (Qbz 9 55) rfl rfl (any_of HT_.out (by kernel_rfl)) (fun _ _ _ h => h) (Or.inl ⟨by rfl, ?_⟩) ?_ ?_
     rotate_left
     ·intro w'
      go_simp
      with_reducible rfl
     rotate_left
     ·simp only [Act.put, Qp1, Qp2, Qp3, i64_w, i32_w]
      rfl
     refine take_ (i := 3) (N := some 17) (v := ?_) (a' := ?_) (Qbz 9 63) rfl rfl (take_ofW HT_.out HW_.out (by kernel_rfl)) (fun _ _ _ h => h) (Or.inl ⟨by rfl, ?_⟩) hHeld ?_ ?_
     rotate_left
     ·intro w' s0
      go_simp
      with_reducible rfl
     rotate_left
     ·simp only [Act.put, Qp1, Qp2, Qp3, i64_w, i32_w]
      rfl
     refine pure_ (i := 6) (N := some 20) (v := ?_) (a' := ?_) (Qbz 9 127) rfl rfl (any_of HT_.out (by kernel_rfl)) (fun _ _ _ h => h) (Or.inl ⟨by rfl, ?_⟩) ?_ ?_
     rotate_left
     ·intro w'
      go_simp
      with_reducible rfl
     rotate_left
     ·simp only [Act.put, Qp1, Qp2, Qp3, i64_w, i32_w]
      rfl
     refine pure_ (i := 7) (N := some 21) (v := ?_) (a' := ?_) (Qbz 9 255) rfl rfl (any_of HT_.out (by kernel_rfl)) (fun _ _ _ h => h) (Or.inl ⟨by rfl, ?_⟩) ?_ ?_
     rotate_left
     ·intro w'
      go_simp
      with_reducible rfl
     rotate_left
     ·simp only [Act.put, Qp1, Qp2, Qp3, i64_w, i32_w]
      rfl
     refine last_ (i := 8) (N := none) (Qbz 9 511) rfl rfl (one_of HT_.out (by kernel_rfl)) (by decide) (fun K hK => ?_)
     refine skip_ (w1 := ?_) (by rfl) rfl ?_ ?_
     rotate_left
     ·go_simp
      rfl
     refine hK.out _ _ ?_
     clear hK K
     refine done_ (done_of HT_.out (by kernel_rfl)) ?_
     try go_wp2
     first | go_end0 | ((try simp only [Exit.inBlock, Exit.then]); refine bodyPost_ret (results_none rfl _ _ _) rfl ?_)
     exact ⟨by first | rfl | (simp [errW_none, errW_some] <;> rfl) | (simp only [← hji7, ← hji11]; first | rfl | (simp [errW_none, errW_some] <;> rfl)) | (simp [*, errW_none, errW_some] <;> rfl), by (with_reducible repeat (first | apply Kd.R_alloc | apply Kd.R_drewN | apply Kd.R_drew)); exact HQ18.out, by repeat (first | (with_reducible first | exact HB.out | apply below_alloc | apply pw_below_drewN | apply below_drew1 | refine below_set ?_ GB8.out) | exact HB.out), by repeat (first | (with_reducible first | exact HK.out | apply Kept.alloc | apply Kept.drewN | apply Kept.drew | refine Kept.setCell ?_ HMgo8.out _) | exact HK.out)⟩
    ·rw [if_neg c9] at H
     exact absurd H (by simp)
   ·rw [if_neg c6] at H
    exact absurd H (by simp)
  ·rw [if_neg c5] at H
   exact absurd H (by simp)
 ·rw [if_neg c4] at H
  exact absurd H (by simp)
end Go.Proofs.YtjloppfdagfpmaaDoor.X
end
section
namespace Go.Proofs.YtjloppfdagfpmaaDoor.X
open Go.RowKit YtjloppfdagfpmaaDoorW.PrintWords YtjloppfdagfpmaaDoorW.PrintLast YtjloppfdagfpmaaDoorW.PrintMore
attribute [local go_sem] max2_int min2_int max_two min_two max_three min_three max_four min_four
/-! ### minor_clique: function 74 -/
mutual
def minor_clique.l0 : Nat → List Int → Int → Int → Option (List Int)
 | 0, _, _, _ => none
 | k + 1, x3, x8, x9 => if x9 < x8 then (minor_clique.l1 k x3 x9 x8 x9 x9 0) else (some x3)
def minor_clique.l1 : Nat → List Int → Int → Int → Int → Int → Int → Option (List Int)
 | 0, _, _, _, _, _, _ => none
 | k + 1, x3, x4, x8, x9, x12, x13 => if x13 < x12 then ((minor_town_join.f x3 x4 x13).bind fun t239 => (minor_clique.l1 k t239 x4 x8 x9 x12 (wrap64 (x13 + 1)))) else (minor_clique.l0 k x3 x8 (wrap64 (x9 + 1)))
end
def minor_clique.f (k : Nat) (a0 : Int) : Option (List Int) := if 0 ≤ a0 then (if (a0 : Int).toNat ≤ 35184372088832 then (minor_clique.l0 k (List.replicate (a0 : Int).toNat 0) a0 0) else (none)) else (none)
set_option maxHeartbeats 8000000 in
set_option maxRecDepth 100000 in
theorem minor_clique.calls (k : Nat) (a0 : Int) (r : List Int) (w : World) (h : minor_clique.f k a0 = some r) :
  Calls Tryd.prog 74 #[.int .i64 a0] w fun e w' => ∃ v0_ : Value, e = .returned (v0_) ∧ Kd.R (Kd.int .i64) 3 w' w.heap.size (fun _ => True) v0_ r ∧ Below w.heap.size w w' := by
 have HB := Aside0.mk (Below.refl w.heap.size w)
 have H : (if 0 ≤ a0 then (if (a0 : Int).toNat ≤ 35184372088832 then (minor_clique.l0 k (List.replicate (a0 : Int).toNat 0) a0 0) else (none)) else (none)) = some r := h
 clear h
 by_cases c2 : 0 ≤ a0
 ·rw [if_pos c2] at H
  have c2b0 := eq_true c2
  have c2b1 : decide (0 ≤ a0) = true := decide_eq_true c2
  clear c2
  by_cases c3 : (a0 : Int).toNat ≤ 35184372088832
  ·rw [if_pos c3] at H
   have c3b0 := eq_true c3
   have c3b1 : decide ((a0 : Int).toNat ≤ 35184372088832) = true := decide_eq_true c3
   clear c3
   obtain ⟨y236, hy236⟩ : ∃ y_ : List Int, y_ = (List.replicate (a0 : Int).toNat 0) := ⟨_, rfl⟩
   replace H : (minor_clique.l0 k y236 a0 0) = some r := by first | (rw [hy236]; with_reducible exact H) | (have H2_ := (Option.bind_some _ _).symm.trans H; rw [hy236]; with_reducible exact H2_) | (have H2_ := (Option.bind_some _ _).symm.trans H; with_reducible exact H2_) | with_reducible exact H | (rw [hy236]; exact H) | exact H
   have Ny236 := Aside0.mk hy236
   clear hy236
   have H' := Aside0.mk H
   clear H
   go_enter Tryd.func74, Tryd.ntmps74
   go_wp2_with (first | ((with_reducible refine gate_dst (N := 7) rfl ?_); refine Kd.R_make (Kd.int .i64) _ 3 rfl (N := 7) rfl 79 _ _ rfl a0 rfl rfl Tryd.underlying79 (.int .i64 0) 8 info3 rfl (by decide) (by omega) 0 (ok := fun _ => True) (okp := fun _ => True) rfl (fun _ hk => hk) trivial (of_decide_eq_true (by first | (with_reducible assumption) | assumption)) (Nat.le_trans (Nat.mul_le_mul_right _ (of_decide_eq_true (by first | (with_reducible assumption) | assumption) : a0.toNat ≤ 35184372088832)) (by omega)) (Below.refl _ _) (Nat.le_refl _) ?_; intro v237 w4 ho5 hb hg_ hnew_; clear hg_ hnew_; (first | rw [← Ny236.out] at ho5 | (simp only [Int.reduceToNat] at ho5; rw [← Ny236.out] at ho5)); have n0_ := Aside0.mk (Kd.R_lower ho5 (below_size (Qaw))); have n1_ := Aside0.mk (below_step (Qaw) hb); clear HB; have HO238 := n0_; have HB := n1_; clear n0_ n1_; clear hb ho5))
   go_loopg [9] k (fun kq v9 w' => ∃ (x3_1 : List Int) (x9_1 : Int), v9 = .int .i64 x9_1 ∧ Aside0 (minor_clique.l0 kq x3_1 a0 x9_1 = some r) ∧ Aside0 (kq ≤ k) ∧ Aside0 (Kd.R (Kd.int .i64) 3 w' w.heap.size (fun _ => True) v237 x3_1) ∧ Aside0 (Below w.heap.size w w'))
   case atStart => exact ⟨(y236), (0), (by first | rfl | (simp; done) | (simp [*]; done)), H', ⟨Nat.le_refl _⟩, ⟨by (with_reducible repeat (first | apply Kd.R_alloc | apply Kd.R_drewN | apply Kd.R_drew)); exact HO238.out⟩, ⟨by repeat (first | (with_reducible first | exact HB.out | apply below_alloc | apply pw_below_drewN | apply below_drew1) | exact HB.out)⟩⟩
   case round =>
    clear H'
    try clear c2
    try clear c2b0
    try clear c2b1
    try clear p2
    try clear c3
    try clear c3b0
    try clear c3b1
    obtain ⟨x3_1, x9_1, rfl, HA, HK1, HO_3, HB⟩ := hrel
    cases gk with
    | zero => exact absurd HA.out (by simp [minor_clique.l0])
    | succ k1 =>
     have H := HA.out
     clear HA
     simp only [minor_clique.l0] at H
     by_cases c6 : x9_1 < a0
     ·rw [if_pos c6] at H
      have c6b0 : decide (x9_1 < a0) = true := decide_eq_true c6
      clear c6
      have H' := Aside0.mk H
      clear H
      go_wp2
      go_loopg [13] k1 (fun kq v13 w' => ∃ (x3_2 : List Int) (x13_2 : Int), v13 = .int .i64 x13_2 ∧ Aside0 (minor_clique.l1 kq x3_2 x9_1 a0 x9_1 x9_1 x13_2 = some r) ∧ Aside0 (kq ≤ k1) ∧ Aside0 (Kd.R (Kd.int .i64) 3 w' w.heap.size (fun _ => True) v237 x3_2) ∧ Aside0 (Below w.heap.size w w'))
      case atStart => exact ⟨(x3_1), (0), (by first | rfl | (simp; done) | (simp [*]; done)), H', ⟨Nat.le_refl _⟩, ⟨by (with_reducible repeat (first | apply Kd.R_alloc | apply Kd.R_drewN | apply Kd.R_drew)); exact HO_3.out⟩, ⟨by repeat (first | (with_reducible first | exact HB.out | apply below_alloc | apply pw_below_drewN | apply below_drew1) | exact HB.out)⟩⟩
      case round =>
       clear H'
       try clear c2
       try clear c2b0
       try clear c2b1
       try clear p2
       try clear c3
       try clear c3b0
       try clear c3b1
       try clear c6
       try clear c6b0
       try clear p2
       obtain ⟨x3_2, x13_2, rfl, HA, HK2, HO_3, HB⟩ := hrel
       cases gk with
       | zero => exact absurd HA.out (by simp [minor_clique.l1])
       | succ k2 =>
        have H := HA.out
        clear HA
        simp only [minor_clique.l1] at H
        by_cases c7 : x13_2 < x9_1
        ·rw [if_pos c7] at H
         have c7b0 : decide (x13_2 < x9_1) = true := decide_eq_true c7
         clear c7
         replace H := Option.bind_eq_some_iff.mp H
         obtain ⟨t239, A80, H⟩ := H
         replace H : (minor_clique.l1 k2 t239 x9_1 a0 x9_1 x9_1 (wrap64 (x13_2 + 1))) = some r := H
         have A8 := Aside0.mk A80
         clear A80
         have H' := Aside0.mk H
         clear H
         obtain ⟨Ao9, co9, eo9⟩ := Kd.R_slice HO_3.out
         subst eo9
         go_wp2_with (first | ((with_reducible refine gate_callee (f := 62) rfl ?_); refine goesL_ (some 19) rfl rfl Tryd.func62 (by kernel_rfl) rfl #[.slice Ao9 x3_2.length co9, .int .i64 x9_1, .int .i64 x13_2] rfl (Qls) ?_; (with_reducible refine (minor_town_join.calls (fun k_ => some k_ = (.slice Ao9 x3_2.length co9 : Value).ownBlock) (.slice Ao9 x3_2.length co9) x3_2 x9_1 x13_2 t239 w _ ?side1 ?side2 A8.out).mono ?_); (case side1 => repeat (first | (with_reducible first | exact HB.out | apply below_alloc | apply pw_below_drewN | apply below_drew1) | exact HB.out)); (case side2 => exact Kd.R_tight rfl HO_3.out); rintro e w10 ⟨rfl, hy0, hb, hkp⟩; refine ⟨_, rfl, ?_⟩; have n0_ := Aside0.mk (Kd.R_reok rfl hy0 (fun k_ e_ => HO_3.out.1 k_ e_)); have n1_ := Aside0.mk (hb); clear HO_3; clear HB; have HO_3 := n0_; have HB := n1_; clear n0_ n1_; (try clear hb); (try clear hkp); (try clear hy0)))
         go_roundg k2
         case measure => have := HK1.out; have := HK2.out; omega
         case rel => exact ⟨(t239), (wrap64 (x13_2 + 1)), (by first | rfl | (simp; done) | (simp [*]; done)), H', ⟨by have := HK1.out; have := HK2.out; omega⟩, ⟨by (with_reducible repeat (first | apply Kd.R_alloc | apply Kd.R_drewN | apply Kd.R_drew)); exact HO_3.out⟩, ⟨by repeat (first | (with_reducible first | exact HB.out | apply below_alloc | apply pw_below_drewN | apply below_drew1) | exact HB.out)⟩⟩
        ·rw [if_neg c7] at H
         have c7b0 : decide (x13_2 < x9_1) = false := decide_eq_false c7
         clear c7
         have H' := Aside0.mk H
         clear H
         go_wp2
         go_roundg k2
         case measure => have := HK1.out; have := HK2.out; omega
         case rel => exact ⟨(x3_2), (wrap64 (x9_1 + 1)), (by first | rfl | (simp; done) | (simp [*]; done)), H', ⟨by have := HK1.out; have := HK2.out; omega⟩, ⟨by (with_reducible repeat (first | apply Kd.R_alloc | apply Kd.R_drewN | apply Kd.R_drew)); exact HO_3.out⟩, ⟨by repeat (first | (with_reducible first | exact HB.out | apply below_alloc | apply pw_below_drewN | apply below_drew1) | exact HB.out)⟩⟩
     ·rw [if_neg c6] at H
      have c6b0 : decide (x9_1 < a0) = false := decide_eq_false c6
      clear c6
      obtain rfl := Option.some.inj H
      go_wp2
      go_ret
      exact ⟨_, by first | rfl | (simp [errW_none, errW_some] <;> rfl) | (simp [*, errW_none, errW_some] <;> rfl), by (with_reducible repeat (first | apply Kd.R_alloc | apply Kd.R_drewN | apply Kd.R_drew)); exact HO_3.out, by repeat (first | (with_reducible first | exact HB.out | apply below_alloc | apply pw_below_drewN | apply below_drew1) | exact HB.out)⟩
  ·rw [if_neg c3] at H
   exact absurd H (by simp)
 ·rw [if_neg c2] at H
  exact absurd H (by simp)
end Go.Proofs.YtjloppfdagfpmaaDoor.X
end
section
/- minor.Greatest, by hand. -/
namespace Go.Proofs.YtjloppfdagfpmaaDoor.X
open Go.RowKit YtjloppfdagfpmaaDoorW.PrintWords YtjloppfdagfpmaaDoorW.PrintLast YtjloppfdagfpmaaDoorW.PrintMore YtjloppfdagfpmaaDoor.T
def greatN (G : List Nat) : Nat → Nat
 | 0 => 0
 | n + 1 => if (findN G (kN (n + 1))).isSome then n + 1 else greatN G n
def minor_Greatest.f (g : List Int) : Option (Int × Int) :=
 if g.length < 1000 then some (if chk 8 g = true then ((greatN (g.map Int.toNat) (min 6 g.length) : Int), 0) else (0, 2)) else none
theorem find_one {G : List Nat} (hG : Gr 8 G) : (findN G (kN 1)).isSome = true := by
 rw [find_mnr hG (by omega) (kN_gr (n := 1) (by omega) (by omega)) (by omega), mnr_k]
 exact ⟨fun _ x => x = 0, fun i _ => ⟨conn_one _ 0, fun x hx => by rw [hx]; exact hG.pos⟩, fun i j x hi hj _ _ => by omega, fun i j hi hj h => by omega⟩
theorem clique_all : ∀ i : Fin 6, minor_clique.f 60 ((i.val : Int) + 1) = some (gi (kN (i.val + 1))) := by decide +kernel
theorem clique_f {n : Nat} (h1 : 1 ≤ n) (h6 : n ≤ 6) : minor_clique.f 60 (n : Int) = some (gi (kN n)) := by
 have := clique_all ⟨n - 1, by omega⟩
 rw [show (((⟨n - 1, by omega⟩ : Fin 6).val : Int) + 1) = (n : Int) by simp; omega, show ((⟨n - 1, by omega⟩ : Fin 6).val + 1) = n by simp; omega] at this
 exact this
theorem kN_small {n : Nat} (h1 : 1 ≤ n) (h6 : n ≤ 6) : ∀ x ∈ kN n, x < 512 := fun x hx => by
 have hg := kN_gr h1 h6
 obtain ⟨i, hi, e⟩ := List.getElem_of_mem hx
 have := hg.row i
 rw [List.getD_eq_getElem?_getD, List.getElem?_eq_getElem hi] at this
 rw [← e]
 exact small _ (by rw [kN_length]; omega) this
set_option maxHeartbeats 4000000 in
set_option maxRecDepth 100000 in
theorem minor_Greatest.calls (A0 : Option Addr) (c0 : Nat) (l0 : List Int) (r1 : Int) (r2 : Int) (w : World) (hGL : GL w) (hr0 : Kd.C (Kd.int .i64) w A0 l0.length l0) (hc0 : l0.length ≤ c0) (h : minor_Greatest.f l0 = some (r1, r2)) :
  Calls Tryd.prog 53 #[.slice A0 l0.length c0] w fun e w' => e = .returned (.tuple #[.int .i64 r1, .int .i64 r2]) ∧ Below w.heap.size w w' := by
 unfold minor_Greatest.f at h
 by_cases hlen : l0.length < 1000
 ·rw [if_pos hlen] at h
  have h := Option.some.inj h
  have HC1 : Aside0 (∀ W, Below w.heap.size w W → Calls Tryd.prog 63 #[.slice A0 l0.length c0, .int .i64 8] W fun e w' => ∃ v, e = .returned (.tuple #[v, .bool (chk 8 l0)]) ∧ (chk 8 l0 = true → ∃ A1 c1, v = .slice A1 l0.length c1 ∧ l0.length ≤ c1 ∧ Kd.C (Kd.int .i64) w' A1 l0.length l0) ∧ Below W.heap.size W w') := ⟨fun W hW => read_any 8 (by omega) (by omega) A0 c0 W (Kd.C_below hr0 hW) hc0⟩
  have HGL := Aside0.mk hGL
  cases hg : chk 8 l0
  ·rw [hg] at h HC1
   injection h with h1 h2
   subst h1 h2
   clear hg hr0
   go_enter Tryd.func53, Tryd.ntmps53
   go_wp2_with (go_at_call 63; refine (HC1.out _ (Below.refl _ _)).mono ?_; rintro e w1 ⟨v1, rfl, _, hb1⟩; have HB1 := Aside0.mk hb1; clear hb1)
   go_ret2
   exact ⟨rfl, HB1.out⟩
  ·rw [hg] at h HC1
   obtain ⟨G, rfl, hG⟩ := (chk_iff 8 (by omega) _).1 hg
   rw [gi_toNat] at h
   simp only [gi_length] at HC1 hr0 hc0 h ⊢
   have hn := hG.most
   have hn1 := hG.pos
   have HG := Aside0.mk hG
   obtain ⟨z, hz⟩ : ∃ z, min 6 G.length = z := ⟨_, rfl⟩
   rw [hz] at h
   injection h with h1 h2
   subst h2
   have hz6 : z ≤ 6 := by omega
   have hz1 : 1 ≤ z := by omega
   have hmn : (if (6 : Int) ≤ (G.length : Int) then (6 : Int) else (G.length : Int)) = (z : Int) := by split <;> omega
   have hmn2 : min (6 : Int) (G.length : Int) = (z : Int) := by omega
   have hmn3 : (if (G.length : Int) < (6 : Int) then (G.length : Int) else (6 : Int)) = (z : Int) := by split <;> omega
   have HR : Aside0 (((greatN G z : Nat) : Int) = r1) := ⟨h1⟩
   clear hg hr0 hG hGL hz h1
   have HONE := Aside0.mk (find_one HG.out)
   have heq_ := fun (w : World) (a : Option Addr) (n c : Nat) => Lib.run_eql_slice_nil (P := Tryd.prog) w 22 3 a n c 0 0 Tryd.underlying22
   go_enter Tryd.func53, Tryd.ntmps53
   go_wp2_with (go_at_call 63; refine (HC1.out _ (Below.refl _ _)).mono ?_; rintro e w1 ⟨v1, rfl, hv1, hb1⟩; obtain ⟨A5, c5, rfl, hc5, hC5⟩ := hv1 trivial; have HB1 := Aside0.mk hb1; have HC5 := Aside0.mk hC5; clear hb1 hv1 hC5)
   go_loopg [6] z (fun kq v6 w' => v6 = .int .i64 (kq : Int) ∧ 1 ≤ kq ∧ kq ≤ 6 ∧ Aside0 (((greatN G kq : Nat) : Int) = r1) ∧ Aside0 (Below w1.heap.size w1 w'))
   case atStart => exact ⟨by first | rfl | (simp; omega), hz1, hz6, HR, ⟨Below.refl _ _⟩⟩
   case round =>
    clear HR
    obtain ⟨rfl, hk1, hk6, HA, HBW⟩ := hrel
    have HCL : Aside0 (∀ W, Below w1.heap.size w1 W → Calls Tryd.prog 74 #[.int .i64 (gk : Int)] W fun e w' => ∃ A c, e = .returned (.slice A gk c) ∧ gk ≤ c ∧ Kd.C (Kd.int .i64) w' A (gi (kN gk)).length (gi (kN gk)) ∧ Below W.heap.size W w') := ⟨fun W hW => by
     refine (minor_clique.calls 60 (gk : Int) (gi (kN gk)) W (clique_f hk1 hk6)).mono ?_
     rintro e w' ⟨v, rfl, hv, hb⟩
     obtain ⟨A, c, ev, hc, hC⟩ := Kd.R_reads hv
     rw [gi_length, kN_length] at ev hc
     exact ⟨A, c, by rw [ev], hc, hC, hb⟩⟩
    have HFD : Aside0 (∀ W A c, Below w1.heap.size w1 W → Kd.C (Kd.int .i64) W A (gi (kN gk)).length (gi (kN gk)) → Calls Tryd.prog 64 #[.slice A5 G.length c5, .slice A gk c] W fun e w' => ∃ v, e = .returned v ∧ ((findN G (kN gk) = none ∧ v = .slice none 0 0) ∨ ((findN G (kN gk)).isSome = true ∧ ∃ a n c, v = .slice (some a) n c)) ∧ Below W.heap.size W w') := ⟨fun W A c hW hA => by
     have hCG : Kd.C (Kd.int .i64) W A5 (gi G).length (gi G) := by rw [gi_length]; exact Kd.C_below HC5.out hW
     have := find_calls A5 c5 G (gr_mono HG.out (by omega)) hc5 A c (kN gk) (by rw [kN_length]; exact hk1) (by rw [kN_length]; omega) (kN_small hk1 hk6) W (GL_below HGL.out (below_step HB1.out hW)) hCG hA
     rw [kN_length] at this
     refine this.mono ?_
     rintro e w' ⟨v, e1, _, e2, e3⟩
     exact ⟨v, e1, e2, e3⟩⟩
    cases hf : findN G (kN gk) with
    | none =>
     rw [hf] at HFD
     have h2 : 2 ≤ gk := by
      apply Classical.byContradiction
      intro h
      obtain rfl : gk = 1 := by omega
      have := HONE.out
      rw [hf] at this; cases this
     obtain ⟨g1, rfl⟩ : ∃ g1, gk = g1 + 1 := ⟨gk - 1, by omega⟩
     have HA2 : Aside0 (((greatN G g1 : Nat) : Int) = r1) := ⟨by
      have := HA.out
      rw [greatN, hf] at this
      exact this⟩
     clear hf HA
     go_wp2_with (first
      | (go_at_call 74; refine (HCL.out _ HBW.out).mono ?_; rintro e w3 ⟨A6, c6, rfl, hc6, hC6, hb3⟩; have HB3 := Aside0.mk (below_step HBW.out hb3); have HC6 := Aside0.mk hC6; clear hb3 hC6)
      | (go_at_call 64; refine (HFD.out _ _ _ HB3.out HC6.out).mono ?_; rintro e w4 ⟨v4, rfl, hv4, hb4⟩; have hv5 : v4 = .slice none 0 0 := hv4.elim (fun h => h.2) (fun h => by cases h.1); subst hv5; have HB4 := Aside0.mk (below_step HB3.out hb4); clear hb4 hv4))
     go_roundg g1
     case measure => omega
     case rel => exact ⟨by go_num, by omega, by omega, HA2, HB4⟩
    | some M =>
     rw [hf] at HFD
     have hr : ((gk : Nat) : Int) = r1 := by
      have := HA.out
      obtain ⟨g1, rfl⟩ : ∃ g1, gk = g1 + 1 := ⟨gk - 1, by omega⟩
      rw [greatN, hf] at this
      exact this
     subst hr
     clear hf HA
     go_wp2_with (first
      | (go_at_call 74; refine (HCL.out _ HBW.out).mono ?_; rintro e w3 ⟨A6, c6, rfl, hc6, hC6, hb3⟩; have HB3 := Aside0.mk (below_step HBW.out hb3); have HC6 := Aside0.mk hC6; clear hb3 hC6)
      | (go_at_call 64; refine (HFD.out _ _ _ HB3.out HC6.out).mono ?_; rintro e w4 ⟨v4, rfl, hv4, hb4⟩; obtain ⟨a4, n4, c4, rfl⟩ : ∃ a n c, v4 = .slice (some a) n c := hv4.elim (fun h => by cases h.1) (fun h => h.2); have HB4 := Aside0.mk (below_step HB3.out hb4); clear hb4 hv4))
     go_ret2
     exact ⟨rfl, below_step HB1.out HB4.out⟩
 ·rw [if_neg hlen] at h
  cases h
end Go.Proofs.YtjloppfdagfpmaaDoor.X
end
section
namespace Go.Proofs.YtjloppfdagfpmaaDoor.X
open Go.RowKit YtjloppfdagfpmaaDoorW.PrintWords YtjloppfdagfpmaaDoorW.PrintLast YtjloppfdagfpmaaDoorW.PrintMore
attribute [local go_sem] max2_int min2_int max_two min_two max_three min_three max_four min_four
/-! ### lampblackref07_K23: function 32 -/
def lampblackref07_K23.l0 : Nat → List Int → Int → Option (List Int)
 | 0, _, _ => none
 | k + 1, x1, x2 => if x2 < 5 then ((lampblackref07_join.f x1 0 x2).bind fun t256 => ((lampblackref07_join.f t256 1 x2).bind fun t257 => (lampblackref07_K23.l0 k t257 (wrap64 (x2 + 1))))) else (some x1)
def lampblackref07_K23.f (k : Nat)  : Option (List Int) := if 5 ≤ 35184372088832 then (lampblackref07_K23.l0 k (List.replicate 5 0) 2) else (none)
theorem lampblackref07_K23.mono_l : ∀ k, (∀ y0 y1, LeO (lampblackref07_K23.l0 k y0 y1) (lampblackref07_K23.l0 (k + 1) y0 y1))
 | 0 => fun _ _ r h => by simp [lampblackref07_K23.l0] at h
 | k + 1 => by
  have ih0 := lampblackref07_K23.mono_l k
  ·intro y0 y1
   unfold lampblackref07_K23.l0
   repeat' first
   | (with_reducible exact ih0 _ _)
   | (with_reducible exact LeO.refl _)
   | (with_reducible exact LeO.none _)
   | (with_reducible refine LeO.ite ?_ ?_)
   | (with_reducible refine LeO.bind ?_ (fun _ => ?_))
   | exact ih0 _ _
   | exact LeO.none _
   | refine LeO.ite ?_ ?_
   | refine LeO.bind ?_ (fun _ => ?_)
theorem lampblackref07_K23.mono : ∀ k, LeO (lampblackref07_K23.f k ) (lampblackref07_K23.f (k + 1) ) := by
 intro  k
 have ih0 := lampblackref07_K23.mono_l k
 unfold lampblackref07_K23.f
 repeat' first
   | (with_reducible exact ih0 _ _)
   | (with_reducible exact LeO.refl _)
   | (with_reducible exact LeO.none _)
   | (with_reducible refine LeO.ite ?_ ?_)
   | (with_reducible refine LeO.bind ?_ (fun _ => ?_))
   | exact ih0 _ _
   | exact LeO.none _
   | refine LeO.ite ?_ ?_
   | refine LeO.bind ?_ (fun _ => ?_)
set_option maxHeartbeats 8000000 in
set_option maxRecDepth 100000 in
theorem lampblackref07_K23.calls (k : Nat)  (r : List Int) (w : World) (h : lampblackref07_K23.f k  = some r) :
  Calls Tryd.prog 32 #[] w fun e w' => ∃ v0_ : Value, e = .returned (v0_) ∧ Kd.R (Kd.int .i64) 3 w' w.heap.size (fun _ => True) v0_ r ∧ Below w.heap.size w w' := by
 have HB := Aside0.mk (Below.refl w.heap.size w)
 have H : (if 5 ≤ 35184372088832 then (lampblackref07_K23.l0 k (List.replicate 5 0) 2) else (none)) = some r := h
 clear h
 by_cases c1 : 5 ≤ 35184372088832
 ·rw [if_pos c1] at H
  have c1b0 := eq_true c1
  have c1b1 : decide (5 ≤ 35184372088832) = true := decide_eq_true c1
  clear c1
  obtain ⟨y253, hy253⟩ : ∃ y_ : List Int, y_ = (List.replicate 5 0) := ⟨_, rfl⟩
  replace H : (lampblackref07_K23.l0 k y253 2) = some r := by first | (rw [hy253]; with_reducible exact H) | (have H2_ := (Option.bind_some _ _).symm.trans H; rw [hy253]; with_reducible exact H2_) | (have H2_ := (Option.bind_some _ _).symm.trans H; with_reducible exact H2_) | with_reducible exact H | (rw [hy253]; exact H) | exact H
  have Ny253 := Aside0.mk hy253
  clear hy253
  have H' := Aside0.mk H
  clear H
  go_enter Tryd.func32, Tryd.ntmps32
  go_wp2_with (first | ((with_reducible refine gate_dst (N := 3) rfl ?_); refine Kd.R_make (Kd.int .i64) _ 3 rfl (N := 3) rfl 23 _ _ rfl 5 rfl rfl Tryd.underlying23 (.int .i64 0) 8 info3 rfl (by decide) (by omega) 0 (ok := fun _ => True) (okp := fun _ => True) rfl (fun _ hk => hk) trivial (by omega) (by omega) (Below.refl _ _) (Nat.le_refl _) ?_; intro v254 w2 ho3 hb hg_ hnew_; clear hg_ hnew_; (first | rw [← Ny253.out] at ho3 | (simp only [Int.reduceToNat] at ho3; rw [← Ny253.out] at ho3)); have n0_ := Aside0.mk (Kd.R_lower ho3 (below_size (Qaw))); have n1_ := Aside0.mk (below_step (Qaw) hb); clear HB; have HO255 := n0_; have HB := n1_; clear n0_ n1_; clear hb ho3))
  go_loopg [2] k (fun kq v2 w' => ∃ (x1_1 : List Int) (x2_1 : Int), v2 = .int .i64 x2_1 ∧ Aside0 (lampblackref07_K23.l0 kq x1_1 x2_1 = some r) ∧ Aside0 (kq ≤ k) ∧ Aside0 (Kd.R (Kd.int .i64) 3 w' w.heap.size (fun _ => True) v254 x1_1) ∧ Aside0 (Below w.heap.size w w'))
  case atStart => exact ⟨(y253), (2), (by first | rfl | (simp; done) | (simp [*]; done)), H', ⟨Nat.le_refl _⟩, ⟨by (with_reducible repeat (first | apply Kd.R_alloc | apply Kd.R_drewN | apply Kd.R_drew)); exact HO255.out⟩, ⟨by repeat (first | (with_reducible first | exact HB.out | apply below_alloc | apply pw_below_drewN | apply below_drew1) | exact HB.out)⟩⟩
  case round =>
   clear H'
   try clear c1
   try clear c1b0
   try clear c1b1
   try clear p2
   try clear c3
   obtain ⟨x1_1, x2_1, rfl, HA, HK1, HO_1, HB⟩ := hrel
   cases gk with
   | zero => exact absurd HA.out (by simp [lampblackref07_K23.l0])
   | succ k1 =>
    have H := HA.out
    clear HA
    simp only [lampblackref07_K23.l0] at H
    by_cases c4 : x2_1 < 5
    ·rw [if_pos c4] at H
     have c4b0 : decide (x2_1 < 5) = true := decide_eq_true c4
     clear c4
     replace H := Option.bind_eq_some_iff.mp H
     obtain ⟨t256, A50, H⟩ := H
     replace H : ((lampblackref07_join.f t256 1 x2_1).bind fun t257 => (lampblackref07_K23.l0 k1 t257 (wrap64 (x2_1 + 1)))) = some r := H
     have A5 := Aside0.mk A50
     clear A50
     replace H := Option.bind_eq_some_iff.mp H
     obtain ⟨t257, A60, H⟩ := H
     replace H : (lampblackref07_K23.l0 k1 t257 (wrap64 (x2_1 + 1))) = some r := H
     have A6 := Aside0.mk A60
     clear A60
     have H' := Aside0.mk H
     clear H
     obtain ⟨Ao7, co7, eo7⟩ := Kd.R_slice HO_1.out
     subst eo7
     go_wp2_with (first | ((with_reducible refine gate_callee (f := 75) rfl ?_); refine goesL_ (some 10) rfl rfl Tryd.func75 (by kernel_rfl) rfl #[.slice Ao7 x1_1.length co7, .int .i64 0, .int .i64 x2_1] rfl (Qls) ?_; (with_reducible refine (lampblackref07_join.calls (fun k_ => some k_ = (.slice Ao7 x1_1.length co7 : Value).ownBlock) (.slice Ao7 x1_1.length co7) x1_1 0 x2_1 t256 w _ ?side1 ?side2 A5.out).mono ?_); (case side1 => repeat (first | (with_reducible first | exact HB.out | apply below_alloc | apply pw_below_drewN | apply below_drew1) | exact HB.out)); (case side2 => exact Kd.R_tight rfl HO_1.out); rintro e w8 ⟨rfl, hy0, hb, hkp⟩; refine ⟨_, rfl, ?_⟩; have n0_ := Aside0.mk (Kd.R_reok rfl hy0 (fun k_ e_ => HO_1.out.1 k_ e_)); have n1_ := Aside0.mk (hb); clear HO_1; clear HB; have HO_1 := n0_; have HB := n1_; clear n0_ n1_; (try clear hb); (try clear hkp); (try clear hy0)) | ((with_reducible refine gate_callee (f := 75) rfl ?_); refine goesL_ (some 13) rfl rfl Tryd.func75 (by kernel_rfl) rfl #[.slice Ao7 x1_1.length co7, .int .i64 1, .int .i64 x2_1] rfl (Qls) ?_; (with_reducible refine (lampblackref07_join.calls (fun k_ => some k_ = (.slice Ao7 x1_1.length co7 : Value).ownBlock) (.slice Ao7 x1_1.length co7) t256 1 x2_1 t257 w _ ?side1 ?side2 A6.out).mono ?_); (case side1 => repeat (first | (with_reducible first | exact HB.out | apply below_alloc | apply pw_below_drewN | apply below_drew1) | exact HB.out)); (case side2 => exact Kd.R_tight rfl HO_1.out); rintro e w9 ⟨rfl, hy0, hb, hkp⟩; refine ⟨_, rfl, ?_⟩; have n0_ := Aside0.mk (Kd.R_reok rfl hy0 (fun k_ e_ => HO_1.out.1 k_ e_)); have n1_ := Aside0.mk (hb); clear HO_1; clear HB; have HO_1 := n0_; have HB := n1_; clear n0_ n1_; (try clear hb); (try clear hkp); (try clear hy0)))
     go_roundg k1
     case measure => have := HK1.out; omega
     case rel => exact ⟨(t257), (wrap64 (x2_1 + 1)), (by first | rfl | (simp; done) | (simp [*]; done)), H', ⟨by have := HK1.out; omega⟩, ⟨by (with_reducible repeat (first | apply Kd.R_alloc | apply Kd.R_drewN | apply Kd.R_drew)); exact HO_1.out⟩, ⟨by repeat (first | (with_reducible first | exact HB.out | apply below_alloc | apply pw_below_drewN | apply below_drew1) | exact HB.out)⟩⟩
    ·rw [if_neg c4] at H
     have c4b0 : decide (x2_1 < 5) = false := decide_eq_false c4
     clear c4
     obtain rfl := Option.some.inj H
     go_wp2
     go_ret
     exact ⟨_, by first | rfl | (simp [errW_none, errW_some] <;> rfl) | (simp [*, errW_none, errW_some] <;> rfl), by (with_reducible repeat (first | apply Kd.R_alloc | apply Kd.R_drewN | apply Kd.R_drew)); exact HO_1.out, by repeat (first | (with_reducible first | exact HB.out | apply below_alloc | apply pw_below_drewN | apply below_drew1) | exact HB.out)⟩
 ·rw [if_neg c1] at H
  exact absurd H (by simp)
end Go.Proofs.YtjloppfdagfpmaaDoor.X
end
section
namespace Go.Proofs.YtjloppfdagfpmaaDoor.X
open Go.RowKit YtjloppfdagfpmaaDoorW.PrintWords YtjloppfdagfpmaaDoorW.PrintLast YtjloppfdagfpmaaDoorW.PrintMore
attribute [local go_sem] max2_int min2_int max_two min_two max_three min_three max_four min_four
/-! ### minor_town_crosses: function 83 -/
mutual
def minor_town_crosses.l0 : Nat → List Int → List Int → Int → List Int → Int → Int → Option (Bool)
 | 0, _, _, _, _, _, _ => none
 | k + 1, x0, x1, x5, x15, x16, x17 => if x17 < x16 then (if 0 ≤ x17 then (if x17 < (x15.length : Int) then (if 0 ≤ (rd x15 x17) then (if (rd x15 x17) < (x0.length : Int) then (if 0 ≤ x5 then (if x5 < (x1.length : Int) then (if 0 ≤ (rd x1 x5) then (if (Go.bits .and .i64 (shr .i64 (rd x0 (rd x15 x17)) (rd x1 x5)) 1) = 0 then (minor_town_crosses.l0 k x0 x1 x5 x15 x16 (wrap64 (x17 + 1))) else (minor_town_crosses.l1 k x0 x1 x5 x17 x15 x16 x17 x17 0)) else (none)) else (none)) else (none)) else (none)) else (none)) else (none)) else (none)) else (some false)
def minor_town_crosses.l1 : Nat → List Int → List Int → Int → Int → List Int → Int → Int → Int → Int → Option (Bool)
 | 0, _, _, _, _, _, _, _, _, _ => none
 | k + 1, x0, x1, x5, x6, x15, x16, x17, x33, x34 => if x34 < x33 then (minor_town_crosses.l2 k x0 x1 x5 x6 x34 (wrap64 (x6 + 1)) x15 x16 x17 x33 x34) else (minor_town_crosses.l0 k x0 x1 x5 x15 x16 (wrap64 (x17 + 1)))
def minor_town_crosses.l2 : Nat → List Int → List Int → Int → Int → Int → Int → List Int → Int → Int → Int → Int → Option (Bool)
 | 0, _, _, _, _, _, _, _, _, _, _, _ => none
 | k + 1, x0, x1, x5, x6, x8, x9, x15, x16, x17, x33, x34 => if x9 < x5 then (if 0 ≤ x8 then (if x8 < (x1.length : Int) then (if 0 ≤ (rd x1 x8) then (if (rd x1 x8) < (x0.length : Int) then (if 0 ≤ x9 then (if x9 < (x1.length : Int) then (if 0 ≤ (rd x1 x9) then (if (Go.bits .and .i64 (shr .i64 (rd x0 (rd x1 x8)) (rd x1 x9)) 1) = 1 then (some true) else (minor_town_crosses.l2 k x0 x1 x5 x6 x8 (wrap64 (x9 + 1)) x15 x16 x17 x33 x34)) else (none)) else (none)) else (none)) else (none)) else (none)) else (none)) else (none)) else (minor_town_crosses.l1 k x0 x1 x5 x6 x15 x16 x17 x33 (wrap64 (x34 + 1)))
end
def minor_town_crosses.f (k : Nat) (l0 : List Int) (l1 : List Int) : Option (Bool) := if 0 ≤ (wrap64 ((l1.length : Int) - 1)) then (if (wrap64 ((l1.length : Int) - 1)) ≤ (l1.length : Int) then (minor_town_crosses.l0 k l0 l1 (wrap64 ((l1.length : Int) - 1)) (l1.take ((wrap64 ((l1.length : Int) - 1)) : Int).toNat) ((l1.take ((wrap64 ((l1.length : Int) - 1)) : Int).toNat).length : Int) 0) else (none)) else (none)
set_option maxHeartbeats 8000000 in
set_option maxRecDepth 100000 in
theorem minor_town_crosses.calls (k : Nat) (A0 : Option Addr) (c0 : Nat) (l0 : List Int) (A1 : Option Addr) (c1 : Nat) (l1 : List Int) (r : Bool) (w : World) (hr0 : Kd.C (Kd.int .i64) w A0 l0.length l0) (hc0 : l0.length ≤ c0) (hr1 : Kd.C (Kd.int .i64) w A1 l1.length l1) (hc1 : l1.length ≤ c1) (h : minor_town_crosses.f k l0 l1 = some r) :
  Calls Tryd.prog 83 #[.slice A0 l0.length c0, .slice A1 l1.length c1] w fun e w' => e = .returned (.bool r) ∧ Drawn0 w w' := by
 have HR0 := Aside0.mk hr0
 have HC0 := Aside0.mk hc0
 clear hr0 hc0
 have HR1 := Aside0.mk hr1
 have HC1 := Aside0.mk hc1
 clear hr1 hc1
 have H : (if 0 ≤ (wrap64 ((l1.length : Int) - 1)) then (if (wrap64 ((l1.length : Int) - 1)) ≤ (l1.length : Int) then (minor_town_crosses.l0 k l0 l1 (wrap64 ((l1.length : Int) - 1)) (l1.take ((wrap64 ((l1.length : Int) - 1)) : Int).toNat) ((l1.take ((wrap64 ((l1.length : Int) - 1)) : Int).toNat).length : Int) 0) else (none)) else (none)) = some r := h
 clear h
 obtain ⟨ji3, hji3⟩ : ∃ j_ : Int, (wrap64 ((l1.length : Int) - 1)) = j_ := ⟨_, rfl⟩
 replace H : (if 0 ≤ (ji3) then (if (ji3) ≤ (l1.length : Int) then (minor_town_crosses.l0 k l0 l1 ji3 (l1.take ((ji3) : Int).toNat) ((l1.take ((ji3) : Int).toNat).length : Int) 0) else (none)) else (none)) = some r := by first | (rw [hji3] at H; exact H) | (simp only [hji3] at H ⊢; exact H)
 have hji3w : (IntKind.i64.wrap ((l1.length : Int) - 1)) = ji3 := (i64_w _).trans hji3
 by_cases c4 : 0 ≤ (ji3)
 ·rw [if_pos c4] at H
  have c4b0 := eq_true c4
  have c4b1 : decide (0 ≤ (ji3)) = true := decide_eq_true c4
  clear c4
  by_cases c5 : (ji3) ≤ (l1.length : Int)
  ·rw [if_pos c5] at H
   have c5b0 := eq_true c5
   have c5b1 : decide ((ji3) ≤ (l1.length : Int)) = true := decide_eq_true c5
   clear c5
   have H' := Aside0.mk H
   clear H
   obtain ⟨i06, hi06, _, hsz6, _⟩ := info_parts info3
   obtain ⟨hcut6, hA6, hC6⟩ := print_take_of (P := Tryd.prog) (Value.int .i64) 0 22 3 .i64 Tryd.underlying22 hi06 hsz6 A1 c1 l1 (ji3) (of_decide_eq_true (by first | (with_reducible assumption) | assumption)) (of_decide_eq_true (by first | (with_reducible assumption) | assumption)) HC1.out
   have HR521 := Aside0.mk (Kd.C_of_reads (h1 := fun _ => rfl) (hA6 _ (Kd.reads_of_C HR1.out)))
   have HC521 := Aside0.mk hC6
   clear hA6 hC6 hi06 hsz6
   generalize l1.take ((ji3) : Int).toNat = yc6 at *
   go_enter Tryd.func83, Tryd.ntmps83
   go_wp2
   repeat (go_quiet (fail); try go_wp2)
   go_loopg [17] k (fun kq v17 w' => ∃ (x17_1 : Int), v17 = .int .i64 x17_1 ∧ Aside0 (minor_town_crosses.l0 kq l0 l1 ji3 yc6 (yc6.length : Int) x17_1 = some r) ∧ Aside0 (kq ≤ k) ∧ Drawn0 w w')
   case atStart => exact ⟨(0), (by first | rfl | (simp; done) | (simp [*]; done)), H', ⟨Nat.le_refl _⟩, by repeat (first | exact Drawn0.refl _ | apply Drawn0.step)⟩
   case round =>
    clear H'
    try clear c1
    try clear p2
    try clear c4
    try clear c4b0
    try clear c4b1
    try clear c5
    try clear c5b0
    try clear c5b1
    try clear p6
    obtain ⟨x17_1, rfl, HA, HK1, ⟨m1, rfl⟩⟩ := hrel
    cases gk with
    | zero => exact absurd HA.out (by simp [minor_town_crosses.l0])
    | succ k1 =>
     have H := HA.out
     clear HA
     simp only [minor_town_crosses.l0] at H
     by_cases c7 : x17_1 < (yc6.length : Int)
     ·rw [if_pos c7] at H
      have c7b0 : decide (x17_1 < (yc6.length : Int)) = true := decide_eq_true c7
      clear c7
      by_cases c8 : 0 ≤ x17_1
      ·rw [if_pos c8] at H
       have c8b0 : decide (0 ≤ x17_1) = true := decide_eq_true c8
       clear c8
       by_cases c9 : x17_1 < (yc6.length : Int)
       ·rw [if_pos c9] at H
        have c9b0 : decide (x17_1 < (yc6.length : Int)) = true := decide_eq_true c9
        clear c9
        by_cases c10 : 0 ≤ (rd yc6 x17_1)
        ·rw [if_pos c10] at H
         have c10b0 : decide (0 ≤ (rd yc6 x17_1)) = true := decide_eq_true c10
         clear c10
         by_cases c11 : (rd yc6 x17_1) < (l0.length : Int)
         ·rw [if_pos c11] at H
          have c11b0 : decide ((rd yc6 x17_1) < (l0.length : Int)) = true := decide_eq_true c11
          clear c11
          by_cases c12 : 0 ≤ ji3
          ·rw [if_pos c12] at H
           have c12b0 : decide (0 ≤ ji3) = true := decide_eq_true c12
           clear c12
           by_cases c13 : ji3 < (l1.length : Int)
           ·rw [if_pos c13] at H
            have c13b0 : decide (ji3 < (l1.length : Int)) = true := decide_eq_true c13
            clear c13
            by_cases c14 : 0 ≤ (rd l1 ji3)
            ·rw [if_pos c14] at H
             have c14b0 := eq_true c14
             have c14b1 : decide (0 ≤ (rd l1 ji3)) = true := decide_eq_true c14
             clear c14
             obtain ⟨ji15, hji15⟩ : ∃ j_ : Int, (shr .i64 (rd l0 (rd yc6 x17_1)) (rd l1 ji3)) = j_ := ⟨_, rfl⟩
             replace H : (if (Go.bits .and .i64 (ji15) 1) = 0 then (minor_town_crosses.l0 k1 l0 l1 ji3 yc6 (yc6.length : Int) (wrap64 (x17_1 + 1))) else (minor_town_crosses.l1 k1 l0 l1 ji3 x17_1 yc6 (yc6.length : Int) x17_1 x17_1 0)) = some r := by first | (rw [hji15] at H; exact H) | (simp only [hji15] at H ⊢; exact H)
             have hji15_ : ((rd l0 (rd yc6 x17_1)) / 2 ^ min (rd l1 ji3).toNat 64) = ji15 := hji15
             have hji15z : (rd l1 ji3) ≤ 64 → ((rd l0 (rd yc6 x17_1)) / 2 ^ (rd l1 ji3).toNat) = ji15 := shr_small hji15
             by_cases c16 : (Go.bits .and .i64 (ji15) 1) = 0
             ·rw [if_pos c16] at H
              have c16b0 : ((Go.bits .and .i64 (ji15) 1) == 0) = true := beq_iff_eq.mpr c16
              have c16b1 : ((Go.bits .and .i64 (ji15) 1) != 0) = false := bne_eq_false_iff_eq.mpr c16
              clear c16
              have H' := Aside0.mk H
              clear H
              have p522 : 0 ≤ (x17_1 : Int) := of_decide_eq_true (by first | (with_reducible assumption) | assumption)
              have q522 : x17_1 < (yc6.length : Int) := of_decide_eq_true (by first | (with_reducible assumption) | assumption)
              obtain ⟨ad522, e522, hx522_0⟩ := Kd.at_int HR521.out x17_1 p522 q522
              cases e522
              replace p522 := eq_true p522
              replace q522 := eq_true q522
              have p523 : 0 ≤ ((rd yc6 x17_1) : Int) := of_decide_eq_true (by first | (with_reducible assumption) | assumption)
              have q523 : (rd yc6 x17_1) < (l0.length : Int) := of_decide_eq_true (by first | (with_reducible assumption) | assumption)
              obtain ⟨ad523, e523, hx523_0⟩ := Kd.at_int HR0.out (rd yc6 x17_1) p523 q523
              cases e523
              replace p523 := eq_true p523
              replace q523 := eq_true q523
              have p524 : 0 ≤ (ji3 : Int) := of_decide_eq_true (by first | (with_reducible assumption) | assumption)
              have q524 : ji3 < (l1.length : Int) := of_decide_eq_true (by first | (with_reducible assumption) | assumption)
              obtain ⟨ad524, e524, hx524_0⟩ := Kd.at_int HR1.out ji3 p524 q524
              obtain rfl : ad522 = ad524 := (by injection e524)
              replace p524 := eq_true p524
              replace q524 := eq_true q524
              go_wp2
              repeat (go_quiet (fail); try go_wp2)
              go_roundg k1
              case measure => have := HK1.out; omega
              case rel => exact ⟨(wrap64 (x17_1 + 1)), (by first | rfl | (simp; done) | (simp [*]; done)), H', ⟨by have := HK1.out; omega⟩, by repeat (first | exact Drawn0.refl _ | apply Drawn0.step)⟩
             ·rw [if_neg c16] at H
              have c16b0 : ((Go.bits .and .i64 (ji15) 1) == 0) = false := beq_eq_false_iff_ne.mpr c16
              have c16b1 : ((Go.bits .and .i64 (ji15) 1) != 0) = true := bne_iff_ne.mpr c16
              have H' := Aside0.mk H
              clear H
              have p522 : 0 ≤ (x17_1 : Int) := of_decide_eq_true (by first | (with_reducible assumption) | assumption)
              have q522 : x17_1 < (yc6.length : Int) := of_decide_eq_true (by first | (with_reducible assumption) | assumption)
              obtain ⟨ad522, e522, hx522_0⟩ := Kd.at_int HR521.out x17_1 p522 q522
              cases e522
              replace p522 := eq_true p522
              replace q522 := eq_true q522
              have p523 : 0 ≤ ((rd yc6 x17_1) : Int) := of_decide_eq_true (by first | (with_reducible assumption) | assumption)
              have q523 : (rd yc6 x17_1) < (l0.length : Int) := of_decide_eq_true (by first | (with_reducible assumption) | assumption)
              obtain ⟨ad523, e523, hx523_0⟩ := Kd.at_int HR0.out (rd yc6 x17_1) p523 q523
              cases e523
              replace p523 := eq_true p523
              replace q523 := eq_true q523
              have p524 : 0 ≤ (ji3 : Int) := of_decide_eq_true (by first | (with_reducible assumption) | assumption)
              have q524 : ji3 < (l1.length : Int) := of_decide_eq_true (by first | (with_reducible assumption) | assumption)
              obtain ⟨ad524, e524, hx524_0⟩ := Kd.at_int HR1.out ji3 p524 q524
              obtain rfl : ad522 = ad524 := (by injection e524)
              replace p524 := eq_true p524
              replace q524 := eq_true q524
              go_wp2
              repeat (go_quiet (fail); try go_wp2)
              go_loopg [34] k1 (fun kq v34 w' => ∃ (x34_2 : Int), v34 = .int .i64 x34_2 ∧ Aside0 (minor_town_crosses.l1 kq l0 l1 ji3 x17_1 yc6 (yc6.length : Int) x17_1 x17_1 x34_2 = some r) ∧ Aside0 (kq ≤ k1) ∧ Drawn0 w w')
              case atStart => exact ⟨(0), (by first | rfl | (simp; done) | (simp [*]; done)), H', ⟨Nat.le_refl _⟩, by repeat (first | exact Drawn0.refl _ | apply Drawn0.step)⟩
              case round =>
               clear H'
               try clear c1
               try clear p2
               try clear c4
               try clear c4b0
               try clear c4b1
               try clear c5
               try clear c5b0
               try clear c5b1
               try clear p5
               try clear q5
               try clear hx5
               try clear p6
               try clear c7
               try clear c7b0
               try clear c8
               try clear c8b0
               try clear c9
               try clear c9b0
               try clear c10
               try clear c10b0
               try clear c11
               try clear c11b0
               try clear c12
               try clear c12b0
               try clear c13
               try clear c13b0
               try clear c14
               try clear c14b0
               try clear c14b1
               try clear c16
               try clear c16b0
               try clear c16b1
               try clear hx522_0
               try clear hx523_0
               try clear hx524_0
               try clear p2
               try clear p522
               try clear p523
               try clear p524
               try clear p6
               try clear q522
               try clear q523
               try clear q524
               obtain ⟨x34_2, rfl, HA, HK2, ⟨m2, rfl⟩⟩ := hrel
               cases gk with
               | zero => exact absurd HA.out (by simp [minor_town_crosses.l1])
               | succ k2 =>
                have H := HA.out
                clear HA
                simp only [minor_town_crosses.l1] at H
                by_cases c17 : x34_2 < x17_1
                ·rw [if_pos c17] at H
                 have c17b0 : decide (x34_2 < x17_1) = true := decide_eq_true c17
                 clear c17
                 have H' := Aside0.mk H
                 clear H
                 go_wp2
                 repeat (go_quiet (fail); try go_wp2)
                 go_loopg [9] k2 (fun kq v9 w' => ∃ (x9_3 : Int), v9 = .int .i64 x9_3 ∧ Aside0 (minor_town_crosses.l2 kq l0 l1 ji3 x17_1 x34_2 x9_3 yc6 (yc6.length : Int) x17_1 x17_1 x34_2 = some r) ∧ Aside0 (kq ≤ k2) ∧ Drawn0 w w')
                 case atStart => exact ⟨(wrap64 (x17_1 + 1)), (by first | rfl | (simp; done) | (simp [*]; done)), H', ⟨Nat.le_refl _⟩, by repeat (first | exact Drawn0.refl _ | apply Drawn0.step)⟩
                 case round =>
                  clear H'
                  try clear c1
                  try clear p2
                  try clear c4
                  try clear c4b0
                  try clear c4b1
                  try clear c5
                  try clear c5b0
                  try clear c5b1
                  try clear p5
                  try clear q5
                  try clear hx5
                  try clear p6
                  try clear c7
                  try clear c7b0
                  try clear c8
                  try clear c8b0
                  try clear c9
                  try clear c9b0
                  try clear c10
                  try clear c10b0
                  try clear c11
                  try clear c11b0
                  try clear c12
                  try clear c12b0
                  try clear c13
                  try clear c13b0
                  try clear c14
                  try clear c14b0
                  try clear c14b1
                  try clear c16
                  try clear c16b0
                  try clear c16b1
                  try clear c17
                  try clear c17b0
                  try clear hx522_0
                  try clear hx523_0
                  try clear hx524_0
                  try clear p2
                  try clear p5
                  try clear p522
                  try clear p523
                  try clear p524
                  try clear p6
                  try clear q5
                  try clear q522
                  try clear q523
                  try clear q524
                  obtain ⟨x9_3, rfl, HA, HK3, ⟨m3, rfl⟩⟩ := hrel
                  cases gk with
                  | zero => exact absurd HA.out (by simp [minor_town_crosses.l2])
                  | succ k3 =>
                   have H := HA.out
                   clear HA
                   simp only [minor_town_crosses.l2] at H
                   by_cases c18 : x9_3 < ji3
                   ·rw [if_pos c18] at H
                    have c18b0 : decide (x9_3 < ji3) = true := decide_eq_true c18
                    clear c18
                    by_cases c19 : 0 ≤ x34_2
                    ·rw [if_pos c19] at H
                     have c19b0 : decide (0 ≤ x34_2) = true := decide_eq_true c19
                     clear c19
                     by_cases c20 : x34_2 < (l1.length : Int)
                     ·rw [if_pos c20] at H
                      have c20b0 : decide (x34_2 < (l1.length : Int)) = true := decide_eq_true c20
                      clear c20
                      by_cases c21 : 0 ≤ (rd l1 x34_2)
                      ·rw [if_pos c21] at H
                       have c21b0 : decide (0 ≤ (rd l1 x34_2)) = true := decide_eq_true c21
                       clear c21
                       by_cases c22 : (rd l1 x34_2) < (l0.length : Int)
                       ·rw [if_pos c22] at H
                        have c22b0 : decide ((rd l1 x34_2) < (l0.length : Int)) = true := decide_eq_true c22
                        clear c22
                        by_cases c23 : 0 ≤ x9_3
                        ·rw [if_pos c23] at H
                         have c23b0 : decide (0 ≤ x9_3) = true := decide_eq_true c23
                         clear c23
                         by_cases c24 : x9_3 < (l1.length : Int)
                         ·rw [if_pos c24] at H
                          have c24b0 : decide (x9_3 < (l1.length : Int)) = true := decide_eq_true c24
                          clear c24
                          by_cases c25 : 0 ≤ (rd l1 x9_3)
                          ·rw [if_pos c25] at H
                           have c25b0 := eq_true c25
                           have c25b1 : decide (0 ≤ (rd l1 x9_3)) = true := decide_eq_true c25
                           clear c25
                           obtain ⟨ji26, hji26⟩ : ∃ j_ : Int, (shr .i64 (rd l0 (rd l1 x34_2)) (rd l1 x9_3)) = j_ := ⟨_, rfl⟩
                           replace H : (if (Go.bits .and .i64 (ji26) 1) = 1 then (some true) else (minor_town_crosses.l2 k3 l0 l1 ji3 x17_1 x34_2 (wrap64 (x9_3 + 1)) yc6 (yc6.length : Int) x17_1 x17_1 x34_2)) = some r := by first | (rw [hji26] at H; exact H) | (simp only [hji26] at H ⊢; exact H)
                           have hji26_ : ((rd l0 (rd l1 x34_2)) / 2 ^ min (rd l1 x9_3).toNat 64) = ji26 := hji26
                           have hji26z : (rd l1 x9_3) ≤ 64 → ((rd l0 (rd l1 x34_2)) / 2 ^ (rd l1 x9_3).toNat) = ji26 := shr_small hji26
                           by_cases c27 : (Go.bits .and .i64 (ji26) 1) = 1
                           ·rw [if_pos c27] at H
                            have c27b0 : ((Go.bits .and .i64 (ji26) 1) == 1) = true := beq_iff_eq.mpr c27
                            have c27b1 : ((Go.bits .and .i64 (ji26) 1) != 1) = false := bne_eq_false_iff_eq.mpr c27
                            clear c27
                            obtain rfl := Option.some.inj H
                            have p525 : 0 ≤ (x34_2 : Int) := of_decide_eq_true (by first | (with_reducible assumption) | assumption)
                            have q525 : x34_2 < (l1.length : Int) := of_decide_eq_true (by first | (with_reducible assumption) | assumption)
                            obtain ⟨ad525, e525, hx525_0⟩ := Kd.at_int HR1.out x34_2 p525 q525
                            obtain rfl : ad522 = ad525 := (by injection e525)
                            replace p525 := eq_true p525
                            replace q525 := eq_true q525
                            have p526 : 0 ≤ ((rd l1 x34_2) : Int) := of_decide_eq_true (by first | (with_reducible assumption) | assumption)
                            have q526 : (rd l1 x34_2) < (l0.length : Int) := of_decide_eq_true (by first | (with_reducible assumption) | assumption)
                            obtain ⟨ad526, e526, hx526_0⟩ := Kd.at_int HR0.out (rd l1 x34_2) p526 q526
                            obtain rfl : ad523 = ad526 := (by injection e526)
                            replace p526 := eq_true p526
                            replace q526 := eq_true q526
                            have p527 : 0 ≤ (x9_3 : Int) := of_decide_eq_true (by first | (with_reducible assumption) | assumption)
                            have q527 : x9_3 < (l1.length : Int) := of_decide_eq_true (by first | (with_reducible assumption) | assumption)
                            obtain ⟨ad527, e527, hx527_0⟩ := Kd.at_int HR1.out x9_3 p527 q527
                            obtain rfl : ad522 = ad527 := (by injection e527)
                            replace p527 := eq_true p527
                            replace q527 := eq_true q527
                            go_wp2
                            repeat (go_quiet (fail); try go_wp2)
                            go_ret
                            exact ⟨by first | rfl | (simp; done) | (simp only [← hji3, ← hji15, ← hji26] <;> (first | rfl | simp)) | (simp [*]; done), by repeat (first | exact Drawn0.refl _ | apply Drawn0.step)⟩
                           ·rw [if_neg c27] at H
                            have c27b0 : ((Go.bits .and .i64 (ji26) 1) == 1) = false := beq_eq_false_iff_ne.mpr c27
                            have c27b1 : ((Go.bits .and .i64 (ji26) 1) != 1) = true := bne_iff_ne.mpr c27
                            have H' := Aside0.mk H
                            clear H
                            have p525 : 0 ≤ (x34_2 : Int) := of_decide_eq_true (by first | (with_reducible assumption) | assumption)
                            have q525 : x34_2 < (l1.length : Int) := of_decide_eq_true (by first | (with_reducible assumption) | assumption)
                            obtain ⟨ad525, e525, hx525_0⟩ := Kd.at_int HR1.out x34_2 p525 q525
                            obtain rfl : ad522 = ad525 := (by injection e525)
                            replace p525 := eq_true p525
                            replace q525 := eq_true q525
                            have p526 : 0 ≤ ((rd l1 x34_2) : Int) := of_decide_eq_true (by first | (with_reducible assumption) | assumption)
                            have q526 : (rd l1 x34_2) < (l0.length : Int) := of_decide_eq_true (by first | (with_reducible assumption) | assumption)
                            obtain ⟨ad526, e526, hx526_0⟩ := Kd.at_int HR0.out (rd l1 x34_2) p526 q526
                            obtain rfl : ad523 = ad526 := (by injection e526)
                            replace p526 := eq_true p526
                            replace q526 := eq_true q526
                            have p527 : 0 ≤ (x9_3 : Int) := of_decide_eq_true (by first | (with_reducible assumption) | assumption)
                            have q527 : x9_3 < (l1.length : Int) := of_decide_eq_true (by first | (with_reducible assumption) | assumption)
                            obtain ⟨ad527, e527, hx527_0⟩ := Kd.at_int HR1.out x9_3 p527 q527
                            obtain rfl : ad522 = ad527 := (by injection e527)
                            replace p527 := eq_true p527
                            replace q527 := eq_true q527
                            go_wp2
                            repeat (go_quiet (fail); try go_wp2)
                            go_roundg k3
                            case measure => have := HK1.out; have := HK2.out; have := HK3.out; omega
                            case rel => exact ⟨(wrap64 (x9_3 + 1)), (by first | rfl | (simp; done) | (simp [*]; done)), H', ⟨by have := HK1.out; have := HK2.out; have := HK3.out; omega⟩, by repeat (first | exact Drawn0.refl _ | apply Drawn0.step)⟩
                          ·rw [if_neg c25] at H
                           exact absurd H (by simp)
                         ·rw [if_neg c24] at H
                          exact absurd H (by simp)
                        ·rw [if_neg c23] at H
                         exact absurd H (by simp)
                       ·rw [if_neg c22] at H
                        exact absurd H (by simp)
                      ·rw [if_neg c21] at H
                       exact absurd H (by simp)
                     ·rw [if_neg c20] at H
                      exact absurd H (by simp)
                    ·rw [if_neg c19] at H
                     exact absurd H (by simp)
                   ·rw [if_neg c18] at H
                    have c18b0 : decide (x9_3 < ji3) = false := decide_eq_false c18
                    clear c18
                    have H' := Aside0.mk H
                    clear H
                    go_wp2
                    repeat (go_quiet (fail); try go_wp2)
                    go_roundg k3
                    case measure => have := HK1.out; have := HK2.out; have := HK3.out; omega
                    case rel => exact ⟨(wrap64 (x34_2 + 1)), (by first | rfl | (simp; done) | (simp [*]; done)), H', ⟨by have := HK1.out; have := HK2.out; have := HK3.out; omega⟩, by repeat (first | exact Drawn0.refl _ | apply Drawn0.step)⟩
                ·rw [if_neg c17] at H
                 have c17b0 : decide (x34_2 < x17_1) = false := decide_eq_false c17
                 clear c17
                 have H' := Aside0.mk H
                 clear H
                 go_wp2
                 repeat (go_quiet (fail); try go_wp2)
                 go_roundg k2
                 case measure => have := HK1.out; have := HK2.out; omega
                 case rel => exact ⟨(wrap64 (x17_1 + 1)), (by first | rfl | (simp; done) | (simp [*]; done)), H', ⟨by have := HK1.out; have := HK2.out; omega⟩, by repeat (first | exact Drawn0.refl _ | apply Drawn0.step)⟩
            ·rw [if_neg c14] at H
             exact absurd H (by simp)
           ·rw [if_neg c13] at H
            exact absurd H (by simp)
          ·rw [if_neg c12] at H
           exact absurd H (by simp)
         ·rw [if_neg c11] at H
          exact absurd H (by simp)
        ·rw [if_neg c10] at H
         exact absurd H (by simp)
       ·rw [if_neg c9] at H
        exact absurd H (by simp)
      ·rw [if_neg c8] at H
       exact absurd H (by simp)
     ·rw [if_neg c7] at H
      have c7b0 : decide (x17_1 < (yc6.length : Int)) = false := decide_eq_false c7
      clear c7
      obtain rfl := Option.some.inj H
      go_wp2
      repeat (go_quiet (fail); try go_wp2)
      go_ret
      exact ⟨by first | rfl | (simp; done) | (simp only [← hji3] <;> (first | rfl | simp)) | (simp [*]; done), by repeat (first | exact Drawn0.refl _ | apply Drawn0.step)⟩
  ·rw [if_neg c5] at H
   exact absurd H (by simp)
 ·rw [if_neg c4] at H
  exact absurd H (by simp)
end Go.Proofs.YtjloppfdagfpmaaDoor.X
end
section
namespace Go.Proofs.YtjloppfdagfpmaaDoor.X
open Go.RowKit YtjloppfdagfpmaaDoorW.PrintWords YtjloppfdagfpmaaDoorW.PrintLast YtjloppfdagfpmaaDoorW.PrintMore
attribute [local go_sem] max2_int min2_int max_two min_two max_three min_three max_four min_four
/-! ### minor_CheckOuter: function 48 -/
def minor_CheckOuter.l0 : Nat → List Int → List Int → Int → List Int → Int → Int → Option (Bool × Int)
 | 0, _, _, _, _, _, _ => none
 | k + 1, x1, x6, x8, x18, x19, x20 => if x20 < x19 then (if 0 ≤ x20 then (if x20 < (x18.length : Int) then (if (rd x18 x20) < 0 then (some (false, 0)) else (if (rd x18 x20) ≥ (x6.length : Int) then (some (false, 0)) else (if 0 ≤ (rd x18 x20) then (if (Go.bits .and .i64 (shr .i64 x8 (rd x18 x20)) 1) = 1 then (some (false, 0)) else (if 0 ≤ (wrap64 (x20 + 1)) then (if (wrap64 (x20 + 1)) ≤ (x1.length : Int) then ((minor_town_crosses.f k x6 (x1.take ((wrap64 (x20 + 1)) : Int).toNat)).bind fun t534 => (if t534 = true then (some (false, 0)) else (minor_CheckOuter.l0 k x1 x6 (Go.bits .or .i64 x8 (shl .i64 1 (rd x18 x20))) x18 x19 (wrap64 (x20 + 1))))) else (none)) else (none))) else (none)))) else (none)) else (none)) else ((minor_town_all.f x6).bind fun t535 => (some ((x8 == t535), 0)))
def minor_CheckOuter.f (k : Nat) (l0 : List Int) (l1 : List Int) : Option (Bool × Int) := (minor_read.f k l0 8).bind fun bt528 => (if bt528.2 = true then (minor_CheckOuter.l0 k l1 bt528.1 0 l1 (l1.length : Int) 0) else (some (false, 2)))
set_option maxHeartbeats 8000000 in
set_option maxRecDepth 100000 in
theorem minor_CheckOuter.calls (k : Nat) (A0 : Option Addr) (c0 : Nat) (l0 : List Int) (A1 : Option Addr) (c1 : Nat) (l1 : List Int) (r1 : Bool) (r2 : Int) (w : World) (hr0 : Kd.C (Kd.int .i64) w A0 l0.length l0) (hc0 : l0.length ≤ c0) (hr1 : Kd.C (Kd.int .i64) w A1 l1.length l1) (hc1 : l1.length ≤ c1) (h : minor_CheckOuter.f k l0 l1 = some (r1, r2)) :
  Calls Tryd.prog 48 #[.slice A0 l0.length c0, .slice A1 l1.length c1] w fun e w' => e = .returned (.tuple #[.bool r1, .int .i64 r2]) ∧ Below w.heap.size w w' := by
 have HR0 := Aside0.mk hr0
 have HC0 := Aside0.mk hc0
 clear hr0 hc0
 have HR1 := Aside0.mk hr1
 have HC1 := Aside0.mk hc1
 clear hr1 hc1
 have HB := Aside0.mk (Below.refl w.heap.size w)
 have H : ((minor_read.f k l0 8).bind fun bt528 => (if bt528.2 = true then (minor_CheckOuter.l0 k l1 bt528.1 0 l1 (l1.length : Int) 0) else (some (false, 2)))) = some (r1, r2) := h
 clear h
 replace H := Option.bind_eq_some_iff.mp H
 obtain ⟨⟨t528, t531⟩, A30, H⟩ := H
 replace H : (if t531 = true then (minor_CheckOuter.l0 k l1 t528 0 l1 (l1.length : Int) 0) else (some (false, 2))) = some (r1, r2) := H
 have A3 := Aside0.mk A30
 clear A30
 by_cases c4 : t531 = true
 ·subst c4
  have H1 : (minor_CheckOuter.l0 k l1 t528 0 l1 (l1.length : Int) 0) = some (r1, r2) := by rw [if_pos rfl] at H; exact H
  clear H
  have H := H1
  clear H1
  have H' := Aside0.mk H
  clear H
  go_enter Tryd.func48, Tryd.ntmps48
  go_wp2_with (first | ((with_reducible refine gate_callee (f := 63) rfl ?_); refine goesL_ (some 13) rfl rfl Tryd.func63 (by kernel_rfl) rfl #[.slice A0 l0.length c0, .int .i64 8] rfl (Qls) ?_; (with_reducible refine (minor_read.calls k (fun k_ => k_ < w.heap.size) _ _ l0 8 t528 true _ ?side1 A3.out).mono ?_); (case side1 => exact Kd.V_mk HC0.out (Kd.F_below (Kd.C_F (Kd.heap_int .i64) HR0.out) (Qaw))); rintro e w5 ⟨v529, rfl, ho0, hb⟩; refine ⟨_, rfl, ?_⟩; have n0_ := Aside0.mk (Kd.V_lower (Kd.V_mono (ok' := fun k_ => True) ho0 (fun k_ hk_ => trivial)) (below_size (Qaw))); have n1_ := Aside0.mk (below_step (Qaw) hb); clear HB; have HO530 := n0_; have HB := n1_; clear n0_ n1_; (try clear hb); (try clear hb2); (try clear hk); (try clear hi); (try clear ho0)))
  go_loopg [8, 20] k (fun kq v8 v20 w' => ∃ (x8_1 : Int) (x20_1 : Int), v8 = .int .i64 x8_1 ∧ v20 = .int .i64 x20_1 ∧ Aside0 (minor_CheckOuter.l0 kq l1 t528 x8_1 l1 (l1.length : Int) x20_1 = some (r1, r2)) ∧ Aside0 (kq ≤ k) ∧ Aside0 (Kd.V (Kd.int .i64) 3 w' w.heap.size (fun _ => True) v529 t528) ∧ Aside0 (Below w.heap.size w w'))
  case atStart => exact ⟨(0), (0), (by first | rfl | (simp; done) | (simp [*]; done)), (by first | rfl | (simp; done) | (simp [*]; done)), H', ⟨Nat.le_refl _⟩, ⟨by (with_reducible repeat (first | apply Kd.V_alloc | apply Kd.V_drewN | apply Kd.V_drew)); exact HO530.out⟩, ⟨by repeat (first | (with_reducible first | exact HB.out | apply below_alloc | apply pw_below_drewN | apply below_drew1) | exact HB.out)⟩⟩
  case round =>
   clear H'
   try clear c1
   try clear p2
   try clear c4
   obtain ⟨x8_1, x20_1, rfl, rfl, HA, HK1, HO_6, HB⟩ := hrel
   cases gk with
   | zero => exact absurd HA.out (by simp [minor_CheckOuter.l0])
   | succ k1 =>
    have H := HA.out
    clear HA
    simp only [minor_CheckOuter.l0] at H
    by_cases c6 : x20_1 < (l1.length : Int)
    ·rw [if_pos c6] at H
     have c6b0 : decide (x20_1 < (l1.length : Int)) = true := decide_eq_true c6
     clear c6
     by_cases c7 : 0 ≤ x20_1
     ·rw [if_pos c7] at H
      have c7b0 : decide (0 ≤ x20_1) = true := decide_eq_true c7
      clear c7
      by_cases c8 : x20_1 < (l1.length : Int)
      ·rw [if_pos c8] at H
       have c8b0 : decide (x20_1 < (l1.length : Int)) = true := decide_eq_true c8
       clear c8
       by_cases c9 : (rd l1 x20_1) < 0
       ·rw [if_pos c9] at H
        have c9b0 : decide ((rd l1 x20_1) < 0) = true := decide_eq_true c9
        clear c9
        simp only [Option.some.injEq, Prod.mk.injEq] at H
        obtain ⟨rfl, rfl⟩ := H
        have p532 : 0 ≤ (x20_1 : Int) := of_decide_eq_true (by first | (with_reducible assumption) | assumption)
        have q532 : x20_1 < (l1.length : Int) := of_decide_eq_true (by first | (with_reducible assumption) | assumption)
        obtain ⟨ad532, e532, hx532_0⟩ := Kd.at_int HR1.out x20_1 p532 q532
        cases e532
        replace hx532_0 := (HB.out.cell (World.block_lt_of_cell? w _ hx532_0)).trans hx532_0
        replace p532 := eq_true p532
        replace q532 := eq_true q532
        go_wp2
        go_ret2
        exact ⟨by first | rfl | (simp [errW_none, errW_some] <;> rfl) | (simp [*, errW_none, errW_some] <;> rfl), by repeat (first | (with_reducible first | exact HB.out | apply below_alloc | apply pw_below_drewN | apply below_drew1) | exact HB.out)⟩
       ·rw [if_neg c9] at H
        have c9b0 : decide ((rd l1 x20_1) < 0) = false := decide_eq_false c9
        clear c9
        by_cases c10 : (rd l1 x20_1) ≥ (t528.length : Int)
        ·rw [if_pos c10] at H
         have c10b0 : decide ((t528.length : Int) ≤ (rd l1 x20_1)) = true := decide_eq_true c10
         clear c10
         simp only [Option.some.injEq, Prod.mk.injEq] at H
         obtain ⟨rfl, rfl⟩ := H
         have p532 : 0 ≤ (x20_1 : Int) := of_decide_eq_true (by first | (with_reducible assumption) | assumption)
         have q532 : x20_1 < (l1.length : Int) := of_decide_eq_true (by first | (with_reducible assumption) | assumption)
         obtain ⟨ad532, e532, hx532_0⟩ := Kd.at_int HR1.out x20_1 p532 q532
         cases e532
         replace hx532_0 := (HB.out.cell (World.block_lt_of_cell? w _ hx532_0)).trans hx532_0
         replace p532 := eq_true p532
         replace q532 := eq_true q532
         obtain ⟨Ao11, co11, eo11⟩ := Kd.V_slice HO_6.out
         subst eo11
         go_wp2
         go_ret2
         exact ⟨by first | rfl | (simp [errW_none, errW_some] <;> rfl) | (simp [*, errW_none, errW_some] <;> rfl), by repeat (first | (with_reducible first | exact HB.out | apply below_alloc | apply pw_below_drewN | apply below_drew1) | exact HB.out)⟩
        ·rw [if_neg c10] at H
         have c10b0 : decide ((t528.length : Int) ≤ (rd l1 x20_1)) = false := decide_eq_false c10
         clear c10
         by_cases c12 : 0 ≤ (rd l1 x20_1)
         ·rw [if_pos c12] at H
          have c12b0 := eq_true c12
          have c12b1 : decide (0 ≤ (rd l1 x20_1)) = true := decide_eq_true c12
          clear c12
          obtain ⟨ji13, hji13⟩ : ∃ j_ : Int, (shr .i64 x8_1 (rd l1 x20_1)) = j_ := ⟨_, rfl⟩
          replace H : (if (Go.bits .and .i64 (ji13) 1) = 1 then (some (false, 0)) else (if 0 ≤ (wrap64 (x20_1 + 1)) then (if (wrap64 (x20_1 + 1)) ≤ (l1.length : Int) then ((minor_town_crosses.f k1 t528 (l1.take ((wrap64 (x20_1 + 1)) : Int).toNat)).bind fun t534 => (if t534 = true then (some (false, 0)) else (minor_CheckOuter.l0 k1 l1 t528 (Go.bits .or .i64 x8_1 (shl .i64 1 (rd l1 x20_1))) l1 (l1.length : Int) (wrap64 (x20_1 + 1))))) else (none)) else (none))) = some (r1, r2) := by first | (rw [hji13] at H; exact H) | (simp only [hji13] at H ⊢; exact H)
          have hji13_ : (x8_1 / 2 ^ min (rd l1 x20_1).toNat 64) = ji13 := hji13
          have hji13z : (rd l1 x20_1) ≤ 64 → (x8_1 / 2 ^ (rd l1 x20_1).toNat) = ji13 := shr_small hji13
          by_cases c14 : (Go.bits .and .i64 (ji13) 1) = 1
          ·rw [if_pos c14] at H
           have c14b0 : ((Go.bits .and .i64 (ji13) 1) == 1) = true := beq_iff_eq.mpr c14
           have c14b1 : ((Go.bits .and .i64 (ji13) 1) != 1) = false := bne_eq_false_iff_eq.mpr c14
           clear c14
           simp only [Option.some.injEq, Prod.mk.injEq] at H
           obtain ⟨rfl, rfl⟩ := H
           have p532 : 0 ≤ (x20_1 : Int) := of_decide_eq_true (by first | (with_reducible assumption) | assumption)
           have q532 : x20_1 < (l1.length : Int) := of_decide_eq_true (by first | (with_reducible assumption) | assumption)
           obtain ⟨ad532, e532, hx532_0⟩ := Kd.at_int HR1.out x20_1 p532 q532
           cases e532
           replace hx532_0 := (HB.out.cell (World.block_lt_of_cell? w _ hx532_0)).trans hx532_0
           replace p532 := eq_true p532
           replace q532 := eq_true q532
           obtain ⟨Ao15, co15, eo15⟩ := Kd.V_slice HO_6.out
           subst eo15
           go_wp2
           go_ret2
           exact ⟨by first | rfl | (simp [errW_none, errW_some] <;> rfl) | (simp only [← hji13]; first | rfl | (simp [errW_none, errW_some] <;> rfl)) | (simp [*, errW_none, errW_some] <;> rfl), by repeat (first | (with_reducible first | exact HB.out | apply below_alloc | apply pw_below_drewN | apply below_drew1) | exact HB.out)⟩
          ·rw [if_neg c14] at H
           have c14b0 : ((Go.bits .and .i64 (ji13) 1) == 1) = false := beq_eq_false_iff_ne.mpr c14
           have c14b1 : ((Go.bits .and .i64 (ji13) 1) != 1) = true := bne_iff_ne.mpr c14
           obtain ⟨ji16, hji16⟩ : ∃ j_ : Int, (wrap64 (x20_1 + 1)) = j_ := ⟨_, rfl⟩
           replace H : (if 0 ≤ (ji16) then (if (ji16) ≤ (l1.length : Int) then ((minor_town_crosses.f k1 t528 (l1.take ((ji16) : Int).toNat)).bind fun t534 => (if t534 = true then (some (false, 0)) else (minor_CheckOuter.l0 k1 l1 t528 (Go.bits .or .i64 x8_1 (shl .i64 1 (rd l1 x20_1))) l1 (l1.length : Int) ji16))) else (none)) else (none)) = some (r1, r2) := by first | (rw [hji16] at H; exact H) | (simp only [hji16] at H ⊢; exact H)
           have hji16w : (IntKind.i64.wrap (x20_1 + 1)) = ji16 := (i64_w _).trans hji16
           by_cases c17 : 0 ≤ (ji16)
           ·rw [if_pos c17] at H
            have c17b0 := eq_true c17
            have c17b1 : decide (0 ≤ (ji16)) = true := decide_eq_true c17
            clear c17
            by_cases c18 : (ji16) ≤ (l1.length : Int)
            ·rw [if_pos c18] at H
             have c18b0 := eq_true c18
             have c18b1 : decide ((ji16) ≤ (l1.length : Int)) = true := decide_eq_true c18
             clear c18
             replace H := Option.bind_eq_some_iff.mp H
             obtain ⟨t534, A190, H⟩ := H
             replace H : (if t534 = true then (some (false, 0)) else (minor_CheckOuter.l0 k1 l1 t528 (Go.bits .or .i64 x8_1 (shl .i64 1 (rd l1 x20_1))) l1 (l1.length : Int) ji16)) = some (r1, r2) := H
             have A19 := Aside0.mk A190
             clear A190
             by_cases c20 : t534 = true
             ·subst c20
              have H1 : (some (false, 0)) = some (r1, r2) := by rw [if_pos rfl] at H; exact H
              clear H
              have H := H1
              clear H1
              simp only [Option.some.injEq, Prod.mk.injEq] at H
              obtain ⟨rfl, rfl⟩ := H
              have p532 : 0 ≤ (x20_1 : Int) := of_decide_eq_true (by first | (with_reducible assumption) | assumption)
              have q532 : x20_1 < (l1.length : Int) := of_decide_eq_true (by first | (with_reducible assumption) | assumption)
              obtain ⟨ad532, e532, hx532_0⟩ := Kd.at_int HR1.out x20_1 p532 q532
              cases e532
              replace hx532_0 := (HB.out.cell (World.block_lt_of_cell? w _ hx532_0)).trans hx532_0
              replace p532 := eq_true p532
              replace q532 := eq_true q532
              obtain ⟨Ao21, co21, eo21⟩ := Kd.V_slice HO_6.out
              subst eo21
              obtain ⟨i022, hi022, _, hsz22, _⟩ := info_parts info3
              obtain ⟨hcut22, hA22, hC22⟩ := print_take_of (P := Tryd.prog) (Value.int .i64) 0 22 3 .i64 Tryd.underlying22 hi022 hsz22 (some ad532) c1 l1 (ji16) (of_decide_eq_true (by first | (with_reducible assumption) | assumption)) (of_decide_eq_true (by first | (with_reducible assumption) | assumption)) HC1.out
              have HR533 := Aside0.mk (Kd.C_of_reads (h1 := fun _ => rfl) (hA22 _ (Kd.reads_of_C HR1.out)))
              have HC533 := Aside0.mk hC22
              clear hA22 hC22 hi022 hsz22
              generalize l1.take ((ji16) : Int).toNat = yc22 at *
              go_wp2_with (first | (go_at_call 83; (with_reducible refine (minor_town_crosses.calls k1 _ _ t528 _ _ yc22 true _ ?side1 ?side2 ?side3 ?side4 A19.out).mono ?_); (case side1 => exact Qsc (Kd.V_reads' HO_6.out).2.2); (case side2 => exact (Kd.V_reads' HO_6.out).2.1); (case side3 => exact Qsc (Kd.C_below HR533.out HB.out)); (case side4 => exact HC533.out); rintro e w' ⟨rfl, ⟨nd, rfl⟩⟩))
              go_ret2
              exact ⟨by first | rfl | (simp [errW_none, errW_some] <;> rfl) | (simp only [← hji13, ← hji16]; first | rfl | (simp [errW_none, errW_some] <;> rfl)) | (simp [*, errW_none, errW_some] <;> rfl), by repeat (first | (with_reducible first | exact HB.out | apply below_alloc | apply pw_below_drewN | apply below_drew1) | exact HB.out)⟩
             ·replace c20 := Bool.eq_false_iff.mpr c20
              subst c20
              have H1 : (minor_CheckOuter.l0 k1 l1 t528 (Go.bits .or .i64 x8_1 (shl .i64 1 (rd l1 x20_1))) l1 (l1.length : Int) ji16) = some (r1, r2) := by rw [if_neg (show ¬ (false = true) by decide)] at H; exact H
              clear H
              have H := H1
              clear H1
              have c23b0 := eq_true (of_decide_eq_true (by first | (with_reducible assumption) | assumption) : 0 ≤ (rd l1 x20_1))
              obtain ⟨ji24, hji24⟩ : ∃ j_ : Int, (shl .i64 1 (rd l1 x20_1)) = j_ := ⟨_, rfl⟩
              replace H : (minor_CheckOuter.l0 k1 l1 t528 (Go.bits .or .i64 x8_1 (ji24)) l1 (l1.length : Int) ji16) = some (r1, r2) := by first | (rw [hji24] at H; exact H) | (simp only [hji24] at H ⊢; exact H)
              (try rw [hji24] at A19)
              have hji24_ : (IntKind.i64.wrap (1 * 2 ^ min (rd l1 x20_1).toNat 64)) = ji24 := hji24
              have hji24z : (rd l1 x20_1) ≤ 64 → (IntKind.i64.wrap (1 * 2 ^ (rd l1 x20_1).toNat)) = ji24 := shl_small hji24
              have hji24u : (IntKind.i64.wrap (2 ^ min (rd l1 x20_1).toNat 64)) = ji24 := by have h_ := hji24_; rw [Int.one_mul] at h_; exact h_
              have hji24v : (rd l1 x20_1) ≤ 64 → (IntKind.i64.wrap (2 ^ (rd l1 x20_1).toNat)) = ji24 := fun hle_ => by have h_ := hji24z hle_; rw [Int.one_mul] at h_; exact h_
              have hji24y : (wrap64 (1 * 2 ^ min (rd l1 x20_1).toNat 64)) = ji24 := (i64_w _).symm.trans hji24_
              have hji24x : (rd l1 x20_1) ≤ 64 → (wrap64 (1 * 2 ^ (rd l1 x20_1).toNat)) = ji24 := fun h_ => (i64_w _).symm.trans (hji24z h_)
              have H' := Aside0.mk H
              clear H
              have p532 : 0 ≤ (x20_1 : Int) := of_decide_eq_true (by first | (with_reducible assumption) | assumption)
              have q532 : x20_1 < (l1.length : Int) := of_decide_eq_true (by first | (with_reducible assumption) | assumption)
              obtain ⟨ad532, e532, hx532_0⟩ := Kd.at_int HR1.out x20_1 p532 q532
              cases e532
              replace hx532_0 := (HB.out.cell (World.block_lt_of_cell? w _ hx532_0)).trans hx532_0
              replace p532 := eq_true p532
              replace q532 := eq_true q532
              obtain ⟨Ao25, co25, eo25⟩ := Kd.V_slice HO_6.out
              subst eo25
              obtain ⟨i026, hi026, _, hsz26, _⟩ := info_parts info3
              obtain ⟨hcut26, hA26, hC26⟩ := print_take_of (P := Tryd.prog) (Value.int .i64) 0 22 3 .i64 Tryd.underlying22 hi026 hsz26 (some ad532) c1 l1 (ji16) (of_decide_eq_true (by first | (with_reducible assumption) | assumption)) (of_decide_eq_true (by first | (with_reducible assumption) | assumption)) HC1.out
              have HR533 := Aside0.mk (Kd.C_of_reads (h1 := fun _ => rfl) (hA26 _ (Kd.reads_of_C HR1.out)))
              have HC533 := Aside0.mk hC26
              clear hA26 hC26 hi026 hsz26
              generalize l1.take ((ji16) : Int).toNat = yc26 at *
              go_wp2_with (first | (go_at_call 83; (with_reducible refine (minor_town_crosses.calls k1 _ _ t528 _ _ yc26 false _ ?side1 ?side2 ?side3 ?side4 A19.out).mono ?_); (case side1 => exact Qsc (Kd.V_reads' HO_6.out).2.2); (case side2 => exact (Kd.V_reads' HO_6.out).2.1); (case side3 => exact Qsc (Kd.C_below HR533.out HB.out)); (case side4 => exact HC533.out); rintro e w' ⟨rfl, ⟨nd, rfl⟩⟩))
              go_roundg k1
              case measure => have := HK1.out; omega
              case rel => exact ⟨(Go.bits .or .i64 x8_1 (ji24)), (ji16), (by first | rfl | (simp; done) | (simp only [← hji24] <;> (first | rfl | simp)) | (simp [*]; done)), (by first | rfl | (simp; done) | (simp only [← hji16] <;> (first | rfl | simp)) | (simp [*]; done)), H', ⟨by have := HK1.out; omega⟩, ⟨by (with_reducible repeat (first | apply Kd.V_alloc | apply Kd.V_drewN | apply Kd.V_drew)); exact HO_6.out⟩, ⟨by repeat (first | (with_reducible first | exact HB.out | apply below_alloc | apply pw_below_drewN | apply below_drew1) | exact HB.out)⟩⟩
            ·rw [if_neg c18] at H
             exact absurd H (by simp)
           ·rw [if_neg c17] at H
            exact absurd H (by simp)
         ·rw [if_neg c12] at H
          exact absurd H (by simp)
      ·rw [if_neg c8] at H
       exact absurd H (by simp)
     ·rw [if_neg c7] at H
      exact absurd H (by simp)
    ·rw [if_neg c6] at H
     have c6b0 : decide (x20_1 < (l1.length : Int)) = false := decide_eq_false c6
     clear c6
     replace H := Option.bind_eq_some_iff.mp H
     obtain ⟨t535, A270, H⟩ := H
     replace H : (some ((x8_1 == t535), 0)) = some (r1, r2) := H
     have A27 := Aside0.mk A270
     clear A270
     simp only [Option.some.injEq, Prod.mk.injEq] at H
     obtain ⟨rfl, rfl⟩ := H
     obtain ⟨Ao28, co28, eo28⟩ := Kd.V_slice HO_6.out
     subst eo28
     go_wp2_with (first | ((with_reducible refine gate_callee (f := 66) rfl ?_); refine goesL_ (some 55) rfl rfl Tryd.func66 (by kernel_rfl) rfl #[.slice Ao28 t528.length co28] rfl (Qls) ?_; (with_reducible refine (minor_town_all.calls _ _ t528 t535 _ ?side1 ?side2 A27.out).mono ?_); (case side1 => exact Qsc (Kd.V_reads' HO_6.out).2.2); (case side2 => exact (Kd.V_reads' HO_6.out).2.1); rintro e w' ⟨rfl, ⟨nd, rfl⟩⟩; refine ⟨_, rfl, ?_⟩))
     go_ret2
     exact ⟨by first | rfl | (simp [errW_none, errW_some] <;> rfl) | (simp [*, errW_none, errW_some] <;> rfl), by repeat (first | (with_reducible first | exact HB.out | apply below_alloc | apply pw_below_drewN | apply below_drew1) | exact HB.out)⟩
 ·replace c4 := Bool.eq_false_iff.mpr c4
  subst c4
  have H1 : (some (false, 2)) = some (r1, r2) := by rw [if_neg (show ¬ (false = true) by decide)] at H; exact H
  clear H
  have H := H1
  clear H1
  simp only [Option.some.injEq, Prod.mk.injEq] at H
  obtain ⟨rfl, rfl⟩ := H
  go_enter Tryd.func48, Tryd.ntmps48
  go_wp2_with (first | ((with_reducible refine gate_callee (f := 63) rfl ?_); refine goesL_ (some 13) rfl rfl Tryd.func63 (by kernel_rfl) rfl #[.slice A0 l0.length c0, .int .i64 8] rfl (Qls) ?_; (with_reducible refine (minor_read.calls k (fun k_ => k_ < w.heap.size) _ _ l0 8 t528 false _ ?side1 A3.out).mono ?_); (case side1 => exact Kd.V_mk HC0.out (Kd.F_below (Kd.C_F (Kd.heap_int .i64) HR0.out) (Qaw))); rintro e w29 ⟨v529, rfl, ho0, hb⟩; refine ⟨_, rfl, ?_⟩; have n0_ := Aside0.mk (Kd.V_lower (Kd.V_mono (ok' := fun k_ => True) ho0 (fun k_ hk_ => trivial)) (below_size (Qaw))); have n1_ := Aside0.mk (below_step (Qaw) hb); clear HB; have HO530 := n0_; have HB := n1_; clear n0_ n1_; (try clear hb); (try clear hb2); (try clear hk); (try clear hi); (try clear ho0)))
  go_ret2
  exact ⟨by first | rfl | (simp [errW_none, errW_some] <;> rfl) | (simp [*, errW_none, errW_some] <;> rfl), by repeat (first | (with_reducible first | exact HB.out | apply below_alloc | apply pw_below_drewN | apply below_drew1) | exact HB.out)⟩
end Go.Proofs.YtjloppfdagfpmaaDoor.X
end
section
namespace Go.Proofs.YtjloppfdagfpmaaDoor.X
open Go.RowKit YtjloppfdagfpmaaDoorW.PrintWords YtjloppfdagfpmaaDoorW.PrintLast YtjloppfdagfpmaaDoorW.PrintMore
attribute [local go_sem] max2_int min2_int max_two min_two max_three min_three max_four min_four
/-! ### lampblackref02_IsOrder: function 85 -/
def lampblackref02_IsOrder.l0 : Nat → List Int → Int → Int → List Int → Int → Int → Option (Bool)
 | 0, _, _, _, _, _, _ => none
 | k + 1, x0, x1, x5, x8, x9, x10 => if x10 < x9 then (if 0 ≤ x10 then (if x10 < (x8.length : Int) then (if (rd x8 x10) < 0 then (some false) else (if (rd x8 x10) ≥ x1 then (some false) else (if 0 ≤ (rd x8 x10) then (if (Go.bits .and .i64 (shr .i64 x5 (rd x8 x10)) 1) = 1 then (some false) else (lampblackref02_IsOrder.l0 k x0 x1 (Go.bits .or .i64 x5 (shl .i64 1 (rd x8 x10))) x8 x9 (wrap64 (x10 + 1)))) else (none)))) else (none)) else (none)) else (some ((x0.length : Int) == x1))
end Go.Proofs.YtjloppfdagfpmaaDoor.X
end
section
namespace Go.Proofs.YtjloppfdagfpmaaDoor.X
open Go.RowKit YtjloppfdagfpmaaDoorW.PrintWords YtjloppfdagfpmaaDoorW.PrintLast YtjloppfdagfpmaaDoorW.PrintMore
attribute [local go_sem] max2_int min2_int max_two min_two max_three min_three max_four min_four
/-! ### lampblackref07_IsOuter: function 50 -/
mutual
def lampblackref07_IsOuter.l0 : Nat → List Int → List Int → Int → Int → Option (Bool)
 | 0, _, _, _, _ => none
 | k + 1, x0, x1, x15, x16 => if x16 < x15 then (lampblackref07_IsOuter.l1 k x0 x1 x16 x15 x16 x16 0) else (some true)
def lampblackref07_IsOuter.l1 : Nat → List Int → List Int → Int → Int → Int → Int → Int → Option (Bool)
 | 0, _, _, _, _, _, _, _ => none
 | k + 1, x0, x1, x5, x15, x16, x19, x20 => if x20 < x19 then (lampblackref07_IsOuter.l2 k x0 x1 x5 x20 x15 x16 x19 x20 x20 0) else (lampblackref07_IsOuter.l0 k x0 x1 x15 (wrap64 (x16 + 1)))
def lampblackref07_IsOuter.l2 : Nat → List Int → List Int → Int → Int → Int → Int → Int → Int → Int → Int → Option (Bool)
 | 0, _, _, _, _, _, _, _, _, _, _ => none
 | k + 1, x0, x1, x5, x6, x15, x16, x19, x20, x23, x24 => if x24 < x23 then (lampblackref07_IsOuter.l3 k x0 x1 x5 x6 x24 x15 x16 x19 x20 x23 x24 x24 0) else (lampblackref07_IsOuter.l1 k x0 x1 x5 x15 x16 x19 (wrap64 (x20 + 1)))
def lampblackref07_IsOuter.l3 : Nat → List Int → List Int → Int → Int → Int → Int → Int → Int → Int → Int → Int → Int → Int → Option (Bool)
 | 0, _, _, _, _, _, _, _, _, _, _, _, _, _ => none
 | k + 1, x0, x1, x5, x6, x7, x15, x16, x19, x20, x23, x24, x27, x28 => if x28 < x27 then (if 0 ≤ x28 then (if x28 < (x1.length : Int) then (if 0 ≤ (rd x1 x28) then (if (rd x1 x28) < (x0.length : Int) then (if 0 ≤ x6 then (if x6 < (x1.length : Int) then (if 0 ≤ (rd x1 x6) then (if (Go.bits .and .i64 (shr .i64 (rd x0 (rd x1 x28)) (rd x1 x6)) 1) = 1 then (if 0 ≤ x7 then (if x7 < (x1.length : Int) then (if 0 ≤ (rd x1 x7) then (if (rd x1 x7) < (x0.length : Int) then (if 0 ≤ x5 then (if x5 < (x1.length : Int) then (if 0 ≤ (rd x1 x5) then (if (Go.bits .and .i64 (shr .i64 (rd x0 (rd x1 x7)) (rd x1 x5)) 1) = 1 then (some false) else (lampblackref07_IsOuter.l3 k x0 x1 x5 x6 x7 x15 x16 x19 x20 x23 x24 x27 (wrap64 (x28 + 1)))) else (none)) else (none)) else (none)) else (none)) else (none)) else (none)) else (none)) else (lampblackref07_IsOuter.l3 k x0 x1 x5 x6 x7 x15 x16 x19 x20 x23 x24 x27 (wrap64 (x28 + 1)))) else (none)) else (none)) else (none)) else (none)) else (none)) else (none)) else (none)) else (lampblackref07_IsOuter.l2 k x0 x1 x5 x6 x15 x16 x19 x20 x23 (wrap64 (x24 + 1)))
end
end Go.Proofs.YtjloppfdagfpmaaDoor.X
end
section
/- (minor) Outer orders: crosses, CheckOuter's rounds, the reference's IsOuter. -/
namespace Go.Proofs.YtjloppfdagfpmaaDoor.X
open Go.RowKit YtjloppfdagfpmaaDoorW.PrintWords YtjloppfdagfpmaaDoorW.PrintLast YtjloppfdagfpmaaDoorW.PrintMore YtjloppfdagfpmaaDoor.T
def cr (G l : List Nat) (i j : Nat) : Bool := (G.getD (l.getD i 0) 0).testBit (l.getD j 0)
def CrossAt (G l : List Nat) (m : Nat) : Prop := ∃ i j k, i < j ∧ j < k ∧ k < m ∧ cr G l i k = true ∧ cr G l j m = true
def crossB (G l : List Nat) : Bool := (List.range (l.length - 1)).any fun k => (List.range k).any fun j => (List.range j).any fun i => cr G l i k && cr G l j (l.length - 1)
theorem crossB_iff (G l : List Nat) : crossB G l = true ↔ CrossAt G l (l.length - 1) := by
 unfold crossB
 simp only [List.any_eq_true, List.mem_range, Bool.and_eq_true]
 exact ⟨fun ⟨k, h1, j, h2, i, h3, h4, h5⟩ => ⟨i, j, k, h3, h2, h1, h4, h5⟩, fun ⟨i, j, k, h3, h2, h1, h4, h5⟩ => ⟨k, h1, j, h2, i, h3, h4, h5⟩⟩
theorem getD_in {l : List Nat} {n i : Nat} (h : ∀ x ∈ l, x < n) (hi : i < l.length) : l.getD i 0 < n := by
 rw [List.getD_eq_getElem?_getD, List.getElem?_eq_getElem hi]
 exact h _ (List.getElem_mem hi)
theorem cr_int {G l : List Nat} (hn : G.length ≤ 9) (hG : ∀ x ∈ G, x < 512) (hl : ∀ x ∈ l, x < G.length) {i j : Nat} (hi : i < l.length) (hj : j < l.length) :
  (Go.bits .and .i64 (shr .i64 (rd (gi G) (rd (gi l) (i : Int))) (rd (gi l) (j : Int))) 1 = 1 ↔ cr G l i j = true) ∧ (Go.bits .and .i64 (shr .i64 (rd (gi G) (rd (gi l) (i : Int))) (rd (gi l) (j : Int))) 1 = 0 ↔ cr G l i j = false) := by
 have h1 := getD_in hl hi
 have h2 := getD_in hl hj
 have h3 := getD_in hG h1
 rw [rd_gi l i, rd_gi l j, rd_gi G]
 exact ⟨bit_one _ _ (by omega) (by omega), bit_zero _ _ (by omega) (by omega)⟩
theorem rd_in {G l : List Nat} (hl : ∀ x ∈ l, x < G.length) {i : Nat} (hi : i < l.length) : 0 ≤ rd (gi l) (i : Int) ∧ rd (gi l) (i : Int) < ((gi G).length : Int) := by
 have h1 := getD_in hl hi
 rw [rd_gi, gi_length]
 omega
section
variable {G l : List Nat} (hn : G.length ≤ 9) (hG : ∀ x ∈ G, x < 512) (hl : ∀ x ∈ l, x < G.length) (hll : l.length ≤ 1000)
include hn hG hl hll
theorem cross_l2 (m : Nat) (hm : m < l.length) (i j : Nat) (hij : i < j) (hjm : j < m) (l15 : List Int) (x16 x17 x33 : Int) (X : Bool)
  (hyes : (∃ k, j < k ∧ k < m ∧ cr G l i k = true) → X = true)
  (hno : (∀ k, j < k → k < m → cr G l i k = false) → Ev (fun n => minor_town_crosses.l1 n (gi G) (gi l) (m : Int) (j : Int) l15 x16 x17 x33 ((i + 1 : Nat) : Int)) X) :
  ∀ d k, k + d = m → j < k → (∀ k', j < k' → k' < k → cr G l i k' = false) → Ev (fun n => minor_town_crosses.l2 n (gi G) (gi l) (m : Int) (j : Int) (i : Int) (k : Int) l15 x16 x17 x33 (i : Int)) X := by
 intro d
 induction d with
 | zero =>
  intro k hk hjk hbe
  refine Ev.step (fun n => by rw [minor_town_crosses.l2, if_neg (by omega), wrap_succ i (by omega)]) (hno fun k' h1 h2 => hbe k' h1 (by omega))
 | succ d ih =>
  intro k hk hjk hbe
  have hi1 := rd_in hl (show i < l.length by omega)
  have hk1 := rd_in hl (show k < l.length by omega)
  have hb := cr_int hn hG hl (show i < l.length by omega) (show k < l.length by omega)
  have hgl := gi_length l
  by_cases h : cr G l i k = true
  ·rw [hyes ⟨k, hjk, by omega, h⟩]
   refine Ev.step (f := fun _ => some true) (fun n => ?_) (Ev.some rfl)
   rw [minor_town_crosses.l2, if_pos (by omega), if_pos (by omega), if_pos (by omega), if_pos hi1.1, if_pos hi1.2, if_pos (by omega), if_pos (by omega), if_pos hk1.1, if_pos (hb.1.2 h)]
  ·refine Ev.step (fun n => ?_) (ih (k + 1) (by omega) (by omega) fun k' h1 h2 => ?_)
   ·rw [minor_town_crosses.l2, if_pos (by omega), if_pos (by omega), if_pos (by omega), if_pos hi1.1, if_pos hi1.2, if_pos (by omega), if_pos (by omega), if_pos hk1.1, if_neg (fun e => h (hb.1.1 e)), wrap_succ k (by omega)]
   ·by_cases e : k' = k
    ·subst e; simpa using h
    ·exact hbe k' h1 (by omega)
theorem cross_l1 (m : Nat) (hm : m < l.length) (j : Nat) (hjm : j < m) (l15 : List Int) (x16 : Int) (X : Bool)
  (hyes : (∃ i k, i < j ∧ j < k ∧ k < m ∧ cr G l i k = true) → X = true)
  (hno : (∀ i k, i < j → j < k → k < m → cr G l i k = false) → Ev (fun n => minor_town_crosses.l0 n (gi G) (gi l) (m : Int) l15 x16 ((j + 1 : Nat) : Int)) X) :
  ∀ d i, i + d = j → (∀ i' k', i' < i → j < k' → k' < m → cr G l i' k' = false) → Ev (fun n => minor_town_crosses.l1 n (gi G) (gi l) (m : Int) (j : Int) l15 x16 (j : Int) (j : Int) (i : Int)) X := by
 intro d
 induction d with
 | zero =>
  intro i hi hbe
  refine Ev.step (fun n => by rw [minor_town_crosses.l1, if_neg (by omega), wrap_succ j (by omega)]) (hno fun i' k' h1 h2 h3 => hbe i' k' (by omega) h2 h3)
 | succ d ih =>
  intro i hi hbe
  refine Ev.step (fun n => by rw [minor_town_crosses.l1, if_pos (by omega), wrap_succ j (by omega)]) ?_
  refine cross_l2 hn hG hl hll m hm i j (by omega) hjm l15 x16 _ _ X (fun ⟨k, h1, h2, h3⟩ => hyes ⟨i, k, by omega, h1, h2, h3⟩) (fun hf => ih (i + 1) (by omega) fun i' k' h1 h2 h3 => ?_) (m - (j + 1)) (j + 1) (by omega) (by omega) (fun k' h1 h2 => by omega)
  by_cases e : i' = i
  ·subst e; exact hf k' h2 h3
  ·exact hbe i' k' (by omega) h2 h3
theorem cross_l0 (m : Nat) (hm : m + 1 = l.length) : ∀ d j, j + d = m → (∀ i' j' k', i' < j' → j' < j → j' < k' → k' < m → cr G l i' k' = true → cr G l j' m = false) →
  Ev (fun n => minor_town_crosses.l0 n (gi G) (gi l) (m : Int) ((gi l).take m) (m : Int) (j : Int)) (crossB G l) := by
 intro d
 have hm1 : l.length - 1 = m := by omega
 induction d with
 | zero =>
  intro j hj hbe
  have : crossB G l = false := by
   cases hc : crossB G l
   ·rfl
   ·obtain ⟨i, j', k, h1, h2, h3, h4, h5⟩ := (crossB_iff G l).1 hc
    rw [hm1] at h3 h5
    rw [hbe i j' k h1 (by omega) h2 h3 h4] at h5
    cases h5
  rw [this]
  exact Ev.step (f := fun _ => some false) (fun n => by rw [minor_town_crosses.l0, if_neg (by omega)]) (Ev.some rfl)
 | succ d ih =>
  intro j hj hbe
  have htl : ((gi l).take m).length = m := by rw [List.length_take, gi_length]; omega
  have htk : rd ((gi l).take m) (j : Int) = rd (gi l) (j : Int) := by
   unfold rd
   rw [Int.toNat_natCast, List.getD_eq_getElem?_getD, List.getD_eq_getElem?_getD, List.getElem?_take_of_lt (by omega)]
  have hj1 := rd_in hl (show j < l.length by omega)
  have hm2 := rd_in hl (show m < l.length by omega)
  have hb := cr_int hn hG hl (show j < l.length by omega) (show m < l.length by omega)
  have hgl := gi_length l
  by_cases h : cr G l j m = true
  ·refine Ev.step (fun n => ?_) (cross_l1 hn hG hl hll m (by omega) j (by omega) ((gi l).take m) (m : Int) (crossB G l) (fun ⟨i, k, h1, h2, h3, h4⟩ => (crossB_iff G l).2 (by rw [hm1]; exact ⟨i, j, k, h1, h2, h3, h4, h⟩)) (fun hf => ih (j + 1) (by omega) fun i' j' k' h1 h2 h3 h4 h5 => ?_) j 0 (by omega) (fun _ _ h => by omega))
   ·rw [minor_town_crosses.l0, htl, htk, if_pos (by omega), if_pos (by omega), if_pos (by omega), if_pos hj1.1, if_pos hj1.2, if_pos (by omega), if_pos (by omega), if_pos hm2.1, if_neg (fun e => by have := hb.2.1 e; rw [h] at this; cases this)]
    rfl
   ·by_cases e : j' = j
    ·subst e
     rw [hf i' k' h1 h3 h4] at h5
     cases h5
    ·exact hbe i' j' k' h1 (by omega) h3 h4 h5
  ·refine Ev.step (fun n => ?_) (ih (j + 1) (by omega) fun i' j' k' h1 h2 h3 h4 h5 => ?_)
   ·rw [minor_town_crosses.l0, htl, htk, if_pos (by omega), if_pos (by omega), if_pos (by omega), if_pos hj1.1, if_pos hj1.2, if_pos (by omega), if_pos (by omega), if_pos hm2.1, if_pos (hb.2.2 (by simpa using h)), wrap_succ j (by omega)]
   ·by_cases e : j' = j
    ·subst e; simpa using h
    ·exact hbe i' j' k' h1 (by omega) h3 h4 h5
theorem crosses_ev (h0 : 0 < l.length) : Ev (fun n => minor_town_crosses.f n (gi G) (gi l)) (crossB G l) := by
 have e : wrap64 (((gi l).length : Int) - 1) = ((l.length - 1 : Nat) : Int) := by
  rw [gi_length, w64_small _ (by omega) (by omega)]; omega
 have := cross_l0 hn hG hl hll (l.length - 1) (by omega) (l.length - 1) 0 (by omega) (fun _ _ _ _ h => by omega)
 unfold minor_town_crosses.f
 rw [e, Int.toNat_natCast, gi_length]
 refine Ev.if_pos (by omega) (Ev.if_pos (by omega) ?_)
 rw [List.length_take, gi_length, Nat.min_eq_left (by omega)]
 exact this
end
def outN (G : List Nat) : Nat → List Nat → Nat → Option (List Nat)
 | 0, M, _ => some M
 | d + 1, M, left => (els left 9).findSome? fun v => if crossB G (M ++ [v]) = true then none else outN G d (M ++ [v]) (diff left (2 ^ v))
end Go.Proofs.YtjloppfdagfpmaaDoor.X
end
section
/- (minor.town).outer and its closure, by hand. -/
namespace Go.Proofs.YtjloppfdagfpmaaDoor.X
open Go.RowKit YtjloppfdagfpmaaDoorW.PrintWords YtjloppfdagfpmaaDoorW.PrintLast YtjloppfdagfpmaaDoorW.PrintMore YtjloppfdagfpmaaDoor.T
attribute [local go_sem] max2_int min2_int max_two min_two max_three min_three max_four min_four
theorem goesC_ {P : Program} {ops : Array Oper} {Q : Exit → Act → World → Prop} {oi : Oper} {N : Option Tmp} {a : Act} {w : World} {K : Act → World → Prop} {f : FuncId} {fn : Func} {as_ : Array Operand} {ts : Array TypeId} (hf : P.funcs[f]? = some fn) (hname : (fn.name == "runtime.NumGoroutine") = false) (hb : fn.body.isSome = true) (args caps all : Array Value) (s : Operand)
  (hw : Region.wanted oi (yielded ops a.tmps) = true) (hN : oi.dst = N) (hop : oi.op = .call { callee := .value s, args := as_, argTypes := ts }) (hs : a.eval s = .func (.func f) #[] caps) (hargs : as_.map a.eval = args) (hall : args ++ caps = all)
  (h : Calls P f all w fun e w' => ∃ v, e = .returned v ∧ K (a.put N v) w') : if Region.wanted oi (yielded ops a.tmps) = true then Oper.wp P oi a w K Q else K (a.put N undef) w := by
 subst hall
 refine call_ f (args ++ caps) hw hN ?_ h
 have he := enters_ hf hname hb (args ++ caps) w
 unfold execOp
 simp [hop, resolve, Deferred.ofValue, invoke, hs, hargs, he]
structure Keep2 (a b : World) (l r : Option Nat) : Prop where
 os : b.os = a.os
 tape : b.tape = a.tape
 output : b.output = a.output
 size : a.heap.size ≤ b.heap.size
 block : ∀ k, k < a.heap.size → some k ≠ l → some k ≠ r → b.heap[k]? = a.heap[k]?
theorem Keep2.of_grown {a b : World} {q : Option Nat} (h : a.grownBy b q) : Keep2 a b q none := ⟨h.os, h.tape, h.output, h.size, fun k hk h1 _ => h.block k hk h1⟩
theorem Keep2.of_below {a b : World} (h : Below a.heap.size a b) (l r : Option Nat) : Keep2 a b l r := ⟨h.os, h.tape, h.output, h.size, fun k hk _ _ => h.block k hk⟩
theorem Keep2.step {a b c : World} {l r p q : Option Nat} (h : Keep2 a b l r) (k : Keep2 b c p q) (hp : ∀ j, p = some j → a.heap.size ≤ j ∨ some j = l ∨ some j = r) (hq : ∀ j, q = some j → a.heap.size ≤ j ∨ some j = l ∨ some j = r) : Keep2 a c l r :=
 ⟨k.os.trans h.os, k.tape.trans h.tape, k.output.trans h.output, Nat.le_trans h.size k.size, fun i hi h1 h2 => (k.block i (Nat.lt_of_lt_of_le hi h.size) (fun e => by rcases hp i e.symm with h3 | h3 | h3 <;> first | omega | exact h1 h3 | exact h2 h3) (fun e => by rcases hq i e.symm with h3 | h3 | h3 <;> first | omega | exact h1 h3 | exact h2 h3)).trans (h.block i hi h1 h2)⟩
def FB (s : Nat) (u v : Value) : Prop := v.ownBlock = u.ownBlock ∨ ∀ b, v.ownBlock = some b → s ≤ b
theorem FB.refl (s : Nat) (u : Value) : FB s u u := .inl rfl
theorem FB.trans {s t : Nat} {u v z : Value} (h : FB s u v) (k : FB t v z) (hst : s ≤ t) : FB s u z := by
 rcases k with k | k
 ·rcases h with h | h
  ·exact .inl (k.trans h)
  ·exact .inr fun b hb => h b (by rw [← k]; exact hb)
 ·exact .inr fun b hb => Nat.le_trans hst (k b hb)
theorem FB.row {s : Nat} {l r : Option Nat} {u v : Value} (h : FB s u v) (hr : r = u.ownBlock) : ∀ j, v.ownBlock = some j → s ≤ j ∨ some j = l ∨ some j = r := by
 intro j hj
 rcases h with h | h
 ·exact .inr (.inr (by rw [← hj, h, hr]))
 ·exact .inl (h j hj)
structure OI (W0 W : World) (lB : Nat) (M : List Nat) (v : Value) : Prop where
 blk : W.heap[lB]? = some (.cells #[v] 22 (0, 0))
 own : W.ownsRow W0.heap.size 3 1 v M.length ((gi M).map (Value.int .i64))
 grown : W0.grownBy W (some lB)
theorem OI.low {W0 W V : World} {lB : Nat} {M : List Nat} {v : Value} (h : OI W0 W lB M v) (hb : Below W.heap.size W V) : OI W0 V lB M v :=
 ⟨blk_below h.blk hb, own_kept h.own (grown_of_below hb none) (fun _ _ e => by cases e), grown_new h.grown (grown_of_below hb none) (fun _ e => by cases e)⟩
theorem OI.cell {W0 W : World} {lB : Nat} {M : List Nat} {v : Value} (h : OI W0 W lB M v) : W.cell? ⟨lB, 0, none⟩ = some v := (blk_cell h.blk 0).trans rfl
theorem OI.push {W0 W w8 : World} {lB x : Nat} {M : List Nat} {v : Value} {o : Obj} {g c : Nat} (h : OI W0 W lB M v) (hlB : lB < W0.heap.size) (hg : (W.alloc o).grownBy w8 v.ownBlock)
  (ho : w8.ownsRow W0.heap.size 3 1 (.slice (some ⟨g, 0, none⟩) (M.length + 1) c) (M.length + 1) ((gi M).map (Value.int .i64) ++ [.int .i64 (x : Int)])) :
  OI W0 (w8.setCell ⟨lB, 0, none⟩ (.slice (some ⟨g, 0, none⟩) (M.length + 1) c)) lB (M ++ [x]) (.slice (some ⟨g, 0, none⟩) (M.length + 1) c) := by
 have h1 := h.grown.size
 have hne : some lB ≠ v.ownBlock := fun e => by have := own_base2 h.own lB e.symm; omega
 have hb8 := blk_grown (blk_alloc h.blk o) hg hne
 refine ⟨?_, ?_, ?_⟩
 ·have := blk_set hb8 0 (.slice (some ⟨g, 0, none⟩) (M.length + 1) c)
  rw [this]
  rfl
 ·have e : (M ++ [x]).length = M.length + 1 := by simp
  rw [e, show (gi (M ++ [x])).map (Value.int .i64) = (gi M).map (Value.int .i64) ++ [.int .i64 (x : Int)] by simp [gi]]
  exact own_kept ho (grownBy_set w8 ⟨lB, 0, none⟩ _) (fun b hb e => by
   have := own_base2 ho b hb
   have e2 : b = lB := Option.some.inj e
   omega)
 ·refine grown_new (grown_new (grown_new h.grown (World.grownBy_alloc W o none) (fun _ e => by cases e)) hg (fun j e => .inl (own_base2 h.own j e))) (grownBy_set w8 ⟨lB, 0, none⟩ _) (fun j e => .inr e.symm)
theorem OI.pop {W0 W : World} {lB x : Nat} {M : List Nat} {g n c : Nat} (h : OI W0 W lB (M ++ [x]) (.slice (some ⟨g, 0, none⟩) n c)) (hlB : lB < W0.heap.size) (hn : n = M.length + 1) :
  OI W0 (W.setCell ⟨lB, 0, none⟩ (.slice (some ⟨g, 0, none⟩) M.length c)) lB M (.slice (some ⟨g, 0, none⟩) M.length c) := by
 subst hn
 refine ⟨?_, ?_, ?_⟩
 ·have := blk_set h.blk 0 (.slice (some ⟨g, 0, none⟩) M.length c)
  rw [this]
  rfl
 ·have h2 := h.own
  rw [show (M ++ [x]).length = M.length + 1 by simp, show (gi (M ++ [x])).map (Value.int .i64) = (gi M).map (Value.int .i64) ++ [.int .i64 (x : Int)] by simp [gi]] at h2
  have h3 := ownsRow_pop (xs := (gi M).map (Value.int .i64)) (by simp [gi]) h2
  exact own_kept h3 (grownBy_set W ⟨lB, 0, none⟩ _) (fun b hb e => by
   have := own_base2 h3 b hb
   have e2 : b = lB := Option.some.inj e
   omega)
 ·exact grown_new h.grown (grownBy_set W ⟨lB, 0, none⟩ _) (fun j e => .inr e.symm)
theorem OI.cap {W0 W : World} {lB x : Nat} {M : List Nat} {v : Value} (h : OI W0 W lB (M ++ [x]) v) : ∃ g c, v = .slice (some ⟨g, 0, none⟩) (M.length + 1) c ∧ M.length + 1 ≤ c := by
 have h2 := h.own
 rw [show (M ++ [x]).length = M.length + 1 by simp] at h2
 rcases h2.2 with ⟨_, h0⟩ | ⟨g, cap, cur, e, _, _, hc, _⟩
 ·omega
 ·exact ⟨g, cap, e, hc⟩
theorem OI.row {W0 W : World} {lB : Nat} {M : List Nat} {A : Option Addr} {c : Nat} (h : OI W0 W lB M (.slice A M.length c)) : M.length ≤ c ∧ Kd.C (Kd.int .i64) W A M.length (gi M) := by
 have hro := h.own
 have hlen : M.length = (gi M).length := (gi_length M).symm
 rw [hlen] at hro ⊢
 exact C_of_row hro
theorem diff_pcO {left v : Nat} (hv : left.testBit v = true) (hv9 : v < 9) : pc (diff left (2 ^ v)) 9 + 1 = pc left 9 := by
 rw [diff_pc (v := v) (n := 9) hv hv9]
theorem pc_none : ∀ x : Fin 512, pc x.val 9 = 0 → x.val = 0 := by decide +kernel
theorem crosses_calls {G M : List Nat} (hG : Gr 9 G) (hM : ∀ x ∈ M, x < G.length) (hM2 : M.length ≤ 1000) (h0 : 0 < M.length) (Ag : Option Addr) (cg : Nat) (hcg : G.length ≤ cg) (A : Option Addr) (c : Nat) (hc : M.length ≤ c) (w : World) (h1 : Kd.C (Kd.int .i64) w Ag (gi G).length (gi G)) (h2 : Kd.C (Kd.int .i64) w A M.length (gi M)) :
  Calls Tryd.prog 83 #[.slice Ag G.length cg, .slice A M.length c] w fun e w' => e = .returned (.bool (crossB G M)) ∧ Drawn0 w w' := by
 obtain ⟨K, hK⟩ := crosses_ev hG.most (fun x hx => by
  obtain ⟨i, hi, rfl⟩ := List.mem_iff_getElem.1 hx
  have := hG.lt i hi
  rw [List.getD_eq_getElem?_getD, List.getElem?_eq_getElem hi] at this
  exact small G hG.most this) hM hM2 h0
 have := minor_town_crosses.calls K Ag cg (gi G) A c (gi M) _ w h1 (by rw [gi_length]; exact hcg) (by rw [gi_length]; exact h2) (by rw [gi_length]; exact hc) (hK K (Nat.le_refl _))
 rw [gi_length, gi_length] at this
 exact this
set_option maxHeartbeats 16000000 in
set_option maxRecDepth 100000 in
theorem outer_grow (lB tB gB : Nat) (W0 : World) (hlB : lB < W0.heap.size) (Ag : Option Addr) (cg : Nat) (G : List Nat) (hG : Gr 9 G) (hcg : G.length ≤ cg)
  (hlow : ∀ W, W0.grownBy W (some lB) → GL W ∧ Kd.C (Kd.int .i64) W Ag (gi G).length (gi G) ∧ W.cell? ⟨tB, 0, none⟩ = some (.slice Ag G.length cg) ∧ W.cell? ⟨gB, 0, none⟩ = some (.func (.func 96) #[] #[.pointer (some ⟨lB, 0, none⟩), .pointer (some ⟨tB, 0, none⟩), .pointer (some ⟨gB, 0, none⟩)])) :
  ∀ (d : Nat) (M : List Nat) (left : Nat) (v : Value) (w : World), pc left 9 = d → left < 2 ^ G.length → (∀ x ∈ M, x < G.length) → M.length + d ≤ 100 → OI W0 w lB M v →
  Calls Tryd.prog 96 #[.int .i64 (left : Int), .pointer (some ⟨lB, 0, none⟩), .pointer (some ⟨tB, 0, none⟩), .pointer (some ⟨gB, 0, none⟩)] w fun e w' => e = .returned (.bool (outN G d M left).isSome) ∧ ∃ v', OI W0 w' lB ((outN G d M left).getD M) v' ∧ FB w.heap.size v v' ∧ Keep2 w w' (some lB) v.ownBlock := by
 intro d
 induction d with
 | zero =>
  intro M left v w hd hl hM hML hI
  have h0 : left = 0 := by
   exact pc_none ⟨left, small G hG.most hl⟩ hd
  subst h0
  have HI := Aside0.mk hI
  have HLOW := Aside0.mk hlow
  clear hI hlow hM
  go_enter Tryd.func96, Tryd.ntmps96
  go_wp2
  go_ret
  exact ⟨rfl, _, HI.out, FB.refl _ _, Keep2.of_below (Below.refl _ _) _ _⟩
 | succ d ih =>
  intro M left v w hd hl hM hML hI
  have hlne : left ≠ 0 := by
   rintro rfl
   rw [show pc 0 9 = 0 from rfl] at hd
   omega
  have hl512 := small G hG.most hl
  have hel : (els left 9).length ≤ 9 := by rw [els_length]; exact pc_le _ 9
  have hk0 : ((left : Int) == 0) = false := beq_eq_false_iff_ne.2 (by omega)
  have IH := Aside0.mk ih
  have HI := Aside0.mk hI
  have HLOW := Aside0.mk hlow
  have HM := Aside0.mk hM
  have HG := Aside0.mk hG
  have HL := Aside0.mk hl
  obtain ⟨R, hR⟩ : ∃ R, outN G (d + 1) M left = R := ⟨_, rfl⟩
  obtain ⟨F, hF⟩ : ∃ F : Nat → Option (List Nat), F = fun x => if crossB G (M ++ [x]) = true then none else outN G d (M ++ [x]) (diff left (2 ^ x)) := ⟨_, rfl⟩
  have hRF : ((els left 9).drop 0).findSome? F = R := by rw [← hR, hF]; rfl
  have HFE : Aside0 (∀ x, F x = if crossB G (M ++ [x]) = true then none else outN G d (M ++ [x]) (diff left (2 ^ x))) := ⟨fun x => by rw [hF]⟩
  have HRF := Aside0.mk hRF
  have HND : Aside0 (∀ W, Below w.heap.size w W → Calls Tryd.prog 69 #[.int .i64 (left : Int)] W fun e w' => ∃ A c, e = .returned (.slice A (els left 9).length c) ∧ (∀ V, Keep2 w' V (some lB) v.ownBlock → Kd.C (Kd.int .i64) V A (els left 9).length (gi (els left 9))) ∧ Below W.heap.size W w') := ⟨fun W hW => by
   obtain ⟨K, hK⟩ := nodes_ev left hl512
   refine (minor_nodes.calls K (left : Int) _ W (HLOW.out W (HI.out.low hW).grown).1 (hK K (Nat.le_refl _))).mono ?_
   rintro e w' ⟨u, rfl, hu, hb⟩
   obtain ⟨A, c, eu, hc, hC⟩ := Kd.R_reads hu
   subst eu
   rw [gi_length] at hu
   refine ⟨A, c, by rw [gi_length], fun V hV => ?_, hb⟩
   have hs := HI.out.grown.size
   have hs2 := hW.size
   have h3 := Kd.R_step (w1 := V) (Kd.R_bound hu) (fun k hk hk2 => hV.block k hk2 (fun e => by have := hk.2.1; have e2 := Option.some.inj e; omega) (fun e => by have := own_lt2 HI.out.own k e.symm; have := hk.2.1; omega))
   obtain ⟨A2, c2, e2, _, hC2⟩ := Kd.R_reads h3
   injection e2 with e3 e4 e5
   rw [gi_length] at hC2
   rw [e3]; exact hC2⟩
  rw [hR]
  clear hI hlow hM hG hl hF hRF hR ih hlne
  go_enter Tryd.func96, Tryd.ntmps96
  go_wp2_with (go_at_call 69; refine (HND.out _ (by repeat (first | exact Below.refl _ _ | refine pw_below_drewN ?_ _))).mono ?_; rintro e w1 ⟨An, cn, rfl, hCn, hb1⟩; have HCN := Aside0.mk hCn; have HB1 := Aside0.mk hb1; clear hCn hb1)
  go_loopg [13] (els left 9).length (fun kq v13 w' => ∃ (i : Nat) (v1 : Value), v13 = .int .i64 (i : Int) ∧ i + kq = (els left 9).length ∧ Aside0 (((els left 9).drop i).findSome? F = R) ∧ Aside0 (OI W0 w' lB M v1 ∧ FB w1.heap.size v v1 ∧ Keep2 w1 w' (some lB) v.ownBlock))
  case atStart => exact ⟨0, v, rfl, by omega, HRF, ⟨HI.out.low HB1.out, FB.refl _ _, Keep2.of_below (Below.refl _ _) _ _⟩⟩
  case round =>
   clear HRF
   obtain ⟨i, v1, rfl, hi, HA, HX⟩ := hrel
   by_cases hil : i < (els left 9).length
   ·have hi1 : ((i : Int) < ((els left 9).length : Int)) = True := eq_true (by omega)
    have hi2 : decide ((i : Int) < ((els left 9).length : Int)) = true := decide_eq_true (by omega)
    cases gk with
    | zero => omega
    | succ gi' =>
    obtain ⟨hX1, hX2, hX3⟩ := HX.out
    obtain ⟨ad, e1, hgx⟩ := Kd.at_int (HCN.out wr hX3) (i : Int) (by omega) (by omega)
    subst e1
    rw [rd_gi, Int.toNat_natCast] at hgx
    have ha := HA.out
    rw [List.drop_eq_getElem_cons hil, List.findSome?_cons] at ha
    have hxm : (els left 9)[i] ∈ els left 9 := List.getElem_mem hil
    have hxe : (els left 9).getD i 0 = (els left 9)[i] := by rw [List.getD_eq_getElem?_getD, List.getElem?_eq_getElem hil]; rfl
    rw [hxe] at hgx
    generalize (els left 9)[i] = x at *
    obtain ⟨hx9, hxb⟩ := mem_els.1 hxm
    have hxG : x < G.length := bit_lt HL.out hxb
    have HFX := Aside0.mk (HFE.out x)
    obtain ⟨A4, c4, e4⟩ := ownsRow_form2 hX1.own
    subst e4
    have hy0 : wr.cell? ⟨lB, 0, none⟩ = some (.slice A4 M.length c4) := hX1.cell
    have hgr := hX1.grown.size
    obtain ⟨N, ⟨hS1, hS2, hS3⟩, hNv⟩ := shJ x (by omega)
    have hdl : diff left (2 ^ x) < 2 ^ G.length := Nat.lt_of_le_of_lt (diff_le _ _) HL.out
    have hand : Go.bits .andNot .i64 (left : Int) N = ((diff left (2 ^ x) : Nat) : Int) := by
     rw [hNv, b_andNot _ _ (by omega) (Nat.pow_lt_pow_right (by omega) (by omega))]
    have hpc := diff_pcO hxb hx9
    have hMx : ∀ y ∈ M ++ [x], y < G.length := fun y hy => by
     rcases List.mem_append.1 hy with hy | hy
     ·exact HM.out y hy
     ·rw [List.mem_singleton.1 hy]; exact hxG
    have hMl : (M ++ [x]).length = M.length + 1 := by simp
    have HCR : Aside0 (∀ W A c, OI W0 W lB (M ++ [x]) (.slice A (M.length + 1) c) → Calls Tryd.prog 83 #[.slice Ag G.length cg, .slice A (M.length + 1) c] W fun e w' => e = .returned (.bool (crossB G (M ++ [x]))) ∧ Drawn0 W w') := ⟨fun W A c hW => by
     obtain ⟨q1, q2, q3, q4⟩ := HLOW.out W hW.grown
     rw [← hMl] at hW ⊢
     exact crosses_calls HG.out hMx (by omega) (by omega) Ag cg hcg A c hW.row.1 W q2 hW.row.2⟩
    have HREC : Aside0 (∀ W u, OI W0 W lB (M ++ [x]) u → Calls Tryd.prog 96 #[.int .i64 ((diff left (2 ^ x) : Nat) : Int), .pointer (some ⟨lB, 0, none⟩), .pointer (some ⟨tB, 0, none⟩), .pointer (some ⟨gB, 0, none⟩)] W fun e w' => e = .returned (.bool (outN G d (M ++ [x]) (diff left (2 ^ x))).isSome) ∧ ∃ v', OI W0 w' lB ((outN G d (M ++ [x]) (diff left (2 ^ x))).getD (M ++ [x])) v' ∧ FB W.heap.size u v' ∧ Keep2 W w' (some lB) u.ownBlock) := ⟨fun W u hW => IH.out (M ++ [x]) (diff left (2 ^ x)) u W (by omega) hdl hMx (by omega) hW⟩
    have HAH := Aside0.mk ha
    have HX1 := Aside0.mk hX1
    have HX2 := Aside0.mk hX2
    have HX3 := Aside0.mk hX3
    generalize diff left (2 ^ x) = left' at *
    clear ha hxm hxe HA HX hX1 hX2 hX3 hpc hdl hNv hxG hxb hMx
    obtain ⟨i3, hi3, hq0, hq1, hq2⟩ := info_parts info3
    cases hcb : crossB G (M ++ [x])
    ·rw [hcb] at HCR
     have HFY := Aside0.mk (show F x = outN G d (M ++ [x]) left' by rw [HFX.out, hcb, if_neg (by simp)])
     clear hcb HFX IH HG HM HFE HL
     cases hrec : outN G d (M ++ [x]) left' with
     | none =>
      rw [hrec] at HREC HFY
      have HA2 : Aside0 (((els left 9).drop (i + 1)).findSome? F = R) := ⟨by
       have := HAH.out
       rw [HFY.out] at this
       exact this⟩
      clear HFY HAH hrec
      go_wp2_with (at_builtin; refine wpList_append_own_at _ rfl _ _ 22 rfl W0.heap.size 3 i3 (.int .i64 0) 1 8 Tryd.underlying22 hi3 hq0 hq1 hq2 rfl (by decide) (.slice A4 M.length c4) M.length ((gi M).map (Value.int .i64)) rfl (HX1.out.own.alloc _) ⟨wr.heap.size, 0, none⟩ 1 1 [.int .i64 (x : Int)] rfl rfl (cell_one_new _ _ _) (by simp [Value.oneCell']) (by unfold maxLen; omega) (by omega) (by have := HX1.out.grown.size; simp; omega) ?_; intro v8 w8 hown8 hg8 _ hfb8; obtain ⟨g8, cap8, rfl⟩ := own_succ hown8; have hne8 : some lB ≠ (Value.slice A4 M.length c4).ownBlock := (fun e => by have := own_base2 HX1.out.own lB e.symm; omega); have hb8 := blk_grown (blk_alloc HX1.out.blk _) hg8 hne8; have hc8 : w8.cell? ⟨lB, 0, none⟩ = some (.slice A4 M.length c4) := (blk_cell hb8 0).trans rfl; have hf8 := blk_frozen hb8 0; have HX8 := Aside0.mk (HX1.out.push hlB hg8 hown8); have HG8 := Aside0.mk hg8; have HFB8 := Aside0.mk hfb8; clear hb8 hown8 hg8 hfb8)
      obtain ⟨wS, hwS⟩ : ∃ W : World, W = w8.setCell ⟨lB, 0, none⟩ (.slice (some ⟨g8, 0, none⟩) (M.length + 1) cap8) := ⟨_, rfl⟩
      rw [← hwS] at HX8
      rw [← hwS]
      have HK8 : Aside0 (Keep2 wr wS (some lB) (Value.slice A4 M.length c4).ownBlock) := ⟨((Keep2.of_below (below_alloc (Below.refl _ wr) _) (some lB) (Value.slice A4 M.length c4).ownBlock).step (Keep2.of_grown HG8.out) (fun j e => .inr (.inr e.symm)) (fun j e => by cases e)).step (by rw [hwS]; exact Keep2.of_grown (grownBy_set _ _ _)) (fun j e => .inr (.inl e.symm)) (fun j e => by cases e)⟩
      have HF8 : Aside0 (FB wr.heap.size (.slice A4 M.length c4) (.slice (some ⟨g8, 0, none⟩) (M.length + 1) cap8)) := ⟨by
       rcases HFB8.out with h | h
       ·exact .inl h
       ·exact .inr fun b' hb' => by
         have hb' := h.symm.trans hb'
         have := Option.some.inj hb'
         simp at this
         omega⟩
      obtain ⟨q1, q2, q3, q4⟩ := HLOW.out wS HX8.out.grown
      have q5 := HX8.out.cell
      have t0d : wS.drew.cell? ⟨tB, 0, none⟩ = some (.slice Ag G.length cg) := q3
      have l0d : wS.drew.cell? ⟨lB, 0, none⟩ = some (.slice (some ⟨g8, 0, none⟩) (M.length + 1) cap8) := q5
      have g0d : wS.drew.cell? ⟨gB, 0, none⟩ = some (.func (.func 96) #[] #[.pointer (some ⟨lB, 0, none⟩), .pointer (some ⟨tB, 0, none⟩), .pointer (some ⟨gB, 0, none⟩)]) := q4
      have bSd : Below wS.heap.size wS wS.drew := below_drew (Below.refl _ _)
      have CCR : Aside0 (∀ W, (W.cell? ⟨tB, 0, none⟩ = some (.slice Ag G.length cg) ∧ W.cell? ⟨lB, 0, none⟩ = some (.slice (some ⟨g8, 0, none⟩) (M.length + 1) cap8) ∧ W.cell? ⟨gB, 0, none⟩ = some (.func (.func 96) #[] #[.pointer (some ⟨lB, 0, none⟩), .pointer (some ⟨tB, 0, none⟩), .pointer (some ⟨gB, 0, none⟩)]) ∧ Below wS.heap.size wS W) → Calls Tryd.prog 83 #[.slice Ag G.length cg, .slice (some ⟨g8, 0, none⟩) (M.length + 1) cap8] W fun e w' => e = .returned (.bool false) ∧ w'.cell? ⟨tB, 0, none⟩ = some (.slice Ag G.length cg) ∧ w'.cell? ⟨lB, 0, none⟩ = some (.slice (some ⟨g8, 0, none⟩) (M.length + 1) cap8) ∧ w'.cell? ⟨gB, 0, none⟩ = some (.func (.func 96) #[] #[.pointer (some ⟨lB, 0, none⟩), .pointer (some ⟨tB, 0, none⟩), .pointer (some ⟨gB, 0, none⟩)]) ∧ Below wS.heap.size wS w') := ⟨by
       rintro W ⟨s0, s1, s2, s3⟩
       refine (HCR.out W _ _ (HX8.out.low s3)).mono ?_
       rintro e w' ⟨rfl, hdr⟩
       have hb := hdr.below
       exact ⟨rfl, (hb.cell (World.block_lt_of_cell? W _ s0)).trans s0, (hb.cell (World.block_lt_of_cell? W _ s1)).trans s1, (hb.cell (World.block_lt_of_cell? W _ s2)).trans s2, below_step s3 hb⟩⟩
      clear hwS hc8 hf8 HG8 HFB8 hy0 hgx q1 q2 q3 q4 q5
      refine start_ (n := 12) (S := fun w' => w'.cell? ⟨tB, 0, none⟩ = some (.slice Ag G.length cg) ∧ w'.cell? ⟨lB, 0, none⟩ = some (.slice (some ⟨g8, 0, none⟩) (M.length + 1) cap8) ∧ w'.cell? ⟨gB, 0, none⟩ = some (.func (.func 96) #[] #[.pointer (some ⟨lB, 0, none⟩), .pointer (some ⟨tB, 0, none⟩), .pointer (some ⟨gB, 0, none⟩)]) ∧ Below wS.heap.size wS w') (ds := [10]) (Qbz 12 0) (by kernel_rfl) rfl rfl ⟨t0d, l0d, g0d, bSd⟩ (fun hHeld => ?_)
      refine take_ (i := 0) (N := some 21) (v := ?_) (a' := ?_) (Qbz 12 1) rfl rfl (by kernel_rfl) (fun _ _ _ h => h) (Or.inl ⟨by rfl, ?_⟩) hHeld ?_ ?_
      rotate_left
      ·rintro w' ⟨s0, s1, s2, s3⟩
       go_simp
       with_reducible rfl
      rotate_left
      ·simp only [Act.put, Qp1, Qp2, Qp3, i64_w, i32_w]
       rfl
      refine take_ (i := 1) (N := some 22) (v := ?_) (a' := ?_) (Qbz 12 3) rfl rfl (by kernel_rfl) (fun _ _ _ h => h) (Or.inl ⟨by rfl, ?_⟩) hHeld ?_ ?_
      rotate_left
      ·rintro w' ⟨s0, s1, s2, s3⟩
       go_simp
       with_reducible rfl
      rotate_left
      ·simp only [Act.put, Qp1, Qp2, Qp3, i64_w, i32_w]
       rfl
      refine one_ (i := 2) (N := some 23) (Qbz 12 7) rfl rfl (by kernel_rfl) (by decide) (fun K hK => ?_)
      refine goes_ Tryd.func83 (by kernel_rfl) rfl #[.slice Ag G.length cg, .slice (some ⟨g8, 0, none⟩) (M.length + 1) cap8] (by rfl) rfl rfl (by simp only [List.map_toArray, List.map_cons, List.map_nil]; rfl) ?_
      with_reducible refine (CCR.out _ hHeld).mono ?_
      rintro e w9 ⟨rfl, k0, k1, k2, kB⟩
      refine ⟨_, rfl, ?_⟩
      refine hK.out _ _ ⟨k0, k1, k2, kB⟩ (fun hHeld => ?_)
      clear hK K
      refine norm_ (a' := ?_) ?_ ?_
      rotate_left
      ·show Act.put _ (some 23) _ = _
       simp only [Act.put, Qp1, Qp2, Qp3, i64_w, i32_w]
       rfl
      refine pure_ (i := 3) (N := some 24) (v := ?_) (a' := ?_) (Qbz 12 15) rfl rfl (by kernel_rfl) (fun _ _ _ h => h) (Or.inl ⟨by rfl, ?_⟩) ?_ ?_
      rotate_left
      ·intro w'
       go_simp
       with_reducible rfl
      rotate_left
      ·simp only [Act.put, Qp1, Qp2, Qp3, i64_w, i32_w]
       rfl
      refine pure_ (i := 4) (N := some 25) (v := ?_) (a' := ?_) (Qbz 12 31) rfl rfl (by kernel_rfl) (fun _ _ _ h => h) (Or.inl ⟨by rfl, ?_⟩) ?_ ?_
      rotate_left
      ·intro w'
       go_simp
       with_reducible rfl
      rotate_left
      ·simp only [Act.put, Qp1, Qp2, Qp3, i64_w, i32_w]
       rfl
      refine pure_ (i := 6) (N := some 27) (v := ?_) (a' := ?_) (Qbz 12 95) rfl rfl (by kernel_rfl) (fun _ _ _ h => h) (Or.inl ⟨by rfl, ?_⟩) ?_ ?_
      rotate_left
      ·intro w'
       go_simp
       with_reducible rfl
      rotate_left
      ·simp only [Act.put, Qp1, Qp2, Qp3, i64_w, i32_w]
       rfl
      refine pure_ (i := 7) (N := some 28) (v := ?_) (a' := ?_) (Qbz 12 223) rfl rfl (by kernel_rfl) (fun _ _ _ h => h) (Or.inl ⟨by rfl, ?_⟩) ?_ ?_
      rotate_left
      ·intro w'
       go_simp
       with_reducible rfl
      rotate_left
      ·simp only [Act.put, Qp1, Qp2, Qp3, i64_w, i32_w]
       rfl
      refine pure_ (i := 8) (N := some 29) (v := ?_) (a' := ?_) (Qbz 12 479) rfl rfl (by kernel_rfl) (fun _ _ _ h => h) (Or.inl ⟨by rfl, ?_⟩) ?_ ?_
      rotate_left
      ·intro w'
       go_simp
       with_reducible rfl
      rotate_left
      ·simp only [Act.put, Qp1, Qp2, Qp3, i64_w, i32_w]
       rfl
      refine pure_ (i := 9) (N := some 30) (v := ?_) (a' := ?_) (Qbz 12 991) rfl rfl (by kernel_rfl) (fun _ _ _ h => h) (Or.inl ⟨by rfl, ?_⟩) ?_ ?_
      rotate_left
      ·intro w'
       go_simp
       with_reducible rfl
      rotate_left
      ·simp only [Act.put, Qp1, Qp2, Qp3, i64_w, i32_w]
       rfl
      refine take_ (i := 5) (N := some 26) (v := ?_) (a' := ?_) (Qbz 12 1023) rfl rfl (by kernel_rfl) (fun _ _ _ h => h) (Or.inl ⟨by rfl, ?_⟩) hHeld ?_ ?_
      rotate_left
      ·rintro w' ⟨s0, s1, s2, s3⟩
       go_simp
       with_reducible rfl
      rotate_left
      ·simp only [Act.put, Qp1, Qp2, Qp3, i64_w, i32_w]
       rfl
      refine last_ (i := 10) (N := some 31) (Qbz 12 2047) rfl rfl (by kernel_rfl) (by decide) (fun K hK => ?_)
      refine goesC_ Tryd.func96 (by kernel_rfl) rfl #[.int .i64 (left' : Int)] #[.pointer (some ⟨lB, 0, none⟩), .pointer (some ⟨tB, 0, none⟩), .pointer (some ⟨gB, 0, none⟩)] #[.int .i64 (left' : Int), .pointer (some ⟨lB, 0, none⟩), .pointer (some ⟨tB, 0, none⟩), .pointer (some ⟨gB, 0, none⟩)] (.tmp 26) (by rfl) rfl rfl (by rfl) (by simp only [List.map_toArray, List.map_cons, List.map_nil]; rfl) rfl ?_
      with_reducible refine (HREC.out _ _ (HX8.out.low hHeld.2.2.2)).mono ?_
      rintro e w10 ⟨rfl, v10, hO10, hF10, hK10⟩
      have hbl10 := (World.block_lt_of_cell? w9 _ k1)
      have hS9 := kB.size
      obtain ⟨g10, c10, rfl, hcap10⟩ := hO10.cap
      have hl10 : w10.cell? ⟨lB, 0, none⟩ = some (.slice (some ⟨g10, 0, none⟩) (M.length + 1) c10) := hO10.cell
      have hf10 := blk_frozen hO10.blk 0
      have HO10 := Aside0.mk hO10
      have HF10 := Aside0.mk hF10
      have HK10 := Aside0.mk hK10
      have HB9 := Aside0.mk kB
      clear hO10 hF10 hK10 kB
      have hkc1 : decide ((M.length : Int) ≤ (c10 : Int)) = true := decide_eq_true (by omega)
      have hkc2 : ((M.length : Int) ≤ (c10 : Int)) = True := eq_true (by omega)
      refine ⟨_, rfl, ?_⟩
      refine hK.out _ _ ?_
      clear hK K
      refine norm_ (a' := ?_) ?_ ?_
      rotate_left
      ·show Act.put _ (some 31) _ = _
       simp only [Act.put, Qp1, Qp2, Qp3, i64_w, i32_w]
       rfl
      refine pure_ (i := 11) (N := some 32) (v := ?_) (a' := ?_) (Qbz 12 4095) rfl rfl (by kernel_rfl) (fun _ _ _ h => h) (Or.inl ⟨by rfl, ?_⟩) ?_ ?_
      rotate_left
      ·intro w'
       go_simp
       with_reducible rfl
      rotate_left
      ·simp only [Act.put, Qp1, Qp2, Qp3, i64_w, i32_w]
       rfl
      refine done_ (by kernel_rfl) ?_
      go_wp2
      go_roundg gi'
      case measure => omega
      case rel =>
       have k1 := HX3.out.step HK8.out (fun j e => .inr (.inl e.symm)) (FB.row HX2.out rfl)
       have k2 := k1.step (Keep2.of_below HB9.out none none) (fun j e => by cases e) (fun j e => by cases e)
       have f1 := HX2.out.trans HF8.out HX3.out.size
       have k3 := k2.step HK10.out (fun j e => .inr (.inl e.symm)) (f1.row rfl)
       have k4 := k3.step (Keep2.of_grown (grownBy_set w10 ⟨lB, 0, none⟩ (Value.slice (some ⟨g10, 0, none⟩) M.length c10))) (fun j e => .inr (.inl e.symm)) (fun j e => by cases e)
       have f2 := f1.trans HF10.out k2.size
       exact ⟨i + 1, _, by go_num, by omega, HA2, ⟨⟨HO10.out.pop hlB rfl, f2, k4⟩⟩⟩
     | some Rr =>
      rw [hrec] at HREC HFY
      have hr2 : R = some Rr := by
       have := HAH.out
       rw [HFY.out] at this
       exact this.symm
      subst hr2
      clear HFY HAH hrec
      go_wp2_with (at_builtin; refine wpList_append_own_at _ rfl _ _ 22 rfl W0.heap.size 3 i3 (.int .i64 0) 1 8 Tryd.underlying22 hi3 hq0 hq1 hq2 rfl (by decide) (.slice A4 M.length c4) M.length ((gi M).map (Value.int .i64)) rfl (HX1.out.own.alloc _) ⟨wr.heap.size, 0, none⟩ 1 1 [.int .i64 (x : Int)] rfl rfl (cell_one_new _ _ _) (by simp [Value.oneCell']) (by unfold maxLen; omega) (by omega) (by have := HX1.out.grown.size; simp; omega) ?_; intro v8 w8 hown8 hg8 _ hfb8; obtain ⟨g8, cap8, rfl⟩ := own_succ hown8; have hne8 : some lB ≠ (Value.slice A4 M.length c4).ownBlock := (fun e => by have := own_base2 HX1.out.own lB e.symm; omega); have hb8 := blk_grown (blk_alloc HX1.out.blk _) hg8 hne8; have hc8 : w8.cell? ⟨lB, 0, none⟩ = some (.slice A4 M.length c4) := (blk_cell hb8 0).trans rfl; have hf8 := blk_frozen hb8 0; have HX8 := Aside0.mk (HX1.out.push hlB hg8 hown8); have HG8 := Aside0.mk hg8; have HFB8 := Aside0.mk hfb8; clear hb8 hown8 hg8 hfb8)
      obtain ⟨wS, hwS⟩ : ∃ W : World, W = w8.setCell ⟨lB, 0, none⟩ (.slice (some ⟨g8, 0, none⟩) (M.length + 1) cap8) := ⟨_, rfl⟩
      rw [← hwS] at HX8
      rw [← hwS]
      have HK8 : Aside0 (Keep2 wr wS (some lB) (Value.slice A4 M.length c4).ownBlock) := ⟨((Keep2.of_below (below_alloc (Below.refl _ wr) _) (some lB) (Value.slice A4 M.length c4).ownBlock).step (Keep2.of_grown HG8.out) (fun j e => .inr (.inr e.symm)) (fun j e => by cases e)).step (by rw [hwS]; exact Keep2.of_grown (grownBy_set _ _ _)) (fun j e => .inr (.inl e.symm)) (fun j e => by cases e)⟩
      have HF8 : Aside0 (FB wr.heap.size (.slice A4 M.length c4) (.slice (some ⟨g8, 0, none⟩) (M.length + 1) cap8)) := ⟨by
       rcases HFB8.out with h | h
       ·exact .inl h
       ·exact .inr fun b' hb' => by
         have hb' := h.symm.trans hb'
         have := Option.some.inj hb'
         simp at this
         omega⟩
      obtain ⟨q1, q2, q3, q4⟩ := HLOW.out wS HX8.out.grown
      have q5 := HX8.out.cell
      have t0d : wS.drew.cell? ⟨tB, 0, none⟩ = some (.slice Ag G.length cg) := q3
      have l0d : wS.drew.cell? ⟨lB, 0, none⟩ = some (.slice (some ⟨g8, 0, none⟩) (M.length + 1) cap8) := q5
      have g0d : wS.drew.cell? ⟨gB, 0, none⟩ = some (.func (.func 96) #[] #[.pointer (some ⟨lB, 0, none⟩), .pointer (some ⟨tB, 0, none⟩), .pointer (some ⟨gB, 0, none⟩)]) := q4
      have bSd : Below wS.heap.size wS wS.drew := below_drew (Below.refl _ _)
      have CCR : Aside0 (∀ W, (W.cell? ⟨tB, 0, none⟩ = some (.slice Ag G.length cg) ∧ W.cell? ⟨lB, 0, none⟩ = some (.slice (some ⟨g8, 0, none⟩) (M.length + 1) cap8) ∧ W.cell? ⟨gB, 0, none⟩ = some (.func (.func 96) #[] #[.pointer (some ⟨lB, 0, none⟩), .pointer (some ⟨tB, 0, none⟩), .pointer (some ⟨gB, 0, none⟩)]) ∧ Below wS.heap.size wS W) → Calls Tryd.prog 83 #[.slice Ag G.length cg, .slice (some ⟨g8, 0, none⟩) (M.length + 1) cap8] W fun e w' => e = .returned (.bool false) ∧ w'.cell? ⟨tB, 0, none⟩ = some (.slice Ag G.length cg) ∧ w'.cell? ⟨lB, 0, none⟩ = some (.slice (some ⟨g8, 0, none⟩) (M.length + 1) cap8) ∧ w'.cell? ⟨gB, 0, none⟩ = some (.func (.func 96) #[] #[.pointer (some ⟨lB, 0, none⟩), .pointer (some ⟨tB, 0, none⟩), .pointer (some ⟨gB, 0, none⟩)]) ∧ Below wS.heap.size wS w') := ⟨by
       rintro W ⟨s0, s1, s2, s3⟩
       refine (HCR.out W _ _ (HX8.out.low s3)).mono ?_
       rintro e w' ⟨rfl, hdr⟩
       have hb := hdr.below
       exact ⟨rfl, (hb.cell (World.block_lt_of_cell? W _ s0)).trans s0, (hb.cell (World.block_lt_of_cell? W _ s1)).trans s1, (hb.cell (World.block_lt_of_cell? W _ s2)).trans s2, below_step s3 hb⟩⟩
      clear hwS hc8 hf8 HG8 HFB8 hy0 hgx q1 q2 q3 q4 q5
      refine start_ (n := 12) (S := fun w' => w'.cell? ⟨tB, 0, none⟩ = some (.slice Ag G.length cg) ∧ w'.cell? ⟨lB, 0, none⟩ = some (.slice (some ⟨g8, 0, none⟩) (M.length + 1) cap8) ∧ w'.cell? ⟨gB, 0, none⟩ = some (.func (.func 96) #[] #[.pointer (some ⟨lB, 0, none⟩), .pointer (some ⟨tB, 0, none⟩), .pointer (some ⟨gB, 0, none⟩)]) ∧ Below wS.heap.size wS w') (ds := [10]) (Qbz 12 0) (by kernel_rfl) rfl rfl ⟨t0d, l0d, g0d, bSd⟩ (fun hHeld => ?_)
      refine take_ (i := 0) (N := some 21) (v := ?_) (a' := ?_) (Qbz 12 1) rfl rfl (by kernel_rfl) (fun _ _ _ h => h) (Or.inl ⟨by rfl, ?_⟩) hHeld ?_ ?_
      rotate_left
      ·rintro w' ⟨s0, s1, s2, s3⟩
       go_simp
       with_reducible rfl
      rotate_left
      ·simp only [Act.put, Qp1, Qp2, Qp3, i64_w, i32_w]
       rfl
      refine take_ (i := 1) (N := some 22) (v := ?_) (a' := ?_) (Qbz 12 3) rfl rfl (by kernel_rfl) (fun _ _ _ h => h) (Or.inl ⟨by rfl, ?_⟩) hHeld ?_ ?_
      rotate_left
      ·rintro w' ⟨s0, s1, s2, s3⟩
       go_simp
       with_reducible rfl
      rotate_left
      ·simp only [Act.put, Qp1, Qp2, Qp3, i64_w, i32_w]
       rfl
      refine one_ (i := 2) (N := some 23) (Qbz 12 7) rfl rfl (by kernel_rfl) (by decide) (fun K hK => ?_)
      refine goes_ Tryd.func83 (by kernel_rfl) rfl #[.slice Ag G.length cg, .slice (some ⟨g8, 0, none⟩) (M.length + 1) cap8] (by rfl) rfl rfl (by simp only [List.map_toArray, List.map_cons, List.map_nil]; rfl) ?_
      with_reducible refine (CCR.out _ hHeld).mono ?_
      rintro e w9 ⟨rfl, k0, k1, k2, kB⟩
      refine ⟨_, rfl, ?_⟩
      refine hK.out _ _ ⟨k0, k1, k2, kB⟩ (fun hHeld => ?_)
      clear hK K
      refine norm_ (a' := ?_) ?_ ?_
      rotate_left
      ·show Act.put _ (some 23) _ = _
       simp only [Act.put, Qp1, Qp2, Qp3, i64_w, i32_w]
       rfl
      refine pure_ (i := 3) (N := some 24) (v := ?_) (a' := ?_) (Qbz 12 15) rfl rfl (by kernel_rfl) (fun _ _ _ h => h) (Or.inl ⟨by rfl, ?_⟩) ?_ ?_
      rotate_left
      ·intro w'
       go_simp
       with_reducible rfl
      rotate_left
      ·simp only [Act.put, Qp1, Qp2, Qp3, i64_w, i32_w]
       rfl
      refine pure_ (i := 4) (N := some 25) (v := ?_) (a' := ?_) (Qbz 12 31) rfl rfl (by kernel_rfl) (fun _ _ _ h => h) (Or.inl ⟨by rfl, ?_⟩) ?_ ?_
      rotate_left
      ·intro w'
       go_simp
       with_reducible rfl
      rotate_left
      ·simp only [Act.put, Qp1, Qp2, Qp3, i64_w, i32_w]
       rfl
      refine pure_ (i := 6) (N := some 27) (v := ?_) (a' := ?_) (Qbz 12 95) rfl rfl (by kernel_rfl) (fun _ _ _ h => h) (Or.inl ⟨by rfl, ?_⟩) ?_ ?_
      rotate_left
      ·intro w'
       go_simp
       with_reducible rfl
      rotate_left
      ·simp only [Act.put, Qp1, Qp2, Qp3, i64_w, i32_w]
       rfl
      refine pure_ (i := 7) (N := some 28) (v := ?_) (a' := ?_) (Qbz 12 223) rfl rfl (by kernel_rfl) (fun _ _ _ h => h) (Or.inl ⟨by rfl, ?_⟩) ?_ ?_
      rotate_left
      ·intro w'
       go_simp
       with_reducible rfl
      rotate_left
      ·simp only [Act.put, Qp1, Qp2, Qp3, i64_w, i32_w]
       rfl
      refine pure_ (i := 8) (N := some 29) (v := ?_) (a' := ?_) (Qbz 12 479) rfl rfl (by kernel_rfl) (fun _ _ _ h => h) (Or.inl ⟨by rfl, ?_⟩) ?_ ?_
      rotate_left
      ·intro w'
       go_simp
       with_reducible rfl
      rotate_left
      ·simp only [Act.put, Qp1, Qp2, Qp3, i64_w, i32_w]
       rfl
      refine pure_ (i := 9) (N := some 30) (v := ?_) (a' := ?_) (Qbz 12 991) rfl rfl (by kernel_rfl) (fun _ _ _ h => h) (Or.inl ⟨by rfl, ?_⟩) ?_ ?_
      rotate_left
      ·intro w'
       go_simp
       with_reducible rfl
      rotate_left
      ·simp only [Act.put, Qp1, Qp2, Qp3, i64_w, i32_w]
       rfl
      refine take_ (i := 5) (N := some 26) (v := ?_) (a' := ?_) (Qbz 12 1023) rfl rfl (by kernel_rfl) (fun _ _ _ h => h) (Or.inl ⟨by rfl, ?_⟩) hHeld ?_ ?_
      rotate_left
      ·rintro w' ⟨s0, s1, s2, s3⟩
       go_simp
       with_reducible rfl
      rotate_left
      ·simp only [Act.put, Qp1, Qp2, Qp3, i64_w, i32_w]
       rfl
      refine last_ (i := 10) (N := some 31) (Qbz 12 2047) rfl rfl (by kernel_rfl) (by decide) (fun K hK => ?_)
      refine goesC_ Tryd.func96 (by kernel_rfl) rfl #[.int .i64 (left' : Int)] #[.pointer (some ⟨lB, 0, none⟩), .pointer (some ⟨tB, 0, none⟩), .pointer (some ⟨gB, 0, none⟩)] #[.int .i64 (left' : Int), .pointer (some ⟨lB, 0, none⟩), .pointer (some ⟨tB, 0, none⟩), .pointer (some ⟨gB, 0, none⟩)] (.tmp 26) (by rfl) rfl rfl (by rfl) (by simp only [List.map_toArray, List.map_cons, List.map_nil]; rfl) rfl ?_
      with_reducible refine (HREC.out _ _ (HX8.out.low hHeld.2.2.2)).mono ?_
      rintro e w10 ⟨rfl, v10, hO10, hF10, hK10⟩
      have HO10 := Aside0.mk hO10
      have HF10 := Aside0.mk hF10
      have HK10 := Aside0.mk hK10
      have HB9 := Aside0.mk kB
      clear hO10 hF10 hK10 kB
      refine ⟨_, rfl, ?_⟩
      refine hK.out _ _ ?_
      clear hK K
      refine norm_ (a' := ?_) ?_ ?_
      rotate_left
      ·show Act.put _ (some 31) _ = _
       simp only [Act.put, Qp1, Qp2, Qp3, i64_w, i32_w]
       rfl
      refine pure_ (i := 11) (N := some 32) (v := ?_) (a' := ?_) (Qbz 12 4095) rfl rfl (by kernel_rfl) (fun _ _ _ h => h) (Or.inl ⟨by rfl, ?_⟩) ?_ ?_
      rotate_left
      ·intro w'
       go_simp
       with_reducible rfl
      rotate_left
      ·simp only [Act.put, Qp1, Qp2, Qp3, i64_w, i32_w]
       rfl
      refine done_ (by kernel_rfl) ?_
      go_wp2
      go_ret
      have k0 := (Keep2.of_below HB1.out (some lB) v.ownBlock).step HX3.out (fun j e => .inr (.inl e.symm)) (fun j e => .inr (.inr e.symm))
      have f0 := (FB.refl w.heap.size v).trans HX2.out HB1.out.size
      have k1 := k0.step HK8.out (fun j e => .inr (.inl e.symm)) (f0.row rfl)
      have k2 := k1.step (Keep2.of_below HB9.out none none) (fun j e => by cases e) (fun j e => by cases e)
      have f1 := f0.trans HF8.out k0.size
      have k3 := k2.step HK10.out (fun j e => .inr (.inl e.symm)) (f1.row rfl)
      have f2 := f1.trans HF10.out k2.size
      exact ⟨rfl, v10, HO10.out, f2, k3⟩
    ·rw [hcb] at HCR
     have HA2 : Aside0 (((els left 9).drop (i + 1)).findSome? F = R) := ⟨by
      have := HAH.out
      rw [HFX.out, hcb] at this
      simpa using this⟩
     clear hcb HFX HAH HREC IH HG HM HFE HL
     go_wp2_with (at_builtin; refine wpList_append_own_at _ rfl _ _ 22 rfl W0.heap.size 3 i3 (.int .i64 0) 1 8 Tryd.underlying22 hi3 hq0 hq1 hq2 rfl (by decide) (.slice A4 M.length c4) M.length ((gi M).map (Value.int .i64)) rfl (HX1.out.own.alloc _) ⟨wr.heap.size, 0, none⟩ 1 1 [.int .i64 (x : Int)] rfl rfl (cell_one_new _ _ _) (by simp [Value.oneCell']) (by unfold maxLen; omega) (by omega) (by have := HX1.out.grown.size; simp; omega) ?_; intro v8 w8 hown8 hg8 _ hfb8; obtain ⟨g8, cap8, rfl⟩ := own_succ hown8; have hne8 : some lB ≠ (Value.slice A4 M.length c4).ownBlock := (fun e => by have := own_base2 HX1.out.own lB e.symm; omega); have hb8 := blk_grown (blk_alloc HX1.out.blk _) hg8 hne8; have hc8 : w8.cell? ⟨lB, 0, none⟩ = some (.slice A4 M.length c4) := (blk_cell hb8 0).trans rfl; have hf8 := blk_frozen hb8 0; have HX8 := Aside0.mk (HX1.out.push hlB hg8 hown8); have HG8 := Aside0.mk hg8; have HFB8 := Aside0.mk hfb8; clear hb8 hown8 hg8 hfb8)
     obtain ⟨wS, hwS⟩ : ∃ W : World, W = w8.setCell ⟨lB, 0, none⟩ (.slice (some ⟨g8, 0, none⟩) (M.length + 1) cap8) := ⟨_, rfl⟩
     rw [← hwS] at HX8
     rw [← hwS]
     have HK8 : Aside0 (Keep2 wr wS (some lB) (Value.slice A4 M.length c4).ownBlock) := ⟨((Keep2.of_below (below_alloc (Below.refl _ wr) _) (some lB) (Value.slice A4 M.length c4).ownBlock).step (Keep2.of_grown HG8.out) (fun j e => .inr (.inr e.symm)) (fun j e => by cases e)).step (by rw [hwS]; exact Keep2.of_grown (grownBy_set _ _ _)) (fun j e => .inr (.inl e.symm)) (fun j e => by cases e)⟩
     have HF8 : Aside0 (FB wr.heap.size (.slice A4 M.length c4) (.slice (some ⟨g8, 0, none⟩) (M.length + 1) cap8)) := ⟨by
      rcases HFB8.out with h | h
      ·exact .inl h
      ·exact .inr fun b' hb' => by
        have hb' := h.symm.trans hb'
        have := Option.some.inj hb'
        simp at this
        omega⟩
     obtain ⟨q1, q2, q3, q4⟩ := HLOW.out wS HX8.out.grown
     have q5 := HX8.out.cell
     have t0d : wS.drew.cell? ⟨tB, 0, none⟩ = some (.slice Ag G.length cg) := q3
     have l0d : wS.drew.cell? ⟨lB, 0, none⟩ = some (.slice (some ⟨g8, 0, none⟩) (M.length + 1) cap8) := q5
     have g0d : wS.drew.cell? ⟨gB, 0, none⟩ = some (.func (.func 96) #[] #[.pointer (some ⟨lB, 0, none⟩), .pointer (some ⟨tB, 0, none⟩), .pointer (some ⟨gB, 0, none⟩)]) := q4
     have bSd : Below wS.heap.size wS wS.drew := below_drew (Below.refl _ _)
     have CCR : Aside0 (∀ W, (W.cell? ⟨tB, 0, none⟩ = some (.slice Ag G.length cg) ∧ W.cell? ⟨lB, 0, none⟩ = some (.slice (some ⟨g8, 0, none⟩) (M.length + 1) cap8) ∧ W.cell? ⟨gB, 0, none⟩ = some (.func (.func 96) #[] #[.pointer (some ⟨lB, 0, none⟩), .pointer (some ⟨tB, 0, none⟩), .pointer (some ⟨gB, 0, none⟩)]) ∧ Below wS.heap.size wS W) → Calls Tryd.prog 83 #[.slice Ag G.length cg, .slice (some ⟨g8, 0, none⟩) (M.length + 1) cap8] W fun e w' => e = .returned (.bool true) ∧ w'.cell? ⟨tB, 0, none⟩ = some (.slice Ag G.length cg) ∧ w'.cell? ⟨lB, 0, none⟩ = some (.slice (some ⟨g8, 0, none⟩) (M.length + 1) cap8) ∧ w'.cell? ⟨gB, 0, none⟩ = some (.func (.func 96) #[] #[.pointer (some ⟨lB, 0, none⟩), .pointer (some ⟨tB, 0, none⟩), .pointer (some ⟨gB, 0, none⟩)]) ∧ Below wS.heap.size wS w') := ⟨by
      rintro W ⟨s0, s1, s2, s3⟩
      refine (HCR.out W _ _ (HX8.out.low s3)).mono ?_
      rintro e w' ⟨rfl, hdr⟩
      have hb := hdr.below
      exact ⟨rfl, (hb.cell (World.block_lt_of_cell? W _ s0)).trans s0, (hb.cell (World.block_lt_of_cell? W _ s1)).trans s1, (hb.cell (World.block_lt_of_cell? W _ s2)).trans s2, below_step s3 hb⟩⟩
     clear hwS hc8 hf8 HG8 HFB8 hy0 hgx q1 q2 q3 q4 q5
     refine start_ (n := 12) (S := fun w' => w'.cell? ⟨tB, 0, none⟩ = some (.slice Ag G.length cg) ∧ w'.cell? ⟨lB, 0, none⟩ = some (.slice (some ⟨g8, 0, none⟩) (M.length + 1) cap8) ∧ w'.cell? ⟨gB, 0, none⟩ = some (.func (.func 96) #[] #[.pointer (some ⟨lB, 0, none⟩), .pointer (some ⟨tB, 0, none⟩), .pointer (some ⟨gB, 0, none⟩)]) ∧ Below wS.heap.size wS w') (ds := []) (Qbz 12 0) (by kernel_rfl) rfl rfl ⟨t0d, l0d, g0d, bSd⟩ (fun hHeld => ?_)
     refine take_ (i := 0) (N := some 21) (v := ?_) (a' := ?_) (Qbz 12 1) rfl rfl (by kernel_rfl) (fun _ _ _ h => h) (Or.inl ⟨by rfl, ?_⟩) hHeld ?_ ?_
     rotate_left
     ·rintro w' ⟨s0, s1, s2, s3⟩
      go_simp
      with_reducible rfl
     rotate_left
     ·simp only [Act.put, Qp1, Qp2, Qp3, i64_w, i32_w]
      rfl
     refine take_ (i := 1) (N := some 22) (v := ?_) (a' := ?_) (Qbz 12 3) rfl rfl (by kernel_rfl) (fun _ _ _ h => h) (Or.inl ⟨by rfl, ?_⟩) hHeld ?_ ?_
     rotate_left
     ·rintro w' ⟨s0, s1, s2, s3⟩
      go_simp
      with_reducible rfl
     rotate_left
     ·simp only [Act.put, Qp1, Qp2, Qp3, i64_w, i32_w]
      rfl
     refine one_ (i := 2) (N := some 23) (Qbz 12 7) rfl rfl (by kernel_rfl) (by decide) (fun K hK => ?_)
     refine goes_ Tryd.func83 (by kernel_rfl) rfl #[.slice Ag G.length cg, .slice (some ⟨g8, 0, none⟩) (M.length + 1) cap8] (by rfl) rfl rfl (by simp only [List.map_toArray, List.map_cons, List.map_nil]; rfl) ?_
     with_reducible refine (CCR.out _ hHeld).mono ?_
     rintro e w9 ⟨rfl, k0, k1, k2, kB⟩
     refine ⟨_, rfl, ?_⟩
     refine hK.out _ _ ⟨k0, k1, k2, kB⟩ (fun hHeld => ?_)
     clear hK K
     refine norm_ (a' := ?_) ?_ ?_
     rotate_left
     ·show Act.put _ (some 23) _ = _
      simp only [Act.put, Qp1, Qp2, Qp3, i64_w, i32_w]
      rfl
     refine pure_ (i := 3) (N := some 24) (v := ?_) (a' := ?_) (Qbz 12 15) rfl rfl (by kernel_rfl) (fun _ _ _ h => h) (Or.inl ⟨by rfl, ?_⟩) ?_ ?_
     rotate_left
     ·intro w'
      go_simp
      with_reducible rfl
     rotate_left
     ·simp only [Act.put, Qp1, Qp2, Qp3, i64_w, i32_w]
      rfl
     refine pure_ (i := 4) (N := some 25) (v := ?_) (a' := ?_) (Qbz 12 31) rfl rfl (by kernel_rfl) (fun _ _ _ h => h) (Or.inl ⟨by rfl, ?_⟩) ?_ ?_
     rotate_left
     ·intro w'
      go_simp
      with_reducible rfl
     rotate_left
     ·simp only [Act.put, Qp1, Qp2, Qp3, i64_w, i32_w]
      rfl
     refine pure_ (i := 5) (N := some 26) (v := undef) (a' := ?_) (Qbz 12 63) rfl rfl (by kernel_rfl) (fun _ _ _ h => h) (Or.inr ⟨by rfl, rfl⟩) ?_ ?_
     rotate_left
     ·simp only [Act.put, Qp1, Qp2, Qp3, i64_w, i32_w]
      rfl
     refine pure_ (i := 6) (N := some 27) (v := undef) (a' := ?_) (Qbz 12 127) rfl rfl (by kernel_rfl) (fun _ _ _ h => h) (Or.inr ⟨by rfl, rfl⟩) ?_ ?_
     rotate_left
     ·simp only [Act.put, Qp1, Qp2, Qp3, i64_w, i32_w]
      rfl
     refine pure_ (i := 7) (N := some 28) (v := undef) (a' := ?_) (Qbz 12 255) rfl rfl (by kernel_rfl) (fun _ _ _ h => h) (Or.inr ⟨by rfl, rfl⟩) ?_ ?_
     rotate_left
     ·simp only [Act.put, Qp1, Qp2, Qp3, i64_w, i32_w]
      rfl
     refine pure_ (i := 8) (N := some 29) (v := undef) (a' := ?_) (Qbz 12 511) rfl rfl (by kernel_rfl) (fun _ _ _ h => h) (Or.inr ⟨by rfl, rfl⟩) ?_ ?_
     rotate_left
     ·simp only [Act.put, Qp1, Qp2, Qp3, i64_w, i32_w]
      rfl
     refine pure_ (i := 9) (N := some 30) (v := undef) (a' := ?_) (Qbz 12 1023) rfl rfl (by kernel_rfl) (fun _ _ _ h => h) (Or.inr ⟨by rfl, rfl⟩) ?_ ?_
     rotate_left
     ·simp only [Act.put, Qp1, Qp2, Qp3, i64_w, i32_w]
      rfl
     refine pure_ (i := 10) (N := some 31) (v := undef) (a' := ?_) (Qbz 12 2047) rfl rfl (by kernel_rfl) (fun _ _ _ h => h) (Or.inr ⟨by rfl, rfl⟩) ?_ ?_
     rotate_left
     ·simp only [Act.put, Qp1, Qp2, Qp3, i64_w, i32_w]
      rfl
     refine pure_ (i := 11) (N := some 32) (v := ?_) (a' := ?_) (Qbz 12 4095) rfl rfl (by kernel_rfl) (fun _ _ _ h => h) (Or.inl ⟨by rfl, ?_⟩) ?_ ?_
     rotate_left
     ·intro w'
      go_simp
      with_reducible rfl
     rotate_left
     ·simp only [Act.put, Qp1, Qp2, Qp3, i64_w, i32_w]
      rfl
     refine done_ (by kernel_rfl) ?_
     obtain ⟨s0, s1, s2, s3⟩ := hHeld
     have HB9 := Aside0.mk s3
     have hO9 := HX8.out.low s3
     obtain ⟨g10, c10, e10, hcap10⟩ := hO9.cap
     injection e10 with e11 e12 e13
     obtain rfl : g8 = g10 := by injection e11 with e11; injection e11
     subst e13
     have hl10 := s1
     have hf10 := blk_frozen hO9.blk 0
     have HO9 := Aside0.mk hO9
     have hkc1 : decide ((M.length : Int) ≤ (cap8 : Int)) = true := decide_eq_true (by omega)
     have hkc2 : ((M.length : Int) ≤ (cap8 : Int)) = True := eq_true (by omega)
     clear s0 s1 s2 s3 hO9 e11 e12
     go_wp2
     go_roundg gi'
     case measure => omega
     case rel =>
      have k1 := HX3.out.step HK8.out (fun j e => .inr (.inl e.symm)) (FB.row HX2.out rfl)
      have k2 := k1.step (Keep2.of_below HB9.out none none) (fun j e => by cases e) (fun j e => by cases e)
      have f1 := HX2.out.trans HF8.out HX3.out.size
      have k4 := k2.step (Keep2.of_grown (grownBy_set w9 ⟨lB, 0, none⟩ (Value.slice (some ⟨g8, 0, none⟩) M.length cap8))) (fun j e => .inr (.inl e.symm)) (fun j e => by cases e)
      exact ⟨i + 1, _, by go_num, by omega, HA2, ⟨⟨HO9.out.pop hlB rfl, f1, k4⟩⟩⟩
   ·have hi1 : ((i : Int) < ((els left 9).length : Int)) = False := eq_false (by omega)
    have hi2 : decide ((i : Int) < ((els left 9).length : Int)) = false := decide_eq_false (by omega)
    have ha := HA.out
    rw [List.drop_eq_nil_of_le (by omega)] at ha
    have hr : R = none := ha.symm
    subst hr
    clear ha HA
    obtain ⟨hX1, hX2, hX3⟩ := HX.out
    have HF := Aside0.mk (show OI W0 wr lB M v1 ∧ FB w.heap.size v v1 ∧ Keep2 w wr (some lB) v.ownBlock from ⟨hX1, (FB.refl w.heap.size v).trans hX2 HB1.out.size, (Keep2.of_below HB1.out (some lB) v.ownBlock).step hX3 (fun j e => .inr (.inl e.symm)) (fun j e => .inr (.inr e.symm))⟩)
    clear hX1 hX2 hX3 HX
    go_wp2
    go_ret
    exact ⟨rfl, v1, HF.out⟩
def outF (G : List Nat) (s : Nat) : Option (List Nat) := outN G (pc s 9) [] s
theorem outN_len (G : List Nat) : ∀ d M left l, outN G d M left = some l → l.length = M.length + d
 | 0, M, left, l, h => by
  rw [outN] at h
  rw [← Option.some.inj h]; rfl
 | d + 1, M, left, l, h => by
  rw [outN] at h
  obtain ⟨v, hv, hf⟩ := List.exists_of_findSome?_eq_some h
  split at hf
  ·cases hf
  ·have := outN_len G d _ _ l hf
   simp at this
   omega
set_option maxHeartbeats 8000000 in
set_option maxRecDepth 100000 in
theorem outer_calls (Ag : Option Addr) (cg : Nat) (G : List Nat) (hG : Gr 9 G) (hcg : G.length ≤ cg) (s : Nat) (hs : s < 2 ^ G.length) (hs0 : s ≠ 0) (w : World) (hGL : GL w) (hrg : Kd.C (Kd.int .i64) w Ag (gi G).length (gi G)) :
  Calls Tryd.prog 82 #[.slice Ag G.length cg, .int .i64 (s : Int)] w fun e w' => ∃ v, e = .returned v ∧ (match outF G s with | none => v = .slice none 0 0 | some l => l ≠ [] ∧ v ≠ .slice none 0 0 ∧ Kd.R (Kd.int .i64) 3 w' w.heap.size (fun _ => True) v (gi l)) ∧ Below w.heap.size w w' := by
 have hs512 := small G hG.most hs
 have hpc0 : 0 < pc s 9 := Nat.pos_of_ne_zero fun h => hs0 (pc_none ⟨s, hs512⟩ h)
 have hpc9 := pc_le s 9
 have hk0 : ((s : Int) == 0) = false := beq_eq_false_iff_ne.2 (by omega)
 obtain ⟨lB, hlB⟩ : ∃ lB, lB = w.heap.size + 1 := ⟨_, rfl⟩
 obtain ⟨W0, hW0⟩ : ∃ W0 : World, W0 = ((w.alloc (.cells #[.slice Ag G.length cg] 79)).alloc (.cells #[.slice none 0 0] 22)).alloc (.cells #[.func (.func 96) #[] #[.pointer (some ⟨w.heap.size + 1, 0, none⟩), .pointer (some ⟨w.heap.size, 0, none⟩), .pointer (some ⟨w.heap.size + 1 + 1, 0, none⟩)]] 43) := ⟨_, rfl⟩
 have hsz : W0.heap.size = w.heap.size + 3 := by rw [hW0]; simp
 have hb0 : W0.heap[w.heap.size]? = some (.cells #[.slice Ag G.length cg] 79 (0, 0)) := by
  rw [hW0]
  exact blk_alloc (blk_alloc (show (w.heap.push _)[w.heap.size]? = _ from Array.getElem?_push_size) _) _
 have hb1 : W0.heap[w.heap.size + 1]? = some (.cells #[.slice none 0 0] 22 (0, 0)) := by
  rw [hW0]
  refine blk_alloc ?_ _
  have : (w.alloc (.cells #[.slice Ag G.length cg] 79)).heap.size = w.heap.size + 1 := by simp
  rw [← this]
  exact (show (Array.push _ _)[_]? = _ from Array.getElem?_push_size)
 have hb2 : W0.heap[w.heap.size + 1 + 1]? = some (.cells #[.func (.func 96) #[] #[.pointer (some ⟨w.heap.size + 1, 0, none⟩), .pointer (some ⟨w.heap.size, 0, none⟩), .pointer (some ⟨w.heap.size + 1 + 1, 0, none⟩)]] 43 (0, 0)) := by
  rw [hW0]
  have : ((w.alloc (.cells #[.slice Ag G.length cg] 79)).alloc (.cells #[.slice none 0 0] 22)).heap.size = w.heap.size + 1 + 1 := by simp
  rw [← this]
  exact (show (Array.push _ _)[_]? = _ from Array.getElem?_push_size)
 have hBW : Below w.heap.size w W0 := by
  rw [hW0]
  exact below_alloc (below_alloc (below_alloc (Below.refl _ _) _) _) _
 have HOG : Aside0 (Calls Tryd.prog 96 #[.int .i64 (s : Int), .pointer (some ⟨w.heap.size + 1, 0, none⟩), .pointer (some ⟨w.heap.size, 0, none⟩), .pointer (some ⟨w.heap.size + 1 + 1, 0, none⟩)] W0 fun e w' => e = .returned (.bool (outF G s).isSome) ∧ ∃ v', OI W0 w' (w.heap.size + 1) ((outF G s).getD []) v') := ⟨by
  refine (outer_grow (w.heap.size + 1) w.heap.size (w.heap.size + 1 + 1) W0 (by omega) Ag cg G hG hcg (fun W hW => ?_) (pc s 9) [] s (.slice none 0 0) W0 rfl hs (fun x hx => by cases hx) (by simp; omega) ⟨hb1, ⟨rfl, .inl ⟨rfl, rfl⟩⟩, World.grownBy.refl _ _⟩).mono ?_
  ·have hB : Below w.heap.size w W := ⟨hW.os.trans hBW.os, hW.tape.trans hBW.tape, hW.output.trans hBW.output, Nat.le_trans hBW.size hW.size, fun k hk => (hW.block k (by omega) (fun e => by have := Option.some.inj e; omega)).trans (hBW.block k hk)⟩
   have c0 := blk_grown hb0 hW (fun e => by have := Option.some.inj e; omega)
   have c2 := blk_grown hb2 hW (fun e => by have := Option.some.inj e; omega)
   exact ⟨GL_below hGL hB, Kd.C_below hrg hB, (blk_cell c0 0).trans rfl, (blk_cell c2 0).trans rfl⟩
  ·rintro e w' ⟨rfl, v', h, _, _⟩
   exact ⟨rfl, v', h⟩⟩
 rw [hW0] at HOG
 have HFIN : Aside0 (∀ w' v', OI W0 w' (w.heap.size + 1) ((outF G s).getD []) v' → Below w.heap.size w w' ∧ (∀ l, outF G s = some l → l ≠ [] ∧ v' ≠ .slice none 0 0 ∧ Kd.R (Kd.int .i64) 3 w' w.heap.size (fun _ => True) v' (gi l))) := ⟨fun w' v' h => by
  refine ⟨⟨h.grown.os.trans hBW.os, h.grown.tape.trans hBW.tape, h.grown.output.trans hBW.output, Nat.le_trans hBW.size h.grown.size, fun k hk => (h.grown.block k (by omega) (fun e => by have := Option.some.inj e; omega)).trans (hBW.block k hk)⟩, fun l hl => ?_⟩
  have hlen := outN_len G _ _ _ _ hl
  rw [hl] at h
  have ho := h.own
  simp only [Option.getD_some] at ho
  refine ⟨fun e => by rw [e] at hlen; simp at hlen; omega, fun e => ?_, ?_⟩
  ·rcases ho.2 with ⟨_, h0⟩ | ⟨g, cap, cur, e2, _⟩
   ·simp at hlen; omega
   ·rw [e] at e2; cases e2
  ·rw [← gi_length l] at ho
   exact Kd.R_lower (Kd.R_of_own (ok := fun _ => True) ho (fun _ _ => trivial)) (by omega)⟩
 rw [hW0] at HFIN
 clear hb0 hb1 hb2 hBW hsz hW0 hlB lB hs hG hGL hrg
 cases hout : outF G s with
 | none =>
  rw [hout] at HOG HFIN
  go_enter Tryd.func82, Tryd.ntmps82
  go_wp2_with (go_at_call 96; refine HOG.out.mono ?_; rintro e w9 ⟨rfl, v9, hO9⟩; have hl9 := hO9.cell; have HO9 := Aside0.mk hO9; clear hO9)
  go_ret
  exact ⟨_, rfl, rfl, (HFIN.out _ _ HO9.out).1⟩
 | some l =>
  rw [hout] at HOG HFIN
  go_enter Tryd.func82, Tryd.ntmps82
  go_wp2_with (go_at_call 96; refine HOG.out.mono ?_; rintro e w9 ⟨rfl, v9, hO9⟩; have hl9 := hO9.cell; have HO9 := Aside0.mk hO9; clear hO9)
  go_ret
  exact ⟨_, rfl, (HFIN.out _ _ HO9.out).2 l rfl, (HFIN.out _ _ HO9.out).1⟩
end Go.Proofs.YtjloppfdagfpmaaDoor.X
end
section
/- minor.Outer and minor.Apex, by hand. -/
namespace Go.Proofs.YtjloppfdagfpmaaDoor.X
open Go.RowKit YtjloppfdagfpmaaDoorW.PrintWords YtjloppfdagfpmaaDoorW.PrintLast YtjloppfdagfpmaaDoorW.PrintMore YtjloppfdagfpmaaDoor.T
theorem outer_calls2 (Ag : Option Addr) (cg : Nat) (G : List Nat) (hG : Gr 9 G) (hcg : G.length ≤ cg) (s : Nat) (hs : s < 2 ^ G.length) (hs0 : s ≠ 0) (w : World) (hGL : GL w) (hrg : Kd.C (Kd.int .i64) w Ag (gi G).length (gi G)) :
  Calls Tryd.prog 82 #[.slice Ag G.length cg, .int .i64 (s : Int)] w fun e w' => ∃ v, e = .returned v ∧ Kd.R (Kd.int .i64) 3 w' w.heap.size (fun _ => True) v ((outF G s).elim [] gi) ∧ ((outF G s = none ∧ v = .slice none 0 0) ∨ ((outF G s).isSome = true ∧ ∃ a n c, v = .slice (some a) n c)) ∧ Below w.heap.size w w' := by
 refine (outer_calls Ag cg G hG hcg s hs hs0 w hGL hrg).mono ?_
 rintro e w' ⟨v, rfl, h, hb⟩
 cases ho : outF G s with
 | none =>
  rw [ho] at h
  simp only at h
  subst h
  exact ⟨_, rfl, Kd.R_nil _ _ _ _ _, .inl ⟨rfl, rfl⟩, hb⟩
 | some l =>
  rw [ho] at h
  obtain ⟨h1, h2, h3⟩ := h
  refine ⟨v, rfl, h3, .inr ⟨rfl, ?_⟩, hb⟩
  obtain ⟨A, c, rfl, hc, hC⟩ := Kd.R_reads h3
  cases A with
  | none =>
   obtain ⟨_, inner, ho2, _⟩ := h3
   rcases ho2.2 with ⟨e1, _⟩ | ⟨g, cap, cur, e2, _⟩
   ·exact absurd e1 h2
   ·cases e2
  | some a => exact ⟨a, _, c, rfl⟩
def minor_Outer.f (g : List Int) : Option (List Int × Int) :=
 if g.length < 1000 then some (if chk 8 g = true then ((outF (g.map Int.toNat) (2 ^ g.length - 1)).elim ([], 4) fun M => (gi M, 0)) else ([], 2)) else none
set_option maxHeartbeats 4000000 in
set_option maxRecDepth 100000 in
theorem minor_Outer.calls (A0 : Option Addr) (c0 : Nat) (l0 : List Int) (r1 : List Int) (r2 : Int) (w : World) (hGL : GL w) (hr0 : Kd.C (Kd.int .i64) w A0 l0.length l0) (hc0 : l0.length ≤ c0) (h : minor_Outer.f l0 = some (r1, r2)) :
  Calls Tryd.prog 47 #[.slice A0 l0.length c0] w fun e w' => ∃ v, e = .returned (.tuple #[v, .int .i64 r2]) ∧ Kd.R (Kd.int .i64) 3 w' w.heap.size (fun _ => True) v r1 ∧ Below w.heap.size w w' := by
 unfold minor_Outer.f at h
 by_cases hlen : l0.length < 1000
 ·rw [if_pos hlen] at h
  have h := Option.some.inj h
  have HC1 : Aside0 (∀ W, Below w.heap.size w W → Calls Tryd.prog 63 #[.slice A0 l0.length c0, .int .i64 8] W fun e w' => ∃ v, e = .returned (.tuple #[v, .bool (chk 8 l0)]) ∧ (chk 8 l0 = true → ∃ A1 c1, v = .slice A1 l0.length c1 ∧ l0.length ≤ c1 ∧ Kd.C (Kd.int .i64) w' A1 l0.length l0) ∧ Below W.heap.size W w') := ⟨fun W hW => read_any 8 (by omega) (by omega) A0 c0 W (Kd.C_below hr0 hW) hc0⟩
  have HGL := Aside0.mk hGL
  cases hg : chk 8 l0
  ·rw [hg] at h HC1
   injection h with h1 h2
   subst h1 h2
   clear hg hr0
   go_enter Tryd.func47, Tryd.ntmps47
   go_wp2_with (go_at_call 63; refine (HC1.out _ (Below.refl _ _)).mono ?_; rintro e w1 ⟨v1, rfl, _, hb1⟩; have HB1 := Aside0.mk hb1; clear hb1)
   go_ret2
   exact ⟨_, rfl, Kd.R_nil _ _ _ _ _, HB1.out⟩
  ·rw [hg] at h HC1
   obtain ⟨G, rfl, hG⟩ := (chk_iff 8 (by omega) _).1 hg
   rw [gi_toNat] at h
   simp only [gi_length] at HC1 hr0 hc0 h ⊢
   have hn := hG.most
   have hn1 := hG.pos
   have h2n := Nat.two_pow_pos G.length
   obtain ⟨A, hA⟩ : ∃ A, 2 ^ G.length - 1 = A := ⟨_, rfl⟩
   have hAlt : A < 2 ^ G.length := by omega
   have hA0 : A ≠ 0 := by
    have : 2 ^ 1 ≤ 2 ^ G.length := Nat.pow_le_pow_right (by omega) hn1
    omega
   rw [hA] at h
   have HAL : Aside0 (∀ W B c, G.length ≤ c → Kd.C (Kd.int .i64) W B G.length (gi G) → Calls Tryd.prog 66 #[.slice B G.length c] W fun e w' => e = .returned (.int .i64 (A : Int)) ∧ Drawn0 W w') := ⟨fun W B c hc hB => by
    have := minor_town_all.calls B c (gi G) _ W (by rw [gi_length]; exact hB) (by rw [gi_length]; exact hc) (all_eq G (by omega))
    rw [gi_length, hA] at this
    exact this⟩
   have HOU : Aside0 (∀ W B c, Below w.heap.size w W → G.length ≤ c → Kd.C (Kd.int .i64) W B G.length (gi G) → Calls Tryd.prog 82 #[.slice B G.length c, .int .i64 (A : Int)] W fun e w' => ∃ v, e = .returned v ∧ Kd.R (Kd.int .i64) 3 w' W.heap.size (fun _ => True) v ((outF G A).elim [] gi) ∧ ((outF G A = none ∧ v = .slice none 0 0) ∨ ((outF G A).isSome = true ∧ ∃ a n c, v = .slice (some a) n c)) ∧ Below W.heap.size W w') := ⟨fun W B c hW hc hB =>
    outer_calls2 B c G (gr_mono hG (by omega)) hc A hAlt hA0 W (GL_below HGL.out hW) (by rw [gi_length]; exact hB)⟩
   clear hg hr0 hG hGL hA hAlt hA0 h2n
   have heq_ := fun (w : World) (a : Option Addr) (n c : Nat) => Lib.run_eql_slice_nil (P := Tryd.prog) w 22 3 a n c 0 0 Tryd.underlying22
   cases hf : outF G A with
   | none =>
    rw [hf] at HOU h
    injection h with h1 h2
    subst h1 h2
    clear hf
    go_enter Tryd.func47, Tryd.ntmps47
    go_wp2_with (first
     | (go_at_call 63; refine (HC1.out _ (Below.refl _ _)).mono ?_; rintro e w1 ⟨v1, rfl, hv1, hb1⟩; obtain ⟨A5, c5, rfl, hc5, hC5⟩ := hv1 trivial; have HB1 := Aside0.mk hb1; have HC5 := Aside0.mk hC5; clear hb1 hv1 hC5)
     | (go_at_call 66; refine (HAL.out _ _ _ hc5 HC5.out).mono ?_; rintro e w2 ⟨rfl, hd2⟩; have HB2 := Aside0.mk hd2.below; clear hd2)
     | (go_at_call 82; refine (HOU.out _ _ _ (below_step HB1.out HB2.out) hc5 (Kd.C_below HC5.out HB2.out)).mono ?_; rintro e w3 ⟨v3, rfl, _, hv3, hb3⟩; have hv4 : v3 = .slice none 0 0 := hv3.elim (fun h => h.2) (fun h => by cases h.1); subst hv4; have HB3 := Aside0.mk (below_step (below_step HB1.out HB2.out) hb3); clear hb3))
    go_ret2
    exact ⟨_, rfl, Kd.R_nil _ _ _ _ _, HB3.out⟩
   | some M =>
    rw [hf] at HOU h
    injection h with h1 h2
    subst h1 h2
    clear hf
    go_enter Tryd.func47, Tryd.ntmps47
    go_wp2_with (first
     | (go_at_call 63; refine (HC1.out _ (Below.refl _ _)).mono ?_; rintro e w1 ⟨v1, rfl, hv1, hb1⟩; obtain ⟨A5, c5, rfl, hc5, hC5⟩ := hv1 trivial; have HB1 := Aside0.mk hb1; have HC5 := Aside0.mk hC5; clear hb1 hv1 hC5)
     | (go_at_call 66; refine (HAL.out _ _ _ hc5 HC5.out).mono ?_; rintro e w2 ⟨rfl, hd2⟩; have HB2 := Aside0.mk hd2.below; clear hd2)
     | (go_at_call 82; refine (HOU.out _ _ _ (below_step HB1.out HB2.out) hc5 (Kd.C_below HC5.out HB2.out)).mono ?_; rintro e w3 ⟨v3, rfl, hR3, hv3, hb3⟩; obtain ⟨a3, n3, c3, rfl⟩ : ∃ a n c, v3 = .slice (some a) n c := hv3.elim (fun h => by cases h.1) (fun h => h.2); have HB3 := Aside0.mk (below_step (below_step HB1.out HB2.out) hb3); have HR3 := Aside0.mk hR3; have HB4 := Aside0.mk (below_step HB1.out HB2.out); clear hb3 hR3))
    go_ret2
    exact ⟨_, rfl, Kd.R_lower HR3.out HB4.out.size, HB3.out⟩
 ·rw [if_neg hlen] at h
  cases h
end Go.Proofs.YtjloppfdagfpmaaDoor.X
end
section
namespace Go.Proofs.YtjloppfdagfpmaaDoor.X
open Go.RowKit YtjloppfdagfpmaaDoorW.PrintWords YtjloppfdagfpmaaDoorW.PrintLast YtjloppfdagfpmaaDoorW.PrintMore
attribute [local go_sem] max2_int min2_int max_two min_two max_three min_three max_four min_four
/-! ### minor_town_without: function 76 -/
def minor_town_without.l0 : Nat → Int → List Int → List Int → Int → Int → Option (List Int)
 | 0, _, _, _, _, _ => none
 | k + 1, x1, x5, x8, x9, x10 => if x10 < x9 then (if 0 ≤ x10 then (if x10 < (x8.length : Int) then (if x10 = x1 then (minor_town_without.l0 k x1 x5 x8 x9 (wrap64 (x10 + 1))) else (if 0 ≤ x1 then (if 0 ≤ (wrap64 (x1 + 1)) then (if x5.length < 17592186044416 then (minor_town_without.l0 k x1 (x5 ++ [Go.bits .or .i64 (Go.bits .and .i64 (rd x8 x10) (wrap64 ((shl .i64 1 x1) - 1))) (shl .i64 (shr .i64 (rd x8 x10) (wrap64 (x1 + 1))) x1)]) x8 x9 (wrap64 (x10 + 1))) else (none)) else (none)) else (none))) else (none)) else (none)) else (some x5)
def minor_town_without.f (k : Nat) (l0 : List Int) (a1 : Int) : Option (List Int) := minor_town_without.l0 k a1 ([] : List Int) l0 (l0.length : Int) 0
end Go.Proofs.YtjloppfdagfpmaaDoor.X
end
section
namespace Go.Proofs.YtjloppfdagfpmaaDoor.X
open Go.RowKit YtjloppfdagfpmaaDoorW.PrintWords YtjloppfdagfpmaaDoorW.PrintLast YtjloppfdagfpmaaDoorW.PrintMore
attribute [local go_sem] max2_int min2_int max_two min_two max_three min_three max_four min_four
/-! ### minor_town_int: function 77 -/
def minor_town_int.f (l0 : List Int) : Option (List Int) := (some (([] : List Int) : List Int)).bind fun y302 => (if y302.length + l0.length < 17592186044416 then (some (y302 ++ l0)) else (none))
set_option maxHeartbeats 8000000 in
set_option maxRecDepth 100000 in
theorem minor_town_int.calls_some (a0 : Addr) (c0 : Nat) (l0 : List Int) (r : List Int) (w : World) (hr0 : Kd.C (Kd.int .i64) w (some a0) l0.length l0) (hc0 : l0.length ≤ c0) (h : minor_town_int.f l0 = some r) :
  Calls Tryd.prog 77 #[.slice (some a0) l0.length c0] w fun e w' => ∃ v0_ : Value, e = .returned (v0_) ∧ Kd.R (Kd.int .i64) 3 w' w.heap.size (fun _ => True) v0_ r ∧ Below w.heap.size w w' := by
 have HR0 := Aside0.mk hr0
 have HC0 := Aside0.mk hc0
 clear hr0 hc0
 have HB := Aside0.mk (Below.refl w.heap.size w)
 have H : ((some (([] : List Int) : List Int)).bind fun y302 => (if y302.length + l0.length < 17592186044416 then (some (y302 ++ l0)) else (none))) = some r := h
 clear h
 obtain ⟨y302, hy302⟩ : ∃ y_ : List Int, y_ = (([] : List Int)) := ⟨_, rfl⟩
 replace H : (if y302.length + l0.length < 17592186044416 then (some (y302 ++ l0)) else (none)) = some r := by first | (rw [hy302]; with_reducible exact H) | (have H2_ := (Option.bind_some _ _).symm.trans H; rw [hy302]; with_reducible exact H2_) | (have H2_ := (Option.bind_some _ _).symm.trans H; with_reducible exact H2_) | with_reducible exact H | (rw [hy302]; exact H) | exact H
 have Ny302 := Aside0.mk hy302
 clear hy302
 by_cases c2 : y302.length + l0.length < 17592186044416
 ·rw [if_pos c2] at H
  have LMc2 := Aside0.mk c2
  clear c2
  obtain ⟨y305, hy305⟩ : ∃ y_ : List Int, y_ = (y302 ++ l0) := ⟨_, rfl⟩
  replace H : (some y305) = some r := by first | (rw [hy305]; with_reducible exact H) | (have H2_ := (Option.bind_some _ _).symm.trans H; rw [hy305]; with_reducible exact H2_) | (have H2_ := (Option.bind_some _ _).symm.trans H; with_reducible exact H2_) | with_reducible exact H | (rw [hy305]; exact H) | exact H
  have Ny305 := Aside0.mk hy305
  clear hy305
  obtain rfl := Option.some.inj H
  have heq_ := fun (w : World) => Lib.run_eql_slice_nil (P := Tryd.prog) w 79 3 (some a0) l0.length c0 0 0 Tryd.underlying79
  go_enter Tryd.func77, Tryd.ntmps77
  go_wp2_with (first | ((with_reducible refine gate_dst (N := 5) rfl ?_); refine Kd.R_lit (Kd.int .i64) _ 3 ?hg (N := 5) ?hd (xs := ([] : List Int)) (inner := []) (ok := fun _ => True) (okp := fun _ => True) ?hr ?hp (fun _ hk => hk) trivial (Below.refl _ _) (Nat.le_refl _) (by simp) ?_; (case hd => rfl); (case hg => rfl); (case hr => first | (go_simp; done) | (go_simp; rfl)); (case hp => exact (Reps.none _ _)); intro v303 w3 ho4 hb hg_ hnew_; clear hg_ hnew_; (first | rw [← Ny302.out] at ho4 | (simp only [Int.reduceToNat] at ho4; rw [← Ny302.out] at ho4)); have n0_ := Aside0.mk (Kd.R_lower ho4 (below_size (Qaw))); have n1_ := Aside0.mk (below_step (Qaw) hb); clear HB; have HO304 := n0_; have HB := n1_; clear n0_ n1_; clear hb ho4) | ((with_reducible refine gate_builtin (b := .append) (xs := #[.tmp 5, .tmp 6]) rfl ?_); at_builtin; refine Kd.R_append_rows (Kd.int .i64) (w0 := w) w.heap.size rfl (.tmp 5) (.tmp 6) 79 3 (.int .i64 0) 8 rfl Tryd.underlying79 info3 rfl (by decide) (by omega) v303 y302 l0 _ _ _ (fun _ => True) (fun _ => False) rfl rfl ?aO ?aR (fun _ _ h => h) (fun _ h => h.elim) ?aF ?aB ?aS ?aL ?_; (case aR => exact Qsc (Kd.C_below HR0.out HB.out)); (case aB => exact (Qaw)); (case aF => exact (fun _ _ => trivial)); (case aO => exact (Qro HO304.out)); (case aS => exact (below_size (Qaw))); (case aL => have := LMc2.out; omega); intro v306 w5 ho hb hg hat; rw [← Ny305.out] at ho; have n0_ := Aside0.mk (hb); have n1_ := Aside0.mk (ho); clear HB; clear HO304; have HB := n0_; have HO307 := n1_; clear n0_ n1_; clear ho hb hg hat))
  go_ret
  exact ⟨_, by first | rfl | (simp [errW_none, errW_some] <;> rfl) | (simp [*, errW_none, errW_some] <;> rfl), by (with_reducible repeat (first | apply Kd.R_alloc | apply Kd.R_drewN | apply Kd.R_drew)); exact HO307.out, by repeat (first | (with_reducible first | exact HB.out | apply below_alloc | apply pw_below_drewN | apply below_drew1) | exact HB.out)⟩
 ·rw [if_neg c2] at H
  exact absurd H (by simp)
theorem minor_town_int.calls (A0 : Option Addr) (c0 : Nat) (l0 : List Int) (r : List Int) (w : World) (hr0 : Kd.C (Kd.int .i64) w A0 l0.length l0) (hc0 : l0.length ≤ c0) (h : minor_town_int.f l0 = some r) :
  Calls Tryd.prog 77 #[.slice A0 l0.length c0] w fun e w' => ∃ v0_ : Value, e = .returned (v0_) ∧ Kd.R (Kd.int .i64) 3 w' w.heap.size (fun _ => True) v0_ r ∧ Below w.heap.size w w' := by
 cases A0 with
 | some a0 => exact minor_town_int.calls_some a0 c0 l0 r w hr0 hc0 h
 | none =>
  have hl : l0 = [] := by
   rcases Nat.eq_zero_or_pos l0.length with h0 | h0
   ·exact List.length_eq_zero_iff.mp h0
   ·obtain ⟨ad, he, _⟩ := hr0.2.2 h0
    cases he
  subst hl
  obtain rfl : [] = r := by simpa [minor_town_int.f] using h
  clear h hr0 hc0
  have heq_ := fun (w : World) => Lib.run_eql_slice_nil (P := Tryd.prog) w 79 3 none 0 c0 0 0 Tryd.underlying79
  go_enter Tryd.func77, Tryd.ntmps77
  go_wp2
  go_ret
  exact ⟨_, rfl, Kd.R_nil _ _ _ _ _, Below.refl _ _⟩
end Go.Proofs.YtjloppfdagfpmaaDoor.X
end
section
namespace Go.Proofs.YtjloppfdagfpmaaDoor.X
open Go.RowKit YtjloppfdagfpmaaDoorW.PrintWords YtjloppfdagfpmaaDoorW.PrintLast YtjloppfdagfpmaaDoorW.PrintMore
attribute [local go_sem] max2_int min2_int max_two min_two max_three min_three max_four min_four
/-! ### minor_Contract: function 36 -/
mutual
def minor_Contract.j0 : Nat → Int → Int → List Int → Bool → Option (List Int × Int)
 | 0, _, _, _, _ => none
 | k + 1, x1, x2, x8, x44 => if x44 = true then (some (([] : List Int), 2)) else ((minor_town_int.f x8).bind fun t313 => (if 0 ≤ x2 then (if x2 < (x8.length : Int) then (if 0 ≤ x1 then ((minor_nodes.f k (Go.bits .andNot .i64 (rd x8 x2) (shl .i64 1 x1))).bind fun t317 => (minor_Contract.l0 k x1 x2 t313 t317 (t317.length : Int) 0)) else (none)) else (none)) else (none)))
def minor_Contract.l0 : Nat → Int → Int → List Int → List Int → Int → Int → Option (List Int × Int)
 | 0, _, _, _, _, _, _ => none
 | k + 1, x1, x2, x10, x54, x55, x56 => if x56 < x55 then (if 0 ≤ x56 then (if x56 < (x54.length : Int) then ((minor_town_join.f x10 x1 (rd x54 x56)).bind fun t321 => (minor_Contract.l0 k x1 x2 t321 x54 x55 (wrap64 (x56 + 1)))) else (none)) else (none)) else ((minor_town_without.f k x10 x2).bind fun t322 => (some (t322, 0)))
end
end Go.Proofs.YtjloppfdagfpmaaDoor.X
end
section
namespace Go.Proofs.YtjloppfdagfpmaaDoor.X
open Go.RowKit YtjloppfdagfpmaaDoorW.PrintWords YtjloppfdagfpmaaDoorW.PrintLast YtjloppfdagfpmaaDoorW.PrintMore
attribute [local go_sem] max2_int min2_int max_two min_two max_three min_three max_four min_four
/-! ### lampblackref07_Delete: function 37 -/
def lampblackref07_Delete.l0 : Nat → Int → List Int → List Int → Int → Int → Option (List Int)
 | 0, _, _, _, _, _ => none
 | k + 1, x1, x5, x8, x9, x10 => if x10 < x9 then (if 0 ≤ x10 then (if x10 < (x8.length : Int) then (if x10 = x1 then (lampblackref07_Delete.l0 k x1 x5 x8 x9 (wrap64 (x10 + 1))) else (if 0 ≤ x1 then (if 0 ≤ (wrap64 (x1 + 1)) then (if x5.length < 17592186044416 then (lampblackref07_Delete.l0 k x1 (x5 ++ [Go.bits .or .i64 (Go.bits .and .i64 (rd x8 x10) (wrap64 ((shl .i64 1 x1) - 1))) (shl .i64 (shr .i64 (rd x8 x10) (wrap64 (x1 + 1))) x1)]) x8 x9 (wrap64 (x10 + 1))) else (none)) else (none)) else (none))) else (none)) else (none)) else (some x5)
def lampblackref07_Delete.f (k : Nat) (l0 : List Int) (a1 : Int) : Option (List Int) := lampblackref07_Delete.l0 k a1 ([] : List Int) l0 (l0.length : Int) 0
end Go.Proofs.YtjloppfdagfpmaaDoor.X
end
section
namespace Go.Proofs.YtjloppfdagfpmaaDoor.X
open Go.RowKit YtjloppfdagfpmaaDoorW.PrintWords YtjloppfdagfpmaaDoorW.PrintLast YtjloppfdagfpmaaDoorW.PrintMore
attribute [local go_sem] max2_int min2_int max_two min_two max_three min_three max_four min_four
/-! ### lampblackref07_Contract: function 38 -/
def lampblackref07_Contract.l0 : Nat → List Int → Int → Int → List Int → Int → Int → Option (List Int)
 | 0, _, _, _, _, _, _ => none
 | k + 1, x0, x1, x2, x7, x13, x14 => if x14 < x13 then (if 0 ≤ x2 then (if x2 < (x0.length : Int) then (if 0 ≤ x14 then (if (Go.bits .and .i64 (shr .i64 (rd x0 x2) x14) 1) = 1 then (if x14 = x1 then (lampblackref07_Contract.l0 k x0 x1 x2 x7 x13 (wrap64 (x14 + 1))) else ((lampblackref07_join.f x7 x1 x14).bind fun t336 => (lampblackref07_Contract.l0 k x0 x1 x2 t336 x13 (wrap64 (x14 + 1))))) else (lampblackref07_Contract.l0 k x0 x1 x2 x7 x13 (wrap64 (x14 + 1)))) else (none)) else (none)) else (none)) else ((lampblackref07_Delete.f k x7 x2).bind fun t337 => (some t337))
end Go.Proofs.YtjloppfdagfpmaaDoor.X
end
section
/- (minor) A node less, and two neighbours made one. -/
namespace Go.Proofs.YtjloppfdagfpmaaDoor.X
open Go.RowKit YtjloppfdagfpmaaDoorW.PrintWords YtjloppfdagfpmaaDoorW.PrintLast YtjloppfdagfpmaaDoorW.PrintMore YtjloppfdagfpmaaDoor.T
def joinN (J : List Nat) (a u : Nat) : List Nat := (J.set a (J.getD a 0 ||| 2 ^ u)).set u ((J.set a (J.getD a 0 ||| 2 ^ u)).getD u 0 ||| 2 ^ a)
def InN (n : Nat) (J : List Nat) : Prop := J.length = n ∧ ∀ i, J.getD i 0 < 2 ^ n
theorem getD_set3 (W : List Nat) (i j x : Nat) (hi : i < W.length) : (W.set i x).getD j 0 = if j = i then x else W.getD j 0 := by
 rw [List.getD_eq_getElem?_getD, List.getD_eq_getElem?_getD, List.getElem?_set]
 by_cases h : i = j
 ·subst h; rw [if_pos rfl, if_pos rfl, if_pos hi]; rfl
 ·rw [if_neg h, if_neg (fun e => h e.symm)]
theorem InN.join {n : Nat} {J : List Nat} (h : InN n J) {a u : Nat} (ha : a < n) (hu : u < n) : InN n (joinN J a u) := by
 have hp : ∀ v, v < n → 2 ^ v < 2 ^ n := fun v hv => Nat.pow_lt_pow_right (by omega) hv
 have h1 : ∀ i, (J.set a (J.getD a 0 ||| 2 ^ u)).getD i 0 < 2 ^ n := fun i => by
  rw [getD_set3 _ _ _ _ (by rw [h.1]; exact ha)]
  split
  ·exact Nat.or_lt_two_pow (h.2 a) (hp u hu)
  ·exact h.2 i
 refine ⟨by unfold joinN; rw [List.length_set, List.length_set, h.1], fun i => ?_⟩
 unfold joinN
 rw [getD_set3 _ _ _ _ (by rw [List.length_set, h.1]; exact hu)]
 split
 ·exact Nat.or_lt_two_pow (h1 u) (hp a ha)
 ·exact h1 i
theorem join_eq {n : Nat} (hn : n ≤ 9) {J : List Nat} (h : InN n J) {a u : Nat} (ha : a < n) (hu : u < n) : minor_town_join.f (gi J) (a : Int) (u : Int) = some (gi (joinN J a u)) := by
 have h9 : 2 ^ n ≤ 2 ^ 9 := Nat.pow_le_pow_right (by omega) hn
 have hp : ∀ v, v < n → 2 ^ v < 2 ^ 62 := fun v hv => Nat.lt_of_lt_of_le (Nat.pow_lt_pow_right (by omega) hv) (Nat.le_trans h9 (by omega))
 have hb : ∀ x, x < 2 ^ n → x < 2 ^ 62 := fun x hx => Nat.lt_of_lt_of_le hx (Nat.le_trans h9 (by omega))
 have hJ1 : ∀ i, (J.set a (J.getD a 0 ||| 2 ^ u)).getD i 0 < 2 ^ n := fun i => by
  rw [getD_set3 _ _ _ _ (by rw [h.1]; exact ha)]
  split
  ·exact Nat.or_lt_two_pow (h.2 a) (Nat.pow_lt_pow_right (by omega) hu)
  ·exact h.2 i
 unfold minor_town_join.f
 rw [if_pos (by omega), if_pos (by rw [gi_length, h.1]; omega), if_pos (by omega), rd_gi, s_one u (by omega), b_or _ _ (hb _ (h.2 a)) (hp u hu), Int.toNat_natCast, gi_set]
 simp only [Option.bind_some]
 rw [if_pos (by rw [gi_length, h.1]; omega), rd_gi, s_one a (by omega), b_or _ _ (hb _ (hJ1 u)) (hp a ha), Int.toNat_natCast, gi_set]
 rfl
theorem gr_in {m : Nat} {G : List Nat} (hG : Gr m G) : InN G.length G := ⟨rfl, hG.row⟩
theorem read_yesE (G : List Nat) (hG : Gr 8 G) : Ev (fun k => minor_read.f k (gi G) 8) (gi G, true) := by
 have := read_ev 8 (by omega) (gi G) (by rw [gi_length]; have := hG.most; omega)
 rw [(chk_iff 8 (by omega) _).2 ⟨G, rfl, hG⟩] at this
 exact this
end Go.Proofs.YtjloppfdagfpmaaDoor.X
end
section
/- (*minor.reduction).step, do and (minor.town).reduction, by hand. -/
namespace Go.Proofs.YtjloppfdagfpmaaDoor.X
open Go.RowKit YtjloppfdagfpmaaDoorW.PrintWords YtjloppfdagfpmaaDoorW.PrintLast YtjloppfdagfpmaaDoorW.PrintMore YtjloppfdagfpmaaDoor.T
attribute [local go_sem] max2_int min2_int max_two min_two max_three min_three max_four min_four
theorem add0 (a : Addr) : a.add 0 = a := by
 unfold Addr.add
 cases a
 split <;> simp_all
theorem four_facts {W : World} {g : Nat} {t : TypeId} {x0 x1 x2 x3 : Value} (h : W.heap[g]? = some (.cells #[x0, x1, x2, x3] t (0, 0))) (u0 u1 u2 u3 : Value) :
  (W.cell? ⟨g, 0, none⟩ = some x0 ∧ W.frozen? ⟨g, 0, none⟩ = false) ∧
  ((W.setCell ⟨g, 0, none⟩ u0).cell? ⟨g, 1, none⟩ = some x1 ∧ (W.setCell ⟨g, 0, none⟩ u0).frozen? ⟨g, 1, none⟩ = false) ∧
  (((W.setCell ⟨g, 0, none⟩ u0).setCell ⟨g, 1, none⟩ u1).cell? ⟨g, 2, none⟩ = some x2 ∧ ((W.setCell ⟨g, 0, none⟩ u0).setCell ⟨g, 1, none⟩ u1).frozen? ⟨g, 2, none⟩ = false) ∧
  ((((W.setCell ⟨g, 0, none⟩ u0).setCell ⟨g, 1, none⟩ u1).setCell ⟨g, 2, none⟩ u2).cell? ⟨g, 3, none⟩ = some x3 ∧ (((W.setCell ⟨g, 0, none⟩ u0).setCell ⟨g, 1, none⟩ u1).setCell ⟨g, 2, none⟩ u2).frozen? ⟨g, 3, none⟩ = false) ∧
  ((((W.setCell ⟨g, 0, none⟩ u0).setCell ⟨g, 1, none⟩ u1).setCell ⟨g, 2, none⟩ u2).setCell ⟨g, 3, none⟩ u3).heap[g]? = some (.cells #[u0, u1, u2, u3] t (0, 0)) := by
 have h1 : (W.setCell ⟨g, 0, none⟩ u0).heap[g]? = some (.cells #[u0, x1, x2, x3] t (0, 0)) := blk_put h 0 u0 rfl
 have h2 : ((W.setCell ⟨g, 0, none⟩ u0).setCell ⟨g, 1, none⟩ u1).heap[g]? = some (.cells #[u0, u1, x2, x3] t (0, 0)) := blk_put h1 1 u1 rfl
 have h3 : (((W.setCell ⟨g, 0, none⟩ u0).setCell ⟨g, 1, none⟩ u1).setCell ⟨g, 2, none⟩ u2).heap[g]? = some (.cells #[u0, u1, u2, x3] t (0, 0)) := blk_put h2 2 u2 rfl
 exact ⟨⟨(blk_cell h 0).trans rfl, blk_frozen h 0⟩, ⟨(blk_cell h1 1).trans rfl, blk_frozen h1 1⟩, ⟨(blk_cell h2 2).trans rfl, blk_frozen h2 2⟩, ⟨(blk_cell h3 3).trans rfl, blk_frozen h3 3⟩, blk_put h3 3 u3 rfl⟩
theorem four_reads {W : World} {g : Nat} {t : TypeId} {x0 x1 x2 x3 : Value} (h : W.heap[g]? = some (.cells #[x0, x1, x2, x3] t (0, 0))) :
  W.cell? ⟨g, 0, none⟩ = some x0 ∧ W.cell? ⟨g, 1, none⟩ = some x1 ∧ W.cell? ⟨g, 2, none⟩ = some x2 ∧ W.cell? ⟨g, 3, none⟩ = some x3 :=
 ⟨(blk_cell h 0).trans rfl, (blk_cell h 1).trans rfl, (blk_cell h 2).trans rfl, (blk_cell h 3).trans rfl⟩
theorem below_four {w W : World} {g : Nat} (h : Below w.heap.size w W) (hg : w.heap.size ≤ g) (u0 u1 u2 u3 : Value) : Below w.heap.size w ((((W.setCell ⟨g, 0, none⟩ u0).setCell ⟨g, 1, none⟩ u1).setCell ⟨g, 2, none⟩ u2).setCell ⟨g, 3, none⟩ u3) :=
 below_set (below_set (below_set (below_set h hg) hg) hg) hg
def sA : List Nat → Int
 | [a] => a
 | [a, _] => a
 | _ => -1
def sB : List Nat → Int
 | [_, b] => b
 | _ => -1
set_option maxHeartbeats 4000000 in
set_option maxRecDepth 100000 in
theorem step_calls (rB : Nat) (A : Option Addr) (c : Nat) (J : List Nat) (left v : Nat) (w : World) (hGL : GL w) (h0 : w.cell? ⟨rB, 0, none⟩ = some (.slice A J.length c)) (h1 : w.cell? ⟨rB, 1, none⟩ = some (.int .i64 (left : Int))) (hr : Kd.C (Kd.int .i64) w A J.length (gi J)) (hv : v < J.length) (hJl : J.length ≤ 9) (hJ : J.getD v 0 < 512) (hl : left < 512) (L : List Nat) (hL : els (J.getD v 0 &&& left) 9 = L) :
  Calls Tryd.prog 79 #[.pointer (some ⟨rB, 0, none⟩), .int .i64 (v : Int)] w fun e w' => e = .returned (.tuple #[.agg #[.int .i64 (L.length : Int), .int .i64 (v : Int), .int .i64 (sA L), .int .i64 (sB L)], .bool (decide (L.length ≤ 2))]) ∧ Below w.heap.size w w' := by
 obtain ⟨ad, e1, hgx⟩ := Kd.at_int hr (v : Int) (by omega) (by omega)
 subst e1
 rw [rd_gi, Int.toNat_natCast] at hgx
 have hi1 : ((v : Int) < (J.length : Int)) = True := eq_true (by omega)
 have hi2 : decide ((v : Int) < (J.length : Int)) = true := decide_eq_true (by omega)
 have HGL := Aside0.mk hGL
 have hq : Go.bits .and .i64 ((J.getD v 0 : Nat) : Int) (left : Int) = ((J.getD v 0 &&& left : Nat) : Int) := b_and _ _ (by omega) (by omega)
 have hq5 : J.getD v 0 &&& left < 512 := Nat.lt_of_le_of_lt Nat.and_le_left hJ
 have hlen : L.length ≤ 9 := by rw [← hL, els_length]; exact pc_le _ 9
 generalize J.getD v 0 &&& left = q at *
 generalize J.getD v 0 = x at *
 obtain ⟨w1, hw1⟩ : ∃ w1 : World, w1 = w.alloc (Obj.cells #[.int .i64 0, .int .i64 0, .int .i64 0, .int .i64 0] 95) := ⟨_, rfl⟩
 have HB1 : Aside0 (Below w.heap.size w w1) := ⟨by rw [hw1]; exact below_alloc (Below.refl _ _) _⟩
 have HBK : Aside0 (w1.heap[w.heap.size]? = some (.cells #[.int .i64 0, .int .i64 0, .int .i64 0, .int .i64 0] 95 (0, 0))) := ⟨by rw [hw1]; exact blk_new w _⟩
 have f0 : w1.cell? ⟨rB, 0, none⟩ = some (.slice (some ad) J.length c) := (HB1.out.cell (World.block_lt_of_cell? w _ h0)).trans h0
 have f1 : w1.cell? ⟨rB, 1, none⟩ = some (.int .i64 (left : Int)) := (HB1.out.cell (World.block_lt_of_cell? w _ h1)).trans h1
 have f2 : w1.cell? (ad.add v) = some (.int .i64 (x : Int)) := (HB1.out.cell (World.block_lt_of_cell? w _ hgx)).trans hgx
 have f0d : w1.drew.cell? ⟨rB, 0, none⟩ = some (.slice (some ad) J.length c) := f0
 have f1d : w1.drew.cell? ⟨rB, 1, none⟩ = some (.int .i64 (left : Int)) := f1
 have f2d : w1.drew.cell? (ad.add v) = some (.int .i64 (x : Int)) := f2
 have fBd : Below w1.heap.size w1 w1.drew := below_drew (Below.refl _ _)
 have CND : Aside0 (∀ W, (W.cell? ⟨rB, 0, none⟩ = some (.slice (some ad) J.length c) ∧ W.cell? ⟨rB, 1, none⟩ = some (.int .i64 (left : Int)) ∧ W.cell? (ad.add v) = some (.int .i64 (x : Int)) ∧ Below w1.heap.size w1 W) → Calls Tryd.prog 69 #[.int .i64 (q : Int)] W fun e w' => ∃ A cq, e = .returned (.slice A L.length cq) ∧ Kd.C (Kd.int .i64) w' A L.length (gi L) ∧ (w'.cell? ⟨rB, 0, none⟩ = some (.slice (some ad) J.length c) ∧ w'.cell? ⟨rB, 1, none⟩ = some (.int .i64 (left : Int)) ∧ w'.cell? (ad.add v) = some (.int .i64 (x : Int)) ∧ Below w1.heap.size w1 w')) := ⟨by
  rintro W ⟨s0, s1, s2, s3⟩
  obtain ⟨K, hK⟩ := nodes_ev q hq5
  refine (minor_nodes.calls K (q : Int) _ W (GL_below HGL.out (below_step HB1.out s3)) (hK K (Nat.le_refl _))).mono ?_
  rintro e w' ⟨u, rfl, hu, hb⟩
  obtain ⟨A, cq, eu, hc, hC⟩ := Kd.R_reads hu
  rw [hL, gi_length] at eu hC
  subst eu
  exact ⟨A, cq, rfl, hC, (hb.cell (World.block_lt_of_cell? W _ s0)).trans s0, (hb.cell (World.block_lt_of_cell? W _ s1)).trans s1, (hb.cell (World.block_lt_of_cell? W _ s2)).trans s2, below_step s3 hb⟩⟩
 clear hr hGL hL hq5 hJ
 go_enter Tryd.func79, Tryd.ntmps79
 go_wp2
 rw [← hw1]
 clear hw1
 refine start_ (n := 14) (S := fun w' => w'.cell? ⟨rB, 0, none⟩ = some (.slice (some ad) J.length c) ∧ w'.cell? ⟨rB, 1, none⟩ = some (.int .i64 (left : Int)) ∧ w'.cell? (ad.add v) = some (.int .i64 (x : Int)) ∧ Below w1.heap.size w1 w') (ds := []) (Qbz 14 0) (by kernel_rfl) rfl rfl ⟨f0d, f1d, f2d, fBd⟩ (fun hHeld => ?_)
 refine pure_ (i := 0) (N := some 8) (v := ?_) (a' := ?_) (Qbz 14 1) rfl rfl (by kernel_rfl) (fun _ _ _ h => h) (Or.inl ⟨by rfl, ?_⟩) ?_ ?_
 rotate_left
 ·intro w'
  go_simp
  with_reducible rfl
 rotate_left
 ·simp only [Act.put, Qp1, Qp2, Qp3, i64_w, i32_w]
  rfl
 refine pure_ (i := 1) (N := some 9) (v := ?_) (a' := ?_) (Qbz 14 3) rfl rfl (by kernel_rfl) (fun _ _ _ h => h) (Or.inl ⟨by rfl, ?_⟩) ?_ ?_
 rotate_left
 ·intro w'
  go_simp
  with_reducible rfl
 rotate_left
 ·simp only [Act.put, Qp1, Qp2, Qp3, i64_w, i32_w]
  rfl
 refine pure_ (i := 2) (N := some 10) (v := ?_) (a' := ?_) (Qbz 14 7) rfl rfl (by kernel_rfl) (fun _ _ _ h => h) (Or.inl ⟨by rfl, ?_⟩) ?_ ?_
 rotate_left
 ·intro w'
  go_simp
  with_reducible rfl
 rotate_left
 ·simp only [Act.put, Qp1, Qp2, Qp3, i64_w, i32_w]
  rfl
 refine pure_ (i := 4) (N := some 12) (v := ?_) (a' := ?_) (Qbz 14 23) rfl rfl (by kernel_rfl) (fun _ _ _ h => h) (Or.inl ⟨by rfl, ?_⟩) ?_ ?_
 rotate_left
 ·intro w'
  go_simp
  with_reducible rfl
 rotate_left
 ·simp only [Act.put, Qp1, Qp2, Qp3, i64_w, i32_w]
  rfl
 refine pure_ (i := 7) (N := some 15) (v := ?_) (a' := ?_) (Qbz 14 151) rfl rfl (by kernel_rfl) (fun _ _ _ h => h) (Or.inl ⟨by rfl, ?_⟩) ?_ ?_
 rotate_left
 ·intro w'
  go_simp
  with_reducible rfl
 rotate_left
 ·simp only [Act.put, Qp1, Qp2, Qp3, i64_w, i32_w]
  rfl
 refine pure_ (i := 8) (N := some 16) (v := ?_) (a' := ?_) (Qbz 14 407) rfl rfl (by kernel_rfl) (fun _ _ _ h => h) (Or.inl ⟨by rfl, ?_⟩) ?_ ?_
 rotate_left
 ·intro w'
  go_simp
  with_reducible rfl
 rotate_left
 ·simp only [Act.put, Qp1, Qp2, Qp3, i64_w, i32_w]
  rfl
 refine pure_ (i := 9) (N := some 17) (v := ?_) (a' := ?_) (Qbz 14 919) rfl rfl (by kernel_rfl) (fun _ _ _ h => h) (Or.inl ⟨by rfl, ?_⟩) ?_ ?_
 rotate_left
 ·intro w'
  go_simp
  with_reducible rfl
 rotate_left
 ·simp only [Act.put, Qp1, Qp2, Qp3, i64_w, i32_w]
  rfl
 refine take_ (i := 3) (N := some 11) (v := ?_) (a' := ?_) (Qbz 14 927) rfl rfl (by kernel_rfl) (fun _ _ _ h => h) (Or.inl ⟨by rfl, ?_⟩) hHeld ?_ ?_
 rotate_left
 ·rintro w' ⟨s0, s1, s2, s3⟩
  go_simp
  with_reducible rfl
 rotate_left
 ·simp only [Act.put, Qp1, Qp2, Qp3, i64_w, i32_w]
  rfl
 refine pure_ (i := 5) (N := some 13) (v := ?_) (a' := ?_) (Qbz 14 959) rfl rfl (by kernel_rfl) (fun _ _ _ h => h) (Or.inl ⟨by rfl, ?_⟩) ?_ ?_
 rotate_left
 ·intro w'
  go_simp
  with_reducible rfl
 rotate_left
 ·simp only [Act.put, Qp1, Qp2, Qp3, i64_w, i32_w]
  rfl
 refine take_ (i := 6) (N := some 14) (v := ?_) (a' := ?_) (Qbz 14 1023) rfl rfl (by kernel_rfl) (fun _ _ _ h => h) (Or.inl ⟨by rfl, ?_⟩) hHeld ?_ ?_
 rotate_left
 ·rintro w' ⟨s0, s1, s2, s3⟩
  go_simp
  with_reducible rfl
 rotate_left
 ·simp only [Act.put, Qp1, Qp2, Qp3, i64_w, i32_w]
  rfl
 refine take_ (i := 10) (N := some 18) (v := ?_) (a' := ?_) (Qbz 14 2047) rfl rfl (by kernel_rfl) (fun _ _ _ h => h) (Or.inl ⟨by rfl, ?_⟩) hHeld ?_ ?_
 rotate_left
 ·rintro w' ⟨s0, s1, s2, s3⟩
  go_simp
  with_reducible rfl
 rotate_left
 ·simp only [Act.put, Qp1, Qp2, Qp3, i64_w, i32_w]
  rfl
 refine pure_ (i := 11) (N := some 19) (v := ?_) (a' := ?_) (Qbz 14 4095) rfl rfl (by kernel_rfl) (fun _ _ _ h => h) (Or.inl ⟨by rfl, ?_⟩) ?_ ?_
 rotate_left
 ·intro w'
  go_simp
  with_reducible rfl
 rotate_left
 ·simp only [Act.put, Qp1, Qp2, Qp3, i64_w, i32_w]
  rfl
 refine one_ (i := 12) (N := some 20) (Qbz 14 8191) rfl rfl (by kernel_rfl) (by decide) (fun K hK => ?_)
 refine goes_ Tryd.func69 (by kernel_rfl) rfl #[.int .i64 (q : Int)] (by rfl) rfl rfl (by simp only [List.map_toArray, List.map_cons, List.map_nil]; rfl) ?_
 with_reducible refine (CND.out _ hHeld).mono ?_
 rintro e w3 ⟨A5, c5, rfl, hC5, g0, g1, g2, gB⟩
 refine ⟨_, rfl, ?_⟩
 refine hK.out _ _ ⟨g0, g1, g2, gB⟩ (fun hHeld => ?_)
 clear hK K
 refine norm_ (a' := ?_) ?_ ?_
 rotate_left
 ·show Act.put _ (some 20) _ = _
  simp only [Act.put, Qp1, Qp2, Qp3, i64_w, i32_w]
  rfl
 refine pure_ (i := 13) (N := some 6) (v := ?_) (a' := ?_) (Qbz 14 16383) rfl rfl (by kernel_rfl) (fun _ _ _ h => h) (Or.inl ⟨by rfl, ?_⟩) ?_ ?_
 rotate_left
 ·intro w'
  go_simp
  with_reducible rfl
 rotate_left
 ·simp only [Act.put, Qp1, Qp2, Qp3, i64_w, i32_w]
  rfl
 refine done_ (by kernel_rfl) ?_
 have HB3 := Aside0.mk (below_step HB1.out gB)
 have hb3 := blk_below HBK.out gB
 obtain ⟨z, hz⟩ : ∃ z, L.length = z := ⟨_, rfl⟩
 rw [hz] at hC5 ⊢
 have HC5 := Aside0.mk hC5
 clear gB hHeld g0 g1 g2 f0 f1 f2 f0d f1d f2d fBd CND h0 h1 hgx HBK hC5
 rcases L with _ | ⟨a, _ | ⟨b, _ | ⟨d, r⟩⟩⟩
 ·obtain rfl : z = 0 := hz.symm
  have hb4 := blk_alloc hb3 (.cells #[.int .i64 (0), .int .i64 (v : Int), .int .i64 (-1), .int .i64 (-1)] 95)
  obtain ⟨⟨q1, q2⟩, ⟨q3, q4⟩, ⟨q5, q6⟩, ⟨q7, q8⟩, hb9⟩ := four_facts hb4 (.int .i64 (0)) (.int .i64 (v : Int)) (.int .i64 (-1)) (.int .i64 (-1))
  go_wp2
  refine bodyPost_ret (results_ct rfl _ _ w.heap.size 95 #[.int .i64 (0), .int .i64 (v : Int), .int .i64 (-1), .int .i64 (-1)] (0, 0) _ rfl hb9 Tryd.underlying95 rfl (by kernel_rfl)) rfl ?_
  exact ⟨rfl, below_four (below_alloc HB3.out _) (by omega) _ _ _ _⟩
 ·obtain rfl : z = 1 := hz.symm
  obtain ⟨a5, e5, hx5⟩ := Kd.at_int HC5.out 0 (by omega) (by simp)
  subst e5
  have hx5' : w3.cell? a5 = some (.int .i64 (a : Int)) := by have h := hx5; rw [show (0 : Int).toNat = 0 from rfl, add0] at h; exact h
  have hal := below_alloc (Below.refl w3.heap.size w3) (.cells #[.int .i64 1, .int .i64 (v : Int), .int .i64 (-1), .int .i64 (-1)] 95)
  have hx6 : (w3.alloc (.cells #[.int .i64 1, .int .i64 (v : Int), .int .i64 (-1), .int .i64 (-1)] 95)).cell? a5 = some (.int .i64 (a : Int)) := (hal.cell (World.block_lt_of_cell? w3 _ hx5')).trans hx5'
  clear hal hx5 hx5'
  have hb4 := blk_alloc hb3 (.cells #[.int .i64 (1), .int .i64 (v : Int), .int .i64 (a), .int .i64 (-1)] 95)
  obtain ⟨⟨q1, q2⟩, ⟨q3, q4⟩, ⟨q5, q6⟩, ⟨q7, q8⟩, hb9⟩ := four_facts hb4 (.int .i64 (1)) (.int .i64 (v : Int)) (.int .i64 (a)) (.int .i64 (-1))
  go_wp2
  refine bodyPost_ret (results_ct rfl _ _ w.heap.size 95 #[.int .i64 (1), .int .i64 (v : Int), .int .i64 (a), .int .i64 (-1)] (0, 0) _ rfl hb9 Tryd.underlying95 rfl (by kernel_rfl)) rfl ?_
  exact ⟨rfl, below_four (below_alloc HB3.out _) (by omega) _ _ _ _⟩
 ·obtain rfl : z = 2 := hz.symm
  obtain ⟨a5, e5, hx5⟩ := Kd.at_int HC5.out 0 (by omega) (by simp)
  obtain ⟨a6, e6, hx7⟩ := Kd.at_int HC5.out 1 (by omega) (by simp)
  rw [e5] at e6
  obtain rfl : a5 = a6 := Option.some.inj e6
  subst e5
  have hx5' : w3.cell? a5 = some (.int .i64 (a : Int)) := by have h := hx5; rw [show (0 : Int).toNat = 0 from rfl, add0] at h; exact h
  have hx7' : w3.cell? ⟨a5.block, a5.off + 1, none⟩ = some (.int .i64 (b : Int)) := hx7
  have hbl5 := World.block_lt_of_cell? w3 _ hx5'
  have hbl7 := World.block_lt_of_cell? w3 _ hx7'
  have hal := below_alloc (Below.refl w3.heap.size w3) (.cells #[.int .i64 2, .int .i64 (v : Int), .int .i64 (-1), .int .i64 (-1)] 95)
  obtain ⟨w4, hw4⟩ : ∃ w4 : World, w4 = w3.alloc (.cells #[.int .i64 2, .int .i64 (v : Int), .int .i64 (-1), .int .i64 (-1)] 95) := ⟨_, rfl⟩
  rw [← hw4] at hal
  have ht4 : w4.heap[w3.heap.size]? = some (.cells #[.int .i64 2, .int .i64 (v : Int), .int .i64 (-1), .int .i64 (-1)] 95 (0, 0)) := by rw [hw4]; exact blk_new w3 _
  have hb4 : w4.heap[w.heap.size]? = some (.cells #[.int .i64 0, .int .i64 0, .int .i64 0, .int .i64 0] 95 (0, 0)) := by rw [hw4]; exact blk_alloc hb3 _
  have HB4 := Aside0.mk (below_step HB3.out hal)
  obtain ⟨tB, htB⟩ : ∃ tB, tB = w3.heap.size := ⟨_, rfl⟩
  rw [← htB] at ht4 hbl5 hbl7
  have hne : w.heap.size ≠ tB := by have := blk_lt hb3; omega
  have n0d : w4.drew.cell? a5 = some (.int .i64 (a : Int)) := (hal.cell (by rw [← htB]; exact hbl5)).trans hx5'
  have n1d : w4.drew.cell? ⟨a5.block, a5.off + 1, none⟩ = some (.int .i64 (b : Int)) := (hal.cell (by rw [← htB]; exact hbl7)).trans hx7'
  have hk : ∀ (W : World) (d : Addr), d.block < tB → ∀ (j : Nat) (u : Value), (W.setCell ⟨tB, j, none⟩ u).cell? d = W.cell? d := fun W d hd j u => by
   have := Below.heap_setCell W ⟨tB, j, none⟩ u d.block (show d.block ≠ tB by omega)
   simp only [World.cell?, this]
  have n0e : (w4.setCell ⟨tB, 2, none⟩ (.int .i64 (a : Int))).drew.cell? a5 = some (.int .i64 (a : Int)) := (hk w4 _ hbl5 _ _).trans n0d
  have n1e : (w4.setCell ⟨tB, 2, none⟩ (.int .i64 (a : Int))).drew.cell? ⟨a5.block, a5.off + 1, none⟩ = some (.int .i64 (b : Int)) := (hk w4 _ hbl7 _ _).trans n1d
  have hs1 : w4.cell? ⟨tB, 2, none⟩ = some (.int .i64 (-1)) := (blk_cell ht4 2).trans rfl
  have hs2 : w4.frozen? ⟨tB, 2, none⟩ = false := blk_frozen ht4 2
  have hs1d : w4.drew.cell? ⟨tB, 2, none⟩ = some (.int .i64 (-1)) := hs1
  have hs2d : w4.drew.frozen? ⟨tB, 2, none⟩ = false := hs2
  have ht5 : (w4.setCell ⟨tB, 2, none⟩ (.int .i64 (a : Int))).heap[tB]? = some (.cells #[.int .i64 2, .int .i64 (v : Int), .int .i64 (a : Int), .int .i64 (-1)] 95 (0, 0)) := blk_put ht4 2 _ rfl
  have hs3 : (w4.setCell ⟨tB, 2, none⟩ (.int .i64 (a : Int))).cell? ⟨tB, 3, none⟩ = some (.int .i64 (-1)) := (blk_cell ht5 3).trans rfl
  have hs4 : (w4.setCell ⟨tB, 2, none⟩ (.int .i64 (a : Int))).frozen? ⟨tB, 3, none⟩ = false := blk_frozen ht5 3
  have hs3d : (w4.setCell ⟨tB, 2, none⟩ (.int .i64 (a : Int))).drew.cell? ⟨tB, 3, none⟩ = some (.int .i64 (-1)) := hs3
  have hs4d : (w4.setCell ⟨tB, 2, none⟩ (.int .i64 (a : Int))).drew.frozen? ⟨tB, 3, none⟩ = false := hs4
  have HT6 : Aside0 (((w4.setCell ⟨tB, 2, none⟩ (.int .i64 (a : Int))).setCell ⟨tB, 3, none⟩ (.int .i64 (b : Int))).heap[tB]? = some (.cells #[.int .i64 2, .int .i64 (v : Int), .int .i64 (a : Int), .int .i64 (b : Int)] 95 (0, 0))) := ⟨blk_put ht5 3 _ rfl⟩
  have HB6 : Aside0 (((w4.setCell ⟨tB, 2, none⟩ (.int .i64 (a : Int))).setCell ⟨tB, 3, none⟩ (.int .i64 (b : Int))).heap[w.heap.size]? = some (.cells #[.int .i64 0, .int .i64 0, .int .i64 0, .int .i64 0] 95 (0, 0))) := ⟨blk_far (p := ⟨tB, 3, none⟩) (blk_far (p := ⟨tB, 2, none⟩) hb4 hne _) hne _⟩
  have HTB : Aside0 (w.heap.size ≤ tB) := ⟨by rw [htB]; exact HB3.out.size⟩
  clear ht5 ht4 hb4 hk hal hbl5 hbl7 hx5 hx7 hx5' hx7' hb3
  go_wp2
  rw [← hw4, ← htB]
  clear hw4 htB
  refine start_ (n := 10) (S := fun w' => w'.cell? a5 = some (.int .i64 (a : Int)) ∧ w'.cell? ⟨a5.block, a5.off + 1, none⟩ = some (.int .i64 (b : Int))) (ds := [9]) (Qbz 10 0) (by kernel_rfl) rfl rfl ⟨n0d, n1d⟩ (fun hHeld => ?_)
  refine pure_ (i := 0) (N := some 35) (v := ?_) (a' := ?_) (Qbz 10 1) rfl rfl (by kernel_rfl) (fun _ _ _ h => h) (Or.inl ⟨by rfl, ?_⟩) ?_ ?_
  rotate_left
  ·intro w'
   go_simp
   with_reducible rfl
  rotate_left
  ·simp only [Act.put, Qp1, Qp2, Qp3, i64_w, i32_w]
   rfl
  refine pure_ (i := 1) (N := some 36) (v := ?_) (a' := ?_) (Qbz 10 3) rfl rfl (by kernel_rfl) (fun _ _ _ h => h) (Or.inl ⟨by rfl, ?_⟩) ?_ ?_
  rotate_left
  ·intro w'
   go_simp
   with_reducible rfl
  rotate_left
  ·simp only [Act.put, Qp1, Qp2, Qp3, i64_w, i32_w]
   rfl
  refine pure_ (i := 3) (N := some 38) (v := ?_) (a' := ?_) (Qbz 10 11) rfl rfl (by kernel_rfl) (fun _ _ _ h => h) (Or.inl ⟨by rfl, ?_⟩) ?_ ?_
  rotate_left
  ·intro w'
   go_simp
   with_reducible rfl
  rotate_left
  ·simp only [Act.put, Qp1, Qp2, Qp3, i64_w, i32_w]
   rfl
  refine pure_ (i := 4) (N := some 39) (v := ?_) (a' := ?_) (Qbz 10 27) rfl rfl (by kernel_rfl) (fun _ _ _ h => h) (Or.inl ⟨by rfl, ?_⟩) ?_ ?_
  rotate_left
  ·intro w'
   go_simp
   with_reducible rfl
  rotate_left
  ·simp only [Act.put, Qp1, Qp2, Qp3, i64_w, i32_w]
   rfl
  refine take_ (i := 2) (N := some 37) (v := ?_) (a' := ?_) (Qbz 10 31) rfl rfl (by kernel_rfl) (fun _ _ _ h => h) (Or.inl ⟨by rfl, ?_⟩) hHeld ?_ ?_
  rotate_left
  ·rintro w' ⟨s0, s1⟩
   go_simp
   with_reducible rfl
  rotate_left
  ·simp only [Act.put, Qp1, Qp2, Qp3, i64_w, i32_w]
   rfl
  refine pure_ (i := 6) (N := some 41) (v := ?_) (a' := ?_) (Qbz 10 95) rfl rfl (by kernel_rfl) (fun _ _ _ h => h) (Or.inl ⟨by rfl, ?_⟩) ?_ ?_
  rotate_left
  ·intro w'
   go_simp
   with_reducible rfl
  rotate_left
  ·simp only [Act.put, Qp1, Qp2, Qp3, i64_w, i32_w]
   rfl
  refine take_ (i := 5) (N := some 40) (v := ?_) (a' := ?_) (Qbz 10 127) rfl rfl (by kernel_rfl) (fun _ _ _ h => h) (Or.inl ⟨by rfl, ?_⟩) hHeld ?_ ?_
  rotate_left
  ·rintro w' ⟨s0, s1⟩
   go_simp
   with_reducible rfl
  rotate_left
  ·simp only [Act.put, Qp1, Qp2, Qp3, i64_w, i32_w]
   rfl
  refine one_ (i := 7) (N := none) (Qbz 10 255) rfl rfl (by kernel_rfl) (by decide) (fun K hK => ?_)
  refine skip_ (w1 := ?_) (by rfl) rfl ?_ ?_
  rotate_left
  ·go_simp
   rfl
  refine hK.out _ _ ⟨n0e, n1e⟩ (fun hHeld => ?_)
  clear hK K
  refine pure_ (i := 8) (N := some 42) (v := ?_) (a' := ?_) (Qbz 10 511) rfl rfl (by kernel_rfl) (fun _ _ _ h => h) (Or.inl ⟨by rfl, ?_⟩) ?_ ?_
  rotate_left
  ·intro w'
   go_simp
   with_reducible rfl
  rotate_left
  ·simp only [Act.put, Qp1, Qp2, Qp3, i64_w, i32_w]
   rfl
  refine last_ (i := 9) (N := none) (Qbz 10 1023) rfl rfl (by kernel_rfl) (by decide) (fun K hK => ?_)
  refine skip_ (w1 := ?_) (by rfl) rfl ?_ ?_
  rotate_left
  ·go_simp
   rfl
  refine hK.out _ _ ?_
  clear hK K
  refine done_ (by kernel_rfl) ?_
  obtain ⟨w7, hw7⟩ : ∃ w7 : World, w7 = ((w4.setCell ⟨tB, 2, none⟩ (.int .i64 (a : Int))).setCell ⟨tB, 3, none⟩ (.int .i64 (b : Int))).drew := ⟨_, rfl⟩
  rw [← hw7]
  have ht6 : w7.heap[tB]? = some (.cells #[.int .i64 2, .int .i64 (v : Int), .int .i64 (a : Int), .int .i64 (b : Int)] 95 (0, 0)) := by rw [hw7]; exact HT6.out
  have hb6 : w7.heap[w.heap.size]? = some (.cells #[.int .i64 0, .int .i64 0, .int .i64 0, .int .i64 0] 95 (0, 0)) := by rw [hw7]; exact HB6.out
  have HB7 : Aside0 (Below w.heap.size w w7) := ⟨by rw [hw7]; exact (below_set (below_set HB4.out HTB.out) HTB.out).drew⟩
  obtain ⟨r0, r1, r2, r3⟩ := four_reads ht6
  obtain ⟨⟨q1, q2⟩, ⟨q3, q4⟩, ⟨q5, q6⟩, ⟨q7, q8⟩, hb9⟩ := four_facts hb6 (.int .i64 2) (.int .i64 (v : Int)) (.int .i64 (a : Int)) (.int .i64 (b : Int))
  have hne7 : ∀ (W : World) (i j : Nat) (u : Value), (W.setCell ⟨w.heap.size, i, none⟩ u).cell? ⟨tB, j, none⟩ = W.cell? ⟨tB, j, none⟩ := fun W i j u => by
   have := Below.heap_setCell W ⟨w.heap.size, i, none⟩ u tB (fun e => hne e.symm)
   simp only [World.cell?, this]
  clear hw7 n0d n1d n0e n1e hs1 hs2 hs1d hs2d hs3 hs4 hs3d hs4d hne7
  go_wp2
  refine bodyPost_ret (results_ct rfl _ _ w.heap.size 95 #[.int .i64 2, .int .i64 (v : Int), .int .i64 (a : Int), .int .i64 (b : Int)] (0, 0) _ rfl hb9 Tryd.underlying95 rfl (by kernel_rfl)) rfl ?_
  exact ⟨rfl, below_four HB7.out (by omega) _ _ _ _⟩
 ·have hz3 : 3 ≤ z := by rw [← hz]; simp
  have hl3 : ((z : Int) == 1) = false := by rw [beq_eq_false_iff_ne]; omega
  have hl4 : ((z : Int) == 2) = false := by rw [beq_eq_false_iff_ne]; omega
  have hl5 : decide ((z : Int) ≤ 2) = false := decide_eq_false (by omega)
  have hl6 : decide (z ≤ 2) = false := decide_eq_false (by omega)
  have HZ := Aside0.mk hz
  clear hz
  have hb4 := blk_alloc hb3 (.cells #[.int .i64 (z), .int .i64 (v : Int), .int .i64 (-1), .int .i64 (-1)] 95)
  obtain ⟨⟨q1, q2⟩, ⟨q3, q4⟩, ⟨q5, q6⟩, ⟨q7, q8⟩, hb9⟩ := four_facts hb4 (.int .i64 (z)) (.int .i64 (v : Int)) (.int .i64 (-1)) (.int .i64 (-1))
  go_wp2
  refine bodyPost_ret (results_ct rfl _ _ w.heap.size 95 #[.int .i64 (z), .int .i64 (v : Int), .int .i64 (-1), .int .i64 (-1)] (0, 0) _ rfl hb9 Tryd.underlying95 rfl (by kernel_rfl)) rfl ?_
  refine ⟨?_, below_four (below_alloc HB3.out _) (by omega) _ _ _ _⟩
  rw [HZ.out, hl6]
  rfl
end Go.Proofs.YtjloppfdagfpmaaDoor.X
end
