/- Part 1 of what MinorSeries rests on: contracts of the functions that it reaches, and what they compute, in plain words. -/
import Derived.Test.YtjloppfdagfpmaaDoorZMinorSeries0
import Derived.WalkSpells
set_option linter.unusedVariables false
set_option linter.unusedSimpArgs false
section
namespace Go.Proofs.YtjloppfdagfpmaaDoor.X
open Go.RowKit YtjloppfdagfpmaaDoorW.PrintWords YtjloppfdagfpmaaDoorW.PrintLast YtjloppfdagfpmaaDoorW.PrintMore
attribute [local go_sem] max2_int min2_int max_two min_two max_three min_three max_four min_four
/-! ### slices_Equal_int_int: function 27 -/
def slices_Equal_int_int.l0 : Nat → List Int → List Int → Int → Int → Option (Bool)
 | 0, _, _, _, _ => none
 | k + 1, x0, x1, x12, x13 => if x13 < x12 then (if 0 ≤ x13 then (if x13 < (x0.length : Int) then (if x13 < (x1.length : Int) then (if (rd x0 x13) = (rd x1 x13) then (slices_Equal_int_int.l0 k x0 x1 x12 (wrap64 (x13 + 1))) else (some false)) else (none)) else (none)) else (none)) else (some true)
def slices_Equal_int_int.f (k : Nat) (l0 : List Int) (l1 : List Int) : Option (Bool) := if (l0.length : Int) = (l1.length : Int) then (slices_Equal_int_int.l0 k l0 l1 (l0.length : Int) 0) else (some false)
theorem slices_Equal_int_int.mono_l : ∀ k, (∀ y0 y1 y2 y3, LeO (slices_Equal_int_int.l0 k y0 y1 y2 y3) (slices_Equal_int_int.l0 (k + 1) y0 y1 y2 y3))
 | 0 => fun _ _ _ _ r h => by simp [slices_Equal_int_int.l0] at h
 | k + 1 => by
  have ih0 := slices_Equal_int_int.mono_l k
  ·intro y0 y1 y2 y3
   unfold slices_Equal_int_int.l0
   repeat' first
   | (with_reducible exact ih0 _ _ _ _)
   | (with_reducible exact LeO.refl _)
   | (with_reducible exact LeO.none _)
   | (with_reducible refine LeO.ite ?_ ?_)
   | (with_reducible refine LeO.bind ?_ (fun _ => ?_))
   | exact ih0 _ _ _ _
   | exact LeO.none _
   | refine LeO.ite ?_ ?_
   | refine LeO.bind ?_ (fun _ => ?_)
theorem slices_Equal_int_int.mono : ∀ a0 a1 k, LeO (slices_Equal_int_int.f k a0 a1) (slices_Equal_int_int.f (k + 1) a0 a1) := by
 intro a0 a1 k
 have ih0 := slices_Equal_int_int.mono_l k
 unfold slices_Equal_int_int.f
 repeat' first
   | (with_reducible exact ih0 _ _ _ _)
   | (with_reducible exact LeO.refl _)
   | (with_reducible exact LeO.none _)
   | (with_reducible refine LeO.ite ?_ ?_)
   | (with_reducible refine LeO.bind ?_ (fun _ => ?_))
   | exact ih0 _ _ _ _
   | exact LeO.none _
   | refine LeO.ite ?_ ?_
   | refine LeO.bind ?_ (fun _ => ?_)
set_option maxHeartbeats 8000000 in
set_option maxRecDepth 100000 in
theorem slices_Equal_int_int.calls (k : Nat) (A0 : Option Addr) (c0 : Nat) (l0 : List Int) (A1 : Option Addr) (c1 : Nat) (l1 : List Int) (r : Bool) (w : World) (hr0 : Kd.C (Kd.int .i64) w A0 l0.length l0) (hc0 : l0.length ≤ c0) (hr1 : Kd.C (Kd.int .i64) w A1 l1.length l1) (hc1 : l1.length ≤ c1) (h : slices_Equal_int_int.f k l0 l1 = some r) :
  Calls Tryd.prog 27 #[.slice A0 l0.length c0, .slice A1 l1.length c1] w fun e w' => e = .returned (.bool r) ∧ Drawn0 w w' := by
 have HR0 := Aside0.mk hr0
 have HC0 := Aside0.mk hc0
 clear hr0 hc0
 have HR1 := Aside0.mk hr1
 have HC1 := Aside0.mk hc1
 clear hr1 hc1
 have H : (if (l0.length : Int) = (l1.length : Int) then (slices_Equal_int_int.l0 k l0 l1 (l0.length : Int) 0) else (some false)) = some r := h
 clear h
 by_cases c3 : (l0.length : Int) = (l1.length : Int)
 ·rw [if_pos c3] at H
  have c3b0 : ((l0.length : Int) == (l1.length : Int)) = true := beq_iff_eq.mpr c3
  have c3b1 : ((l0.length : Int) != (l1.length : Int)) = false := bne_eq_false_iff_eq.mpr c3
  have c3b2 : (l0.length == l1.length) = true := by first | simpa using c3 | (simp at c3 ⊢; omega)
  clear c3
  have H' := Aside0.mk H
  clear H
  go_enter Tryd.func27, Tryd.ntmps27
  go_wp2
  repeat (go_quiet (fail); try go_wp2)
  go_loopg [13] k (fun kq v13 w' => ∃ (x13_1 : Int), v13 = .int .i64 x13_1 ∧ Aside0 (slices_Equal_int_int.l0 kq l0 l1 (l0.length : Int) x13_1 = some r) ∧ Aside0 (kq ≤ k) ∧ Drawn0 w w')
  case atStart => exact ⟨(0), (by first | rfl | (simp; done) | (simp [*]; done)), H', ⟨Nat.le_refl _⟩, by repeat (first | exact Drawn0.refl _ | apply Drawn0.step)⟩
  case round =>
   clear H'
   try clear c1
   try clear c2
   try clear p2
   try clear c3
   try clear c3b0
   try clear c3b1
   try clear c3b2
   obtain ⟨x13_1, rfl, HA, HK1, ⟨m1, rfl⟩⟩ := hrel
   cases gk with
   | zero => exact absurd HA.out (by simp [slices_Equal_int_int.l0])
   | succ k1 =>
    have H := HA.out
    clear HA
    simp only [slices_Equal_int_int.l0] at H
    by_cases c4 : x13_1 < (l0.length : Int)
    ·rw [if_pos c4] at H
     have c4b0 : decide (x13_1 < (l0.length : Int)) = true := decide_eq_true c4
     clear c4
     by_cases c5 : 0 ≤ x13_1
     ·rw [if_pos c5] at H
      have c5b0 : decide (0 ≤ x13_1) = true := decide_eq_true c5
      clear c5
      by_cases c6 : x13_1 < (l0.length : Int)
      ·rw [if_pos c6] at H
       have c6b0 : decide (x13_1 < (l0.length : Int)) = true := decide_eq_true c6
       clear c6
       by_cases c7 : x13_1 < (l1.length : Int)
       ·rw [if_pos c7] at H
        have c7b0 : decide (x13_1 < (l1.length : Int)) = true := decide_eq_true c7
        clear c7
        by_cases c8 : (rd l0 x13_1) = (rd l1 x13_1)
        ·rw [if_pos c8] at H
         have c8b0 : ((rd l0 x13_1) == (rd l1 x13_1)) = true := beq_iff_eq.mpr c8
         have c8b1 : ((rd l0 x13_1) != (rd l1 x13_1)) = false := bne_eq_false_iff_eq.mpr c8
         clear c8
         have H' := Aside0.mk H
         clear H
         have p127 : 0 ≤ (x13_1 : Int) := of_decide_eq_true (by first | (with_reducible assumption) | assumption)
         have q127 : x13_1 < (l0.length : Int) := of_decide_eq_true (by first | (with_reducible assumption) | assumption)
         obtain ⟨ad127, e127, hx127_0⟩ := Kd.at_int HR0.out x13_1 p127 q127
         cases e127
         replace p127 := eq_true p127
         replace q127 := eq_true q127
         have p128 : 0 ≤ (x13_1 : Int) := of_decide_eq_true (by first | (with_reducible assumption) | assumption)
         have q128 : x13_1 < (l1.length : Int) := of_decide_eq_true (by first | (with_reducible assumption) | assumption)
         obtain ⟨ad128, e128, hx128_0⟩ := Kd.at_int HR1.out x13_1 p128 q128
         cases e128
         replace p128 := eq_true p128
         replace q128 := eq_true q128
         go_wp2
         repeat (go_quiet (fail); try go_wp2)
         go_roundg k1
         case measure => have := HK1.out; omega
         case rel => exact ⟨(wrap64 (x13_1 + 1)), (by first | rfl | (simp; done) | (simp [*]; done)), H', ⟨by have := HK1.out; omega⟩, by repeat (first | exact Drawn0.refl _ | apply Drawn0.step)⟩
        ·rw [if_neg c8] at H
         have c8b0 : ((rd l0 x13_1) == (rd l1 x13_1)) = false := beq_eq_false_iff_ne.mpr c8
         have c8b1 : ((rd l0 x13_1) != (rd l1 x13_1)) = true := bne_iff_ne.mpr c8
         obtain rfl := Option.some.inj H
         have p127 : 0 ≤ (x13_1 : Int) := of_decide_eq_true (by first | (with_reducible assumption) | assumption)
         have q127 : x13_1 < (l0.length : Int) := of_decide_eq_true (by first | (with_reducible assumption) | assumption)
         obtain ⟨ad127, e127, hx127_0⟩ := Kd.at_int HR0.out x13_1 p127 q127
         cases e127
         replace p127 := eq_true p127
         replace q127 := eq_true q127
         have p128 : 0 ≤ (x13_1 : Int) := of_decide_eq_true (by first | (with_reducible assumption) | assumption)
         have q128 : x13_1 < (l1.length : Int) := of_decide_eq_true (by first | (with_reducible assumption) | assumption)
         obtain ⟨ad128, e128, hx128_0⟩ := Kd.at_int HR1.out x13_1 p128 q128
         cases e128
         replace p128 := eq_true p128
         replace q128 := eq_true q128
         go_wp2
         repeat (go_quiet (fail); try go_wp2)
         go_ret
         exact ⟨by first | rfl | (simp; done) | (simp [*]; done), by repeat (first | exact Drawn0.refl _ | apply Drawn0.step)⟩
       ·rw [if_neg c7] at H
        exact absurd H (by simp)
      ·rw [if_neg c6] at H
       exact absurd H (by simp)
     ·rw [if_neg c5] at H
      exact absurd H (by simp)
    ·rw [if_neg c4] at H
     have c4b0 : decide (x13_1 < (l0.length : Int)) = false := decide_eq_false c4
     clear c4
     obtain rfl := Option.some.inj H
     go_wp2
     repeat (go_quiet (fail); try go_wp2)
     go_ret
     exact ⟨by first | rfl | (simp; done) | (simp [*]; done), by repeat (first | exact Drawn0.refl _ | apply Drawn0.step)⟩
 ·rw [if_neg c3] at H
  have c3b0 : ((l0.length : Int) == (l1.length : Int)) = false := beq_eq_false_iff_ne.mpr c3
  have c3b1 : ((l0.length : Int) != (l1.length : Int)) = true := bne_iff_ne.mpr c3
  have c3b2 : (l0.length == l1.length) = false := by first | simpa using c3 | (simp at c3 ⊢; omega)
  obtain rfl := Option.some.inj H
  go_enter Tryd.func27, Tryd.ntmps27
  go_wp2
  repeat (go_quiet (fail); try go_wp2)
  go_ret
  exact ⟨by first | rfl | (simp; done) | (simp [*]; done), by repeat (first | exact Drawn0.refl _ | apply Drawn0.step)⟩
end Go.Proofs.YtjloppfdagfpmaaDoor.X
end
section
namespace Go.Proofs.YtjloppfdagfpmaaDoor.X
open Go.RowKit YtjloppfdagfpmaaDoorW.PrintWords YtjloppfdagfpmaaDoorW.PrintLast YtjloppfdagfpmaaDoorW.PrintMore
attribute [local go_sem] max2_int min2_int max_two min_two max_three min_three max_four min_four
/-! ### lampblacklaw07_awake: function 17 -/
def lampblacklaw07_awake.f (k : Nat)  : Option (Bool) := (minor_Model.f (([2, 1] : List Int)) (([2, 1] : List Int))).bind fun bt135 => (if bt135.2 = 0 then ((slices_Equal_int_int.f k bt135.1 (([1, 2] : List Int))).bind fun t142 => (some t142)) else (some false))
theorem lampblacklaw07_awake.mono : ∀ k, LeO (lampblacklaw07_awake.f k ) (lampblacklaw07_awake.f (k + 1) ) := by
 intro  k
 unfold lampblacklaw07_awake.f
 repeat' first
   | (with_reducible exact slices_Equal_int_int.mono _ _ _)
   | (with_reducible exact LeO.refl _)
   | (with_reducible exact LeO.none _)
   | (with_reducible refine LeO.ite ?_ ?_)
   | (with_reducible refine LeO.bind ?_ (fun _ => ?_))
   | exact slices_Equal_int_int.mono _ _ _
   | exact LeO.none _
   | refine LeO.ite ?_ ?_
   | refine LeO.bind ?_ (fun _ => ?_)
set_option maxHeartbeats 8000000 in
set_option maxRecDepth 100000 in
theorem lampblacklaw07_awake.calls (k : Nat)  (r : Bool) (w : World) (hGL : GL w) (h : lampblacklaw07_awake.f k  = some r) :
  Calls Tryd.prog 17 #[] w fun e w' => e = .returned (.bool r) ∧ Below w.heap.size w w' := by
 have HGL := Aside0.mk hGL
 clear hGL
 have HB := Aside0.mk (Below.refl w.heap.size w)
 have H : ((minor_Model.f (([2, 1] : List Int)) (([2, 1] : List Int))).bind fun bt135 => (if bt135.2 = 0 then ((slices_Equal_int_int.f k bt135.1 (([1, 2] : List Int))).bind fun t142 => (some t142)) else (some false))) = some r := h
 clear h
 obtain ⟨y129, hy129⟩ : ∃ y_ : List Int, y_ = (([2, 1] : List Int)) := ⟨_, rfl⟩
 replace H : ((minor_Model.f y129 (([2, 1] : List Int))).bind fun bt135 => (if bt135.2 = 0 then ((slices_Equal_int_int.f k bt135.1 (([1, 2] : List Int))).bind fun t142 => (some t142)) else (some false))) = some r := by first | (rw [hy129]; with_reducible exact H) | (have H2_ := (Option.bind_some _ _).symm.trans H; rw [hy129]; with_reducible exact H2_) | (have H2_ := (Option.bind_some _ _).symm.trans H; with_reducible exact H2_) | with_reducible exact H | (rw [hy129]; exact H) | exact H
 have Ny129 := Aside0.mk hy129
 clear hy129
 obtain ⟨y132, hy132⟩ : ∃ y_ : List Int, y_ = (([2, 1] : List Int)) := ⟨_, rfl⟩
 replace H : ((minor_Model.f y129 y132).bind fun bt135 => (if bt135.2 = 0 then ((slices_Equal_int_int.f k bt135.1 (([1, 2] : List Int))).bind fun t142 => (some t142)) else (some false))) = some r := by first | (rw [hy132]; with_reducible exact H) | (have H2_ := (Option.bind_some _ _).symm.trans H; rw [hy132]; with_reducible exact H2_) | (have H2_ := (Option.bind_some _ _).symm.trans H; with_reducible exact H2_) | with_reducible exact H | (rw [hy132]; exact H) | exact H
 have Ny132 := Aside0.mk hy132
 clear hy132
 replace H := Option.bind_eq_some_iff.mp H
 obtain ⟨⟨t135, t136⟩, A10, H⟩ := H
 replace H : (if t136 = 0 then ((slices_Equal_int_int.f k t135 (([1, 2] : List Int))).bind fun t142 => (some t142)) else (some false)) = some r := H
 have A1 := Aside0.mk A10
 clear A10
 by_cases c2 : t136 = 0
 ·rw [if_pos c2] at H
  have c2b0 : (t136 == 0) = true := beq_iff_eq.mpr c2
  have c2b1 : (t136 != 0) = false := bne_eq_false_iff_eq.mpr c2
  clear c2
  obtain ⟨y139, hy139⟩ : ∃ y_ : List Int, y_ = (([1, 2] : List Int)) := ⟨_, rfl⟩
  replace H : ((slices_Equal_int_int.f k t135 y139).bind fun t142 => (some t142)) = some r := by first | (rw [hy139]; with_reducible exact H) | (have H2_ := (Option.bind_some _ _).symm.trans H; rw [hy139]; with_reducible exact H2_) | (have H2_ := (Option.bind_some _ _).symm.trans H; with_reducible exact H2_) | with_reducible exact H | (rw [hy139]; exact H) | exact H
  have Ny139 := Aside0.mk hy139
  clear hy139
  replace H := Option.bind_eq_some_iff.mp H
  obtain ⟨t142, A30, H⟩ := H
  replace H : (some t142) = some r := H
  have A3 := Aside0.mk A30
  clear A30
  obtain rfl := Option.some.inj H
  go_enter Tryd.func17, Tryd.ntmps17
  go_wp2_with (first | ((with_reducible refine gate_dst (N := 4) rfl ?_); (try (refine gate_guard (by rfl) ?_; dsimp only)); refine Kd.R_lit (Kd.int .i64) _ 3 ?hg (N := 4) ?hd (xs := ([2, 1] : List Int)) (inner := [.int .i64 2, .int .i64 1]) (ok := fun _ => True) (okp := fun _ => True) ?hr ?hp (fun _ hk => hk) trivial (Below.refl _ _) (Nat.le_refl _) (by simp) ?_; (case hd => rfl); (case hg => rfl); (case hr => first | (go_simp; done) | (go_simp; rfl)); (case hp => exact (Reps.one (show Kd.M (Kd.int .i64) _ _ _ 2 [.int .i64 2] from rfl) (Reps.one (show Kd.M (Kd.int .i64) _ _ _ 1 [.int .i64 1] from rfl) (Reps.none _ _)))); intro v130 w4 ho5 hb hg_ hnew_; clear hg_ hnew_; (first | rw [← Ny129.out] at ho5 | (simp only [Int.reduceToNat] at ho5; rw [← Ny129.out] at ho5)); have n0_ := Aside0.mk (Kd.R_lower ho5 (below_size (Qaw))); have n1_ := Aside0.mk (below_step (Qaw) hb); clear HB; have HO131 := n0_; have HB := n1_; clear n0_ n1_; clear hb ho5) | ((with_reducible refine gate_dst (N := 5) rfl ?_); (try (refine gate_guard (by rfl) ?_; dsimp only)); refine Kd.R_lit (Kd.int .i64) _ 3 ?hg (N := 5) ?hd (xs := ([2, 1] : List Int)) (inner := [.int .i64 2, .int .i64 1]) (ok := fun _ => True) (okp := fun _ => True) ?hr ?hp (fun _ hk => hk) trivial (Below.refl _ _) (Nat.le_refl _) (by simp) ?_; (case hd => rfl); (case hg => rfl); (case hr => first | (go_simp; done) | (go_simp; rfl)); (case hp => exact (Reps.one (show Kd.M (Kd.int .i64) _ _ _ 2 [.int .i64 2] from rfl) (Reps.one (show Kd.M (Kd.int .i64) _ _ _ 1 [.int .i64 1] from rfl) (Reps.none _ _)))); intro v133 w6 ho7 hb hg_ hnew_; clear hg_ hnew_; (first | rw [← Ny132.out] at ho7 | (simp only [Int.reduceToNat] at ho7; rw [← Ny132.out] at ho7)); have n0_ := Aside0.mk (Kd.R_elder' (Qro HO131.out) (Kd.R_base ho7) hb); have n1_ := Aside0.mk (Kd.R_lower (Kd.R_new' ho7 (Kd.R_lt (Qro HO131.out))) (below_size (Qaw))); have n2_ := Aside0.mk (below_step (Qaw) hb); clear HO131; clear HB; have HO131 := n0_; have HO134 := n1_; have HB := n2_; clear n0_ n1_ n2_; clear hb ho7; obtain ⟨Ao8, co8, eo8⟩ := Kd.R_slice HO131.out; subst eo8; obtain ⟨Ao9, co9, eo9⟩ := Kd.R_slice HO134.out; subst eo9) | ((with_reducible refine gate_callee (f := 21) rfl ?_); refine goesL_ (some 6) rfl rfl Tryd.func21 (by kernel_rfl) rfl #[.slice Ao8 y129.length co8, .slice Ao9 y132.length co9] rfl (Qls) ?_; (with_reducible refine (minor_Model.calls (hGL := (Qlg)) _ _ y129 _ _ y132 t135 t136 _ ?side1 ?side2 ?side3 ?side4 A1.out).mono ?_); (case side1 => exact Qsc (Kd.R_reads' HO131.out).2.2); (case side2 => exact (Kd.R_reads' HO131.out).2.1); (case side3 => exact Qsc (Kd.R_reads' HO134.out).2.2); (case side4 => exact (Kd.R_reads' HO134.out).2.1); rintro e w10 ⟨v137, rfl, ho0, hb⟩; refine ⟨_, rfl, ?_⟩; have n0_ := Aside0.mk (Kd.R_elder' (Qro HO131.out) (Kd.R_base ho0) hb); have n1_ := Aside0.mk (Kd.R_elder' (Qro HO134.out) (Kd.R_base ho0) hb); have n2_ := Aside0.mk (Kd.R_lower (Kd.R_new' (Kd.R_new' ho0 (Kd.R_lt (Qro HO131.out))) (Kd.R_lt (Qro HO134.out))) (below_size (Qaw))); have n3_ := Aside0.mk (below_step (Qaw) hb); clear HO131; clear HO134; clear HB; have HO131 := n0_; have HO134 := n1_; have HO138 := n2_; have HB := n3_; clear n0_ n1_ n2_ n3_; (try clear hb); (try clear hb2); (try clear hk); (try clear hi); (try clear ho0)) | ((with_reducible refine gate_dst (N := 13) rfl ?_); (try (refine gate_guard (by rfl) ?_; dsimp only)); refine Kd.R_lit (Kd.int .i64) _ 3 ?hg (N := 13) ?hd (xs := ([1, 2] : List Int)) (inner := [.int .i64 1, .int .i64 2]) (ok := fun _ => True) (okp := fun _ => True) ?hr ?hp (fun _ hk => hk) trivial (Below.refl _ _) (Nat.le_refl _) (by simp) ?_; (case hd => rfl); (case hg => rfl); (case hr => first | (go_simp; done) | (go_simp; rfl)); (case hp => exact (Reps.one (show Kd.M (Kd.int .i64) _ _ _ 1 [.int .i64 1] from rfl) (Reps.one (show Kd.M (Kd.int .i64) _ _ _ 2 [.int .i64 2] from rfl) (Reps.none _ _)))); intro v140 w11 ho12 hb hg_ hnew_; clear hg_ hnew_; (first | rw [← Ny139.out] at ho12 | (simp only [Int.reduceToNat] at ho12; rw [← Ny139.out] at ho12)); have n0_ := Aside0.mk (Kd.R_elder' (Qro HO131.out) (Kd.R_base ho12) hb); have n1_ := Aside0.mk (Kd.R_elder' (Qro HO134.out) (Kd.R_base ho12) hb); have n2_ := Aside0.mk (Kd.R_elder' (Qro HO138.out) (Kd.R_base ho12) hb); have n3_ := Aside0.mk (Kd.R_lower (Kd.R_new' (Kd.R_new' (Kd.R_new' ho12 (Kd.R_lt (Qro HO131.out))) (Kd.R_lt (Qro HO134.out))) (Kd.R_lt (Qro HO138.out))) (below_size (Qaw))); have n4_ := Aside0.mk (below_step (Qaw) hb); clear HO131; clear HO134; clear HO138; clear HB; have HO131 := n0_; have HO134 := n1_; have HO138 := n2_; have HO141 := n3_; have HB := n4_; clear n0_ n1_ n2_ n3_ n4_; clear hb ho12; obtain ⟨Ao13, co13, eo13⟩ := Kd.R_slice HO138.out; subst eo13; obtain ⟨Ao14, co14, eo14⟩ := Kd.R_slice HO141.out; subst eo14) | (go_at_call 27; (with_reducible refine (slices_Equal_int_int.calls k _ _ t135 _ _ y139 t142 _ ?side1 ?side2 ?side3 ?side4 A3.out).mono ?_); (case side1 => exact Qsc (Kd.R_reads' HO138.out).2.2); (case side2 => exact (Kd.R_reads' HO138.out).2.1); (case side3 => exact Qsc (Kd.R_reads' HO141.out).2.2); (case side4 => exact (Kd.R_reads' HO141.out).2.1); rintro e w' ⟨rfl, ⟨nd, rfl⟩⟩))
  go_ret
  exact ⟨by first | rfl | (simp [errW_none, errW_some] <;> rfl) | (simp [*, errW_none, errW_some] <;> rfl), by repeat (first | (with_reducible first | exact HB.out | apply below_alloc | apply pw_below_drewN | apply below_drew1) | exact HB.out)⟩
 ·rw [if_neg c2] at H
  have c2b0 : (t136 == 0) = false := beq_eq_false_iff_ne.mpr c2
  have c2b1 : (t136 != 0) = true := bne_iff_ne.mpr c2
  obtain rfl := Option.some.inj H
  go_enter Tryd.func17, Tryd.ntmps17
  go_wp2_with (first | ((with_reducible refine gate_dst (N := 4) rfl ?_); (try (refine gate_guard (by rfl) ?_; dsimp only)); refine Kd.R_lit (Kd.int .i64) _ 3 ?hg (N := 4) ?hd (xs := ([2, 1] : List Int)) (inner := [.int .i64 2, .int .i64 1]) (ok := fun _ => True) (okp := fun _ => True) ?hr ?hp (fun _ hk => hk) trivial (Below.refl _ _) (Nat.le_refl _) (by simp) ?_; (case hd => rfl); (case hg => rfl); (case hr => first | (go_simp; done) | (go_simp; rfl)); (case hp => exact (Reps.one (show Kd.M (Kd.int .i64) _ _ _ 2 [.int .i64 2] from rfl) (Reps.one (show Kd.M (Kd.int .i64) _ _ _ 1 [.int .i64 1] from rfl) (Reps.none _ _)))); intro v130 w15 ho16 hb hg_ hnew_; clear hg_ hnew_; (first | rw [← Ny129.out] at ho16 | (simp only [Int.reduceToNat] at ho16; rw [← Ny129.out] at ho16)); have n0_ := Aside0.mk (Kd.R_lower ho16 (below_size (Qaw))); have n1_ := Aside0.mk (below_step (Qaw) hb); clear HB; have HO131 := n0_; have HB := n1_; clear n0_ n1_; clear hb ho16) | ((with_reducible refine gate_dst (N := 5) rfl ?_); (try (refine gate_guard (by rfl) ?_; dsimp only)); refine Kd.R_lit (Kd.int .i64) _ 3 ?hg (N := 5) ?hd (xs := ([2, 1] : List Int)) (inner := [.int .i64 2, .int .i64 1]) (ok := fun _ => True) (okp := fun _ => True) ?hr ?hp (fun _ hk => hk) trivial (Below.refl _ _) (Nat.le_refl _) (by simp) ?_; (case hd => rfl); (case hg => rfl); (case hr => first | (go_simp; done) | (go_simp; rfl)); (case hp => exact (Reps.one (show Kd.M (Kd.int .i64) _ _ _ 2 [.int .i64 2] from rfl) (Reps.one (show Kd.M (Kd.int .i64) _ _ _ 1 [.int .i64 1] from rfl) (Reps.none _ _)))); intro v133 w17 ho18 hb hg_ hnew_; clear hg_ hnew_; (first | rw [← Ny132.out] at ho18 | (simp only [Int.reduceToNat] at ho18; rw [← Ny132.out] at ho18)); have n0_ := Aside0.mk (Kd.R_elder' (Qro HO131.out) (Kd.R_base ho18) hb); have n1_ := Aside0.mk (Kd.R_lower (Kd.R_new' ho18 (Kd.R_lt (Qro HO131.out))) (below_size (Qaw))); have n2_ := Aside0.mk (below_step (Qaw) hb); clear HO131; clear HB; have HO131 := n0_; have HO134 := n1_; have HB := n2_; clear n0_ n1_ n2_; clear hb ho18; obtain ⟨Ao19, co19, eo19⟩ := Kd.R_slice HO131.out; subst eo19; obtain ⟨Ao20, co20, eo20⟩ := Kd.R_slice HO134.out; subst eo20) | ((with_reducible refine gate_callee (f := 21) rfl ?_); refine goesL_ (some 6) rfl rfl Tryd.func21 (by kernel_rfl) rfl #[.slice Ao19 y129.length co19, .slice Ao20 y132.length co20] rfl (Qls) ?_; (with_reducible refine (minor_Model.calls (hGL := (Qlg)) _ _ y129 _ _ y132 t135 t136 _ ?side1 ?side2 ?side3 ?side4 A1.out).mono ?_); (case side1 => exact Qsc (Kd.R_reads' HO131.out).2.2); (case side2 => exact (Kd.R_reads' HO131.out).2.1); (case side3 => exact Qsc (Kd.R_reads' HO134.out).2.2); (case side4 => exact (Kd.R_reads' HO134.out).2.1); rintro e w21 ⟨v137, rfl, ho0, hb⟩; refine ⟨_, rfl, ?_⟩; have n0_ := Aside0.mk (Kd.R_elder' (Qro HO131.out) (Kd.R_base ho0) hb); have n1_ := Aside0.mk (Kd.R_elder' (Qro HO134.out) (Kd.R_base ho0) hb); have n2_ := Aside0.mk (Kd.R_lower (Kd.R_new' (Kd.R_new' ho0 (Kd.R_lt (Qro HO131.out))) (Kd.R_lt (Qro HO134.out))) (below_size (Qaw))); have n3_ := Aside0.mk (below_step (Qaw) hb); clear HO131; clear HO134; clear HB; have HO131 := n0_; have HO134 := n1_; have HO138 := n2_; have HB := n3_; clear n0_ n1_ n2_ n3_; (try clear hb); (try clear hb2); (try clear hk); (try clear hi); (try clear ho0)))
  go_ret
  exact ⟨by first | rfl | (simp [errW_none, errW_some] <;> rfl) | (simp [*, errW_none, errW_some] <;> rfl), by repeat (first | (with_reducible first | exact HB.out | apply below_alloc | apply pw_below_drewN | apply below_drew1) | exact HB.out)⟩
end Go.Proofs.YtjloppfdagfpmaaDoor.X
end
section
namespace Go.Proofs.YtjloppfdagfpmaaDoor.X
open Go.RowKit YtjloppfdagfpmaaDoorW.PrintWords YtjloppfdagfpmaaDoorW.PrintLast YtjloppfdagfpmaaDoorW.PrintMore
attribute [local go_sem] max2_int min2_int max_two min_two max_three min_three max_four min_four
/-! ### api_Graph_int_30: function 30 -/
def api_Graph_int_30.l0 : Nat → List Int → List Int → Int → Int → Option (Bool)
 | 0, _, _, _, _ => none
 | k + 1, x0, x1, x12, x13 => if x13 < x12 then (if 0 ≤ x13 then (if x13 < (x0.length : Int) then (if x13 < (x1.length : Int) then (if (rd x0 x13) = (rd x1 x13) then (api_Graph_int_30.l0 k x0 x1 x12 (wrap64 (x13 + 1))) else (some false)) else (none)) else (none)) else (none)) else (some true)
end Go.Proofs.YtjloppfdagfpmaaDoor.X
end
section
/- (minor) What the laws share: connected sets, valid graphs, patterns, beginnings, equal slices, an edge is a minor of itself. -/
namespace Go.Proofs.YtjloppfdagfpmaaDoor.X
open Go.RowKit YtjloppfdagfpmaaDoorW.PrintWords YtjloppfdagfpmaaDoorW.PrintLast YtjloppfdagfpmaaDoorW.PrintMore YtjloppfdagfpmaaDoor.T
theorem mn_nat (a b : Nat) : mn (a : Int) (b : Int) = ((min a b : Nat) : Int) := by unfold mn; split <;> omega
def low (a : Nat) : Nat := (els a 9).headD 0
theorem few_eq (g : List Int) (hg : g.length < 2 ^ 44) : ∃ h, lampblacklaw07_Few.f g = some h ∧ (chk 8 g = true → h = g) ∧ (chk 8 g = false → chk 8 h = false) ∧ h.length ≤ 12 := by
 have hm : mn (g.length : Int) 12 = ((min g.length 12 : Nat) : Int) := mn_nat g.length 12
 refine ⟨g.take (min g.length 12), ?_, ?_, ?_, ?_⟩
 ·unfold lampblacklaw07_Few.f slices_Clone_Graph.f
  simp only [hm, Int.toNat_natCast]
  rw [if_pos (by omega), if_pos (by omega)]
  simp only [Option.bind_some, List.length_nil, List.nil_append]
  rw [if_pos (by rw [List.length_take]; omega)]
  rfl
 ·intro h
  simp only [chk, Bool.and_eq_true, decide_eq_true_eq] at h
  exact List.take_of_length_le (by omega)
 ·intro h
  by_cases hl : g.length ≤ 12
  ·rw [List.take_of_length_le (by omega)]; exact h
  ·unfold chk
   have : ¬ (List.take (min g.length 12) g).length ≤ 8 := by rw [List.length_take]; omega
   rw [decide_eq_false this, Bool.and_false, Bool.false_and]
 ·rw [List.length_take]; omega
theorem awake_ev : Ev (fun k => lampblacklaw07_awake.f k) true := Ev.of (lampblacklaw07_awake.mono) (k := 40) (by decide +kernel)
end Go.Proofs.YtjloppfdagfpmaaDoor.X
end
section
namespace Go.Proofs.YtjloppfdagfpmaaDoor.X
open Go.RowKit YtjloppfdagfpmaaDoorW.PrintWords YtjloppfdagfpmaaDoorW.PrintLast YtjloppfdagfpmaaDoorW.PrintMore
attribute [local go_sem] max2_int min2_int max_two min_two max_three min_three max_four min_four
/-! ### minor_town_without: function 76 -/
def minor_town_without.l0 : Nat → Int → List Int → List Int → Int → Int → Option (List Int)
 | 0, _, _, _, _, _ => none
 | k + 1, x1, x5, x8, x9, x10 => if x10 < x9 then (if 0 ≤ x10 then (if x10 < (x8.length : Int) then (if x10 = x1 then (minor_town_without.l0 k x1 x5 x8 x9 (wrap64 (x10 + 1))) else (if 0 ≤ x1 then (if 0 ≤ (wrap64 (x1 + 1)) then (if x5.length < 17592186044416 then (minor_town_without.l0 k x1 (x5 ++ [Go.bits .or .i64 (Go.bits .and .i64 (rd x8 x10) (wrap64 ((shl .i64 1 x1) - 1))) (shl .i64 (shr .i64 (rd x8 x10) (wrap64 (x1 + 1))) x1)]) x8 x9 (wrap64 (x10 + 1))) else (none)) else (none)) else (none))) else (none)) else (none)) else (some x5)
def minor_town_without.f (k : Nat) (l0 : List Int) (a1 : Int) : Option (List Int) := minor_town_without.l0 k a1 ([] : List Int) l0 (l0.length : Int) 0
end Go.Proofs.YtjloppfdagfpmaaDoor.X
end
section
namespace Go.Proofs.YtjloppfdagfpmaaDoor.X
open Go.RowKit YtjloppfdagfpmaaDoorW.PrintWords YtjloppfdagfpmaaDoorW.PrintLast YtjloppfdagfpmaaDoorW.PrintMore
attribute [local go_sem] max2_int min2_int max_two min_two max_three min_three max_four min_four
/-! ### minor_town_int: function 77 -/
def minor_town_int.f (l0 : List Int) : Option (List Int) := (some (([] : List Int) : List Int)).bind fun y302 => (if y302.length + l0.length < 17592186044416 then (some (y302 ++ l0)) else (none))
set_option maxHeartbeats 8000000 in
set_option maxRecDepth 100000 in
theorem minor_town_int.calls_some (a0 : Addr) (c0 : Nat) (l0 : List Int) (r : List Int) (w : World) (hr0 : Kd.C (Kd.int .i64) w (some a0) l0.length l0) (hc0 : l0.length ≤ c0) (h : minor_town_int.f l0 = some r) :
  Calls Tryd.prog 77 #[.slice (some a0) l0.length c0] w fun e w' => ∃ v0_ : Value, e = .returned (v0_) ∧ Kd.R (Kd.int .i64) 3 w' w.heap.size (fun _ => True) v0_ r ∧ Below w.heap.size w w' := by
 have HR0 := Aside0.mk hr0
 have HC0 := Aside0.mk hc0
 clear hr0 hc0
 have HB := Aside0.mk (Below.refl w.heap.size w)
 have H : ((some (([] : List Int) : List Int)).bind fun y302 => (if y302.length + l0.length < 17592186044416 then (some (y302 ++ l0)) else (none))) = some r := h
 clear h
 obtain ⟨y302, hy302⟩ : ∃ y_ : List Int, y_ = (([] : List Int)) := ⟨_, rfl⟩
 replace H : (if y302.length + l0.length < 17592186044416 then (some (y302 ++ l0)) else (none)) = some r := by first | (rw [hy302]; with_reducible exact H) | (have H2_ := (Option.bind_some _ _).symm.trans H; rw [hy302]; with_reducible exact H2_) | (have H2_ := (Option.bind_some _ _).symm.trans H; with_reducible exact H2_) | with_reducible exact H | (rw [hy302]; exact H) | exact H
 have Ny302 := Aside0.mk hy302
 clear hy302
 by_cases c2 : y302.length + l0.length < 17592186044416
 ·rw [if_pos c2] at H
  have LMc2 := Aside0.mk c2
  clear c2
  obtain ⟨y305, hy305⟩ : ∃ y_ : List Int, y_ = (y302 ++ l0) := ⟨_, rfl⟩
  replace H : (some y305) = some r := by first | (rw [hy305]; with_reducible exact H) | (have H2_ := (Option.bind_some _ _).symm.trans H; rw [hy305]; with_reducible exact H2_) | (have H2_ := (Option.bind_some _ _).symm.trans H; with_reducible exact H2_) | with_reducible exact H | (rw [hy305]; exact H) | exact H
  have Ny305 := Aside0.mk hy305
  clear hy305
  obtain rfl := Option.some.inj H
  have heq_ := fun (w : World) => Lib.run_eql_slice_nil (P := Tryd.prog) w 79 3 (some a0) l0.length c0 0 0 Tryd.underlying79
  go_enter Tryd.func77, Tryd.ntmps77
  go_wp2_with (first | ((with_reducible refine gate_dst (N := 5) rfl ?_); refine Kd.R_lit (Kd.int .i64) _ 3 ?hg (N := 5) ?hd (xs := ([] : List Int)) (inner := []) (ok := fun _ => True) (okp := fun _ => True) ?hr ?hp (fun _ hk => hk) trivial (Below.refl _ _) (Nat.le_refl _) (by simp) ?_; (case hd => rfl); (case hg => rfl); (case hr => first | (go_simp; done) | (go_simp; rfl)); (case hp => exact (Reps.none _ _)); intro v303 w3 ho4 hb hg_ hnew_; clear hg_ hnew_; (first | rw [← Ny302.out] at ho4 | (simp only [Int.reduceToNat] at ho4; rw [← Ny302.out] at ho4)); have n0_ := Aside0.mk (Kd.R_lower ho4 (below_size (Qaw))); have n1_ := Aside0.mk (below_step (Qaw) hb); clear HB; have HO304 := n0_; have HB := n1_; clear n0_ n1_; clear hb ho4) | ((with_reducible refine gate_builtin (b := .append) (xs := #[.tmp 5, .tmp 6]) rfl ?_); at_builtin; refine Kd.R_append_rows (Kd.int .i64) (w0 := w) w.heap.size rfl (.tmp 5) (.tmp 6) 79 3 (.int .i64 0) 8 rfl Tryd.underlying79 info3 rfl (by decide) (by omega) v303 y302 l0 _ _ _ (fun _ => True) (fun _ => False) rfl rfl ?aO ?aR (fun _ _ h => h) (fun _ h => h.elim) ?aF ?aB ?aS ?aL ?_; (case aR => exact Qsc (Kd.C_below HR0.out HB.out)); (case aB => exact (Qaw)); (case aF => exact (fun _ _ => trivial)); (case aO => exact (Qro HO304.out)); (case aS => exact (below_size (Qaw))); (case aL => have := LMc2.out; omega); intro v306 w5 ho hb hg hat; rw [← Ny305.out] at ho; have n0_ := Aside0.mk (hb); have n1_ := Aside0.mk (ho); clear HB; clear HO304; have HB := n0_; have HO307 := n1_; clear n0_ n1_; clear ho hb hg hat))
  go_ret
  exact ⟨_, by first | rfl | (simp [errW_none, errW_some] <;> rfl) | (simp [*, errW_none, errW_some] <;> rfl), by (with_reducible repeat (first | apply Kd.R_alloc | apply Kd.R_drewN | apply Kd.R_drew)); exact HO307.out, by repeat (first | (with_reducible first | exact HB.out | apply below_alloc | apply pw_below_drewN | apply below_drew1) | exact HB.out)⟩
 ·rw [if_neg c2] at H
  exact absurd H (by simp)
theorem minor_town_int.calls (A0 : Option Addr) (c0 : Nat) (l0 : List Int) (r : List Int) (w : World) (hr0 : Kd.C (Kd.int .i64) w A0 l0.length l0) (hc0 : l0.length ≤ c0) (h : minor_town_int.f l0 = some r) :
  Calls Tryd.prog 77 #[.slice A0 l0.length c0] w fun e w' => ∃ v0_ : Value, e = .returned (v0_) ∧ Kd.R (Kd.int .i64) 3 w' w.heap.size (fun _ => True) v0_ r ∧ Below w.heap.size w w' := by
 cases A0 with
 | some a0 => exact minor_town_int.calls_some a0 c0 l0 r w hr0 hc0 h
 | none =>
  have hl : l0 = [] := by
   rcases Nat.eq_zero_or_pos l0.length with h0 | h0
   ·exact List.length_eq_zero_iff.mp h0
   ·obtain ⟨ad, he, _⟩ := hr0.2.2 h0
    cases he
  subst hl
  obtain rfl : [] = r := by simpa [minor_town_int.f] using h
  clear h hr0 hc0
  have heq_ := fun (w : World) => Lib.run_eql_slice_nil (P := Tryd.prog) w 79 3 none 0 c0 0 0 Tryd.underlying79
  go_enter Tryd.func77, Tryd.ntmps77
  go_wp2
  go_ret
  exact ⟨_, rfl, Kd.R_nil _ _ _ _ _, Below.refl _ _⟩
end Go.Proofs.YtjloppfdagfpmaaDoor.X
end
section
namespace Go.Proofs.YtjloppfdagfpmaaDoor.X
open Go.RowKit YtjloppfdagfpmaaDoorW.PrintWords YtjloppfdagfpmaaDoorW.PrintLast YtjloppfdagfpmaaDoorW.PrintMore
attribute [local go_sem] max2_int min2_int max_two min_two max_three min_three max_four min_four
/-! ### minor_town_join: function 62 -/
def minor_town_join.f (l0 : List Int) (a1 : Int) (a2 : Int) : Option (List Int) := if 0 ≤ a1 then (if a1 < (l0.length : Int) then (if 0 ≤ a2 then ((some (l0.set (a1 : Int).toNat (Go.bits .or .i64 (rd l0 a1) (shl .i64 1 a2)) : List Int)).bind fun y146 => (if a2 < (l0.length : Int) then (some (y146.set (a2 : Int).toNat (Go.bits .or .i64 (rd y146 a2) (shl .i64 1 a1)))) else (none))) else (none)) else (none)) else (none)
def minor_town_join.T0 : Bool × List (List Nat × List Nat) := (true, [([], []), ([], []), ([0, 1], [0, 1]), ([2], [2]), ([], []), ([4], [4]), ([3, 5], [3, 5]), ([0, 1, 0, 1, 2, 3, 4, 5, 6], [0, 1]), ([7, 6, 0, 1, 2, 3, 4, 5, 6], [6, 7])])
def minor_town_join.B0 : List Nat := [0, 0, 3, 7, 0, 16, 63, 127, 255]
theorem minor_town_join.tab0 : rtab .any (opsOf Tryd.f62 0) = minor_town_join.T0 := by kernel_rfl
theorem minor_town_join.bits0 : waitsOk minor_town_join.T0.2 minor_town_join.B0 = true := by kernel_rfl
def minor_town_join.T1 : Bool × List (List Nat × List Nat) := (true, [([], []), ([], []), ([0, 1], [0, 1]), ([2], [2]), ([], []), ([4], [4]), ([3, 5], [3, 5]), ([0, 1, 0, 1, 2, 3, 4, 5, 6], [0, 1]), ([7, 6, 0, 1, 2, 3, 4, 5, 6], [6, 7])])
def minor_town_join.B1 : List Nat := [0, 0, 3, 7, 0, 16, 63, 127, 255]
theorem minor_town_join.tab1 : rtab .any (opsOf Tryd.f62 1) = minor_town_join.T1 := by kernel_rfl
theorem minor_town_join.bits1 : waitsOk minor_town_join.T1.2 minor_town_join.B1 = true := by kernel_rfl
set_option maxHeartbeats 8000000 in
set_option maxRecDepth 100000 in
theorem minor_town_join.calls (P0_ : Nat → Prop) (u9000_ : Value) (l0 : List Int) (a1 : Int) (a2 : Int) (r : List Int) (w0 w : World) (hB : Below w0.heap.size w0 w) (ho0 : Kd.R (Kd.int .i64) 3 w w0.heap.size P0_ u9000_ l0) (h : minor_town_join.f l0 a1 a2 = some r) :
  Calls Tryd.prog 62 #[u9000_, .int .i64 a1, .int .i64 a2] w fun e w' => e = .returned (.tuple #[]) ∧ Kd.R (Kd.int .i64) 3 w' w0.heap.size (fun k_ => (P0_ k_ ∨ w.heap.size ≤ k_)) u9000_ r ∧ Below w0.heap.size w0 w' ∧ Kept w w' (fun k_ => P0_ k_) := by
 have HO0 := Aside0.mk (show Kd.R (Kd.int .i64) 3 w w0.heap.size (fun k_ => (P0_ k_ ∨ w.heap.size ≤ k_)) u9000_ l0 from Kd.R_mono ho0 (fun k_ hk => (.inl hk)))
 have HK := Aside0.mk (Kept.refl w (fun k_ => P0_ k_))
 have HW0 := Aside0.mk hB.size
 have HB := Aside0.mk hB
 clear hB
 have H : (if 0 ≤ a1 then (if a1 < (l0.length : Int) then (if 0 ≤ a2 then ((some (l0.set (a1 : Int).toNat (Go.bits .or .i64 (rd l0 a1) (shl .i64 1 a2)) : List Int)).bind fun y146 => (if a2 < (l0.length : Int) then (some (y146.set (a2 : Int).toNat (Go.bits .or .i64 (rd y146 a2) (shl .i64 1 a1)))) else (none))) else (none)) else (none)) else (none)) = some r := h
 clear h
 by_cases c4 : 0 ≤ a1
 ·rw [if_pos c4] at H
  have c4b0 : decide (0 ≤ a1) = true := decide_eq_true c4
  clear c4
  by_cases c5 : a1 < (l0.length : Int)
  ·rw [if_pos c5] at H
   have c5b0 : decide (a1 < (l0.length : Int)) = true := decide_eq_true c5
   clear c5
   by_cases c6 : 0 ≤ a2
   ·rw [if_pos c6] at H
    have c6b0 := eq_true c6
    have c6b1 : decide (0 ≤ a2) = true := decide_eq_true c6
    clear c6
    obtain ⟨ji7, hji7⟩ : ∃ j_ : Int, (shl .i64 1 a2) = j_ := ⟨_, rfl⟩
    replace H : ((some (l0.set (a1 : Int).toNat (Go.bits .or .i64 (rd l0 a1) (ji7)) : List Int)).bind fun y146 => (if a2 < (l0.length : Int) then (some (y146.set (a2 : Int).toNat (Go.bits .or .i64 (rd y146 a2) (shl .i64 1 a1)))) else (none))) = some r := by first | (rw [hji7] at H; exact H) | (simp only [hji7] at H ⊢; exact H)
    have hji7_ : (IntKind.i64.wrap (1 * 2 ^ min a2.toNat 64)) = ji7 := hji7
    have hji7z : a2 ≤ 64 → (IntKind.i64.wrap (1 * 2 ^ a2.toNat)) = ji7 := shl_small hji7
    have hji7u : (IntKind.i64.wrap (2 ^ min a2.toNat 64)) = ji7 := by have h_ := hji7_; rw [Int.one_mul] at h_; exact h_
    have hji7v : a2 ≤ 64 → (IntKind.i64.wrap (2 ^ a2.toNat)) = ji7 := fun hle_ => by have h_ := hji7z hle_; rw [Int.one_mul] at h_; exact h_
    have hji7y : (wrap64 (1 * 2 ^ min a2.toNat 64)) = ji7 := (i64_w _).symm.trans hji7_
    have hji7x : a2 ≤ 64 → (wrap64 (1 * 2 ^ a2.toNat)) = ji7 := fun h_ => (i64_w _).symm.trans (hji7z h_)
    obtain ⟨y146, hy146⟩ : ∃ y_ : List Int, y_ = (l0.set (a1 : Int).toNat (Go.bits .or .i64 (rd l0 a1) (ji7))) := ⟨_, rfl⟩
    replace H : (if a2 < (l0.length : Int) then (some (y146.set (a2 : Int).toNat (Go.bits .or .i64 (rd y146 a2) (shl .i64 1 a1)))) else (none)) = some r := by first | (rw [hy146]; with_reducible exact H) | (have H2_ := (Option.bind_some _ _).symm.trans H; rw [hy146]; with_reducible exact H2_) | (have H2_ := (Option.bind_some _ _).symm.trans H; with_reducible exact H2_) | with_reducible exact H | (rw [hy146]; exact H) | exact H
    have Ny146 := Aside0.mk hy146
    clear hy146
    by_cases c9 : a2 < (l0.length : Int)
    ·rw [if_pos c9] at H
     have c9b0 : decide (a2 < (l0.length : Int)) = true := decide_eq_true c9
     clear c9
     have c10b0 := eq_true (of_decide_eq_true (by first | (with_reducible assumption) | assumption) : 0 ≤ a1)
     obtain ⟨ji11, hji11⟩ : ∃ j_ : Int, (shl .i64 1 a1) = j_ := ⟨_, rfl⟩
     replace H : (some (y146.set (a2 : Int).toNat (Go.bits .or .i64 (rd y146 a2) (ji11)))) = some r := by first | (rw [hji11] at H; exact H) | (simp only [hji11] at H ⊢; exact H)
     have hji11_ : (IntKind.i64.wrap (1 * 2 ^ min a1.toNat 64)) = ji11 := hji11
     have hji11z : a1 ≤ 64 → (IntKind.i64.wrap (1 * 2 ^ a1.toNat)) = ji11 := shl_small hji11
     have hji11u : (IntKind.i64.wrap (2 ^ min a1.toNat 64)) = ji11 := by have h_ := hji11_; rw [Int.one_mul] at h_; exact h_
     have hji11v : a1 ≤ 64 → (IntKind.i64.wrap (2 ^ a1.toNat)) = ji11 := fun hle_ => by have h_ := hji11z hle_; rw [Int.one_mul] at h_; exact h_
     have hji11y : (wrap64 (1 * 2 ^ min a1.toNat 64)) = ji11 := (i64_w _).symm.trans hji11_
     have hji11x : a1 ≤ 64 → (wrap64 (1 * 2 ^ a1.toNat)) = ji11 := fun h_ => (i64_w _).symm.trans (hji11z h_)
     obtain ⟨y148, hy148⟩ : ∃ y_ : List Int, y_ = (y146.set (a2 : Int).toNat (Go.bits .or .i64 (rd y146 a2) (ji11))) := ⟨_, rfl⟩
     replace H : (some y148) = some r := by first | (rw [hy148]; with_reducible exact H) | (have H2_ := (Option.bind_some _ _).symm.trans H; rw [hy148]; with_reducible exact H2_) | (have H2_ := (Option.bind_some _ _).symm.trans H; with_reducible exact H2_) | with_reducible exact H | (rw [hy148]; exact H) | exact H
     have Ny148 := Aside0.mk hy148
     clear hy148
     obtain rfl := Option.some.inj H
     go_enter Tryd.func62, Tryd.ntmps62
     try go_wp2
     have n0_ := Aside0.mk (Kd.R_drew HO0.out)
     have n1_ := Aside0.mk (Kept.drew HK.out)
     have n2_ := Aside0.mk (below_drew1 HB.out)
     clear HO0
     clear HK
     clear HB
     have HO0 := n0_
     have HK := n1_
     have HB := n2_
     clear n0_ n1_ n2_
     obtain ⟨Ao14, co14, eo14⟩ := Kd.R_slice HO0.out
     (first | subst eo14 | (injection eo14 with f1_ f2_ f3_; have f4_ := f1_.symm; have f5_ := f3_.symm; clear f1_ f2_ f3_; subst f4_; subst f5_))
     have p145 : 0 ≤ (a1 : Int) := of_decide_eq_true (by first | (with_reducible assumption) | assumption)
     have q145 : a1 < (l0.length : Int) := of_decide_eq_true (by first | (with_reducible assumption) | assumption)
     obtain ⟨ad145, e145, hx145_0⟩ := Kd.at_int (Kd.R_reads' HO0.out).2.2 a1 p145 q145
     cases e145
     replace p145 := eq_true p145
     replace q145 := eq_true q145
     have p8 : 0 ≤ (a1 : Int) := of_decide_eq_true (by first | (with_reducible assumption) | assumption)
     have q8 : (a1 : Int) < ((l0.length : Int) : Int) := of_decide_eq_true (by first | (with_reducible assumption) | assumption)
     obtain ⟨go8, co8, eo8, gb8, gl8, cl8, HG8⟩ := Kd.R_form HO0.out (by omega)
     (first | cases eo8 | (injection eo8 with ea_ en_ ec_; (first | subst ea_ | (injection ea_ with ea_; subst ea_)); subst ec_; clear en_))
     have GB8 := Aside0.mk gb8
     have GG8 := Aside0.mk HG8
     clear gb8 gl8 HG8
     have HMgo8 := Aside0.mk (show (P0_ go8 ∨ w.heap.size ≤ go8) from (HO0.out.1 _ rfl))
     (first | simp only [add_plain] at hx145_0 | skip)
     obtain ⟨hx8_0, hf8_0⟩ := Kd.R_celln 0 HO0.out (a1 : Int) p8 q8
     replace p8 := eq_true p8
     replace q8 := eq_true q8
     have HP15 := Kd.R_putn HO0.out (a1 : Int) (Go.bits .or .i64 (rd l0 a1) (ji7))
     rw [← Ny146.out] at HP15
     have HQ15 := Aside0.mk HP15
     clear HP15
     refine start_ (n := 9) (S := fun w' => w'.cell? ⟨go8, (a1).toNat, none⟩ = some (.int .i64 (rd l0 a1))) (ds := [8]) (Qbz 9 0) (by kernel_rfl) rfl rfl (hx145_0) (fun hHeld => ?_); refine with_tabW minor_town_join.tab0 minor_town_join.bits0 (fun HT_ HW_ => ?_)
     generalize w.drew = w13 at HO0 HK HB GG8 HQ15 hf8_0 hx145_0 hx8_0 hHeld ⊢
     refine pure_ (i := 0) (N := some 6) (v := ?_) (a' := ?_) (Qbz 9 1) rfl rfl (any_of HT_.out (by kernel_rfl)) (fun _ _ _ h => h) (Or.inl ⟨by rfl, ?_⟩) ?_ ?_
     rotate_left
     ·intro w'
      go_simp
      with_reducible rfl
     rotate_left
     ·simp only [Act.put, Qp1, Qp2, Qp3, i64_w, i32_w]
      rfl
     refine pure_ (i := 1) (N := some 7) (v := ?_) (a' := ?_) (Qbz 9 3) rfl rfl (any_of HT_.out (by kernel_rfl)) (fun _ _ _ h => h) (Or.inl ⟨by rfl, ?_⟩) ?_ ?_
     rotate_left
     ·intro w'
      go_simp
      with_reducible rfl
     rotate_left
     ·simp only [Act.put, Qp1, Qp2, Qp3, i64_w, i32_w]
      rfl
     refine pure_ (i := 2) (N := some 8) (v := ?_) (a' := ?_) (Qbz 9 7) rfl rfl (any_of HT_.out (by kernel_rfl)) (fun _ _ _ h => h) (Or.inl ⟨by rfl, ?_⟩) ?_ ?_
     rotate_left
     ·intro w'
      go_simp
      with_reducible rfl
     rotate_left
     ·simp only [Act.put, Qp1, Qp2, Qp3, i64_w, i32_w]
      rfl
     refine pure_ (i := 4) (N := some 10) (v := ?_) (a' := ?_) (Qbz 9 23) rfl rfl (any_of HT_.out (by kernel_rfl)) (fun _ _ _ h => h) (Or.inl ⟨by rfl, ?_⟩) ?_ ?_
     rotate_left
     ·intro w'
      go_simp
      with_reducible rfl
     rotate_left
     ·simp only [Act.put, Qp1, Qp2, Qp3, i64_w, i32_w]
      rfl
     refine pure_ (i := 5) (N := some 11) (v := ?_) (a' := ?_) (Qbz 9 55) rfl rfl (any_of HT_.out (by kernel_rfl)) (fun _ _ _ h => h) (Or.inl ⟨by rfl, ?_⟩) ?_ ?_
     rotate_left
     ·intro w'
      go_simp
      with_reducible rfl
     rotate_left
     ·simp only [Act.put, Qp1, Qp2, Qp3, i64_w, i32_w]
      rfl
     refine take_ (i := 3) (N := some 9) (v := ?_) (a' := ?_) (Qbz 9 63) rfl rfl (take_ofW HT_.out HW_.out (by kernel_rfl)) (fun _ _ _ h => h) (Or.inl ⟨by rfl, ?_⟩) hHeld ?_ ?_
     rotate_left
     ·intro w' s0
      go_simp
      with_reducible rfl
     rotate_left
     ·simp only [Act.put, Qp1, Qp2, Qp3, i64_w, i32_w]
      rfl
     refine pure_ (i := 6) (N := some 12) (v := ?_) (a' := ?_) (Qbz 9 127) rfl rfl (any_of HT_.out (by kernel_rfl)) (fun _ _ _ h => h) (Or.inl ⟨by rfl, ?_⟩) ?_ ?_
     rotate_left
     ·intro w'
      go_simp
      with_reducible rfl
     rotate_left
     ·simp only [Act.put, Qp1, Qp2, Qp3, i64_w, i32_w]
      rfl
     refine pure_ (i := 7) (N := some 13) (v := ?_) (a' := ?_) (Qbz 9 255) rfl rfl (any_of HT_.out (by kernel_rfl)) (fun _ _ _ h => h) (Or.inl ⟨by rfl, ?_⟩) ?_ ?_
     rotate_left
     ·intro w'
      go_simp
      with_reducible rfl
     rotate_left
     ·simp only [Act.put, Qp1, Qp2, Qp3, i64_w, i32_w]
      rfl
     refine last_ (i := 8) (N := none) (Qbz 9 511) rfl rfl (one_of HT_.out (by kernel_rfl)) (by decide) (fun K hK => ?_)
     refine skip_ (w1 := ?_) (by rfl) rfl ?_ ?_
     rotate_left
     ·go_simp
      rfl
     refine hK.out _ _ ?_
     clear hK K
     refine done_ (done_of HT_.out (by kernel_rfl)) ?_
     try go_wp2
     have n0_ : Aside0 (Kd.R (Kd.int .i64) 3 (w13.setCell ⟨go8, (a1 : Int).toNat, none⟩ (.int .i64 (Go.bits .or .i64 (rd l0 a1) (ji7)))) w0.heap.size (fun k_ => (P0_ k_ ∨ w.heap.size ≤ k_)) (.slice (some ⟨go8, 0, none⟩) l0.length co14) y146) := ⟨by (with_reducible repeat (first | apply Kd.R_alloc | apply Kd.R_drewN | apply Kd.R_drew)); exact HQ15.out⟩
     have n1_ : Aside0 (Kept w (w13.setCell ⟨go8, (a1 : Int).toNat, none⟩ (.int .i64 (Go.bits .or .i64 (rd l0 a1) (ji7)))) (fun k_ => P0_ k_)) := ⟨by repeat (first | (with_reducible first | exact HK.out | apply Kept.alloc | apply Kept.drewN | apply Kept.drew | refine Kept.setCell ?_ HMgo8.out _) | exact HK.out)⟩
     have n2_ : Aside0 (Below w0.heap.size w0 (w13.setCell ⟨go8, (a1 : Int).toNat, none⟩ (.int .i64 (Go.bits .or .i64 (rd l0 a1) (ji7))))) := ⟨by repeat (first | (with_reducible first | exact HB.out | apply below_alloc | apply pw_below_drewN | apply below_drew1 | refine below_set ?_ GB8.out) | exact HB.out)⟩
     (try clear HO0)
     (try clear HK)
     (try clear HB)
     generalize (w13.setCell ⟨go8, (a1 : Int).toNat, none⟩ (.int .i64 (Go.bits .or .i64 (rd l0 a1) (ji7)))) = w16 at n0_ n1_ n2_ ⊢
     have HO0 := n0_
     have HK := n1_
     have HB := n2_
     clear n0_ n1_ n2_
     have n0_ := Aside0.mk (Kd.R_drew HO0.out)
     have n1_ := Aside0.mk (Kept.drew HK.out)
     have n2_ := Aside0.mk (below_drew1 HB.out)
     clear HO0
     clear HK
     clear HB
     have HO0 := n0_
     have HK := n1_
     have HB := n2_
     clear n0_ n1_ n2_
     have p147 : 0 ≤ (a2 : Int) := of_decide_eq_true (by first | (with_reducible assumption) | assumption)
     have q147 : a2 < (y146.length : Int) := (by have h_ : (a2 : Int) < ((l0.length : Int) : Int) := of_decide_eq_true (by first | (with_reducible assumption) | assumption); first | (have e_ := (Kd.R_reads' HO0.out).1; omega) | simpa only [Ny146.out, List.length_set] using h_)
     have ql147 : ((a2 : Int) < ((l0.length : Int) : Int)) = True := eq_true (of_decide_eq_true (by first | (with_reducible assumption) | assumption))
     obtain ⟨ad147, e147, hx147_0⟩ := Kd.at_int (Kd.R_reads' HO0.out).2.2 a2 p147 q147
     obtain rfl : (⟨go8, 0, none⟩ : Addr) = ad147 := (by injection e147)
     (first | simp only [add_plain] at hx147_0 | simp only [add_at] at hx147_0 | simp only [Addr.add, Nat.zero_add] at hx147_0 | skip)
     replace p147 := eq_true p147
     replace q147 := eq_true q147
     have p12 : 0 ≤ (a2 : Int) := of_decide_eq_true (by first | (with_reducible assumption) | assumption)
     have q12 : (a2 : Int) < ((l0.length : Int) : Int) := of_decide_eq_true (by first | (with_reducible assumption) | assumption)
     obtain ⟨hx12_0, hf12_0⟩ := Kd.R_celln 0 HO0.out (a2 : Int) p12 q12
     replace p12 := eq_true p12
     replace q12 := eq_true q12
     have HP18 := Kd.R_putn HO0.out (a2 : Int) (Go.bits .or .i64 (rd y146 a2) (ji11))
     rw [← Ny148.out] at HP18
     have HQ18 := Aside0.mk HP18
     clear HP18
     refine start_ (n := 9) (S := fun w' => w'.cell? ⟨go8, (a2).toNat, none⟩ = some (.int .i64 (rd y146 a2))) (ds := [8]) (Qbz 9 0) (by kernel_rfl) rfl rfl (hx147_0) (fun hHeld => ?_); refine with_tabW minor_town_join.tab1 minor_town_join.bits1 (fun HT_ HW_ => ?_)
     generalize w16.drew = w17 at HO0 HK HB HQ15 HQ18 hf12_0 hx12_0 hx147_0 hHeld ⊢
     refine pure_ (i := 0) (N := some 14) (v := ?_) (a' := ?_) (Qbz 9 1) rfl rfl (any_of HT_.out (by kernel_rfl)) (fun _ _ _ h => h) (Or.inl ⟨by rfl, ?_⟩) ?_ ?_
     rotate_left
     ·intro w'
      go_simp
      with_reducible rfl
     rotate_left
     ·simp only [Act.put, Qp1, Qp2, Qp3, i64_w, i32_w]
      rfl
     refine pure_ (i := 1) (N := some 15) (v := ?_) (a' := ?_) (Qbz 9 3) rfl rfl (any_of HT_.out (by kernel_rfl)) (fun _ _ _ h => h) (Or.inl ⟨by rfl, ?_⟩) ?_ ?_
     rotate_left
     ·intro w'
      go_simp
      with_reducible rfl
     rotate_left
     ·simp only [Act.put, Qp1, Qp2, Qp3, i64_w, i32_w]
      rfl
     refine pure_ (i := 2) (N := some 16) (v := ?_) (a' := ?_) (Qbz 9 7) rfl rfl (any_of HT_.out (by kernel_rfl)) (fun _ _ _ h => h) (Or.inl ⟨by rfl, ?_⟩) ?_ ?_
     rotate_left
     ·intro w'
      go_simp
      with_reducible rfl
     rotate_left
     ·simp only [Act.put, Qp1, Qp2, Qp3, i64_w, i32_w]
      rfl
     refine pure_ (i := 4) (N := some 18) (v := ?_) (a' := ?_) (Qbz 9 23) rfl rfl (any_of HT_.out (by kernel_rfl)) (fun _ _ _ h => h) (Or.inl ⟨by rfl, ?_⟩) ?_ ?_
     rotate_left
     ·intro w'
      go_simp
      with_reducible rfl
     rotate_left
     ·simp only [Act.put, Qp1, Qp2, Qp3, i64_w, i32_w]
      rfl
     refine pure_ (i := 5) (N := some 19) (v := ?_) (a' := ?_) (Qbz 9 55) rfl rfl (any_of HT_.out (by kernel_rfl)) (fun _ _ _ h => h) (Or.inl ⟨by rfl, ?_⟩) ?_ ?_
     rotate_left
     ·intro w'
      go_simp
      with_reducible rfl
     rotate_left
     ·simp only [Act.put, Qp1, Qp2, Qp3, i64_w, i32_w]
      rfl
     refine take_ (i := 3) (N := some 17) (v := ?_) (a' := ?_) (Qbz 9 63) rfl rfl (take_ofW HT_.out HW_.out (by kernel_rfl)) (fun _ _ _ h => h) (Or.inl ⟨by rfl, ?_⟩) hHeld ?_ ?_
     rotate_left
     ·intro w' s0
      go_simp
      with_reducible rfl
     rotate_left
     ·simp only [Act.put, Qp1, Qp2, Qp3, i64_w, i32_w]
      rfl
     refine pure_ (i := 6) (N := some 20) (v := ?_) (a' := ?_) (Qbz 9 127) rfl rfl (any_of HT_.out (by kernel_rfl)) (fun _ _ _ h => h) (Or.inl ⟨by rfl, ?_⟩) ?_ ?_
     rotate_left
     ·intro w'
      go_simp
      with_reducible rfl
     rotate_left
     ·simp only [Act.put, Qp1, Qp2, Qp3, i64_w, i32_w]
      rfl
     refine pure_ (i := 7) (N := some 21) (v := ?_) (a' := ?_) (Qbz 9 255) rfl rfl (any_of HT_.out (by kernel_rfl)) (fun _ _ _ h => h) (Or.inl ⟨by rfl, ?_⟩) ?_ ?_
     rotate_left
     ·intro w'
      go_simp
      with_reducible rfl
     rotate_left
     ·simp only [Act.put, Qp1, Qp2, Qp3, i64_w, i32_w]
      rfl
     refine last_ (i := 8) (N := none) (Qbz 9 511) rfl rfl (one_of HT_.out (by kernel_rfl)) (by decide) (fun K hK => ?_)
     refine skip_ (w1 := ?_) (by rfl) rfl ?_ ?_
     rotate_left
     ·go_simp
      rfl
     refine hK.out _ _ ?_
     clear hK K
     refine done_ (done_of HT_.out (by kernel_rfl)) ?_
     try go_wp2
     first | go_end0 | ((try simp only [Exit.inBlock, Exit.then]); refine bodyPost_ret (results_none rfl _ _ _) rfl ?_)
     exact ⟨by first | rfl | (simp [errW_none, errW_some] <;> rfl) | (simp only [← hji7, ← hji11]; first | rfl | (simp [errW_none, errW_some] <;> rfl)) | (simp [*, errW_none, errW_some] <;> rfl), by (with_reducible repeat (first | apply Kd.R_alloc | apply Kd.R_drewN | apply Kd.R_drew)); exact HQ18.out, by repeat (first | (with_reducible first | exact HB.out | apply below_alloc | apply pw_below_drewN | apply below_drew1 | refine below_set ?_ GB8.out) | exact HB.out), by repeat (first | (with_reducible first | exact HK.out | apply Kept.alloc | apply Kept.drewN | apply Kept.drew | refine Kept.setCell ?_ HMgo8.out _) | exact HK.out)⟩
    ·rw [if_neg c9] at H
     exact absurd H (by simp)
   ·rw [if_neg c6] at H
    exact absurd H (by simp)
  ·rw [if_neg c5] at H
   exact absurd H (by simp)
 ·rw [if_neg c4] at H
  exact absurd H (by simp)
end Go.Proofs.YtjloppfdagfpmaaDoor.X
end
section
namespace Go.Proofs.YtjloppfdagfpmaaDoor.X
open Go.RowKit YtjloppfdagfpmaaDoorW.PrintWords YtjloppfdagfpmaaDoorW.PrintLast YtjloppfdagfpmaaDoorW.PrintMore
attribute [local go_sem] max2_int min2_int max_two min_two max_three min_three max_four min_four
/-! ### minor_Contract: function 36 -/
mutual
def minor_Contract.j0 : Nat → Int → Int → List Int → Bool → Option (List Int × Int)
 | 0, _, _, _, _ => none
 | k + 1, x1, x2, x8, x44 => if x44 = true then (some (([] : List Int), 2)) else ((minor_town_int.f x8).bind fun t313 => (if 0 ≤ x2 then (if x2 < (x8.length : Int) then (if 0 ≤ x1 then ((minor_nodes.f k (Go.bits .andNot .i64 (rd x8 x2) (shl .i64 1 x1))).bind fun t317 => (minor_Contract.l0 k x1 x2 t313 t317 (t317.length : Int) 0)) else (none)) else (none)) else (none)))
def minor_Contract.l0 : Nat → Int → Int → List Int → List Int → Int → Int → Option (List Int × Int)
 | 0, _, _, _, _, _, _ => none
 | k + 1, x1, x2, x10, x54, x55, x56 => if x56 < x55 then (if 0 ≤ x56 then (if x56 < (x54.length : Int) then ((minor_town_join.f x10 x1 (rd x54 x56)).bind fun t321 => (minor_Contract.l0 k x1 x2 t321 x54 x55 (wrap64 (x56 + 1)))) else (none)) else (none)) else ((minor_town_without.f k x10 x2).bind fun t322 => (some (t322, 0)))
end
end Go.Proofs.YtjloppfdagfpmaaDoor.X
end
section
namespace Go.Proofs.YtjloppfdagfpmaaDoor.X
open Go.RowKit YtjloppfdagfpmaaDoorW.PrintWords YtjloppfdagfpmaaDoorW.PrintLast YtjloppfdagfpmaaDoorW.PrintMore
attribute [local go_sem] max2_int min2_int max_two min_two max_three min_three max_four min_four
/-! ### lampblackref07_Delete: function 37 -/
def lampblackref07_Delete.l0 : Nat → Int → List Int → List Int → Int → Int → Option (List Int)
 | 0, _, _, _, _, _ => none
 | k + 1, x1, x5, x8, x9, x10 => if x10 < x9 then (if 0 ≤ x10 then (if x10 < (x8.length : Int) then (if x10 = x1 then (lampblackref07_Delete.l0 k x1 x5 x8 x9 (wrap64 (x10 + 1))) else (if 0 ≤ x1 then (if 0 ≤ (wrap64 (x1 + 1)) then (if x5.length < 17592186044416 then (lampblackref07_Delete.l0 k x1 (x5 ++ [Go.bits .or .i64 (Go.bits .and .i64 (rd x8 x10) (wrap64 ((shl .i64 1 x1) - 1))) (shl .i64 (shr .i64 (rd x8 x10) (wrap64 (x1 + 1))) x1)]) x8 x9 (wrap64 (x10 + 1))) else (none)) else (none)) else (none))) else (none)) else (none)) else (some x5)
def lampblackref07_Delete.f (k : Nat) (l0 : List Int) (a1 : Int) : Option (List Int) := lampblackref07_Delete.l0 k a1 ([] : List Int) l0 (l0.length : Int) 0
end Go.Proofs.YtjloppfdagfpmaaDoor.X
end
section
namespace Go.Proofs.YtjloppfdagfpmaaDoor.X
open Go.RowKit YtjloppfdagfpmaaDoorW.PrintWords YtjloppfdagfpmaaDoorW.PrintLast YtjloppfdagfpmaaDoorW.PrintMore
attribute [local go_sem] max2_int min2_int max_two min_two max_three min_three max_four min_four
/-! ### lampblackref07_join: function 75 -/
def lampblackref07_join.f (l0 : List Int) (a1 : Int) (a2 : Int) : Option (List Int) := if 0 ≤ a1 then (if a1 < (l0.length : Int) then (if 0 ≤ a2 then ((some (l0.set (a1 : Int).toNat (Go.bits .or .i64 (rd l0 a1) (shl .i64 1 a2)) : List Int)).bind fun y250 => (if a2 < (l0.length : Int) then (some (y250.set (a2 : Int).toNat (Go.bits .or .i64 (rd y250 a2) (shl .i64 1 a1)))) else (none))) else (none)) else (none)) else (none)
def lampblackref07_join.T0 : Bool × List (List Nat × List Nat) := (true, [([], []), ([], []), ([0, 1], [0, 1]), ([2], [2]), ([], []), ([4], [4]), ([3, 5], [3, 5]), ([0, 1, 0, 1, 2, 3, 4, 5, 6], [0, 1]), ([7, 6, 0, 1, 2, 3, 4, 5, 6], [6, 7])])
def lampblackref07_join.B0 : List Nat := [0, 0, 3, 7, 0, 16, 63, 127, 255]
theorem lampblackref07_join.tab0 : rtab .any (opsOf Tryd.f75 0) = lampblackref07_join.T0 := by kernel_rfl
theorem lampblackref07_join.bits0 : waitsOk lampblackref07_join.T0.2 lampblackref07_join.B0 = true := by kernel_rfl
def lampblackref07_join.T1 : Bool × List (List Nat × List Nat) := (true, [([], []), ([], []), ([0, 1], [0, 1]), ([2], [2]), ([], []), ([4], [4]), ([3, 5], [3, 5]), ([0, 1, 0, 1, 2, 3, 4, 5, 6], [0, 1]), ([7, 6, 0, 1, 2, 3, 4, 5, 6], [6, 7])])
def lampblackref07_join.B1 : List Nat := [0, 0, 3, 7, 0, 16, 63, 127, 255]
theorem lampblackref07_join.tab1 : rtab .any (opsOf Tryd.f75 1) = lampblackref07_join.T1 := by kernel_rfl
theorem lampblackref07_join.bits1 : waitsOk lampblackref07_join.T1.2 lampblackref07_join.B1 = true := by kernel_rfl
set_option maxHeartbeats 8000000 in
set_option maxRecDepth 100000 in
theorem lampblackref07_join.calls (P0_ : Nat → Prop) (u9000_ : Value) (l0 : List Int) (a1 : Int) (a2 : Int) (r : List Int) (w0 w : World) (hB : Below w0.heap.size w0 w) (ho0 : Kd.R (Kd.int .i64) 3 w w0.heap.size P0_ u9000_ l0) (h : lampblackref07_join.f l0 a1 a2 = some r) :
  Calls Tryd.prog 75 #[u9000_, .int .i64 a1, .int .i64 a2] w fun e w' => e = .returned (.tuple #[]) ∧ Kd.R (Kd.int .i64) 3 w' w0.heap.size (fun k_ => (P0_ k_ ∨ w.heap.size ≤ k_)) u9000_ r ∧ Below w0.heap.size w0 w' ∧ Kept w w' (fun k_ => P0_ k_) := by
 have HO0 := Aside0.mk (show Kd.R (Kd.int .i64) 3 w w0.heap.size (fun k_ => (P0_ k_ ∨ w.heap.size ≤ k_)) u9000_ l0 from Kd.R_mono ho0 (fun k_ hk => (.inl hk)))
 have HK := Aside0.mk (Kept.refl w (fun k_ => P0_ k_))
 have HW0 := Aside0.mk hB.size
 have HB := Aside0.mk hB
 clear hB
 have H : (if 0 ≤ a1 then (if a1 < (l0.length : Int) then (if 0 ≤ a2 then ((some (l0.set (a1 : Int).toNat (Go.bits .or .i64 (rd l0 a1) (shl .i64 1 a2)) : List Int)).bind fun y250 => (if a2 < (l0.length : Int) then (some (y250.set (a2 : Int).toNat (Go.bits .or .i64 (rd y250 a2) (shl .i64 1 a1)))) else (none))) else (none)) else (none)) else (none)) = some r := h
 clear h
 by_cases c4 : 0 ≤ a1
 ·rw [if_pos c4] at H
  have c4b0 : decide (0 ≤ a1) = true := decide_eq_true c4
  clear c4
  by_cases c5 : a1 < (l0.length : Int)
  ·rw [if_pos c5] at H
   have c5b0 : decide (a1 < (l0.length : Int)) = true := decide_eq_true c5
   clear c5
   by_cases c6 : 0 ≤ a2
   ·rw [if_pos c6] at H
    have c6b0 := eq_true c6
    have c6b1 : decide (0 ≤ a2) = true := decide_eq_true c6
    clear c6
    obtain ⟨ji7, hji7⟩ : ∃ j_ : Int, (shl .i64 1 a2) = j_ := ⟨_, rfl⟩
    replace H : ((some (l0.set (a1 : Int).toNat (Go.bits .or .i64 (rd l0 a1) (ji7)) : List Int)).bind fun y250 => (if a2 < (l0.length : Int) then (some (y250.set (a2 : Int).toNat (Go.bits .or .i64 (rd y250 a2) (shl .i64 1 a1)))) else (none))) = some r := by first | (rw [hji7] at H; exact H) | (simp only [hji7] at H ⊢; exact H)
    have hji7_ : (IntKind.i64.wrap (1 * 2 ^ min a2.toNat 64)) = ji7 := hji7
    have hji7z : a2 ≤ 64 → (IntKind.i64.wrap (1 * 2 ^ a2.toNat)) = ji7 := shl_small hji7
    have hji7u : (IntKind.i64.wrap (2 ^ min a2.toNat 64)) = ji7 := by have h_ := hji7_; rw [Int.one_mul] at h_; exact h_
    have hji7v : a2 ≤ 64 → (IntKind.i64.wrap (2 ^ a2.toNat)) = ji7 := fun hle_ => by have h_ := hji7z hle_; rw [Int.one_mul] at h_; exact h_
    have hji7y : (wrap64 (1 * 2 ^ min a2.toNat 64)) = ji7 := (i64_w _).symm.trans hji7_
    have hji7x : a2 ≤ 64 → (wrap64 (1 * 2 ^ a2.toNat)) = ji7 := fun h_ => (i64_w _).symm.trans (hji7z h_)
    obtain ⟨y250, hy250⟩ : ∃ y_ : List Int, y_ = (l0.set (a1 : Int).toNat (Go.bits .or .i64 (rd l0 a1) (ji7))) := ⟨_, rfl⟩
    replace H : (if a2 < (l0.length : Int) then (some (y250.set (a2 : Int).toNat (Go.bits .or .i64 (rd y250 a2) (shl .i64 1 a1)))) else (none)) = some r := by first | (rw [hy250]; with_reducible exact H) | (have H2_ := (Option.bind_some _ _).symm.trans H; rw [hy250]; with_reducible exact H2_) | (have H2_ := (Option.bind_some _ _).symm.trans H; with_reducible exact H2_) | with_reducible exact H | (rw [hy250]; exact H) | exact H
    have Ny250 := Aside0.mk hy250
    clear hy250
    by_cases c9 : a2 < (l0.length : Int)
    ·rw [if_pos c9] at H
     have c9b0 : decide (a2 < (l0.length : Int)) = true := decide_eq_true c9
     clear c9
     have c10b0 := eq_true (of_decide_eq_true (by first | (with_reducible assumption) | assumption) : 0 ≤ a1)
     obtain ⟨ji11, hji11⟩ : ∃ j_ : Int, (shl .i64 1 a1) = j_ := ⟨_, rfl⟩
     replace H : (some (y250.set (a2 : Int).toNat (Go.bits .or .i64 (rd y250 a2) (ji11)))) = some r := by first | (rw [hji11] at H; exact H) | (simp only [hji11] at H ⊢; exact H)
     have hji11_ : (IntKind.i64.wrap (1 * 2 ^ min a1.toNat 64)) = ji11 := hji11
     have hji11z : a1 ≤ 64 → (IntKind.i64.wrap (1 * 2 ^ a1.toNat)) = ji11 := shl_small hji11
     have hji11u : (IntKind.i64.wrap (2 ^ min a1.toNat 64)) = ji11 := by have h_ := hji11_; rw [Int.one_mul] at h_; exact h_
     have hji11v : a1 ≤ 64 → (IntKind.i64.wrap (2 ^ a1.toNat)) = ji11 := fun hle_ => by have h_ := hji11z hle_; rw [Int.one_mul] at h_; exact h_
     have hji11y : (wrap64 (1 * 2 ^ min a1.toNat 64)) = ji11 := (i64_w _).symm.trans hji11_
     have hji11x : a1 ≤ 64 → (wrap64 (1 * 2 ^ a1.toNat)) = ji11 := fun h_ => (i64_w _).symm.trans (hji11z h_)
     obtain ⟨y252, hy252⟩ : ∃ y_ : List Int, y_ = (y250.set (a2 : Int).toNat (Go.bits .or .i64 (rd y250 a2) (ji11))) := ⟨_, rfl⟩
     replace H : (some y252) = some r := by first | (rw [hy252]; with_reducible exact H) | (have H2_ := (Option.bind_some _ _).symm.trans H; rw [hy252]; with_reducible exact H2_) | (have H2_ := (Option.bind_some _ _).symm.trans H; with_reducible exact H2_) | with_reducible exact H | (rw [hy252]; exact H) | exact H
     have Ny252 := Aside0.mk hy252
     clear hy252
     obtain rfl := Option.some.inj H
     go_enter Tryd.func75, Tryd.ntmps75
     try go_wp2
     have n0_ := Aside0.mk (Kd.R_drew HO0.out)
     have n1_ := Aside0.mk (Kept.drew HK.out)
     have n2_ := Aside0.mk (below_drew1 HB.out)
     clear HO0
     clear HK
     clear HB
     have HO0 := n0_
     have HK := n1_
     have HB := n2_
     clear n0_ n1_ n2_
     obtain ⟨Ao14, co14, eo14⟩ := Kd.R_slice HO0.out
     (first | subst eo14 | (injection eo14 with f1_ f2_ f3_; have f4_ := f1_.symm; have f5_ := f3_.symm; clear f1_ f2_ f3_; subst f4_; subst f5_))
     have p249 : 0 ≤ (a1 : Int) := of_decide_eq_true (by first | (with_reducible assumption) | assumption)
     have q249 : a1 < (l0.length : Int) := of_decide_eq_true (by first | (with_reducible assumption) | assumption)
     obtain ⟨ad249, e249, hx249_0⟩ := Kd.at_int (Kd.R_reads' HO0.out).2.2 a1 p249 q249
     cases e249
     replace p249 := eq_true p249
     replace q249 := eq_true q249
     have p8 : 0 ≤ (a1 : Int) := of_decide_eq_true (by first | (with_reducible assumption) | assumption)
     have q8 : (a1 : Int) < ((l0.length : Int) : Int) := of_decide_eq_true (by first | (with_reducible assumption) | assumption)
     obtain ⟨go8, co8, eo8, gb8, gl8, cl8, HG8⟩ := Kd.R_form HO0.out (by omega)
     (first | cases eo8 | (injection eo8 with ea_ en_ ec_; (first | subst ea_ | (injection ea_ with ea_; subst ea_)); subst ec_; clear en_))
     have GB8 := Aside0.mk gb8
     have GG8 := Aside0.mk HG8
     clear gb8 gl8 HG8
     have HMgo8 := Aside0.mk (show (P0_ go8 ∨ w.heap.size ≤ go8) from (HO0.out.1 _ rfl))
     (first | simp only [add_plain] at hx249_0 | skip)
     obtain ⟨hx8_0, hf8_0⟩ := Kd.R_celln 0 HO0.out (a1 : Int) p8 q8
     replace p8 := eq_true p8
     replace q8 := eq_true q8
     have HP15 := Kd.R_putn HO0.out (a1 : Int) (Go.bits .or .i64 (rd l0 a1) (ji7))
     rw [← Ny250.out] at HP15
     have HQ15 := Aside0.mk HP15
     clear HP15
     refine start_ (n := 9) (S := fun w' => w'.cell? ⟨go8, (a1).toNat, none⟩ = some (.int .i64 (rd l0 a1))) (ds := [8]) (Qbz 9 0) (by kernel_rfl) rfl rfl (hx249_0) (fun hHeld => ?_); refine with_tabW lampblackref07_join.tab0 lampblackref07_join.bits0 (fun HT_ HW_ => ?_)
     generalize w.drew = w13 at HO0 HK HB GG8 HQ15 hf8_0 hx249_0 hx8_0 hHeld ⊢
     refine pure_ (i := 0) (N := some 6) (v := ?_) (a' := ?_) (Qbz 9 1) rfl rfl (any_of HT_.out (by kernel_rfl)) (fun _ _ _ h => h) (Or.inl ⟨by rfl, ?_⟩) ?_ ?_
     rotate_left
     ·intro w'
      go_simp
      with_reducible rfl
     rotate_left
     ·simp only [Act.put, Qp1, Qp2, Qp3, i64_w, i32_w]
      rfl
     refine pure_ (i := 1) (N := some 7) (v := ?_) (a' := ?_) (Qbz 9 3) rfl rfl (any_of HT_.out (by kernel_rfl)) (fun _ _ _ h => h) (Or.inl ⟨by rfl, ?_⟩) ?_ ?_
     rotate_left
     ·intro w'
      go_simp
      with_reducible rfl
     rotate_left
     ·simp only [Act.put, Qp1, Qp2, Qp3, i64_w, i32_w]
      rfl
     refine pure_ (i := 2) (N := some 8) (v := ?_) (a' := ?_) (Qbz 9 7) rfl rfl (any_of HT_.out (by kernel_rfl)) (fun _ _ _ h => h) (Or.inl ⟨by rfl, ?_⟩) ?_ ?_
     rotate_left
     ·intro w'
      go_simp
      with_reducible rfl
     rotate_left
     ·simp only [Act.put, Qp1, Qp2, Qp3, i64_w, i32_w]
      rfl
     refine pure_ (i := 4) (N := some 10) (v := ?_) (a' := ?_) (Qbz 9 23) rfl rfl (any_of HT_.out (by kernel_rfl)) (fun _ _ _ h => h) (Or.inl ⟨by rfl, ?_⟩) ?_ ?_
     rotate_left
     ·intro w'
      go_simp
      with_reducible rfl
     rotate_left
     ·simp only [Act.put, Qp1, Qp2, Qp3, i64_w, i32_w]
      rfl
     refine pure_ (i := 5) (N := some 11) (v := ?_) (a' := ?_) (Qbz 9 55) rfl rfl (any_of HT_.out (by kernel_rfl)) (fun _ _ _ h => h) (Or.inl ⟨by rfl, ?_⟩) ?_ ?_
     rotate_left
     ·intro w'
      go_simp
      with_reducible rfl
     rotate_left
     ·simp only [Act.put, Qp1, Qp2, Qp3, i64_w, i32_w]
      rfl
     refine take_ (i := 3) (N := some 9) (v := ?_) (a' := ?_) (Qbz 9 63) rfl rfl (take_ofW HT_.out HW_.out (by kernel_rfl)) (fun _ _ _ h => h) (Or.inl ⟨by rfl, ?_⟩) hHeld ?_ ?_
     rotate_left
     ·intro w' s0
      go_simp
      with_reducible rfl
     rotate_left
     ·simp only [Act.put, Qp1, Qp2, Qp3, i64_w, i32_w]
      rfl
     refine pure_ (i := 6) (N := some 12) (v := ?_) (a' := ?_) (Qbz 9 127) rfl rfl (any_of HT_.out (by kernel_rfl)) (fun _ _ _ h => h) (Or.inl ⟨by rfl, ?_⟩) ?_ ?_
     rotate_left
     ·intro w'
      go_simp
      with_reducible rfl
     rotate_left
     ·simp only [Act.put, Qp1, Qp2, Qp3, i64_w, i32_w]
      rfl
     refine pure_ (i := 7) (N := some 13) (v := ?_) (a' := ?_) (Qbz 9 255) rfl rfl (any_of HT_.out (by kernel_rfl)) (fun _ _ _ h => h) (Or.inl ⟨by rfl, ?_⟩) ?_ ?_
     rotate_left
     ·intro w'
      go_simp
      with_reducible rfl
     rotate_left
     ·simp only [Act.put, Qp1, Qp2, Qp3, i64_w, i32_w]
      rfl
     refine last_ (i := 8) (N := none) (Qbz 9 511) rfl rfl (one_of HT_.out (by kernel_rfl)) (by decide) (fun K hK => ?_)
     refine skip_ (w1 := ?_) (by rfl) rfl ?_ ?_
     rotate_left
     ·go_simp
      rfl
     refine hK.out _ _ ?_
     clear hK K
     refine done_ (done_of HT_.out (by kernel_rfl)) ?_
     try go_wp2
     have n0_ : Aside0 (Kd.R (Kd.int .i64) 3 (w13.setCell ⟨go8, (a1 : Int).toNat, none⟩ (.int .i64 (Go.bits .or .i64 (rd l0 a1) (ji7)))) w0.heap.size (fun k_ => (P0_ k_ ∨ w.heap.size ≤ k_)) (.slice (some ⟨go8, 0, none⟩) l0.length co14) y250) := ⟨by (with_reducible repeat (first | apply Kd.R_alloc | apply Kd.R_drewN | apply Kd.R_drew)); exact HQ15.out⟩
     have n1_ : Aside0 (Kept w (w13.setCell ⟨go8, (a1 : Int).toNat, none⟩ (.int .i64 (Go.bits .or .i64 (rd l0 a1) (ji7)))) (fun k_ => P0_ k_)) := ⟨by repeat (first | (with_reducible first | exact HK.out | apply Kept.alloc | apply Kept.drewN | apply Kept.drew | refine Kept.setCell ?_ HMgo8.out _) | exact HK.out)⟩
     have n2_ : Aside0 (Below w0.heap.size w0 (w13.setCell ⟨go8, (a1 : Int).toNat, none⟩ (.int .i64 (Go.bits .or .i64 (rd l0 a1) (ji7))))) := ⟨by repeat (first | (with_reducible first | exact HB.out | apply below_alloc | apply pw_below_drewN | apply below_drew1 | refine below_set ?_ GB8.out) | exact HB.out)⟩
     (try clear HO0)
     (try clear HK)
     (try clear HB)
     generalize (w13.setCell ⟨go8, (a1 : Int).toNat, none⟩ (.int .i64 (Go.bits .or .i64 (rd l0 a1) (ji7)))) = w16 at n0_ n1_ n2_ ⊢
     have HO0 := n0_
     have HK := n1_
     have HB := n2_
     clear n0_ n1_ n2_
     have n0_ := Aside0.mk (Kd.R_drew HO0.out)
     have n1_ := Aside0.mk (Kept.drew HK.out)
     have n2_ := Aside0.mk (below_drew1 HB.out)
     clear HO0
     clear HK
     clear HB
     have HO0 := n0_
     have HK := n1_
     have HB := n2_
     clear n0_ n1_ n2_
     have p251 : 0 ≤ (a2 : Int) := of_decide_eq_true (by first | (with_reducible assumption) | assumption)
     have q251 : a2 < (y250.length : Int) := (by have h_ : (a2 : Int) < ((l0.length : Int) : Int) := of_decide_eq_true (by first | (with_reducible assumption) | assumption); first | (have e_ := (Kd.R_reads' HO0.out).1; omega) | simpa only [Ny250.out, List.length_set] using h_)
     have ql251 : ((a2 : Int) < ((l0.length : Int) : Int)) = True := eq_true (of_decide_eq_true (by first | (with_reducible assumption) | assumption))
     obtain ⟨ad251, e251, hx251_0⟩ := Kd.at_int (Kd.R_reads' HO0.out).2.2 a2 p251 q251
     obtain rfl : (⟨go8, 0, none⟩ : Addr) = ad251 := (by injection e251)
     (first | simp only [add_plain] at hx251_0 | simp only [add_at] at hx251_0 | simp only [Addr.add, Nat.zero_add] at hx251_0 | skip)
     replace p251 := eq_true p251
     replace q251 := eq_true q251
     have p12 : 0 ≤ (a2 : Int) := of_decide_eq_true (by first | (with_reducible assumption) | assumption)
     have q12 : (a2 : Int) < ((l0.length : Int) : Int) := of_decide_eq_true (by first | (with_reducible assumption) | assumption)
     obtain ⟨hx12_0, hf12_0⟩ := Kd.R_celln 0 HO0.out (a2 : Int) p12 q12
     replace p12 := eq_true p12
     replace q12 := eq_true q12
     have HP18 := Kd.R_putn HO0.out (a2 : Int) (Go.bits .or .i64 (rd y250 a2) (ji11))
     rw [← Ny252.out] at HP18
     have HQ18 := Aside0.mk HP18
     clear HP18
     refine start_ (n := 9) (S := fun w' => w'.cell? ⟨go8, (a2).toNat, none⟩ = some (.int .i64 (rd y250 a2))) (ds := [8]) (Qbz 9 0) (by kernel_rfl) rfl rfl (hx251_0) (fun hHeld => ?_); refine with_tabW lampblackref07_join.tab1 lampblackref07_join.bits1 (fun HT_ HW_ => ?_)
     generalize w16.drew = w17 at HO0 HK HB HQ15 HQ18 hf12_0 hx12_0 hx251_0 hHeld ⊢
     refine pure_ (i := 0) (N := some 14) (v := ?_) (a' := ?_) (Qbz 9 1) rfl rfl (any_of HT_.out (by kernel_rfl)) (fun _ _ _ h => h) (Or.inl ⟨by rfl, ?_⟩) ?_ ?_
     rotate_left
     ·intro w'
      go_simp
      with_reducible rfl
     rotate_left
     ·simp only [Act.put, Qp1, Qp2, Qp3, i64_w, i32_w]
      rfl
     refine pure_ (i := 1) (N := some 15) (v := ?_) (a' := ?_) (Qbz 9 3) rfl rfl (any_of HT_.out (by kernel_rfl)) (fun _ _ _ h => h) (Or.inl ⟨by rfl, ?_⟩) ?_ ?_
     rotate_left
     ·intro w'
      go_simp
      with_reducible rfl
     rotate_left
     ·simp only [Act.put, Qp1, Qp2, Qp3, i64_w, i32_w]
      rfl
     refine pure_ (i := 2) (N := some 16) (v := ?_) (a' := ?_) (Qbz 9 7) rfl rfl (any_of HT_.out (by kernel_rfl)) (fun _ _ _ h => h) (Or.inl ⟨by rfl, ?_⟩) ?_ ?_
     rotate_left
     ·intro w'
      go_simp
      with_reducible rfl
     rotate_left
     ·simp only [Act.put, Qp1, Qp2, Qp3, i64_w, i32_w]
      rfl
     refine pure_ (i := 4) (N := some 18) (v := ?_) (a' := ?_) (Qbz 9 23) rfl rfl (any_of HT_.out (by kernel_rfl)) (fun _ _ _ h => h) (Or.inl ⟨by rfl, ?_⟩) ?_ ?_
     rotate_left
     ·intro w'
      go_simp
      with_reducible rfl
     rotate_left
     ·simp only [Act.put, Qp1, Qp2, Qp3, i64_w, i32_w]
      rfl
     refine pure_ (i := 5) (N := some 19) (v := ?_) (a' := ?_) (Qbz 9 55) rfl rfl (any_of HT_.out (by kernel_rfl)) (fun _ _ _ h => h) (Or.inl ⟨by rfl, ?_⟩) ?_ ?_
     rotate_left
     ·intro w'
      go_simp
      with_reducible rfl
     rotate_left
     ·simp only [Act.put, Qp1, Qp2, Qp3, i64_w, i32_w]
      rfl
     refine take_ (i := 3) (N := some 17) (v := ?_) (a' := ?_) (Qbz 9 63) rfl rfl (take_ofW HT_.out HW_.out (by kernel_rfl)) (fun _ _ _ h => h) (Or.inl ⟨by rfl, ?_⟩) hHeld ?_ ?_
     rotate_left
     ·intro w' s0
      go_simp
      with_reducible rfl
     rotate_left
     ·simp only [Act.put, Qp1, Qp2, Qp3, i64_w, i32_w]
      rfl
     refine pure_ (i := 6) (N := some 20) (v := ?_) (a' := ?_) (Qbz 9 127) rfl rfl (any_of HT_.out (by kernel_rfl)) (fun _ _ _ h => h) (Or.inl ⟨by rfl, ?_⟩) ?_ ?_
     rotate_left
     ·intro w'
      go_simp
      with_reducible rfl
     rotate_left
     ·simp only [Act.put, Qp1, Qp2, Qp3, i64_w, i32_w]
      rfl
     refine pure_ (i := 7) (N := some 21) (v := ?_) (a' := ?_) (Qbz 9 255) rfl rfl (any_of HT_.out (by kernel_rfl)) (fun _ _ _ h => h) (Or.inl ⟨by rfl, ?_⟩) ?_ ?_
     rotate_left
     ·intro w'
      go_simp
      with_reducible rfl
     rotate_left
     ·simp only [Act.put, Qp1, Qp2, Qp3, i64_w, i32_w]
      rfl
     refine last_ (i := 8) (N := none) (Qbz 9 511) rfl rfl (one_of HT_.out (by kernel_rfl)) (by decide) (fun K hK => ?_)
     refine skip_ (w1 := ?_) (by rfl) rfl ?_ ?_
     rotate_left
     ·go_simp
      rfl
     refine hK.out _ _ ?_
     clear hK K
     refine done_ (done_of HT_.out (by kernel_rfl)) ?_
     try go_wp2
     first | go_end0 | ((try simp only [Exit.inBlock, Exit.then]); refine bodyPost_ret (results_none rfl _ _ _) rfl ?_)
     exact ⟨by first | rfl | (simp [errW_none, errW_some] <;> rfl) | (simp only [← hji7, ← hji11]; first | rfl | (simp [errW_none, errW_some] <;> rfl)) | (simp [*, errW_none, errW_some] <;> rfl), by (with_reducible repeat (first | apply Kd.R_alloc | apply Kd.R_drewN | apply Kd.R_drew)); exact HQ18.out, by repeat (first | (with_reducible first | exact HB.out | apply below_alloc | apply pw_below_drewN | apply below_drew1 | refine below_set ?_ GB8.out) | exact HB.out), by repeat (first | (with_reducible first | exact HK.out | apply Kept.alloc | apply Kept.drewN | apply Kept.drew | refine Kept.setCell ?_ HMgo8.out _) | exact HK.out)⟩
    ·rw [if_neg c9] at H
     exact absurd H (by simp)
   ·rw [if_neg c6] at H
    exact absurd H (by simp)
  ·rw [if_neg c5] at H
   exact absurd H (by simp)
 ·rw [if_neg c4] at H
  exact absurd H (by simp)
end Go.Proofs.YtjloppfdagfpmaaDoor.X
end
section
namespace Go.Proofs.YtjloppfdagfpmaaDoor.X
open Go.RowKit YtjloppfdagfpmaaDoorW.PrintWords YtjloppfdagfpmaaDoorW.PrintLast YtjloppfdagfpmaaDoorW.PrintMore
attribute [local go_sem] max2_int min2_int max_two min_two max_three min_three max_four min_four
/-! ### lampblackref07_Contract: function 38 -/
def lampblackref07_Contract.l0 : Nat → List Int → Int → Int → List Int → Int → Int → Option (List Int)
 | 0, _, _, _, _, _, _ => none
 | k + 1, x0, x1, x2, x7, x13, x14 => if x14 < x13 then (if 0 ≤ x2 then (if x2 < (x0.length : Int) then (if 0 ≤ x14 then (if (Go.bits .and .i64 (shr .i64 (rd x0 x2) x14) 1) = 1 then (if x14 = x1 then (lampblackref07_Contract.l0 k x0 x1 x2 x7 x13 (wrap64 (x14 + 1))) else ((lampblackref07_join.f x7 x1 x14).bind fun t336 => (lampblackref07_Contract.l0 k x0 x1 x2 t336 x13 (wrap64 (x14 + 1))))) else (lampblackref07_Contract.l0 k x0 x1 x2 x7 x13 (wrap64 (x14 + 1)))) else (none)) else (none)) else (none)) else ((lampblackref07_Delete.f k x7 x2).bind fun t337 => (some t337))
end Go.Proofs.YtjloppfdagfpmaaDoor.X
end
section
/- (minor) A node less, and two neighbours made one. -/
namespace Go.Proofs.YtjloppfdagfpmaaDoor.X
open Go.RowKit YtjloppfdagfpmaaDoorW.PrintWords YtjloppfdagfpmaaDoorW.PrintLast YtjloppfdagfpmaaDoorW.PrintMore YtjloppfdagfpmaaDoor.T
def joinN (J : List Nat) (a u : Nat) : List Nat := (J.set a (J.getD a 0 ||| 2 ^ u)).set u ((J.set a (J.getD a 0 ||| 2 ^ u)).getD u 0 ||| 2 ^ a)
def InN (n : Nat) (J : List Nat) : Prop := J.length = n ∧ ∀ i, J.getD i 0 < 2 ^ n
theorem getD_set3 (W : List Nat) (i j x : Nat) (hi : i < W.length) : (W.set i x).getD j 0 = if j = i then x else W.getD j 0 := by
 rw [List.getD_eq_getElem?_getD, List.getD_eq_getElem?_getD, List.getElem?_set]
 by_cases h : i = j
 ·subst h; rw [if_pos rfl, if_pos rfl, if_pos hi]; rfl
 ·rw [if_neg h, if_neg (fun e => h e.symm)]
theorem InN.join {n : Nat} {J : List Nat} (h : InN n J) {a u : Nat} (ha : a < n) (hu : u < n) : InN n (joinN J a u) := by
 have hp : ∀ v, v < n → 2 ^ v < 2 ^ n := fun v hv => Nat.pow_lt_pow_right (by omega) hv
 have h1 : ∀ i, (J.set a (J.getD a 0 ||| 2 ^ u)).getD i 0 < 2 ^ n := fun i => by
  rw [getD_set3 _ _ _ _ (by rw [h.1]; exact ha)]
  split
  ·exact Nat.or_lt_two_pow (h.2 a) (hp u hu)
  ·exact h.2 i
 refine ⟨by unfold joinN; rw [List.length_set, List.length_set, h.1], fun i => ?_⟩
 unfold joinN
 rw [getD_set3 _ _ _ _ (by rw [List.length_set, h.1]; exact hu)]
 split
 ·exact Nat.or_lt_two_pow (h1 u) (hp a ha)
 ·exact h1 i
theorem join_eq {n : Nat} (hn : n ≤ 9) {J : List Nat} (h : InN n J) {a u : Nat} (ha : a < n) (hu : u < n) : minor_town_join.f (gi J) (a : Int) (u : Int) = some (gi (joinN J a u)) := by
 have h9 : 2 ^ n ≤ 2 ^ 9 := Nat.pow_le_pow_right (by omega) hn
 have hp : ∀ v, v < n → 2 ^ v < 2 ^ 62 := fun v hv => Nat.lt_of_lt_of_le (Nat.pow_lt_pow_right (by omega) hv) (Nat.le_trans h9 (by omega))
 have hb : ∀ x, x < 2 ^ n → x < 2 ^ 62 := fun x hx => Nat.lt_of_lt_of_le hx (Nat.le_trans h9 (by omega))
 have hJ1 : ∀ i, (J.set a (J.getD a 0 ||| 2 ^ u)).getD i 0 < 2 ^ n := fun i => by
  rw [getD_set3 _ _ _ _ (by rw [h.1]; exact ha)]
  split
  ·exact Nat.or_lt_two_pow (h.2 a) (Nat.pow_lt_pow_right (by omega) hu)
  ·exact h.2 i
 unfold minor_town_join.f
 rw [if_pos (by omega), if_pos (by rw [gi_length, h.1]; omega), if_pos (by omega), rd_gi, s_one u (by omega), b_or _ _ (hb _ (h.2 a)) (hp u hu), Int.toNat_natCast, gi_set]
 simp only [Option.bind_some]
 rw [if_pos (by rw [gi_length, h.1]; omega), rd_gi, s_one a (by omega), b_or _ _ (hb _ (hJ1 u)) (hp a ha), Int.toNat_natCast, gi_set]
 rfl
theorem gr_in {m : Nat} {G : List Nat} (hG : Gr m G) : InN G.length G := ⟨rfl, hG.row⟩
end Go.Proofs.YtjloppfdagfpmaaDoor.X
end
section
/- (*minor.reduction).step, do and (minor.town).reduction, by hand. -/
namespace Go.Proofs.YtjloppfdagfpmaaDoor.X
open Go.RowKit YtjloppfdagfpmaaDoorW.PrintWords YtjloppfdagfpmaaDoorW.PrintLast YtjloppfdagfpmaaDoorW.PrintMore YtjloppfdagfpmaaDoor.T
attribute [local go_sem] max2_int min2_int max_two min_two max_three min_three max_four min_four
theorem add0 (a : Addr) : a.add 0 = a := by
 unfold Addr.add
 cases a
 split <;> simp_all
theorem four_facts {W : World} {g : Nat} {t : TypeId} {x0 x1 x2 x3 : Value} (h : W.heap[g]? = some (.cells #[x0, x1, x2, x3] t (0, 0))) (u0 u1 u2 u3 : Value) :
  (W.cell? ⟨g, 0, none⟩ = some x0 ∧ W.frozen? ⟨g, 0, none⟩ = false) ∧
  ((W.setCell ⟨g, 0, none⟩ u0).cell? ⟨g, 1, none⟩ = some x1 ∧ (W.setCell ⟨g, 0, none⟩ u0).frozen? ⟨g, 1, none⟩ = false) ∧
  (((W.setCell ⟨g, 0, none⟩ u0).setCell ⟨g, 1, none⟩ u1).cell? ⟨g, 2, none⟩ = some x2 ∧ ((W.setCell ⟨g, 0, none⟩ u0).setCell ⟨g, 1, none⟩ u1).frozen? ⟨g, 2, none⟩ = false) ∧
  ((((W.setCell ⟨g, 0, none⟩ u0).setCell ⟨g, 1, none⟩ u1).setCell ⟨g, 2, none⟩ u2).cell? ⟨g, 3, none⟩ = some x3 ∧ (((W.setCell ⟨g, 0, none⟩ u0).setCell ⟨g, 1, none⟩ u1).setCell ⟨g, 2, none⟩ u2).frozen? ⟨g, 3, none⟩ = false) ∧
  ((((W.setCell ⟨g, 0, none⟩ u0).setCell ⟨g, 1, none⟩ u1).setCell ⟨g, 2, none⟩ u2).setCell ⟨g, 3, none⟩ u3).heap[g]? = some (.cells #[u0, u1, u2, u3] t (0, 0)) := by
 have h1 : (W.setCell ⟨g, 0, none⟩ u0).heap[g]? = some (.cells #[u0, x1, x2, x3] t (0, 0)) := blk_put h 0 u0 rfl
 have h2 : ((W.setCell ⟨g, 0, none⟩ u0).setCell ⟨g, 1, none⟩ u1).heap[g]? = some (.cells #[u0, u1, x2, x3] t (0, 0)) := blk_put h1 1 u1 rfl
 have h3 : (((W.setCell ⟨g, 0, none⟩ u0).setCell ⟨g, 1, none⟩ u1).setCell ⟨g, 2, none⟩ u2).heap[g]? = some (.cells #[u0, u1, u2, x3] t (0, 0)) := blk_put h2 2 u2 rfl
 exact ⟨⟨(blk_cell h 0).trans rfl, blk_frozen h 0⟩, ⟨(blk_cell h1 1).trans rfl, blk_frozen h1 1⟩, ⟨(blk_cell h2 2).trans rfl, blk_frozen h2 2⟩, ⟨(blk_cell h3 3).trans rfl, blk_frozen h3 3⟩, blk_put h3 3 u3 rfl⟩
theorem four_reads {W : World} {g : Nat} {t : TypeId} {x0 x1 x2 x3 : Value} (h : W.heap[g]? = some (.cells #[x0, x1, x2, x3] t (0, 0))) :
  W.cell? ⟨g, 0, none⟩ = some x0 ∧ W.cell? ⟨g, 1, none⟩ = some x1 ∧ W.cell? ⟨g, 2, none⟩ = some x2 ∧ W.cell? ⟨g, 3, none⟩ = some x3 :=
 ⟨(blk_cell h 0).trans rfl, (blk_cell h 1).trans rfl, (blk_cell h 2).trans rfl, (blk_cell h 3).trans rfl⟩
theorem below_four {w W : World} {g : Nat} (h : Below w.heap.size w W) (hg : w.heap.size ≤ g) (u0 u1 u2 u3 : Value) : Below w.heap.size w ((((W.setCell ⟨g, 0, none⟩ u0).setCell ⟨g, 1, none⟩ u1).setCell ⟨g, 2, none⟩ u2).setCell ⟨g, 3, none⟩ u3) :=
 below_set (below_set (below_set (below_set h hg) hg) hg) hg
def sA : List Nat → Int
 | [a] => a
 | [a, _] => a
 | _ => -1
def sB : List Nat → Int
 | [_, b] => b
 | _ => -1
set_option maxHeartbeats 4000000 in
set_option maxRecDepth 100000 in
theorem step_calls (rB : Nat) (A : Option Addr) (c : Nat) (J : List Nat) (left v : Nat) (w : World) (hGL : GL w) (h0 : w.cell? ⟨rB, 0, none⟩ = some (.slice A J.length c)) (h1 : w.cell? ⟨rB, 1, none⟩ = some (.int .i64 (left : Int))) (hr : Kd.C (Kd.int .i64) w A J.length (gi J)) (hv : v < J.length) (hJl : J.length ≤ 9) (hJ : J.getD v 0 < 512) (hl : left < 512) (L : List Nat) (hL : els (J.getD v 0 &&& left) 9 = L) :
  Calls Tryd.prog 79 #[.pointer (some ⟨rB, 0, none⟩), .int .i64 (v : Int)] w fun e w' => e = .returned (.tuple #[.agg #[.int .i64 (L.length : Int), .int .i64 (v : Int), .int .i64 (sA L), .int .i64 (sB L)], .bool (decide (L.length ≤ 2))]) ∧ Below w.heap.size w w' := by
 obtain ⟨ad, e1, hgx⟩ := Kd.at_int hr (v : Int) (by omega) (by omega)
 subst e1
 rw [rd_gi, Int.toNat_natCast] at hgx
 have hi1 : ((v : Int) < (J.length : Int)) = True := eq_true (by omega)
 have hi2 : decide ((v : Int) < (J.length : Int)) = true := decide_eq_true (by omega)
 have HGL := Aside0.mk hGL
 have hq : Go.bits .and .i64 ((J.getD v 0 : Nat) : Int) (left : Int) = ((J.getD v 0 &&& left : Nat) : Int) := b_and _ _ (by omega) (by omega)
 have hq5 : J.getD v 0 &&& left < 512 := Nat.lt_of_le_of_lt Nat.and_le_left hJ
 have hlen : L.length ≤ 9 := by rw [← hL, els_length]; exact pc_le _ 9
 generalize J.getD v 0 &&& left = q at *
 generalize J.getD v 0 = x at *
 obtain ⟨w1, hw1⟩ : ∃ w1 : World, w1 = w.alloc (Obj.cells #[.int .i64 0, .int .i64 0, .int .i64 0, .int .i64 0] 95) := ⟨_, rfl⟩
 have HB1 : Aside0 (Below w.heap.size w w1) := ⟨by rw [hw1]; exact below_alloc (Below.refl _ _) _⟩
 have HBK : Aside0 (w1.heap[w.heap.size]? = some (.cells #[.int .i64 0, .int .i64 0, .int .i64 0, .int .i64 0] 95 (0, 0))) := ⟨by rw [hw1]; exact blk_new w _⟩
 have f0 : w1.cell? ⟨rB, 0, none⟩ = some (.slice (some ad) J.length c) := (HB1.out.cell (World.block_lt_of_cell? w _ h0)).trans h0
 have f1 : w1.cell? ⟨rB, 1, none⟩ = some (.int .i64 (left : Int)) := (HB1.out.cell (World.block_lt_of_cell? w _ h1)).trans h1
 have f2 : w1.cell? (ad.add v) = some (.int .i64 (x : Int)) := (HB1.out.cell (World.block_lt_of_cell? w _ hgx)).trans hgx
 have f0d : w1.drew.cell? ⟨rB, 0, none⟩ = some (.slice (some ad) J.length c) := f0
 have f1d : w1.drew.cell? ⟨rB, 1, none⟩ = some (.int .i64 (left : Int)) := f1
 have f2d : w1.drew.cell? (ad.add v) = some (.int .i64 (x : Int)) := f2
 have fBd : Below w1.heap.size w1 w1.drew := below_drew (Below.refl _ _)
 have CND : Aside0 (∀ W, (W.cell? ⟨rB, 0, none⟩ = some (.slice (some ad) J.length c) ∧ W.cell? ⟨rB, 1, none⟩ = some (.int .i64 (left : Int)) ∧ W.cell? (ad.add v) = some (.int .i64 (x : Int)) ∧ Below w1.heap.size w1 W) → Calls Tryd.prog 69 #[.int .i64 (q : Int)] W fun e w' => ∃ A cq, e = .returned (.slice A L.length cq) ∧ Kd.C (Kd.int .i64) w' A L.length (gi L) ∧ (w'.cell? ⟨rB, 0, none⟩ = some (.slice (some ad) J.length c) ∧ w'.cell? ⟨rB, 1, none⟩ = some (.int .i64 (left : Int)) ∧ w'.cell? (ad.add v) = some (.int .i64 (x : Int)) ∧ Below w1.heap.size w1 w')) := ⟨by
  rintro W ⟨s0, s1, s2, s3⟩
  obtain ⟨K, hK⟩ := nodes_ev q hq5
  refine (minor_nodes.calls K (q : Int) _ W (GL_below HGL.out (below_step HB1.out s3)) (hK K (Nat.le_refl _))).mono ?_
  rintro e w' ⟨u, rfl, hu, hb⟩
  obtain ⟨A, cq, eu, hc, hC⟩ := Kd.R_reads hu
  rw [hL, gi_length] at eu hC
  subst eu
  exact ⟨A, cq, rfl, hC, (hb.cell (World.block_lt_of_cell? W _ s0)).trans s0, (hb.cell (World.block_lt_of_cell? W _ s1)).trans s1, (hb.cell (World.block_lt_of_cell? W _ s2)).trans s2, below_step s3 hb⟩⟩
 clear hr hGL hL hq5 hJ
 go_enter Tryd.func79, Tryd.ntmps79
 go_wp2
 rw [← hw1]
 clear hw1
 refine start_ (n := 14) (S := fun w' => w'.cell? ⟨rB, 0, none⟩ = some (.slice (some ad) J.length c) ∧ w'.cell? ⟨rB, 1, none⟩ = some (.int .i64 (left : Int)) ∧ w'.cell? (ad.add v) = some (.int .i64 (x : Int)) ∧ Below w1.heap.size w1 w') (ds := []) (Qbz 14 0) (by kernel_rfl) rfl rfl ⟨f0d, f1d, f2d, fBd⟩ (fun hHeld => ?_)
 refine pure_ (i := 0) (N := some 8) (v := ?_) (a' := ?_) (Qbz 14 1) rfl rfl (by kernel_rfl) (fun _ _ _ h => h) (Or.inl ⟨by rfl, ?_⟩) ?_ ?_
 rotate_left
 ·intro w'
  go_simp
  with_reducible rfl
 rotate_left
 ·simp only [Act.put, Qp1, Qp2, Qp3, i64_w, i32_w]
  rfl
 refine pure_ (i := 1) (N := some 9) (v := ?_) (a' := ?_) (Qbz 14 3) rfl rfl (by kernel_rfl) (fun _ _ _ h => h) (Or.inl ⟨by rfl, ?_⟩) ?_ ?_
 rotate_left
 ·intro w'
  go_simp
  with_reducible rfl
 rotate_left
 ·simp only [Act.put, Qp1, Qp2, Qp3, i64_w, i32_w]
  rfl
 refine pure_ (i := 2) (N := some 10) (v := ?_) (a' := ?_) (Qbz 14 7) rfl rfl (by kernel_rfl) (fun _ _ _ h => h) (Or.inl ⟨by rfl, ?_⟩) ?_ ?_
 rotate_left
 ·intro w'
  go_simp
  with_reducible rfl
 rotate_left
 ·simp only [Act.put, Qp1, Qp2, Qp3, i64_w, i32_w]
  rfl
 refine pure_ (i := 4) (N := some 12) (v := ?_) (a' := ?_) (Qbz 14 23) rfl rfl (by kernel_rfl) (fun _ _ _ h => h) (Or.inl ⟨by rfl, ?_⟩) ?_ ?_
 rotate_left
 ·intro w'
  go_simp
  with_reducible rfl
 rotate_left
 ·simp only [Act.put, Qp1, Qp2, Qp3, i64_w, i32_w]
  rfl
 refine pure_ (i := 7) (N := some 15) (v := ?_) (a' := ?_) (Qbz 14 151) rfl rfl (by kernel_rfl) (fun _ _ _ h => h) (Or.inl ⟨by rfl, ?_⟩) ?_ ?_
 rotate_left
 ·intro w'
  go_simp
  with_reducible rfl
 rotate_left
 ·simp only [Act.put, Qp1, Qp2, Qp3, i64_w, i32_w]
  rfl
 refine pure_ (i := 8) (N := some 16) (v := ?_) (a' := ?_) (Qbz 14 407) rfl rfl (by kernel_rfl) (fun _ _ _ h => h) (Or.inl ⟨by rfl, ?_⟩) ?_ ?_
 rotate_left
 ·intro w'
  go_simp
  with_reducible rfl
 rotate_left
 ·simp only [Act.put, Qp1, Qp2, Qp3, i64_w, i32_w]
  rfl
 refine pure_ (i := 9) (N := some 17) (v := ?_) (a' := ?_) (Qbz 14 919) rfl rfl (by kernel_rfl) (fun _ _ _ h => h) (Or.inl ⟨by rfl, ?_⟩) ?_ ?_
 rotate_left
 ·intro w'
  go_simp
  with_reducible rfl
 rotate_left
 ·simp only [Act.put, Qp1, Qp2, Qp3, i64_w, i32_w]
  rfl
 refine take_ (i := 3) (N := some 11) (v := ?_) (a' := ?_) (Qbz 14 927) rfl rfl (by kernel_rfl) (fun _ _ _ h => h) (Or.inl ⟨by rfl, ?_⟩) hHeld ?_ ?_
 rotate_left
 ·rintro w' ⟨s0, s1, s2, s3⟩
  go_simp
  with_reducible rfl
 rotate_left
 ·simp only [Act.put, Qp1, Qp2, Qp3, i64_w, i32_w]
  rfl
 refine pure_ (i := 5) (N := some 13) (v := ?_) (a' := ?_) (Qbz 14 959) rfl rfl (by kernel_rfl) (fun _ _ _ h => h) (Or.inl ⟨by rfl, ?_⟩) ?_ ?_
 rotate_left
 ·intro w'
  go_simp
  with_reducible rfl
 rotate_left
 ·simp only [Act.put, Qp1, Qp2, Qp3, i64_w, i32_w]
  rfl
 refine take_ (i := 6) (N := some 14) (v := ?_) (a' := ?_) (Qbz 14 1023) rfl rfl (by kernel_rfl) (fun _ _ _ h => h) (Or.inl ⟨by rfl, ?_⟩) hHeld ?_ ?_
 rotate_left
 ·rintro w' ⟨s0, s1, s2, s3⟩
  go_simp
  with_reducible rfl
 rotate_left
 ·simp only [Act.put, Qp1, Qp2, Qp3, i64_w, i32_w]
  rfl
 refine take_ (i := 10) (N := some 18) (v := ?_) (a' := ?_) (Qbz 14 2047) rfl rfl (by kernel_rfl) (fun _ _ _ h => h) (Or.inl ⟨by rfl, ?_⟩) hHeld ?_ ?_
 rotate_left
 ·rintro w' ⟨s0, s1, s2, s3⟩
  go_simp
  with_reducible rfl
 rotate_left
 ·simp only [Act.put, Qp1, Qp2, Qp3, i64_w, i32_w]
  rfl
 refine pure_ (i := 11) (N := some 19) (v := ?_) (a' := ?_) (Qbz 14 4095) rfl rfl (by kernel_rfl) (fun _ _ _ h => h) (Or.inl ⟨by rfl, ?_⟩) ?_ ?_
 rotate_left
 ·intro w'
  go_simp
  with_reducible rfl
 rotate_left
 ·simp only [Act.put, Qp1, Qp2, Qp3, i64_w, i32_w]
  rfl
 refine one_ (i := 12) (N := some 20) (Qbz 14 8191) rfl rfl (by kernel_rfl) (by decide) (fun K hK => ?_)
 refine goes_ Tryd.func69 (by kernel_rfl) rfl #[.int .i64 (q : Int)] (by rfl) rfl rfl (by simp only [List.map_toArray, List.map_cons, List.map_nil]; rfl) ?_
 with_reducible refine (CND.out _ hHeld).mono ?_
 rintro e w3 ⟨A5, c5, rfl, hC5, g0, g1, g2, gB⟩
 refine ⟨_, rfl, ?_⟩
 refine hK.out _ _ ⟨g0, g1, g2, gB⟩ (fun hHeld => ?_)
 clear hK K
 refine norm_ (a' := ?_) ?_ ?_
 rotate_left
 ·show Act.put _ (some 20) _ = _
  simp only [Act.put, Qp1, Qp2, Qp3, i64_w, i32_w]
  rfl
 refine pure_ (i := 13) (N := some 6) (v := ?_) (a' := ?_) (Qbz 14 16383) rfl rfl (by kernel_rfl) (fun _ _ _ h => h) (Or.inl ⟨by rfl, ?_⟩) ?_ ?_
 rotate_left
 ·intro w'
  go_simp
  with_reducible rfl
 rotate_left
 ·simp only [Act.put, Qp1, Qp2, Qp3, i64_w, i32_w]
  rfl
 refine done_ (by kernel_rfl) ?_
 have HB3 := Aside0.mk (below_step HB1.out gB)
 have hb3 := blk_below HBK.out gB
 obtain ⟨z, hz⟩ : ∃ z, L.length = z := ⟨_, rfl⟩
 rw [hz] at hC5 ⊢
 have HC5 := Aside0.mk hC5
 clear gB hHeld g0 g1 g2 f0 f1 f2 f0d f1d f2d fBd CND h0 h1 hgx HBK hC5
 rcases L with _ | ⟨a, _ | ⟨b, _ | ⟨d, r⟩⟩⟩
 ·obtain rfl : z = 0 := hz.symm
  have hb4 := blk_alloc hb3 (.cells #[.int .i64 (0), .int .i64 (v : Int), .int .i64 (-1), .int .i64 (-1)] 95)
  obtain ⟨⟨q1, q2⟩, ⟨q3, q4⟩, ⟨q5, q6⟩, ⟨q7, q8⟩, hb9⟩ := four_facts hb4 (.int .i64 (0)) (.int .i64 (v : Int)) (.int .i64 (-1)) (.int .i64 (-1))
  go_wp2
  refine bodyPost_ret (results_ct rfl _ _ w.heap.size 95 #[.int .i64 (0), .int .i64 (v : Int), .int .i64 (-1), .int .i64 (-1)] (0, 0) _ rfl hb9 Tryd.underlying95 rfl (by kernel_rfl)) rfl ?_
  exact ⟨rfl, below_four (below_alloc HB3.out _) (by omega) _ _ _ _⟩
 ·obtain rfl : z = 1 := hz.symm
  obtain ⟨a5, e5, hx5⟩ := Kd.at_int HC5.out 0 (by omega) (by simp)
  subst e5
  have hx5' : w3.cell? a5 = some (.int .i64 (a : Int)) := by have h := hx5; rw [show (0 : Int).toNat = 0 from rfl, add0] at h; exact h
  have hal := below_alloc (Below.refl w3.heap.size w3) (.cells #[.int .i64 1, .int .i64 (v : Int), .int .i64 (-1), .int .i64 (-1)] 95)
  have hx6 : (w3.alloc (.cells #[.int .i64 1, .int .i64 (v : Int), .int .i64 (-1), .int .i64 (-1)] 95)).cell? a5 = some (.int .i64 (a : Int)) := (hal.cell (World.block_lt_of_cell? w3 _ hx5')).trans hx5'
  clear hal hx5 hx5'
  have hb4 := blk_alloc hb3 (.cells #[.int .i64 (1), .int .i64 (v : Int), .int .i64 (a), .int .i64 (-1)] 95)
  obtain ⟨⟨q1, q2⟩, ⟨q3, q4⟩, ⟨q5, q6⟩, ⟨q7, q8⟩, hb9⟩ := four_facts hb4 (.int .i64 (1)) (.int .i64 (v : Int)) (.int .i64 (a)) (.int .i64 (-1))
  go_wp2
  refine bodyPost_ret (results_ct rfl _ _ w.heap.size 95 #[.int .i64 (1), .int .i64 (v : Int), .int .i64 (a), .int .i64 (-1)] (0, 0) _ rfl hb9 Tryd.underlying95 rfl (by kernel_rfl)) rfl ?_
  exact ⟨rfl, below_four (below_alloc HB3.out _) (by omega) _ _ _ _⟩
 ·obtain rfl : z = 2 := hz.symm
  obtain ⟨a5, e5, hx5⟩ := Kd.at_int HC5.out 0 (by omega) (by simp)
  obtain ⟨a6, e6, hx7⟩ := Kd.at_int HC5.out 1 (by omega) (by simp)
  rw [e5] at e6
  obtain rfl : a5 = a6 := Option.some.inj e6
  subst e5
  have hx5' : w3.cell? a5 = some (.int .i64 (a : Int)) := by have h := hx5; rw [show (0 : Int).toNat = 0 from rfl, add0] at h; exact h
  have hx7' : w3.cell? ⟨a5.block, a5.off + 1, none⟩ = some (.int .i64 (b : Int)) := hx7
  have hbl5 := World.block_lt_of_cell? w3 _ hx5'
  have hbl7 := World.block_lt_of_cell? w3 _ hx7'
  have hal := below_alloc (Below.refl w3.heap.size w3) (.cells #[.int .i64 2, .int .i64 (v : Int), .int .i64 (-1), .int .i64 (-1)] 95)
  obtain ⟨w4, hw4⟩ : ∃ w4 : World, w4 = w3.alloc (.cells #[.int .i64 2, .int .i64 (v : Int), .int .i64 (-1), .int .i64 (-1)] 95) := ⟨_, rfl⟩
  rw [← hw4] at hal
  have ht4 : w4.heap[w3.heap.size]? = some (.cells #[.int .i64 2, .int .i64 (v : Int), .int .i64 (-1), .int .i64 (-1)] 95 (0, 0)) := by rw [hw4]; exact blk_new w3 _
  have hb4 : w4.heap[w.heap.size]? = some (.cells #[.int .i64 0, .int .i64 0, .int .i64 0, .int .i64 0] 95 (0, 0)) := by rw [hw4]; exact blk_alloc hb3 _
  have HB4 := Aside0.mk (below_step HB3.out hal)
  obtain ⟨tB, htB⟩ : ∃ tB, tB = w3.heap.size := ⟨_, rfl⟩
  rw [← htB] at ht4 hbl5 hbl7
  have hne : w.heap.size ≠ tB := by have := blk_lt hb3; omega
  have n0d : w4.drew.cell? a5 = some (.int .i64 (a : Int)) := (hal.cell (by rw [← htB]; exact hbl5)).trans hx5'
  have n1d : w4.drew.cell? ⟨a5.block, a5.off + 1, none⟩ = some (.int .i64 (b : Int)) := (hal.cell (by rw [← htB]; exact hbl7)).trans hx7'
  have hk : ∀ (W : World) (d : Addr), d.block < tB → ∀ (j : Nat) (u : Value), (W.setCell ⟨tB, j, none⟩ u).cell? d = W.cell? d := fun W d hd j u => by
   have := Below.heap_setCell W ⟨tB, j, none⟩ u d.block (show d.block ≠ tB by omega)
   simp only [World.cell?, this]
  have n0e : (w4.setCell ⟨tB, 2, none⟩ (.int .i64 (a : Int))).drew.cell? a5 = some (.int .i64 (a : Int)) := (hk w4 _ hbl5 _ _).trans n0d
  have n1e : (w4.setCell ⟨tB, 2, none⟩ (.int .i64 (a : Int))).drew.cell? ⟨a5.block, a5.off + 1, none⟩ = some (.int .i64 (b : Int)) := (hk w4 _ hbl7 _ _).trans n1d
  have hs1 : w4.cell? ⟨tB, 2, none⟩ = some (.int .i64 (-1)) := (blk_cell ht4 2).trans rfl
  have hs2 : w4.frozen? ⟨tB, 2, none⟩ = false := blk_frozen ht4 2
  have hs1d : w4.drew.cell? ⟨tB, 2, none⟩ = some (.int .i64 (-1)) := hs1
  have hs2d : w4.drew.frozen? ⟨tB, 2, none⟩ = false := hs2
  have ht5 : (w4.setCell ⟨tB, 2, none⟩ (.int .i64 (a : Int))).heap[tB]? = some (.cells #[.int .i64 2, .int .i64 (v : Int), .int .i64 (a : Int), .int .i64 (-1)] 95 (0, 0)) := blk_put ht4 2 _ rfl
  have hs3 : (w4.setCell ⟨tB, 2, none⟩ (.int .i64 (a : Int))).cell? ⟨tB, 3, none⟩ = some (.int .i64 (-1)) := (blk_cell ht5 3).trans rfl
  have hs4 : (w4.setCell ⟨tB, 2, none⟩ (.int .i64 (a : Int))).frozen? ⟨tB, 3, none⟩ = false := blk_frozen ht5 3
  have hs3d : (w4.setCell ⟨tB, 2, none⟩ (.int .i64 (a : Int))).drew.cell? ⟨tB, 3, none⟩ = some (.int .i64 (-1)) := hs3
  have hs4d : (w4.setCell ⟨tB, 2, none⟩ (.int .i64 (a : Int))).drew.frozen? ⟨tB, 3, none⟩ = false := hs4
  have HT6 : Aside0 (((w4.setCell ⟨tB, 2, none⟩ (.int .i64 (a : Int))).setCell ⟨tB, 3, none⟩ (.int .i64 (b : Int))).heap[tB]? = some (.cells #[.int .i64 2, .int .i64 (v : Int), .int .i64 (a : Int), .int .i64 (b : Int)] 95 (0, 0))) := ⟨blk_put ht5 3 _ rfl⟩
  have HB6 : Aside0 (((w4.setCell ⟨tB, 2, none⟩ (.int .i64 (a : Int))).setCell ⟨tB, 3, none⟩ (.int .i64 (b : Int))).heap[w.heap.size]? = some (.cells #[.int .i64 0, .int .i64 0, .int .i64 0, .int .i64 0] 95 (0, 0))) := ⟨blk_far (p := ⟨tB, 3, none⟩) (blk_far (p := ⟨tB, 2, none⟩) hb4 hne _) hne _⟩
  have HTB : Aside0 (w.heap.size ≤ tB) := ⟨by rw [htB]; exact HB3.out.size⟩
  clear ht5 ht4 hb4 hk hal hbl5 hbl7 hx5 hx7 hx5' hx7' hb3
  go_wp2
  rw [← hw4, ← htB]
  clear hw4 htB
  refine start_ (n := 10) (S := fun w' => w'.cell? a5 = some (.int .i64 (a : Int)) ∧ w'.cell? ⟨a5.block, a5.off + 1, none⟩ = some (.int .i64 (b : Int))) (ds := [9]) (Qbz 10 0) (by kernel_rfl) rfl rfl ⟨n0d, n1d⟩ (fun hHeld => ?_)
  refine pure_ (i := 0) (N := some 35) (v := ?_) (a' := ?_) (Qbz 10 1) rfl rfl (by kernel_rfl) (fun _ _ _ h => h) (Or.inl ⟨by rfl, ?_⟩) ?_ ?_
  rotate_left
  ·intro w'
   go_simp
   with_reducible rfl
  rotate_left
  ·simp only [Act.put, Qp1, Qp2, Qp3, i64_w, i32_w]
   rfl
  refine pure_ (i := 1) (N := some 36) (v := ?_) (a' := ?_) (Qbz 10 3) rfl rfl (by kernel_rfl) (fun _ _ _ h => h) (Or.inl ⟨by rfl, ?_⟩) ?_ ?_
  rotate_left
  ·intro w'
   go_simp
   with_reducible rfl
  rotate_left
  ·simp only [Act.put, Qp1, Qp2, Qp3, i64_w, i32_w]
   rfl
  refine pure_ (i := 3) (N := some 38) (v := ?_) (a' := ?_) (Qbz 10 11) rfl rfl (by kernel_rfl) (fun _ _ _ h => h) (Or.inl ⟨by rfl, ?_⟩) ?_ ?_
  rotate_left
  ·intro w'
   go_simp
   with_reducible rfl
  rotate_left
  ·simp only [Act.put, Qp1, Qp2, Qp3, i64_w, i32_w]
   rfl
  refine pure_ (i := 4) (N := some 39) (v := ?_) (a' := ?_) (Qbz 10 27) rfl rfl (by kernel_rfl) (fun _ _ _ h => h) (Or.inl ⟨by rfl, ?_⟩) ?_ ?_
  rotate_left
  ·intro w'
   go_simp
   with_reducible rfl
  rotate_left
  ·simp only [Act.put, Qp1, Qp2, Qp3, i64_w, i32_w]
   rfl
  refine take_ (i := 2) (N := some 37) (v := ?_) (a' := ?_) (Qbz 10 31) rfl rfl (by kernel_rfl) (fun _ _ _ h => h) (Or.inl ⟨by rfl, ?_⟩) hHeld ?_ ?_
  rotate_left
  ·rintro w' ⟨s0, s1⟩
   go_simp
   with_reducible rfl
  rotate_left
  ·simp only [Act.put, Qp1, Qp2, Qp3, i64_w, i32_w]
   rfl
  refine pure_ (i := 6) (N := some 41) (v := ?_) (a' := ?_) (Qbz 10 95) rfl rfl (by kernel_rfl) (fun _ _ _ h => h) (Or.inl ⟨by rfl, ?_⟩) ?_ ?_
  rotate_left
  ·intro w'
   go_simp
   with_reducible rfl
  rotate_left
  ·simp only [Act.put, Qp1, Qp2, Qp3, i64_w, i32_w]
   rfl
  refine take_ (i := 5) (N := some 40) (v := ?_) (a' := ?_) (Qbz 10 127) rfl rfl (by kernel_rfl) (fun _ _ _ h => h) (Or.inl ⟨by rfl, ?_⟩) hHeld ?_ ?_
  rotate_left
  ·rintro w' ⟨s0, s1⟩
   go_simp
   with_reducible rfl
  rotate_left
  ·simp only [Act.put, Qp1, Qp2, Qp3, i64_w, i32_w]
   rfl
  refine one_ (i := 7) (N := none) (Qbz 10 255) rfl rfl (by kernel_rfl) (by decide) (fun K hK => ?_)
  refine skip_ (w1 := ?_) (by rfl) rfl ?_ ?_
  rotate_left
  ·go_simp
   rfl
  refine hK.out _ _ ⟨n0e, n1e⟩ (fun hHeld => ?_)
  clear hK K
  refine pure_ (i := 8) (N := some 42) (v := ?_) (a' := ?_) (Qbz 10 511) rfl rfl (by kernel_rfl) (fun _ _ _ h => h) (Or.inl ⟨by rfl, ?_⟩) ?_ ?_
  rotate_left
  ·intro w'
   go_simp
   with_reducible rfl
  rotate_left
  ·simp only [Act.put, Qp1, Qp2, Qp3, i64_w, i32_w]
   rfl
  refine last_ (i := 9) (N := none) (Qbz 10 1023) rfl rfl (by kernel_rfl) (by decide) (fun K hK => ?_)
  refine skip_ (w1 := ?_) (by rfl) rfl ?_ ?_
  rotate_left
  ·go_simp
   rfl
  refine hK.out _ _ ?_
  clear hK K
  refine done_ (by kernel_rfl) ?_
  obtain ⟨w7, hw7⟩ : ∃ w7 : World, w7 = ((w4.setCell ⟨tB, 2, none⟩ (.int .i64 (a : Int))).setCell ⟨tB, 3, none⟩ (.int .i64 (b : Int))).drew := ⟨_, rfl⟩
  rw [← hw7]
  have ht6 : w7.heap[tB]? = some (.cells #[.int .i64 2, .int .i64 (v : Int), .int .i64 (a : Int), .int .i64 (b : Int)] 95 (0, 0)) := by rw [hw7]; exact HT6.out
  have hb6 : w7.heap[w.heap.size]? = some (.cells #[.int .i64 0, .int .i64 0, .int .i64 0, .int .i64 0] 95 (0, 0)) := by rw [hw7]; exact HB6.out
  have HB7 : Aside0 (Below w.heap.size w w7) := ⟨by rw [hw7]; exact (below_set (below_set HB4.out HTB.out) HTB.out).drew⟩
  obtain ⟨r0, r1, r2, r3⟩ := four_reads ht6
  obtain ⟨⟨q1, q2⟩, ⟨q3, q4⟩, ⟨q5, q6⟩, ⟨q7, q8⟩, hb9⟩ := four_facts hb6 (.int .i64 2) (.int .i64 (v : Int)) (.int .i64 (a : Int)) (.int .i64 (b : Int))
  have hne7 : ∀ (W : World) (i j : Nat) (u : Value), (W.setCell ⟨w.heap.size, i, none⟩ u).cell? ⟨tB, j, none⟩ = W.cell? ⟨tB, j, none⟩ := fun W i j u => by
   have := Below.heap_setCell W ⟨w.heap.size, i, none⟩ u tB (fun e => hne e.symm)
   simp only [World.cell?, this]
  clear hw7 n0d n1d n0e n1e hs1 hs2 hs1d hs2d hs3 hs4 hs3d hs4d hne7
  go_wp2
  refine bodyPost_ret (results_ct rfl _ _ w.heap.size 95 #[.int .i64 2, .int .i64 (v : Int), .int .i64 (a : Int), .int .i64 (b : Int)] (0, 0) _ rfl hb9 Tryd.underlying95 rfl (by kernel_rfl)) rfl ?_
  exact ⟨rfl, below_four HB7.out (by omega) _ _ _ _⟩
 ·have hz3 : 3 ≤ z := by rw [← hz]; simp
  have hl3 : ((z : Int) == 1) = false := by rw [beq_eq_false_iff_ne]; omega
  have hl4 : ((z : Int) == 2) = false := by rw [beq_eq_false_iff_ne]; omega
  have hl5 : decide ((z : Int) ≤ 2) = false := decide_eq_false (by omega)
  have hl6 : decide (z ≤ 2) = false := decide_eq_false (by omega)
  have HZ := Aside0.mk hz
  clear hz
  have hb4 := blk_alloc hb3 (.cells #[.int .i64 (z), .int .i64 (v : Int), .int .i64 (-1), .int .i64 (-1)] 95)
  obtain ⟨⟨q1, q2⟩, ⟨q3, q4⟩, ⟨q5, q6⟩, ⟨q7, q8⟩, hb9⟩ := four_facts hb4 (.int .i64 (z)) (.int .i64 (v : Int)) (.int .i64 (-1)) (.int .i64 (-1))
  go_wp2
  refine bodyPost_ret (results_ct rfl _ _ w.heap.size 95 #[.int .i64 (z), .int .i64 (v : Int), .int .i64 (-1), .int .i64 (-1)] (0, 0) _ rfl hb9 Tryd.underlying95 rfl (by kernel_rfl)) rfl ?_
  refine ⟨?_, below_four (below_alloc HB3.out _) (by omega) _ _ _ _⟩
  rw [HZ.out, hl6]
  rfl
end Go.Proofs.YtjloppfdagfpmaaDoor.X
end
section
/- (*minor.reduction).do and (minor.town).reduction, by hand. -/
namespace Go.Proofs.YtjloppfdagfpmaaDoor.X
open Go.RowKit YtjloppfdagfpmaaDoorW.PrintWords YtjloppfdagfpmaaDoorW.PrintLast YtjloppfdagfpmaaDoorW.PrintMore YtjloppfdagfpmaaDoor.T
attribute [local go_sem] max2_int min2_int max_two min_two max_three min_three max_four min_four
structure RS (w0 W : World) (rB gT cT : Nat) (J : List Nat) (left : Nat) : Prop where
 blk : W.heap[rB]? = some (.cells #[.slice (some ⟨gT, 0, none⟩) J.length cT, .int .i64 (left : Int)] 94 (0, 0))
 row : Kd.R (Kd.int .i64) 3 W w0.heap.size (fun k => k = gT) (.slice (some ⟨gT, 0, none⟩) J.length cT) (gi J)
 below : Below w0.heap.size w0 W
 ge : w0.heap.size ≤ rB
 ne : rB ≠ gT
 inn : InN J.length J
theorem RS.low {w0 W V : World} {rB gT cT : Nat} {J : List Nat} {left : Nat} (h : RS w0 W rB gT cT J left) (hb : Below W.heap.size W V) : RS w0 V rB gT cT J left :=
 ⟨blk_below h.blk hb, Kd.R_below h.row hb, below_step h.below hb, h.ge, h.ne, h.inn⟩
theorem RS.kept {w0 W V : World} {rB gT cT : Nat} {J : List Nat} {left : Nat} {S : Nat → Prop} (h : RS w0 W rB gT cT J left) (hk : Kept W V S) (hB : Below w0.heap.size w0 V) (h1 : ¬ S rB) (h2 : ¬ S gT) : RS w0 V rB gT cT J left :=
 ⟨blk_kept h.blk hk h1, Kd.R_kept h.row hk (fun k e => by rw [e]; exact h2), hB, h.ge, h.ne, h.inn⟩
theorem RS.C {w0 W : World} {rB gT cT : Nat} {J : List Nat} {left : Nat} (h : RS w0 W rB gT cT J left) : J.length ≤ cT ∧ Kd.C (Kd.int .i64) W (some ⟨gT, 0, none⟩) J.length (gi J) := by
 obtain ⟨A, c, e, hc, hC⟩ := Kd.R_reads h.row
 rw [gi_length] at e hc hC
 injection e with e1 e2 e3
 subst e1 e3
 exact ⟨hc, hC⟩
theorem RS.set {w0 W : World} {rB gT cT : Nat} {J : List Nat} {left : Nat} (h : RS w0 W rB gT cT J left) (l2 : Nat) : RS w0 (W.setCell ⟨rB, 1, none⟩ (.int .i64 (l2 : Int))) rB gT cT J l2 :=
 ⟨blk_put h.blk 1 _ rfl, Kd.R_far (p := ⟨rB, 1, none⟩) h.row (fun k e => by rw [e]; exact fun h2 => h.ne h2.symm) _, below_set h.below h.ge, h.ge, h.ne, h.inn⟩
set_option maxHeartbeats 8000000 in
set_option maxRecDepth 100000 in
theorem do_calls (w0 W : World) (rB gT cT : Nat) (J : List Nat) (left : Nat) (hS : RS w0 W rB gT cT J left) (hJ9 : J.length ≤ 9) (hl : left < 512) (v : Nat) (hv : v < 9) (kd A B : Int) (J2 : List Nat) (hJ2 : (kd ≠ 2 ∧ J2 = J) ∨ (kd = 2 ∧ ∃ a b : Nat, A = (a : Int) ∧ B = (b : Int) ∧ a < J.length ∧ b < J.length ∧ J2 = joinN J a b)) :
  Calls Tryd.prog 80 #[.pointer (some ⟨rB, 0, none⟩), .agg #[.int .i64 kd, .int .i64 (v : Int), .int .i64 A, .int .i64 B]] W fun e w' => e = .returned (.tuple #[]) ∧ RS w0 w' rB gT cT J2 (diff left (2 ^ v)) ∧ Kept W w' (fun k => k = rB ∨ k = gT) := by
 obtain ⟨N, ⟨hS1, hS2, hS3⟩, hNv⟩ := shJ v (by omega)
 have hp9 : 2 ^ v < 2 ^ 62 := Nat.pow_lt_pow_right (by omega) (by omega)
 have hl2 : Go.bits .andNot .i64 (left : Int) N = ((diff left (2 ^ v) : Nat) : Int) := by rw [hNv]; exact b_andNot _ _ (by omega) hp9
 generalize diff left (2 ^ v) = l2 at *
 have HN := Aside0.mk hNv
 clear hNv hp9
 have hrB := blk_lt hS.blk
 go_enter Tryd.func80, Tryd.ntmps80
 go_wp2_with ((with_reducible refine gate_dst (N := 3) rfl ?_); refine box_event ?hg (N := 3) ?hd (cs := #[.int .i64 kd, .int .i64 (v : Int), .int .i64 A, .int .i64 B]) (t := 95) ?hr ?_; (case hd => rfl); (case hg => rfl); (case hr => first | (go_simp; done) | (go_simp; rfl)); intro sB hsB w1 hs1 hb1; have hr1 := Aside0.mk (hS.low hb1); have f0d : w1.drew.cell? ⟨rB, 1, none⟩ = some (.int .i64 (left : Int)) := (blk_cell hr1.out.blk 1).trans rfl; have f1d : w1.drew.cell? ⟨sB, 1, none⟩ = some (.int .i64 (v : Int)) := (blk_cell hs1 1).trans rfl; have f2d : w1.drew.frozen? ⟨rB, 1, none⟩ = false := blk_frozen hr1.out.blk 1; have HS1 := Aside0.mk hs1; have HB1 := Aside0.mk hb1; have HSB := Aside0.mk hsB; clear hs1 hb1 hsB)
 refine start_ (n := 11) (S := fun w' => w'.cell? ⟨rB, 1, none⟩ = some (.int .i64 (left : Int)) ∧ w'.cell? ⟨sB, 1, none⟩ = some (.int .i64 (v : Int)) ∧ w'.frozen? ⟨rB, 1, none⟩ = false) (ds := [10]) (Qbz 11 0) (by kernel_rfl) rfl rfl ⟨f0d, f1d, f2d⟩ (fun hHeld => ?_)
 refine pure_ (i := 0) (N := some 4) (v := ?_) (a' := ?_) (Qbz 11 1) rfl rfl (by kernel_rfl) (fun _ _ _ h => h) (Or.inl ⟨by rfl, ?_⟩) ?_ ?_
 rotate_left
 ·intro w'
  go_simp
  with_reducible rfl
 rotate_left
 ·simp only [Act.put, Qp1, Qp2, Qp3, i64_w, i32_w]
  rfl
 refine pure_ (i := 1) (N := some 5) (v := ?_) (a' := ?_) (Qbz 11 3) rfl rfl (by kernel_rfl) (fun _ _ _ h => h) (Or.inl ⟨by rfl, ?_⟩) ?_ ?_
 rotate_left
 ·intro w'
  go_simp
  with_reducible rfl
 rotate_left
 ·simp only [Act.put, Qp1, Qp2, Qp3, i64_w, i32_w]
  rfl
 refine pure_ (i := 2) (N := some 6) (v := ?_) (a' := ?_) (Qbz 11 7) rfl rfl (by kernel_rfl) (fun _ _ _ h => h) (Or.inl ⟨by rfl, ?_⟩) ?_ ?_
 rotate_left
 ·intro w'
  go_simp
  with_reducible rfl
 rotate_left
 ·simp only [Act.put, Qp1, Qp2, Qp3, i64_w, i32_w]
  rfl
 refine pure_ (i := 4) (N := some 8) (v := ?_) (a' := ?_) (Qbz 11 23) rfl rfl (by kernel_rfl) (fun _ _ _ h => h) (Or.inl ⟨by rfl, ?_⟩) ?_ ?_
 rotate_left
 ·intro w'
  go_simp
  with_reducible rfl
 rotate_left
 ·simp only [Act.put, Qp1, Qp2, Qp3, i64_w, i32_w]
  rfl
 refine take_ (i := 3) (N := some 7) (v := ?_) (a' := ?_) (Qbz 11 31) rfl rfl (by kernel_rfl) (fun _ _ _ h => h) (Or.inl ⟨by rfl, ?_⟩) hHeld ?_ ?_
 rotate_left
 ·rintro w' ⟨s0, s1, s2⟩
  go_simp
  with_reducible rfl
 rotate_left
 ·simp only [Act.put, Qp1, Qp2, Qp3, i64_w, i32_w]
  rfl
 refine take_ (i := 5) (N := some 9) (v := ?_) (a' := ?_) (Qbz 11 63) rfl rfl (by kernel_rfl) (fun _ _ _ h => h) (Or.inl ⟨by rfl, ?_⟩) hHeld ?_ ?_
 rotate_left
 ·rintro w' ⟨s0, s1, s2⟩
  go_simp
  with_reducible rfl
 rotate_left
 ·simp only [Act.put, Qp1, Qp2, Qp3, i64_w, i32_w]
  rfl
 refine pure_ (i := 6) (N := some 10) (v := ?_) (a' := ?_) (Qbz 11 127) rfl rfl (by kernel_rfl) (fun _ _ _ h => h) (Or.inl ⟨by rfl, ?_⟩) ?_ ?_
 rotate_left
 ·intro w'
  go_simp
  with_reducible rfl
 rotate_left
 ·simp only [Act.put, Qp1, Qp2, Qp3, i64_w, i32_w]
  rfl
 refine pure_ (i := 7) (N := some 11) (v := ?_) (a' := ?_) (Qbz 11 255) rfl rfl (by kernel_rfl) (fun _ _ _ h => h) (Or.inl ⟨by rfl, ?_⟩) ?_ ?_
 rotate_left
 ·intro w'
  go_simp
  with_reducible rfl
 rotate_left
 ·simp only [Act.put, Qp1, Qp2, Qp3, i64_w, i32_w]
  rfl
 refine pure_ (i := 8) (N := some 12) (v := ?_) (a' := ?_) (Qbz 11 511) rfl rfl (by kernel_rfl) (fun _ _ _ h => h) (Or.inl ⟨by rfl, ?_⟩) ?_ ?_
 rotate_left
 ·intro w'
  go_simp
  with_reducible rfl
 rotate_left
 ·simp only [Act.put, Qp1, Qp2, Qp3, i64_w, i32_w]
  rfl
 refine pure_ (i := 9) (N := some 13) (v := ?_) (a' := ?_) (Qbz 11 1023) rfl rfl (by kernel_rfl) (fun _ _ _ h => h) (Or.inl ⟨by rfl, ?_⟩) ?_ ?_
 rotate_left
 ·intro w'
  go_simp
  with_reducible rfl
 rotate_left
 ·simp only [Act.put, Qp1, Qp2, Qp3, i64_w, i32_w]
  rfl
 refine last_ (i := 10) (N := none) (Qbz 11 2047) rfl rfl (by kernel_rfl) (by decide) (fun K hK => ?_)
 refine skip_ (w1 := ?_) (by rfl) rfl ?_ ?_
 rotate_left
 ·go_simp
  rfl
 refine hK.out _ _ ?_
 clear hK K
 refine done_ (by kernel_rfl) ?_
 obtain ⟨w2, hw2⟩ : ∃ w2 : World, w2 = (w1.setCell ⟨rB, 1, none⟩ (.int .i64 (l2 : Int))).drew := ⟨_, rfl⟩
 rw [← hw2]
 have hne : sB ≠ rB := by have := HSB.out; omega
 have hs2 : w2.heap[sB]? = some (.cells #[.int .i64 kd, .int .i64 (v : Int), .int .i64 A, .int .i64 B] 95 (0, 0)) := by rw [hw2]; exact blk_far (p := ⟨rB, 1, none⟩) HS1.out hne _
 have HR2 : Aside0 (RS w0 w2 rB gT cT J l2) := ⟨by
  have h := (hr1.out.set l2).low (pw_below_drewN (Below.refl _ _) 1)
  rw [hw2]
  exact ⟨h.blk, h.row, h.below, h.ge, h.ne, h.inn⟩⟩
 have HK2 : Aside0 (Kept W w2 (fun k => k = rB ∨ k = gT)) := ⟨by
  rw [hw2]
  exact ((Kept.of_below HB1.out _).setCell (p := ⟨rB, 1, none⟩) (.inl (.inl rfl)) _).drew⟩
 have g0 : w2.cell? ⟨sB, 0, none⟩ = some (.int .i64 kd) := (blk_cell hs2 0).trans rfl
 have g2 : w2.drew.cell? ⟨sB, 2, none⟩ = some (.int .i64 A) := (blk_cell hs2 2).trans rfl
 have g3 : w2.drew.cell? ⟨sB, 3, none⟩ = some (.int .i64 B) := (blk_cell hs2 3).trans rfl
 have g4 : w2.drew.cell? ⟨rB, 0, none⟩ = some (.slice (some ⟨gT, 0, none⟩) J.length cT) := (blk_cell HR2.out.blk 0).trans rfl
 clear hw2 hs2 hS hHeld f0d f1d f2d hS1 hS2 hS3
 rcases hJ2 with ⟨hk, rfl⟩ | ⟨hk, a, b, rfl, rfl, ha, hb, rfl⟩
 ·have hk1 : (kd == 2) = false := beq_eq_false_iff_ne.2 hk
  go_wp2
  first | go_end0 | ((try simp only [Exit.inBlock, Exit.then]); refine bodyPost_ret (results_none rfl _ _ _) rfl ?_)
  exact ⟨rfl, HR2.out, HK2.out⟩
 ·subst hk
  have HJ := Aside0.mk (join_eq hJ9 HR2.out.inn ha hb)
  have HIN := Aside0.mk (HR2.out.inn.join ha hb)
  have CJ : Aside0 (Calls Tryd.prog 62 #[.slice (some ⟨gT, 0, none⟩) J.length cT, .int .i64 (a : Int), .int .i64 (b : Int)] w2.drew fun e w' => e = .returned (.tuple #[]) ∧ RS w0 w' rB gT cT (joinN J a b) l2 ∧ Kept w2 w' (fun k => k = gT)) := ⟨by
   have h2 := HR2.out
   refine (minor_town_join.calls (fun k => k = gT) _ (gi J) (a : Int) (b : Int) _ w0 w2.drew h2.below.drew (Kd.R_drew h2.row) HJ.out).mono ?_
   rintro e w' ⟨rfl, hR, hB, hK⟩
   have hgl : gT < w2.heap.size := by
    obtain ⟨inner, ho⟩ := Kd.R_own h2.row
    exact own_lt2 ho gT rfl
   have hK' : Kept w2 w' (fun k => k = gT) := hK
   have hR2 : Kd.R (Kd.int .i64) 3 w' w0.heap.size (fun k => k = gT) (.slice (some ⟨gT, 0, none⟩) (joinN J a b).length cT) (gi (joinN J a b)) := by
    have e : (joinN J a b).length = J.length := HIN.out.1
    rw [e]
    exact ⟨fun k hk => by simp [Value.ownBlock] at hk; exact hk.symm, hR.2⟩
   exact ⟨rfl, ⟨by
    have e : (joinN J a b).length = J.length := HIN.out.1
    rw [e]
    exact blk_kept h2.blk hK' h2.ne, hR2, hB, h2.ge, h2.ne, by
    have e : (joinN J a b).length = J.length := HIN.out.1
    rw [e]
    exact HIN.out⟩, hK'⟩⟩
  go_wp2
  refine start_ (n := 9) (S := fun w' => w'.cell? ⟨sB, 2, none⟩ = some (.int .i64 (a : Int)) ∧ w'.cell? ⟨sB, 3, none⟩ = some (.int .i64 (b : Int)) ∧ w'.cell? ⟨rB, 0, none⟩ = some (.slice (some ⟨gT, 0, none⟩) J.length cT)) (ds := [8]) (Qbz 9 0) (by kernel_rfl) rfl rfl ⟨g2, g3, g4⟩ (fun hHeld => ?_)
  refine pure_ (i := 0) (N := some 17) (v := ?_) (a' := ?_) (Qbz 9 1) rfl rfl (by kernel_rfl) (fun _ _ _ h => h) (Or.inl ⟨by rfl, ?_⟩) ?_ ?_
  rotate_left
  ·intro w'
   go_simp
   with_reducible rfl
  rotate_left
  ·simp only [Act.put, Qp1, Qp2, Qp3, i64_w, i32_w]
   rfl
  refine pure_ (i := 1) (N := some 18) (v := ?_) (a' := ?_) (Qbz 9 3) rfl rfl (by kernel_rfl) (fun _ _ _ h => h) (Or.inl ⟨by rfl, ?_⟩) ?_ ?_
  rotate_left
  ·intro w'
   go_simp
   with_reducible rfl
  rotate_left
  ·simp only [Act.put, Qp1, Qp2, Qp3, i64_w, i32_w]
   rfl
  refine pure_ (i := 2) (N := some 19) (v := ?_) (a' := ?_) (Qbz 9 7) rfl rfl (by kernel_rfl) (fun _ _ _ h => h) (Or.inl ⟨by rfl, ?_⟩) ?_ ?_
  rotate_left
  ·intro w'
   go_simp
   with_reducible rfl
  rotate_left
  ·simp only [Act.put, Qp1, Qp2, Qp3, i64_w, i32_w]
   rfl
  refine pure_ (i := 4) (N := some 21) (v := ?_) (a' := ?_) (Qbz 9 23) rfl rfl (by kernel_rfl) (fun _ _ _ h => h) (Or.inl ⟨by rfl, ?_⟩) ?_ ?_
  rotate_left
  ·intro w'
   go_simp
   with_reducible rfl
  rotate_left
  ·simp only [Act.put, Qp1, Qp2, Qp3, i64_w, i32_w]
   rfl
  refine pure_ (i := 6) (N := some 23) (v := ?_) (a' := ?_) (Qbz 9 87) rfl rfl (by kernel_rfl) (fun _ _ _ h => h) (Or.inl ⟨by rfl, ?_⟩) ?_ ?_
  rotate_left
  ·intro w'
   go_simp
   with_reducible rfl
  rotate_left
  ·simp only [Act.put, Qp1, Qp2, Qp3, i64_w, i32_w]
   rfl
  refine take_ (i := 3) (N := some 20) (v := ?_) (a' := ?_) (Qbz 9 95) rfl rfl (by kernel_rfl) (fun _ _ _ h => h) (Or.inl ⟨by rfl, ?_⟩) hHeld ?_ ?_
  rotate_left
  ·rintro w' ⟨s0, s1, s2⟩
   go_simp
   with_reducible rfl
  rotate_left
  ·simp only [Act.put, Qp1, Qp2, Qp3, i64_w, i32_w]
   rfl
  refine take_ (i := 5) (N := some 22) (v := ?_) (a' := ?_) (Qbz 9 127) rfl rfl (by kernel_rfl) (fun _ _ _ h => h) (Or.inl ⟨by rfl, ?_⟩) hHeld ?_ ?_
  rotate_left
  ·rintro w' ⟨s0, s1, s2⟩
   go_simp
   with_reducible rfl
  rotate_left
  ·simp only [Act.put, Qp1, Qp2, Qp3, i64_w, i32_w]
   rfl
  refine take_ (i := 7) (N := some 24) (v := ?_) (a' := ?_) (Qbz 9 255) rfl rfl (by kernel_rfl) (fun _ _ _ h => h) (Or.inl ⟨by rfl, ?_⟩) hHeld ?_ ?_
  rotate_left
  ·rintro w' ⟨s0, s1, s2⟩
   go_simp
   with_reducible rfl
  rotate_left
  ·simp only [Act.put, Qp1, Qp2, Qp3, i64_w, i32_w]
   rfl
  refine last_ (i := 8) (N := some 25) (Qbz 9 511) rfl rfl (by kernel_rfl) (by decide) (fun K hK => ?_)
  refine goes_ Tryd.func62 (by kernel_rfl) rfl #[.slice (some ⟨gT, 0, none⟩) J.length cT, .int .i64 (a : Int), .int .i64 (b : Int)] (by rfl) rfl rfl (by simp only [List.map_toArray, List.map_cons, List.map_nil]; rfl) ?_
  with_reducible refine (CJ.out).mono ?_
  rintro e w9 ⟨rfl, hR9, hK9⟩
  refine ⟨_, rfl, ?_⟩
  refine hK.out _ _ ?_
  clear hK K
  refine norm_ (a' := ?_) ?_ ?_
  rotate_left
  ·show Act.put _ (some 25) _ = _
   simp only [Act.put, Qp1, Qp2, Qp3, i64_w, i32_w]
   rfl
  refine done_ (by kernel_rfl) ?_
  go_wp2
  first | go_end0 | ((try simp only [Exit.inBlock, Exit.then]); refine bodyPost_ret (results_none rfl _ _ _) rfl ?_)
  exact ⟨rfl, hR9, HK2.out.then_ hK9 (fun k e => .inl (.inr e))⟩
end Go.Proofs.YtjloppfdagfpmaaDoor.X
end
section
/- An order of elimination gives a small cover of what touches pairwise; a complete minor has at most one node more than the width. -/
namespace Go.Proofs.YtjloppfdagfpmaaDoor.T
open Go.RowKit YtjloppfdagfpmaaDoorW.PrintWords YtjloppfdagfpmaaDoorW.PrintLast YtjloppfdagfpmaaDoorW.PrintMore
theorem bram_cover {V : Nat → Prop} {adj : Nat → Nat → Prop} {k : Nat} {S : Nat → Prop} (h : Elim V adj k S) (B : (Nat → Prop) → Prop) (hc : ∀ M, B M → Conn adj M)
  (ht : ∀ M N, B M → B N → ∃ x y, M x ∧ N y ∧ (x = y ∨ adj x y)) : (∀ M, B M → ∃ x, M x ∧ ¬ S x) ∨ ∃ l : List Nat, l.length ≤ k + 1 ∧ ∀ M, B M → ∃ x, x ∈ l ∧ M x := by
 induction h with
 | nil =>
  refine .inl fun M hM => ?_
  obtain ⟨x, hx⟩ := (hc M hM).1
  exact ⟨x, hx, id⟩
 | @snoc S v _ hv hsv ha ih =>
  rcases ih with no | cov
  ·by_cases hex : ∃ M, B M ∧ ∀ x, M x → S x ∨ x = v
   ·obtain ⟨M, hM, hin⟩ := hex
    right
    obtain ⟨l, hl, hm⟩ := ha
    refine ⟨v :: l, by simp; omega, fun N hN => ?_⟩
    by_cases hNv : N v
    ·exact ⟨v, List.mem_cons_self .., hNv⟩
    ·obtain ⟨z, hz, hzS⟩ := no M hM
     have hMv : M v := (hin z hz).resolve_left hzS ▸ hz
     obtain ⟨x, y, hx, hy, hxy⟩ := ht M N hM hN
     have w1 : ∀ z, Con adj M (fun q => q = v) z → z = v ∨ Way adj S v z := by
      intro z hz
      induction hz with
      | base h => exact .inl h
      | @step p q hp hadj hq ihp =>
       rcases ihp with e | hw
       ·subst e; exact .inr (.one hadj)
       ·by_cases e : p = v
        ·subst e; exact .inr (.one hadj)
        ·have hpM : M p := by
          rcases hp.inside with h | h
          ·exact (e h).elim
          ·exact h
         exact .inr (.more hw ((hin p hpM).resolve_right e) hadj)
     have hyv : y ≠ v := fun e => hNv (e ▸ hy)
     have w2 : Way adj S v y := by
      have hx2 := w1 x ((hc M hM).2 v x hMv hx)
      rcases hxy with e | e
      ·subst e; exact hx2.resolve_left hyv
      ·rcases hx2 with e2 | hw
       ·subst e2; exact .one e
       ·by_cases e2 : x = v
        ·subst e2; exact .one e
        ·exact .more hw ((hin x hx).resolve_right e2) e
     obtain ⟨y', hy', hyS⟩ := no N hN
     have w3 : ∀ z, Con adj N (fun q => q = y) z → Way adj S v z ∨ ∃ n, N n ∧ Way adj S v n ∧ ¬ S n := by
      intro z hz
      induction hz with
      | base h => subst h; exact .inl w2
      | @step p q hp hadj hq ihp =>
       rcases ihp with hw | hn
       ·by_cases hs : S p
        ·exact .inl (.more hw hs hadj)
        ·refine .inr ⟨p, ?_, hw, hs⟩
         rcases hp.inside with h | h
         ·rw [h]; exact hy
         ·exact h
       ·exact .inr hn
     have : ∃ n, N n ∧ Way adj S v n ∧ ¬ S n := by
      rcases w3 y' ((hc N hN).2 y y' hy hy') with h | h
      ·exact ⟨y', hy', h, hyS⟩
      ·exact h
     obtain ⟨n, hn, hw, hns⟩ := this
     exact ⟨n, List.mem_cons_of_mem _ (hm n ⟨hw, hns, fun e => hNv (e ▸ hn)⟩), hn⟩
   ·refine .inl fun M hM => ?_
    apply Classical.byContradiction
    intro hn
    refine hex ⟨M, hM, fun x hx => ?_⟩
    apply Classical.byContradiction
    intro hc
    exact hn ⟨x, hx, hc⟩
  ·exact .inr cov
theorem cover_len {M : Nat → Nat → Prop} {l : List Nat} : ∀ k, (∀ i j x, i < k → j < k → M i x → M j x → i = j) → (∀ i, i < k → ∃ x, x ∈ l ∧ M i x) → k ≤ l.length := by
 intro k hd hc
 have hch : ∀ i, ∃ x, i < k → x ∈ l ∧ M i x := fun i => by
  by_cases h : i < k
  ·obtain ⟨x, hx⟩ := hc i h
   exact ⟨x, fun _ => hx⟩
  ·exact ⟨0, fun h' => (h h').elim⟩
 obtain ⟨f, hf⟩ := Classical.axiomOfChoice hch
 have := nodup_le (l := (List.range k).map f) (m := l) ?_ ?_
 ·simpa using this
 ·rw [List.nodup_iff_pairwise_ne, List.pairwise_map]
  have hr := List.nodup_range (n := k)
  rw [List.nodup_iff_pairwise_ne] at hr
  refine List.Pairwise.imp_of_mem ?_ hr
  intro a b ha hb hab e
  have ha := List.mem_range.1 ha
  have hb := List.mem_range.1 hb
  exact hab (hd a b (f a) ha hb (hf a ha).2 (by rw [e]; exact (hf b hb).2))
 ·intro x hx
  obtain ⟨i, hi, rfl⟩ := List.mem_map.1 hx
  exact (hf i (List.mem_range.1 hi)).1
theorem clique_width {V : Nat → Prop} {adj : Nat → Nat → Prop} {k w : Nat} (hE : Elim V adj w V) (h : Mnr V adj k (fun i j => i ≠ j)) : k ≤ w + 1 := by
 obtain ⟨M, h1, h2, h3⟩ := h
 by_cases hk : k = 0
 ·omega
 rcases bram_cover hE (fun N => ∃ i, i < k ∧ N = M i) (by rintro N ⟨i, hi, rfl⟩; exact (h1 i hi).1) (by
  rintro N N' ⟨i, hi, rfl⟩ ⟨j, hj, rfl⟩
  by_cases e : i = j
  ·subst e
   obtain ⟨x, hx⟩ := (h1 i hi).1.1
   exact ⟨x, x, hx, hx, .inl rfl⟩
  ·obtain ⟨x, y, hx, hy, hxy⟩ := h3 i j hi hj e
   exact ⟨x, y, hx, hy, .inr hxy⟩) with no | ⟨l, hl, hc⟩
 ·obtain ⟨x, hx, hn⟩ := no (M 0) ⟨0, by omega, rfl⟩
  exact (hn ((h1 0 (by omega)).2 x hx)).elim
 ·have := cover_len (M := M) (l := l) k h2 fun i hi => hc (M i) ⟨i, hi, rfl⟩
  omega
end Go.Proofs.YtjloppfdagfpmaaDoor.T
end
section
/- A node with few neighbours taken away, these made neighbours of each other: width and minors. -/
namespace Go.Proofs.YtjloppfdagfpmaaDoor.T
open Go.RowKit YtjloppfdagfpmaaDoorW.PrintWords YtjloppfdagfpmaaDoorW.PrintLast YtjloppfdagfpmaaDoorW.PrintMore
def Fil (adj : Nat → Nat → Prop) (v x y : Nat) : Prop := x ≠ y ∧ x ≠ v ∧ y ≠ v ∧ (adj x y ∨ (adj x v ∧ adj v y))
theorem way_fil {adj : Nat → Nat → Prop} (hi : ∀ x, ¬ adj x x) {S : Nat → Prop} {v x y : Nat} (hx : x ≠ v) (hyv : y ≠ v) (hyx : y ≠ x) (hv : ¬ S v) (h : Way adj (fun u => S u ∨ u = v) x y) : Way (Fil adj v) S x y := by
 have key : ∀ y, Way adj (fun u => S u ∨ u = v) x y → (y ≠ v → y = x ∨ Way (Fil adj v) S x y) ∧ (y = v → adj x v ∨ ∃ z, z ≠ v ∧ z ≠ x ∧ Way (Fil adj v) S x z ∧ S z ∧ adj z v) := by
  intro y h
  induction h with
  | @one u ha =>
   refine ⟨fun hu => ?_, fun hu => .inl (hu ▸ ha)⟩
   exact .inr (.one ⟨fun e => hi x (e ▸ ha), hx, hu, .inl ha⟩)
  | @more z u hz hS ha ih =>
   refine ⟨fun hu => ?_, fun hu => ?_⟩
   ·by_cases hux : u = x
    ·exact .inl hux
    ·right
     by_cases hzv : z = v
     ·subst hzv
      rcases ih.2 rfl with h | ⟨q, hq1, hq2, hq3, hq4, hq5⟩
      ·exact .one ⟨fun e => hux e.symm, hx, hu, .inr ⟨h, ha⟩⟩
      ·by_cases e : q = u
       ·subst e; exact hq3
       ·exact .more hq3 hq4 ⟨e, hq1, hu, .inr ⟨hq5, ha⟩⟩
     ·rcases ih.1 hzv with e | hw
      ·subst e; exact .one ⟨fun e => hux e.symm, hx, hu, .inl ha⟩
      ·exact .more hw (hS.resolve_right hzv) ⟨fun e => hi u (e ▸ ha), hzv, hu, .inl ha⟩
   ·subst hu
    have hzv : z ≠ u := fun e => hi u (e ▸ ha)
    by_cases hzx : z = x
    ·subst hzx; exact .inl ha
    ·exact .inr ⟨z, hzv, hzx, (ih.1 hzv).resolve_left hzx, hS.resolve_right hzv, ha⟩
 exact ((key y h).1 hyv).resolve_left hyx
theorem elim_fil {V : Nat → Prop} {adj : Nat → Nat → Prop} (hi : ∀ x, ¬ adj x x) {k v : Nat} (hv : V v) (hk : AtMost k (adj v)) {S : Nat → Prop} (h : Elim (fun x => V x ∧ x ≠ v) (Fil adj v) k S) : Elim V adj k (fun u => S u ∨ u = v) := by
 induction h with
 | nil =>
  refine (Elim.snoc v Elim.nil hv id (hk.mono (Nat.le_refl _) fun u hu => ?_)).ext fun u => Iff.rfl
  have key : ∀ u, Way adj (fun _ => False) v u → adj v u := by
   intro u hw
   cases hw with
   | one h => exact h
   | more _ h _ => exact h.elim
  exact key u hu.1
 | @snoc S w h1 hw hSw ha ih =>
  have hSv : ¬ S v := fun hc => (h1.sub v hc).2 rfl
  refine (Elim.snoc w ih hw.1 (fun hc => hc.elim hSw hw.2) (ha.mono (Nat.le_refl _) fun u hu => ?_)).ext fun u => ?_
  ·obtain ⟨hu1, hu2, hu3⟩ := hu
   rw [not_or] at hu2
   exact ⟨way_fil hi hw.2 hu2.2 hu3 hSv hu1, hu2.1, hu3⟩
  ·constructor
   ·rintro ((h | h) | h)
    ·exact .inl (.inl h)
    ·exact .inr h
    ·exact .inl (.inr h)
   ·rintro ((h | h) | h)
    ·exact .inl (.inl h)
    ·exact .inr h
    ·exact .inl (.inr h)
theorem mnr_mono {V : Nat → Prop} {adj adj' : Nat → Nat → Prop} {k : Nat} {pe : Nat → Nat → Prop} {W : Nat → Prop} (hV : ∀ x, W x → V x) (h : ∀ x y, adj' x y → adj x y) (hm : Mnr W adj' k pe) : Mnr V adj k pe :=
 mnr_map (fun x u => u = x) (fun x hx => ⟨conn_one adj x, fun u hu => by rw [hu]; exact hV x hx⟩) (fun x y u _ _ h1 h2 => h1.symm.trans h2) (fun x y _ _ ha => ⟨x, y, rfl, rfl, h x y ha⟩) hm
theorem fil_mnr {V : Nat → Prop} {adj : Nat → Nat → Prop} (hs : ∀ x y, adj x y → adj y x) (hi : ∀ x, ¬ adj x x) {v : Nat} (hv : V v) (h2 : AtMost 2 (adj v)) {k : Nat} {pe : Nat → Nat → Prop} (h : Mnr (fun x => V x ∧ x ≠ v) (Fil adj v) k pe) : Mnr V adj k pe := by
 by_cases h1 : AtMost 1 (adj v)
 ·refine mnr_mono (fun x hx => hx.1) (fun x y hxy => ?_) h
  obtain ⟨hne, _, _, ha | ⟨ha, hb⟩⟩ := hxy
  ·exact ha
  ·exfalso
   obtain ⟨l, hl, hm⟩ := h1
   have m1 := hm x (hs _ _ ha)
   have m2 := hm y hb
   have := nodup_le (l := [x, y]) (m := l) (by simp [hne]) (by
    intro z hz
    simp at hz
    rcases hz with rfl | rfl
    ·exact m1
    ·exact m2)
   simp at this
   omega
 ·obtain ⟨a, ha, _⟩ := not_atMost h1 [] (by simp)
  have hne : a ≠ v := fun e => hi v (e ▸ ha)
  refine ctr_mnr (u := a) (v := v) hs (hs _ _ ha) hv hne ?_
  refine mnr_mono (fun x hx => hx) (fun x y hxy => ?_) h
  obtain ⟨h3, h4, h5, hb | ⟨hb, hc⟩⟩ := hxy
  ·exact ⟨h3, h4, h5, .inl hb⟩
  ·refine ⟨h3, h4, h5, .inr ?_⟩
   by_cases e1 : x = a
   ·exact .inl ⟨e1, hc⟩
   ·by_cases e2 : y = a
    ·exact .inr ⟨e2, hs _ _ hb⟩
    ·exfalso
     obtain ⟨l, hl, hm⟩ := h2
     have := nodup_le (l := [x, y, a]) (m := l) (by simp; exact ⟨⟨h3, e1⟩, e2⟩) (by
      intro z hz
      simp at hz
      rcases hz with rfl | rfl | rfl
      ·exact hm _ (hs _ _ hb)
      ·exact hm _ hc
      ·exact hm _ ha)
     simp at this
     omega
end Go.Proofs.YtjloppfdagfpmaaDoor.T
end
section
/- No triangle as a minor: width 1, fewer edges than nodes in each part; no K(4): width 2. -/
namespace Go.Proofs.YtjloppfdagfpmaaDoor.T
open Go.RowKit YtjloppfdagfpmaaDoorW.PrintWords YtjloppfdagfpmaaDoorW.PrintLast YtjloppfdagfpmaaDoorW.PrintMore
/-! Edges within a set. -/
theorem diff_tb (X v j : Nat) : (diff X (2 ^ v)).testBit j = (X.testBit j && !decide (j = v)) := by
 rw [Bool.eq_iff_iff, Bool.and_eq_true, Bool.not_eq_true', decide_eq_false_iff_not]
 have h := diff_bset X (2 ^ v) j
 rw [two_pow_bit] at h
 exact h
theorem pc_split {X v : Nat} (h : bset X v) : ∀ n, pc X n = pc (diff X (2 ^ v)) n + (if v < n then 1 else 0)
 | 0 => rfl
 | n + 1 => by
  have ih := pc_split h n
  simp only [pc]
  rw [diff_tb, ih]
  by_cases e : n = v
  ·subst e
   have : X.testBit n = true := h
   simp [this]
  ·by_cases h3 : v < n
   ·simp [e, h3, show v < n + 1 by omega]; omega
   ·simp [e, h3, show ¬ v < n + 1 by omega]
theorem diff_pc {X v n : Nat} (hv : bset X v) (hvn : v < n) : pc X n = pc (diff X (2 ^ v)) n + 1 := by rw [pc_split hv n, if_pos hvn]
end Go.Proofs.YtjloppfdagfpmaaDoor.T
end
section
/- (minor.town).reduction and minor.Reduce, by hand. -/
namespace Go.Proofs.YtjloppfdagfpmaaDoor.X
open Go.RowKit YtjloppfdagfpmaaDoorW.PrintWords YtjloppfdagfpmaaDoorW.PrintLast YtjloppfdagfpmaaDoorW.PrintMore YtjloppfdagfpmaaDoor.T
attribute [local go_sem] max2_int min2_int max_two min_two max_three min_three max_four min_four
set_option maxHeartbeats 4000000 in
set_option maxRecDepth 100000 in
theorem reduction_calls (A0 : Option Addr) (c0 : Nat) (G : List Nat) (hG : Gr 8 G) (hc0 : G.length ≤ c0) (w : World) (hr0 : Kd.C (Kd.int .i64) w A0 G.length (gi G)) :
  Calls Tryd.prog 78 #[.slice A0 G.length c0] w fun e w' => ∃ rB gT cT, e = .returned (.pointer (some ⟨rB, 0, none⟩)) ∧ RS w w' rB gT cT G (2 ^ G.length - 1) := by
 have hn := hG.most
 have hp := hG.pos
 have HR0 := Aside0.mk hr0
 have HIN := Aside0.mk (gr_in hG)
 have hcl : minor_town_int.f (gi G) = some (gi G) := by
  unfold minor_town_int.f
  simp only [Option.bind_some, List.nil_append, List.length_nil]
  rw [if_pos (by rw [gi_length]; omega)]
 have CCL : Aside0 (Calls Tryd.prog 77 #[.slice A0 G.length c0] w fun e w' => ∃ gT cT, e = .returned (.slice (some ⟨gT, 0, none⟩) G.length cT) ∧ Kd.R (Kd.int .i64) 3 w' w.heap.size (fun k => k = gT) (.slice (some ⟨gT, 0, none⟩) G.length cT) (gi G) ∧ Below w.heap.size w w') := ⟨by
  have := minor_town_int.calls A0 c0 (gi G) (gi G) w (by rw [gi_length]; exact hr0) (by rw [gi_length]; exact hc0) hcl
  rw [gi_length] at this
  refine this.mono ?_
  rintro e w' ⟨v, rfl, hR, hb⟩
  obtain ⟨inner, ho⟩ := Kd.R_own hR
  rw [gi_length] at ho
  obtain ⟨k, hk⟩ : ∃ k, G.length = k + 1 := ⟨G.length - 1, by omega⟩
  rw [hk] at ho
  obtain ⟨g, c, rfl⟩ := own_succ ho
  rw [← hk] at *
  exact ⟨g, c, rfl, ⟨fun q hq => by simp [Value.ownBlock] at hq; exact hq.symm, hR.2⟩, hb⟩⟩
 have CAL : Aside0 (∀ W, Below w.heap.size w W → Calls Tryd.prog 66 #[.slice A0 G.length c0] W fun e w' => e = .returned (.int .i64 ((2 ^ G.length - 1 : Nat) : Int)) ∧ Drawn0 W w') := ⟨fun W hW => by
  have := minor_town_all.calls A0 c0 (gi G) _ W (by rw [gi_length]; exact Kd.C_below HR0.out hW) (by rw [gi_length]; exact hc0) (all_eq G (by omega))
  rw [gi_length] at this
  exact this⟩
 generalize 2 ^ G.length - 1 = T at *
 clear hr0 hG hcl
 go_enter Tryd.func78, Tryd.ntmps78
 go_wp2_with (first
  | (go_at_call 77; refine CCL.out.mono ?_; rintro e w1 ⟨gT, cT, rfl, hR, hb⟩; have HR := Aside0.mk hR; have HB := Aside0.mk hb; clear hR hb)
  | (go_at_call 66; refine (CAL.out _ HB.out).mono ?_; rintro e w2 ⟨rfl, m, rfl⟩)
  | ((with_reducible refine gate_dst (N := 8) rfl ?_); refine box_event ?hg (N := 8) ?hd (cs := #[.slice (some ⟨gT, 0, none⟩) G.length cT, .int .i64 (T : Int)]) (t := 94) ?hr ?_; (case hd => rfl); (case hg => rfl); (case hr => first | (go_simp; done) | (go_simp; rfl)); intro rB hga w7 hbox hb7; have HGA := Aside0.mk hga; have HBX := Aside0.mk hbox; have HB7 := Aside0.mk hb7; clear hga hbox hb7))
 go_ret
 have hR1 : Kd.R (Kd.int .i64) 3 (w1.drewN m) w.heap.size (fun k => k = gT) (.slice (some ⟨gT, 0, none⟩) G.length cT) (gi G) := Kd.R_drewN HR.out m
 have hgl : gT < w1.heap.size := by
  obtain ⟨inner, ho⟩ := Kd.R_own HR.out
  exact own_lt2 ho gT rfl
 have hge : rB = w1.heap.size := HGA.out
 refine ⟨_, _, _, rfl, HBX.out, Kd.R_below hR1 HB7.out, below_step (pw_below_drewN HB.out m) HB7.out, by rw [hge]; exact HB.out.size, by omega, HIN.out⟩
def nearL (J : List Nat) (left v : Nat) : List Nat := els (J.getD v 0 &&& left) 9
def stepS (J : List Nat) (left v : Nat) : S95 := ⟨((nearL J left v).length : Int), (v : Int), sA (nearL J left v), sB (nearL J left v)⟩
def nextJ (J : List Nat) (left v : Nat) : List Nat := match nearL J left v with
 | [a, b] => joinN J a b
 | _ => J
def pick (J : List Nat) (left : Nat) : Option Nat := (els left 9).find? fun v => decide ((nearL J left v).length ≤ 2)
def redN : Nat → List Nat → Nat → List S95 → List S95 × Int
 | 0, _, _, _ => ([], 4)
 | k + 1, J, left, out => if left = 0 then (out, 0) else match pick J left with
  | none => ([], 4)
  | some v => redN k (nextJ J left v) (diff left (2 ^ v)) (out ++ [stepS J left v])
def minor_Reduce.f (g : List Int) : Option (List S95 × Int) :=
 if g.length < 1000 then some (if chk 8 g = true then redN 10 (g.map Int.toNat) (2 ^ g.length - 1) [] else ([], 2)) else none
def cells4 (x : S95) : List Value := [.int .i64 x.f0, .int .i64 x.f1, .int .i64 x.f2, .int .i64 x.f3]
def enc4 (x : S95) (c : List Value) : Prop := c = cells4 x
theorem RS.typed {w0 W : World} {rB gT cT : Nat} {J : List Nat} {left : Nat} (h : RS w0 W rB gT cT J left) : ∃ cs, W.heap[gT]? = some (.cells cs 3 (0, 0)) := by
 obtain ⟨inner, ho⟩ := Kd.R_own h.row
 exact own_typed ho gT rfl
theorem RS.not_own {w0 W : World} {rB gT cT : Nat} {J : List Nat} {left : Nat} (h : RS w0 W rB gT cT J left) {base size k : Nat} {v : Value} {xs : List Value} (ho : W.ownsRow base 95 size v k xs) (b : Nat) (hb : v.ownBlock = some b) : ¬ (b = rB ∨ b = gT) := by
 rintro (rfl | rfl)
 ·exact own_ne_t ho h.blk (by decide) hb.symm
 ·obtain ⟨cs, hcs⟩ := h.typed
  exact own_ne_t ho hcs (by decide) hb.symm
theorem RS.kept_row {w0 W W2 : World} {rB gT cT : Nat} {J : List Nat} {left : Nat} (h : RS w0 W rB gT cT J left) {base size k : Nat} {v : Value} {xs : List Value} (ho : W.ownsRow base 95 size v k xs) (hk : Kept W W2 (fun k => k = rB ∨ k = gT)) : W2.ownsRow base 95 size v k xs :=
 own_move ho fun b hb => hk.2 b (own_lt2 ho b hb) (h.not_own ho b hb)
theorem RS.kept_blk {w0 W W2 : World} {rB gT cT : Nat} {J : List Nat} {left : Nat} (h : RS w0 W rB gT cT J left) {g : Nat} {cs : Array Value} (hg : W.heap[g]? = some (.cells cs 95 (0, 0))) (hk : Kept W W2 (fun k => k = rB ∨ k = gT)) : W2.heap[g]? = some (.cells cs 95 (0, 0)) := by
 refine blk_kept hg hk ?_
 rintro (rfl | rfl)
 ·have := h.blk
  rw [hg] at this
  injection this with this
  injection this with _ this
  cases this
 ·obtain ⟨c2, hcs⟩ := h.typed
  rw [hg] at hcs
  injection hcs with hcs
  injection hcs with _ hcs
  cases hcs
theorem cells_new4 (W : World) (cs : List Value) (e : TypeId) (j : Nat) (u : Value) (hu : cs[j]? = some u) : (W.alloc (.cells cs.toArray e)).cell? ((⟨W.heap.size, 0, none⟩ : Addr).add j) = some u := by
 rw [Addr.add_lit, Nat.zero_add]
 unfold World.cell?
 rw [show (W.alloc (.cells cs.toArray e)).heap[(⟨W.heap.size, j, none⟩ : Addr).block]? = _ from blk_new W _]
 simpa using hu
theorem near_in {J : List Nat} (h : InN J.length J) (hn : J.length ≤ 9) {left v a : Nat} (hv : v < J.length) (ha : a ∈ nearL J left v) : a < J.length := by
 have := (mem_els.1 ha).2
 rw [Nat.testBit_and, Bool.and_eq_true] at this
 exact bit_lt (h.2 v) this.1
theorem next_case (J : List Nat) (left v : Nat) (hin : ∀ a ∈ nearL J left v, a < J.length) (h2 : (nearL J left v).length ≤ 2) : (((nearL J left v).length : Int) ≠ 2 ∧ nextJ J left v = J) ∨ (((nearL J left v).length : Int) = 2 ∧ ∃ a b : Nat, sA (nearL J left v) = (a : Int) ∧ sB (nearL J left v) = (b : Int) ∧ a < J.length ∧ b < J.length ∧ nextJ J left v = joinN J a b) := by
 unfold nextJ
 match h : nearL J left v, hin, h2 with
 | [], _, _ => exact .inl ⟨by simp, rfl⟩
 | [a], _, _ => exact .inl ⟨by simp, rfl⟩
 | [a, b], hin, _ => exact .inr ⟨by simp, a, b, rfl, rfl, hin a (by simp), hin b (by simp), rfl⟩
 | a :: b :: c :: r, _, h2 => simp at h2
theorem diff_pc9 {left v : Nat} (hv : left.testBit v = true) (hv9 : v < 9) : pc (diff left (2 ^ v)) 9 + 1 = pc left 9 := by
 rw [diff_pc (v := v) (n := 9) hv hv9]
set_option maxHeartbeats 8000000 in
set_option maxRecDepth 100000 in
theorem minor_Reduce.calls (A0 : Option Addr) (c0 : Nat) (l0 : List Int) (r1 : List S95) (r2 : Int) (w : World) (hGL : GL w) (hr0 : Kd.C (Kd.int .i64) w A0 l0.length l0) (hc0 : l0.length ≤ c0) (h : minor_Reduce.f l0 = some (r1, r2)) :
  Calls Tryd.prog 40 #[.slice A0 l0.length c0] w fun e w' => ∃ v, e = .returned (.tuple #[v, .int .i64 r2]) ∧ Kd.R k95 95 w' w.heap.size (fun _ => True) v r1 ∧ Below w.heap.size w w' := by
 unfold minor_Reduce.f at h
 by_cases hlen : l0.length < 1000
 ·rw [if_pos hlen] at h
  have h := Option.some.inj h
  have HC1 : Aside0 (∀ W, Below w.heap.size w W → Calls Tryd.prog 63 #[.slice A0 l0.length c0, .int .i64 8] W fun e w' => ∃ v, e = .returned (.tuple #[v, .bool (chk 8 l0)]) ∧ (chk 8 l0 = true → ∃ A1 c1, v = .slice A1 l0.length c1 ∧ l0.length ≤ c1 ∧ Kd.C (Kd.int .i64) w' A1 l0.length l0) ∧ Below W.heap.size W w') := ⟨fun W hW => read_any 8 (by omega) (by omega) A0 c0 W (Kd.C_below hr0 hW) hc0⟩
  have HGL := Aside0.mk hGL
  cases hg : chk 8 l0
  ·rw [hg] at h HC1
   injection h with h1 h2
   subst h1 h2
   clear hg hr0
   go_enter Tryd.func40, Tryd.ntmps40
   go_wp2_with (go_at_call 63; refine (HC1.out _ (Below.refl _ _)).mono ?_; rintro e w1 ⟨v1, rfl, _, hb1⟩; have HB1 := Aside0.mk hb1; clear hb1)
   go_ret2
   exact ⟨_, rfl, Kd.R_nil _ _ _ _ _, HB1.out⟩
  ·rw [hg] at h HC1
   obtain ⟨G, rfl, hG⟩ := (chk_iff 8 (by omega) _).1 hg
   rw [gi_toNat] at h
   simp only [gi_length] at HC1 hr0 hc0 h ⊢
   have hn := hG.most
   have hn1 := hG.pos
   have HG := Aside0.mk hG
   have h2n := Nat.two_pow_pos G.length
   have hpn : pc (2 ^ G.length - 1) 9 ≤ 9 := pc_le _ 9
   have HR : Aside0 (redN 10 G (2 ^ G.length - 1) [] = (r1, r2)) := ⟨h⟩
   have HTL : Aside0 (2 ^ G.length - 1 < 2 ^ G.length) := ⟨by omega⟩
   obtain ⟨T, hT⟩ : ∃ T, 2 ^ G.length - 1 = T := ⟨_, rfl⟩
   rw [hT] at hpn HR HTL
   have CRD : Aside0 (∀ W A c, Below w.heap.size w W → G.length ≤ c → Kd.C (Kd.int .i64) W A G.length (gi G) → Calls Tryd.prog 78 #[.slice A G.length c] W fun e w' => ∃ rB gT cT, e = .returned (.pointer (some ⟨rB, 0, none⟩)) ∧ RS W w' rB gT cT G T) := ⟨fun W A c hW hc hA => by
    rw [← hT]
    exact reduction_calls A c G HG.out hc W hA⟩
   obtain ⟨i95, hi95, hq0, hq1, hq2⟩ := info_parts info95
   clear hg hr0 hG hGL h h2n hT
   go_enter Tryd.func40, Tryd.ntmps40
   go_wp2_with (first
    | (go_at_call 63; refine (HC1.out _ (Below.refl _ _)).mono ?_; rintro e w1 ⟨v1, rfl, hv1, hb1⟩; obtain ⟨A5, c5, rfl, hc5, hC5⟩ := hv1 trivial; have HB1 := Aside0.mk hb1; have HC5 := Aside0.mk hC5; clear hb1 hv1 hC5)
    | (go_at_call 78; refine (CRD.out _ _ _ HB1.out hc5 HC5.out).mono ?_; rintro e w2 ⟨rB, gT, cT, rfl, hRS⟩; have HRS := Aside0.mk hRS; have hz1 : w2.cell? ⟨rB, 1, none⟩ = some (.int .i64 (T : Int)) := (blk_cell hRS.blk 1).trans rfl; clear hRS))
   go_loopg [7] 10 (fun kq v7 w' => ∃ (J : List Nat) (left : Nat) (out : List S95) (inner : List Value), J.length = G.length ∧ out.length + kq = 10 ∧ pc left 9 < kq ∧ Aside0 (left < 2 ^ G.length) ∧ Aside0 (redN kq J left out = (r1, r2)) ∧ Aside0 (RS w1 w' rB gT cT J left) ∧ Aside0 (w'.ownsRow w1.heap.size 95 4 v7 out.length inner) ∧ Aside0 (Reps enc4 4 out inner))
   case atStart => exact ⟨G, T, [], [], rfl, rfl, by omega, HTL, HR, HRS, ⟨World.ownsRow_nil _ _ _ _⟩, ⟨Reps.none _ _⟩⟩
   case round =>
    clear HR HRS HTL hz1 hpn
    obtain ⟨J, left, out, inner, hJl, hol, hpk, HLL, HA, HS, HO, HRP⟩ := hrel
    cases gk with
    | zero => omega
    | succ gk' =>
    have hl5 := small G (by omega) HLL.out
    have hz1 : wr.cell? ⟨rB, 1, none⟩ = some (.int .i64 (left : Int)) := (blk_cell HS.out.blk 1).trans rfl
    have ha := HA.out
    simp only [redN] at ha
    by_cases h0 : left = 0
    ·have hl0 : ((left : Int) != 0) = false := by rw [h0]; rfl
     rw [if_pos h0] at ha
     injection ha with h1 h2
     subst h1 h2
     clear h0 HA
     go_wp2
     go_ret2
     refine ⟨_, rfl, ?_, ?_⟩
     ·exact ⟨fun _ _ => trivial, inner, own_weaken HO.out HB1.out.size, HRP.out.imp_ (fun p c h => by rw [show c = _ from h]; exact k95_mkM _ _ _ p)⟩
     ·exact below_weaken HB1.out HB1.out.size HS.out.below
    ·have hl0 : ((left : Int) != 0) = true := by simp; omega
     rw [if_neg h0] at ha
     have HAH := Aside0.mk ha
     clear ha HA h0
     obtain ⟨Lf, hLf⟩ : ∃ Lf, els left 9 = Lf := ⟨_, rfl⟩
     have hLl : Lf.length ≤ 9 := by rw [← hLf, els_length]; exact pc_le _ 9
     have HND : Aside0 (∀ W, Below w1.heap.size w1 W → Calls Tryd.prog 69 #[.int .i64 (left : Int)] W fun e w' => ∃ A c, e = .returned (.slice A Lf.length c) ∧ Kd.C (Kd.int .i64) w' A (gi Lf).length (gi Lf) ∧ Below W.heap.size W w') := ⟨fun W hW => by
      obtain ⟨K, hK⟩ := nodes_ev left hl5
      refine (minor_nodes.calls K (left : Int) _ W (GL_below HGL.out (below_step HB1.out hW)) (hK K (Nat.le_refl _))).mono ?_
      rintro e w' ⟨u, rfl, hu, hb⟩
      obtain ⟨A, c, eu, hc, hC⟩ := Kd.R_reads hu
      rw [hLf] at eu hC
      rw [gi_length] at eu
      subst eu
      exact ⟨A, c, rfl, hC, hb⟩⟩
     have HMEM : Aside0 (∀ v ∈ Lf, v < G.length ∧ left.testBit v = true) := ⟨fun v hv => by
      rw [← hLf] at hv
      have h2 := (mem_els.1 hv).2
      exact ⟨bit_lt HLL.out h2, h2⟩⟩
     have HPK : Aside0 (pick J left = (Lf.drop 0).find? fun v => decide ((nearL J left v).length ≤ 2)) := ⟨by unfold pick; rw [hLf, List.drop_zero]⟩
     have HSTEP : Aside0 (∀ W v, RS w1 W rB gT cT J left → v < G.length → Calls Tryd.prog 79 #[.pointer (some ⟨rB, 0, none⟩), .int .i64 (v : Int)] W fun e w' => e = .returned (.tuple #[.agg #[.int .i64 ((nearL J left v).length : Int), .int .i64 (v : Int), .int .i64 (sA (nearL J left v)), .int .i64 (sB (nearL J left v))], .bool (decide ((nearL J left v).length ≤ 2))]) ∧ Below W.heap.size W w') := ⟨fun W v hW hv => by
      have hC := hW.C
      exact step_calls rB (some ⟨gT, 0, none⟩) cT J left v W (GL_below HGL.out (below_step HB1.out hW.below)) ((blk_cell hW.blk 0).trans rfl) ((blk_cell hW.blk 1).trans rfl) hC.2 (by omega) (by omega) (by
       have := hW.inn.2 v
       exact small G (by omega) (by rw [← hJl]; exact this)) hl5 _ rfl⟩
     clear hLf
     go_wp2_with (go_at_call 69; refine (HND.out _ HS.out.below).mono ?_; rintro e w3 ⟨A6, c6, rfl, hC6, hb3⟩; have HC6 := Aside0.mk hC6; have HS3 := Aside0.mk (HS.out.low hb3); have HO3 := Aside0.mk (own_kept HO.out (grown_of_below hb3 none) (fun _ _ e => by cases e)); clear hC6 hb3)
     go_loopg [7, 8, 33] Lf.length (fun kj v7 v8 v33 w' => ∃ i : Nat, v7 = u7 ∧ v8 = .bool false ∧ v33 = .int .i64 (i : Int) ∧ i + kj = Lf.length ∧ Aside0 (pick J left = (Lf.drop i).find? fun v => decide ((nearL J left v).length ≤ 2)) ∧ Aside0 (Below w3.heap.size w3 w'))
     case atStart => exact ⟨0, rfl, rfl, rfl, by omega, HPK, ⟨Below.refl _ _⟩⟩
     case round =>
      clear HPK
      obtain ⟨i, rfl, rfl, rfl, hi, HPI, HBI⟩ := hrel
      by_cases hil : i < Lf.length
      ·have hi1 : ((i : Int) < (Lf.length : Int)) = True := eq_true (by omega)
       have hi2 : decide ((i : Int) < (Lf.length : Int)) = true := decide_eq_true (by omega)
       cases gk with
       | zero => omega
       | succ gi' =>
       obtain ⟨ad, e1, hgx⟩ := Kd.at_int (Kd.C_below HC6.out HBI.out) (i : Int) (by omega) (by rw [gi_length]; omega)
       subst e1
       rw [rd_gi, Int.toNat_natCast] at hgx
       have hpi := HPI.out
       rw [List.drop_eq_getElem_cons hil, List.find?_cons] at hpi
       have hvm := HMEM.out _ (List.getElem_mem hil)
       have hxe : Lf.getD i 0 = Lf[i] := by rw [List.getD_eq_getElem?_getD, List.getElem?_eq_getElem hil]; rfl
       rw [hxe] at hgx
       generalize Lf[i] = v at *
       have HVM := Aside0.mk hvm
       have HSI := Aside0.mk (HS3.out.low HBI.out)
       have HOI := Aside0.mk (own_kept HO3.out (grown_of_below HBI.out none) (fun _ _ e => by cases e))
       have HST := Aside0.mk (HSTEP.out · v · hvm.1)
       clear hxe hvm HPI
       by_cases hcan : (nearL J left v).length ≤ 2
       ·have hcd : decide ((nearL J left v).length ≤ 2) = true := decide_eq_true hcan
        rw [hcd] at hpi HST
        have hin : ∀ a ∈ nearL J left v, a < J.length := fun a ha => near_in HS.out.inn (by omega) (by rw [hJl]; exact HVM.out.1) ha
        have hnc := next_case J left v hin hcan
        have hnl : (nextJ J left v).length = J.length := by
         rcases hnc with ⟨_, e⟩ | ⟨_, a, b, _, _, h3, h4, e⟩
         ·rw [e]
         ·rw [e]; exact (HS.out.inn.join h3 h4).1
        have HDO : Aside0 (∀ W, RS w1 W rB gT cT J left → Calls Tryd.prog 80 #[.pointer (some ⟨rB, 0, none⟩), .agg #[.int .i64 ((nearL J left v).length : Int), .int .i64 (v : Int), .int .i64 (sA (nearL J left v)), .int .i64 (sB (nearL J left v))]] W fun e w' => e = .returned (.tuple #[]) ∧ RS w1 w' rB gT cT (nextJ J left v) (diff left (2 ^ v)) ∧ Kept W w' (fun k => k = rB ∨ k = gT)) := ⟨fun W hW => do_calls w1 W rB gT cT J left hW (by omega) hl5 v (by have := HVM.out.1; omega) _ _ _ _ hnc⟩
        have HA2 : Aside0 (redN gk' (nextJ J left v) (diff left (2 ^ v)) (out ++ [stepS J left v]) = (r1, r2)) := ⟨by
         have ha := HAH.out
         rw [hpi] at ha
         exact ha⟩
        have HPC := Aside0.mk (diff_pc9 HVM.out.2 (by have := HVM.out.1; omega))
        have HNL := Aside0.mk hnl
        have HDL : Aside0 (diff left (2 ^ v) < 2 ^ G.length) := ⟨Nat.lt_of_le_of_lt (diff_le _ _) HLL.out⟩
        obtain ⟨kd, hkd⟩ : ∃ kd : Int, kd = ((nearL J left v).length : Int) := ⟨_, rfl⟩
        obtain ⟨s1, hs1⟩ : ∃ s1 : Int, s1 = sA (nearL J left v) := ⟨_, rfl⟩
        obtain ⟨s2, hs2⟩ : ∃ s2 : Int, s2 = sB (nearL J left v) := ⟨_, rfl⟩
        have HC4 : Aside0 (cells4 (stepS J left v) = [.int .i64 kd, .int .i64 (v : Int), .int .i64 s1, .int .i64 s2]) := ⟨by rw [hkd, hs1, hs2]; rfl⟩
        rw [← hkd, ← hs1, ← hs2] at HST HDO
        clear hpi hcd hcan hin hnc hnl hkd hs1 hs2 HND HSTEP HMEM
        go_wp2_with (first
         | (go_at_call 79; refine (HST.out _ HSI.out).mono ?_; rintro e w4 ⟨rfl, hb4⟩; have HS5 := Aside0.mk ((HSI.out.low hb4).low (below_alloc (Below.refl w4.heap.size w4) (.cells #[.int .i64 kd, .int .i64 (v : Int), .int .i64 s1, .int .i64 s2] 95))); have HO5 := Aside0.mk (own_kept (own_kept HOI.out (grown_of_below hb4 none) (fun _ _ e => by cases e)) (grown_of_below (below_alloc (Below.refl w4.heap.size w4) (.cells #[.int .i64 kd, .int .i64 (v : Int), .int .i64 s1, .int .i64 s2] 95)) none) (fun _ _ e => by cases e)); have HX5 := Aside0.mk (blk_new w4 (.cells #[.int .i64 kd, .int .i64 (v : Int), .int .i64 s1, .int .i64 s2] 95)); have HBK5 := Aside0.mk (blk_lt (HSI.out.low hb4).blk); clear hb4)
         | (go_at_call 80; refine (HDO.out _ HS5.out).mono ?_; rintro e w6 ⟨rfl, hS6, hK6⟩; have hx6 := HS5.out.kept_blk HX5.out hK6; obtain ⟨y0, y1, y2, y3⟩ := four_reads hx6; have HO6 := Aside0.mk (HS5.out.kept_row HO5.out hK6); have HS6 := Aside0.mk hS6; clear hS6 hK6 hx6)
         | (at_builtin; refine wpList_append_own_at _ rfl _ _ 53 rfl w1.heap.size 95 i95 (.agg #[.int .i64 0, .int .i64 0, .int .i64 0, .int .i64 0]) 4 32 Tryd.underlying53 hi95 hq0 hq1 hq2 rfl (by decide) u7 out.length inner rfl (HO6.out.alloc _) ⟨w6.heap.size, 0, none⟩ 1 1 [.int .i64 kd, .int .i64 (v : Int), .int .i64 s1, .int .i64 s2] rfl rfl (by intro j u hu; exact cells_new4 w6 _ _ j u hu) (by simp [Value.oneCell']) (by unfold maxLen; omega) (by omega) (by have := HS6.out.below.size; simp; omega) ?_; intro v8 w8 hown8 hg8 _ _; have HW8 := Aside0.mk hown8; have HG8 := Aside0.mk hg8; clear hown8 hg8))
        go_roundg gk'
        case measure => omega
        case rel =>
         have hal := below_alloc (Below.refl w6.heap.size w6) (.cells #[.int .i64 kd, .int .i64 (v : Int), .int .i64 s1, .int .i64 s2] 95)
         have hB8 : Below w1.heap.size w1 w8 := (below_step HS6.out.below hal).grown HG8.out (by have := HS6.out.below.size; simp; omega) (fun k e => own_base2 HO6.out k e)
         have hK8 : Kept w6 w8 (fun k => u7.ownBlock = some k) := Kept.of_grown HG8.out (Kept.of_below hal _) (fun k e => .inl e)
         refine ⟨nextJ J left v, diff left (2 ^ v), out ++ [stepS J left v], inner ++ cells4 (stepS J left v), by rw [HNL.out]; exact hJl, by simp; omega, by have := HPC.out; omega, HDL, HA2, ⟨HS6.out.kept hK8 hB8 (fun e => HS6.out.not_own HO6.out _ e (.inl rfl)) (fun e => HS6.out.not_own HO6.out _ e (.inr rfl))⟩, ⟨by rw [List.length_append, HC4.out]; exact HW8.out⟩, ⟨HRP.out.snoc rfl rfl⟩⟩
       ·have hcd : decide ((nearL J left v).length ≤ 2) = false := decide_eq_false hcan
        rw [hcd] at hpi HST
        have HP2 : Aside0 (pick J left = (Lf.drop (i + 1)).find? fun v => decide ((nearL J left v).length ≤ 2)) := ⟨hpi⟩
        clear hpi hcd hcan
        go_wp2_with (go_at_call 79; refine (HST.out _ HSI.out).mono ?_; rintro e w4 ⟨rfl, hb4⟩; have HB4 := Aside0.mk (below_step HBI.out hb4); clear hb4)
        go_roundg gi'
        case measure => omega
        case rel => exact ⟨i + 1, rfl, rfl, by go_num, by omega, HP2, ⟨below_step HB4.out (below_alloc (Below.refl _ _) _)⟩⟩
      ·have hi1 : ((i : Int) < (Lf.length : Int)) = False := eq_false (by omega)
       have hi2 : decide ((i : Int) < (Lf.length : Int)) = false := decide_eq_false (by omega)
       have hpi := HPI.out
       rw [List.drop_eq_nil_of_le (by omega)] at hpi
       have ha := HAH.out
       rw [hpi] at ha
       have ha2 : (([] : List S95), (4 : Int)) = (r1, r2) := ha
       injection ha2 with h1 h2
       subst h1 h2
       clear ha hpi HPI
       go_wp2
       go_ret2
       exact ⟨_, rfl, Kd.R_nil _ _ _ _ _, below_step (below_weaken HB1.out HB1.out.size HS3.out.below) HBI.out⟩
 ·rw [if_neg hlen] at h
  cases h
end Go.Proofs.YtjloppfdagfpmaaDoor.X
end
section
/- minor.CheckReduce, by hand. -/
namespace Go.Proofs.YtjloppfdagfpmaaDoor.X
open Go.RowKit YtjloppfdagfpmaaDoorW.PrintWords YtjloppfdagfpmaaDoorW.PrintLast YtjloppfdagfpmaaDoorW.PrintMore YtjloppfdagfpmaaDoor.T
attribute [local go_sem] max2_int min2_int max_two min_two max_three min_three max_four min_four
def eqS (a b : S95) : Bool := (a.f0 == b.f0) && ((a.f1 == b.f1) && ((a.f2 == b.f2) && (a.f3 == b.f3)))
def ckR (n : Nat) : List S95 → List Nat → Nat → Bool
 | [], _, left => decide (left = 0)
 | s :: r, J, left => decide (0 ≤ s.f1) && decide (s.f1 < (n : Int)) && left.testBit s.f1.toNat && decide ((nearL J left s.f1.toNat).length ≤ 2) && eqS (stepS J left s.f1.toNat) s && ckR n r (nextJ J left s.f1.toNat) (diff left (2 ^ s.f1.toNat))
def minor_CheckReduce.f (g : List Int) (l : List S95) : Option (Bool × Int) :=
 if g.length < 1000 ∧ l.length < 1000 then some (if chk 8 g = true then (ckR g.length l (g.map Int.toNat) (2 ^ g.length - 1), 0) else (false, 2)) else none
set_option maxHeartbeats 8000000 in
set_option maxRecDepth 100000 in
theorem minor_CheckReduce.calls (A0 : Option Addr) (c0 : Nat) (l0 : List Int) (A1 : Option Addr) (c1 : Nat) (l1 : List S95) (r1 : Bool) (r2 : Int) (w : World) (hGL : GL w) (hr0 : Kd.C (Kd.int .i64) w A0 l0.length l0) (hc0 : l0.length ≤ c0) (hr1 : Kd.C k95 w A1 l1.length l1) (hc1 : l1.length ≤ c1) (h : minor_CheckReduce.f l0 l1 = some (r1, r2)) :
  Calls Tryd.prog 41 #[.slice A0 l0.length c0, .slice A1 l1.length c1] w fun e w' => e = .returned (.tuple #[.bool r1, .int .i64 r2]) ∧ Below w.heap.size w w' := by
 unfold minor_CheckReduce.f at h
 by_cases hlen : l0.length < 1000 ∧ l1.length < 1000
 ·rw [if_pos hlen] at h
  have h := Option.some.inj h
  have hl1m := hlen.2
  have HC1 : Aside0 (∀ W, Below w.heap.size w W → Calls Tryd.prog 63 #[.slice A0 l0.length c0, .int .i64 8] W fun e w' => ∃ v, e = .returned (.tuple #[v, .bool (chk 8 l0)]) ∧ (chk 8 l0 = true → ∃ A1 c1, v = .slice A1 l0.length c1 ∧ l0.length ≤ c1 ∧ Kd.C (Kd.int .i64) w' A1 l0.length l0) ∧ Below W.heap.size W w') := ⟨fun W hW => read_any 8 (by omega) (by omega) A0 c0 W (Kd.C_below hr0 hW) hc0⟩
  have HGL := Aside0.mk hGL
  have HR1 := Aside0.mk hr1
  clear hlen hr1
  cases hg : chk 8 l0
  ·rw [hg] at h HC1
   injection h with h1 h2
   subst h1 h2
   clear hg hr0
   go_enter Tryd.func41, Tryd.ntmps41
   go_wp2_with (go_at_call 63; refine (HC1.out _ (Below.refl _ _)).mono ?_; rintro e w1 ⟨v1, rfl, _, hb1⟩; have HB1 := Aside0.mk hb1; clear hb1)
   go_ret2
   exact ⟨rfl, HB1.out⟩
  ·rw [hg] at h HC1
   obtain ⟨G, rfl, hG⟩ := (chk_iff 8 (by omega) _).1 hg
   rw [gi_toNat] at h
   simp only [gi_length] at HC1 hr0 hc0 h ⊢
   have hn := hG.most
   have hn1 := hG.pos
   have HG := Aside0.mk hG
   have h2n := Nat.two_pow_pos G.length
   injection h with h1 h2
   subst h2
   have HR : Aside0 (ckR G.length (l1.drop 0) G (2 ^ G.length - 1) = r1) := ⟨h1⟩
   have HTL : Aside0 (2 ^ G.length - 1 < 2 ^ G.length) := ⟨by omega⟩
   obtain ⟨T, hT⟩ : ∃ T, 2 ^ G.length - 1 = T := ⟨_, rfl⟩
   rw [hT] at HR HTL
   have CRD : Aside0 (∀ W A c, Below w.heap.size w W → G.length ≤ c → Kd.C (Kd.int .i64) W A G.length (gi G) → Calls Tryd.prog 78 #[.slice A G.length c] W fun e w' => ∃ rB gT cT, e = .returned (.pointer (some ⟨rB, 0, none⟩)) ∧ RS W w' rB gT cT G T) := ⟨fun W A c hW hc hA => by
    rw [← hT]
    exact reduction_calls A c G HG.out hc W hA⟩
   clear hg hr0 hG hGL h1 h2n hT
   go_enter Tryd.func41, Tryd.ntmps41
   go_wp2_with (first
    | (go_at_call 63; refine (HC1.out _ (Below.refl _ _)).mono ?_; rintro e w1 ⟨v1, rfl, hv1, hb1⟩; obtain ⟨A5, c5, rfl, hc5, hC5⟩ := hv1 trivial; have HB1 := Aside0.mk hb1; have HC5 := Aside0.mk hC5; clear hb1 hv1 hC5)
    | (go_at_call 78; refine (CRD.out _ _ _ HB1.out hc5 HC5.out).mono ?_; rintro e w2 ⟨rB, gT, cT, rfl, hRS⟩; have HRS := Aside0.mk hRS; clear hRS))
   go_loopg [24] l1.length (fun kq v24 w' => ∃ (i : Nat) (J : List Nat) (left : Nat), v24 = .int .i64 (i : Int) ∧ i + kq = l1.length ∧ J.length = G.length ∧ Aside0 (left < 2 ^ G.length) ∧ Aside0 (ckR G.length (l1.drop i) J left = r1) ∧ Aside0 (RS w1 w' rB gT cT J left))
   case atStart => exact ⟨0, G, T, rfl, by omega, rfl, HTL, HR, HRS⟩
   case round =>
    clear HR HRS HTL
    obtain ⟨i, J, left, rfl, hi, hJl, HLL, HA, HS⟩ := hrel
    have hl5 := small G (by omega) HLL.out
    by_cases hil : i < l1.length
    ·have hi1 : ((i : Int) < (l1.length : Int)) = True := eq_true (by omega)
     have hi2 : decide ((i : Int) < (l1.length : Int)) = true := decide_eq_true (by omega)
     cases gk with
     | zero => omega
     | succ gi' =>
     have hbw := below_weaken HB1.out HB1.out.size HS.out.below
     obtain ⟨ad, e1, q0, q1, q2, q3⟩ := at_T95 (Kd.C_below HR1.out hbw) (i : Int) (by omega) (by omega)
     subst e1
     have hra : rd_T95 l1 (i : Int) = l1[i] := by unfold rd_T95; rw [Int.toNat_natCast, List.getD_eq_getElem?_getD, List.getElem?_eq_getElem hil]; rfl
     rw [hra, Int.toNat_natCast] at q0 q1 q2 q3
     have ha := HA.out
     rw [List.drop_eq_getElem_cons hil] at ha
     simp only [ckR] at ha
     generalize l1[i] = s at *
     obtain ⟨x0, x1, x2, x3⟩ := s
     simp only at q0 q1 q2 q3 ha
     have HAH := Aside0.mk ha
     clear ha HA hbw hra
     obtain ⟨w9, hw9⟩ : ∃ w9 : World, w9 = wr.alloc (Obj.cells #[.int .i64 x0, .int .i64 x1, .int .i64 x2, .int .i64 x3] 95) := ⟨_, rfl⟩
     obtain ⟨tS, htS⟩ : ∃ tS, tS = wr.heap.size := ⟨_, rfl⟩
     have HX9 : Aside0 (w9.heap[tS]? = some (.cells #[.int .i64 x0, .int .i64 x1, .int .i64 x2, .int .i64 x3] 95 (0, 0))) := ⟨by rw [hw9, htS]; exact blk_new wr _⟩
     have HS9 : Aside0 (RS w1 w9 rB gT cT J left) := ⟨by rw [hw9]; exact HS.out.low (below_alloc (Below.refl _ _) _)⟩
     have f1d : w9.drew.cell? ⟨tS, 1, none⟩ = some (.int .i64 x1) := (blk_cell HX9.out 1).trans rfl
     have f2d : w9.drew.cell? ⟨rB, 1, none⟩ = some (.int .i64 (left : Int)) := (blk_cell HS9.out.blk 1).trans rfl
     by_cases hx0 : x1 < 0
     ·have hr : false = r1 := by
       have := HAH.out
       rw [decide_eq_false (by omega : ¬ 0 ≤ x1)] at this
       simpa using this
      subst hr
      have hx1 : decide (x1 < 0) = true := decide_eq_true hx0
      go_wp2
      rw [← hw9, ← htS]; clear hw9 htS
      refine start_ (n := 21) (S := fun w' => w'.cell? ⟨tS, 1, none⟩ = some (.int .i64 x1) ∧ w'.cell? ⟨rB, 1, none⟩ = some (.int .i64 (left : Int))) (ds := []) (Qbz 21 0) (by kernel_rfl) rfl rfl ⟨f1d, f2d⟩ (fun hHeld => ?_)
      refine pure_ (i := 0) (N := some 28) (v := ?_) (a' := ?_) (Qbz 21 1) rfl rfl (by kernel_rfl) (fun _ _ _ h => h) (Or.inl ⟨by rfl, ?_⟩) ?_ ?_
      rotate_left
      ·intro w'
       go_simp
       with_reducible rfl
      rotate_left
      ·simp only [Act.put, Qp1, Qp2, Qp3, i64_w, i32_w]
       rfl
      refine take_ (i := 1) (N := some 29) (v := ?_) (a' := ?_) (Qbz 21 3) rfl rfl (by kernel_rfl) (fun _ _ _ h => h) (Or.inl ⟨by rfl, ?_⟩) hHeld ?_ ?_
      rotate_left
      ·rintro w' ⟨s0, s1⟩
       go_simp
       with_reducible rfl
      rotate_left
      ·simp only [Act.put, Qp1, Qp2, Qp3, i64_w, i32_w]
       rfl
      refine pure_ (i := 2) (N := some 30) (v := ?_) (a' := ?_) (Qbz 21 7) rfl rfl (by kernel_rfl) (fun _ _ _ h => h) (Or.inl ⟨by rfl, ?_⟩) ?_ ?_
      rotate_left
      ·intro w'
       go_simp
       with_reducible rfl
      rotate_left
      ·simp only [Act.put, Qp1, Qp2, Qp3, i64_w, i32_w]
       rfl
      refine pure_ (i := 3) (N := some 31) (v := ?_) (a' := ?_) (Qbz 21 15) rfl rfl (by kernel_rfl) (fun _ _ _ h => h) (Or.inl ⟨by rfl, ?_⟩) ?_ ?_
      rotate_left
      ·intro w'
       go_simp
       with_reducible rfl
      rotate_left
      ·simp only [Act.put, Qp1, Qp2, Qp3, i64_w, i32_w]
       rfl
      refine pure_ (i := 4) (N := some 32) (v := undef) (a' := ?_) (Qbz 21 31) rfl rfl (by kernel_rfl) (fun _ _ _ h => h) (Or.inr ⟨by rfl, rfl⟩) ?_ ?_
      rotate_left
      ·simp only [Act.put, Qp1, Qp2, Qp3, i64_w, i32_w]
       rfl
      refine pure_ (i := 5) (N := some 33) (v := undef) (a' := ?_) (Qbz 21 63) rfl rfl (by kernel_rfl) (fun _ _ _ h => h) (Or.inr ⟨by rfl, rfl⟩) ?_ ?_
      rotate_left
      ·simp only [Act.put, Qp1, Qp2, Qp3, i64_w, i32_w]
       rfl
      refine pure_ (i := 6) (N := some 34) (v := undef) (a' := ?_) (Qbz 21 127) rfl rfl (by kernel_rfl) (fun _ _ _ h => h) (Or.inr ⟨by rfl, rfl⟩) ?_ ?_
      rotate_left
      ·simp only [Act.put, Qp1, Qp2, Qp3, i64_w, i32_w]
       rfl
      refine pure_ (i := 7) (N := some 35) (v := undef) (a' := ?_) (Qbz 21 255) rfl rfl (by kernel_rfl) (fun _ _ _ h => h) (Or.inr ⟨by rfl, rfl⟩) ?_ ?_
      rotate_left
      ·simp only [Act.put, Qp1, Qp2, Qp3, i64_w, i32_w]
       rfl
      refine pure_ (i := 8) (N := some 36) (v := undef) (a' := ?_) (Qbz 21 511) rfl rfl (by kernel_rfl) (fun _ _ _ h => h) (Or.inr ⟨by rfl, rfl⟩) ?_ ?_
      rotate_left
      ·simp only [Act.put, Qp1, Qp2, Qp3, i64_w, i32_w]
       rfl
      refine pure_ (i := 9) (N := some 37) (v := ?_) (a' := ?_) (Qbz 21 1023) rfl rfl (by kernel_rfl) (fun _ _ _ h => h) (Or.inl ⟨by rfl, ?_⟩) ?_ ?_
      rotate_left
      ·intro w'
       go_simp
       with_reducible rfl
      rotate_left
      ·simp only [Act.put, Qp1, Qp2, Qp3, i64_w, i32_w]
       rfl
      refine pure_ (i := 10) (N := some 38) (v := ?_) (a' := ?_) (Qbz 21 2047) rfl rfl (by kernel_rfl) (fun _ _ _ h => h) (Or.inl ⟨by rfl, ?_⟩) ?_ ?_
      rotate_left
      ·intro w'
       go_simp
       with_reducible rfl
      rotate_left
      ·simp only [Act.put, Qp1, Qp2, Qp3, i64_w, i32_w]
       rfl
      refine pure_ (i := 11) (N := some 39) (v := undef) (a' := ?_) (Qbz 21 4095) rfl rfl (by kernel_rfl) (fun _ _ _ h => h) (Or.inr ⟨by rfl, rfl⟩) ?_ ?_
      rotate_left
      ·simp only [Act.put, Qp1, Qp2, Qp3, i64_w, i32_w]
       rfl
      refine pure_ (i := 12) (N := some 40) (v := undef) (a' := ?_) (Qbz 21 8191) rfl rfl (by kernel_rfl) (fun _ _ _ h => h) (Or.inr ⟨by rfl, rfl⟩) ?_ ?_
      rotate_left
      ·simp only [Act.put, Qp1, Qp2, Qp3, i64_w, i32_w]
       rfl
      refine pure_ (i := 13) (N := some 41) (v := undef) (a' := ?_) (Qbz 21 16383) rfl rfl (by kernel_rfl) (fun _ _ _ h => h) (Or.inr ⟨by rfl, rfl⟩) ?_ ?_
      rotate_left
      ·simp only [Act.put, Qp1, Qp2, Qp3, i64_w, i32_w]
       rfl
      refine pure_ (i := 14) (N := some 42) (v := undef) (a' := ?_) (Qbz 21 32767) rfl rfl (by kernel_rfl) (fun _ _ _ h => h) (Or.inr ⟨by rfl, rfl⟩) ?_ ?_
      rotate_left
      ·simp only [Act.put, Qp1, Qp2, Qp3, i64_w, i32_w]
       rfl
      refine pure_ (i := 15) (N := some 43) (v := undef) (a' := ?_) (Qbz 21 65535) rfl rfl (by kernel_rfl) (fun _ _ _ h => h) (Or.inr ⟨by rfl, rfl⟩) ?_ ?_
      rotate_left
      ·simp only [Act.put, Qp1, Qp2, Qp3, i64_w, i32_w]
       rfl
      refine pure_ (i := 16) (N := some 44) (v := undef) (a' := ?_) (Qbz 21 131071) rfl rfl (by kernel_rfl) (fun _ _ _ h => h) (Or.inr ⟨by rfl, rfl⟩) ?_ ?_
      rotate_left
      ·simp only [Act.put, Qp1, Qp2, Qp3, i64_w, i32_w]
       rfl
      refine pure_ (i := 17) (N := some 45) (v := undef) (a' := ?_) (Qbz 21 262143) rfl rfl (by kernel_rfl) (fun _ _ _ h => h) (Or.inr ⟨by rfl, rfl⟩) ?_ ?_
      rotate_left
      ·simp only [Act.put, Qp1, Qp2, Qp3, i64_w, i32_w]
       rfl
      refine pure_ (i := 18) (N := some 46) (v := undef) (a' := ?_) (Qbz 21 524287) rfl rfl (by kernel_rfl) (fun _ _ _ h => h) (Or.inr ⟨by rfl, rfl⟩) ?_ ?_
      rotate_left
      ·simp only [Act.put, Qp1, Qp2, Qp3, i64_w, i32_w]
       rfl
      refine pure_ (i := 19) (N := some 47) (v := undef) (a' := ?_) (Qbz 21 1048575) rfl rfl (by kernel_rfl) (fun _ _ _ h => h) (Or.inr ⟨by rfl, rfl⟩) ?_ ?_
      rotate_left
      ·simp only [Act.put, Qp1, Qp2, Qp3, i64_w, i32_w]
       rfl
      refine pure_ (i := 20) (N := some 48) (v := ?_) (a' := ?_) (Qbz 21 2097151) rfl rfl (by kernel_rfl) (fun _ _ _ h => h) (Or.inl ⟨by rfl, ?_⟩) ?_ ?_
      rotate_left
      ·intro w'
       go_simp
       with_reducible rfl
      rotate_left
      ·simp only [Act.put, Qp1, Qp2, Qp3, i64_w, i32_w]
       rfl
      refine done_ (by kernel_rfl) ?_
      go_wp2
      go_ret2
      exact ⟨rfl, below_step (below_weaken HB1.out HB1.out.size HS9.out.below) (below_drew (Below.refl _ _))⟩
     ·have hx1 : decide (x1 < 0) = false := decide_eq_false hx0
      by_cases hxn : x1 ≥ (G.length : Int)
      ·have hr : false = r1 := by
        have := HAH.out
        rw [decide_eq_false (by omega : ¬ x1 < (G.length : Int))] at this
        simpa using this
       subst hr
       have hx2 : decide ((G.length : Int) ≤ x1) = true := decide_eq_true hxn
       go_wp2
       rw [← hw9, ← htS]; clear hw9 htS
       refine start_ (n := 21) (S := fun w' => w'.cell? ⟨tS, 1, none⟩ = some (.int .i64 x1) ∧ w'.cell? ⟨rB, 1, none⟩ = some (.int .i64 (left : Int))) (ds := []) (Qbz 21 0) (by kernel_rfl) rfl rfl ⟨f1d, f2d⟩ (fun hHeld => ?_)
       refine pure_ (i := 0) (N := some 28) (v := ?_) (a' := ?_) (Qbz 21 1) rfl rfl (by kernel_rfl) (fun _ _ _ h => h) (Or.inl ⟨by rfl, ?_⟩) ?_ ?_
       rotate_left
       ·intro w'
        go_simp
        with_reducible rfl
       rotate_left
       ·simp only [Act.put, Qp1, Qp2, Qp3, i64_w, i32_w]
        rfl
       refine take_ (i := 1) (N := some 29) (v := ?_) (a' := ?_) (Qbz 21 3) rfl rfl (by kernel_rfl) (fun _ _ _ h => h) (Or.inl ⟨by rfl, ?_⟩) hHeld ?_ ?_
       rotate_left
       ·rintro w' ⟨s0, s1⟩
        go_simp
        with_reducible rfl
       rotate_left
       ·simp only [Act.put, Qp1, Qp2, Qp3, i64_w, i32_w]
        rfl
       refine pure_ (i := 2) (N := some 30) (v := ?_) (a' := ?_) (Qbz 21 7) rfl rfl (by kernel_rfl) (fun _ _ _ h => h) (Or.inl ⟨by rfl, ?_⟩) ?_ ?_
       rotate_left
       ·intro w'
        go_simp
        with_reducible rfl
       rotate_left
       ·simp only [Act.put, Qp1, Qp2, Qp3, i64_w, i32_w]
        rfl
       refine pure_ (i := 3) (N := some 31) (v := ?_) (a' := ?_) (Qbz 21 15) rfl rfl (by kernel_rfl) (fun _ _ _ h => h) (Or.inl ⟨by rfl, ?_⟩) ?_ ?_
       rotate_left
       ·intro w'
        go_simp
        with_reducible rfl
       rotate_left
       ·simp only [Act.put, Qp1, Qp2, Qp3, i64_w, i32_w]
        rfl
       refine pure_ (i := 4) (N := some 32) (v := ?_) (a' := ?_) (Qbz 21 31) rfl rfl (by kernel_rfl) (fun _ _ _ h => h) (Or.inl ⟨by rfl, ?_⟩) ?_ ?_
       rotate_left
       ·intro w'
        go_simp
        with_reducible rfl
       rotate_left
       ·simp only [Act.put, Qp1, Qp2, Qp3, i64_w, i32_w]
        rfl
       refine pure_ (i := 6) (N := some 34) (v := ?_) (a' := ?_) (Qbz 21 95) rfl rfl (by kernel_rfl) (fun _ _ _ h => h) (Or.inl ⟨by rfl, ?_⟩) ?_ ?_
       rotate_left
       ·intro w'
        go_simp
        with_reducible rfl
       rotate_left
       ·simp only [Act.put, Qp1, Qp2, Qp3, i64_w, i32_w]
        rfl
       refine pure_ (i := 7) (N := some 35) (v := ?_) (a' := ?_) (Qbz 21 223) rfl rfl (by kernel_rfl) (fun _ _ _ h => h) (Or.inl ⟨by rfl, ?_⟩) ?_ ?_
       rotate_left
       ·intro w'
        go_simp
        with_reducible rfl
       rotate_left
       ·simp only [Act.put, Qp1, Qp2, Qp3, i64_w, i32_w]
        rfl
       refine take_ (i := 5) (N := some 33) (v := ?_) (a' := ?_) (Qbz 21 255) rfl rfl (by kernel_rfl) (fun _ _ _ h => h) (Or.inl ⟨by rfl, ?_⟩) hHeld ?_ ?_
       rotate_left
       ·rintro w' ⟨s0, s1⟩
        go_simp
        with_reducible rfl
       rotate_left
       ·simp only [Act.put, Qp1, Qp2, Qp3, i64_w, i32_w]
        rfl
       refine pure_ (i := 8) (N := some 36) (v := ?_) (a' := ?_) (Qbz 21 511) rfl rfl (by kernel_rfl) (fun _ _ _ h => h) (Or.inl ⟨by rfl, ?_⟩) ?_ ?_
       rotate_left
       ·intro w'
        go_simp
        with_reducible rfl
       rotate_left
       ·simp only [Act.put, Qp1, Qp2, Qp3, i64_w, i32_w]
        rfl
       refine pure_ (i := 9) (N := some 37) (v := ?_) (a' := ?_) (Qbz 21 1023) rfl rfl (by kernel_rfl) (fun _ _ _ h => h) (Or.inl ⟨by rfl, ?_⟩) ?_ ?_
       rotate_left
       ·intro w'
        go_simp
        with_reducible rfl
       rotate_left
       ·simp only [Act.put, Qp1, Qp2, Qp3, i64_w, i32_w]
        rfl
       refine pure_ (i := 10) (N := some 38) (v := ?_) (a' := ?_) (Qbz 21 2047) rfl rfl (by kernel_rfl) (fun _ _ _ h => h) (Or.inl ⟨by rfl, ?_⟩) ?_ ?_
       rotate_left
       ·intro w'
        go_simp
        with_reducible rfl
       rotate_left
       ·simp only [Act.put, Qp1, Qp2, Qp3, i64_w, i32_w]
        rfl
       refine pure_ (i := 11) (N := some 39) (v := undef) (a' := ?_) (Qbz 21 4095) rfl rfl (by kernel_rfl) (fun _ _ _ h => h) (Or.inr ⟨by rfl, rfl⟩) ?_ ?_
       rotate_left
       ·simp only [Act.put, Qp1, Qp2, Qp3, i64_w, i32_w]
        rfl
       refine pure_ (i := 12) (N := some 40) (v := undef) (a' := ?_) (Qbz 21 8191) rfl rfl (by kernel_rfl) (fun _ _ _ h => h) (Or.inr ⟨by rfl, rfl⟩) ?_ ?_
       rotate_left
       ·simp only [Act.put, Qp1, Qp2, Qp3, i64_w, i32_w]
        rfl
       refine pure_ (i := 13) (N := some 41) (v := undef) (a' := ?_) (Qbz 21 16383) rfl rfl (by kernel_rfl) (fun _ _ _ h => h) (Or.inr ⟨by rfl, rfl⟩) ?_ ?_
       rotate_left
       ·simp only [Act.put, Qp1, Qp2, Qp3, i64_w, i32_w]
        rfl
       refine pure_ (i := 14) (N := some 42) (v := undef) (a' := ?_) (Qbz 21 32767) rfl rfl (by kernel_rfl) (fun _ _ _ h => h) (Or.inr ⟨by rfl, rfl⟩) ?_ ?_
       rotate_left
       ·simp only [Act.put, Qp1, Qp2, Qp3, i64_w, i32_w]
        rfl
       refine pure_ (i := 15) (N := some 43) (v := undef) (a' := ?_) (Qbz 21 65535) rfl rfl (by kernel_rfl) (fun _ _ _ h => h) (Or.inr ⟨by rfl, rfl⟩) ?_ ?_
       rotate_left
       ·simp only [Act.put, Qp1, Qp2, Qp3, i64_w, i32_w]
        rfl
       refine pure_ (i := 16) (N := some 44) (v := undef) (a' := ?_) (Qbz 21 131071) rfl rfl (by kernel_rfl) (fun _ _ _ h => h) (Or.inr ⟨by rfl, rfl⟩) ?_ ?_
       rotate_left
       ·simp only [Act.put, Qp1, Qp2, Qp3, i64_w, i32_w]
        rfl
       refine pure_ (i := 17) (N := some 45) (v := undef) (a' := ?_) (Qbz 21 262143) rfl rfl (by kernel_rfl) (fun _ _ _ h => h) (Or.inr ⟨by rfl, rfl⟩) ?_ ?_
       rotate_left
       ·simp only [Act.put, Qp1, Qp2, Qp3, i64_w, i32_w]
        rfl
       refine pure_ (i := 18) (N := some 46) (v := undef) (a' := ?_) (Qbz 21 524287) rfl rfl (by kernel_rfl) (fun _ _ _ h => h) (Or.inr ⟨by rfl, rfl⟩) ?_ ?_
       rotate_left
       ·simp only [Act.put, Qp1, Qp2, Qp3, i64_w, i32_w]
        rfl
       refine pure_ (i := 19) (N := some 47) (v := undef) (a' := ?_) (Qbz 21 1048575) rfl rfl (by kernel_rfl) (fun _ _ _ h => h) (Or.inr ⟨by rfl, rfl⟩) ?_ ?_
       rotate_left
       ·simp only [Act.put, Qp1, Qp2, Qp3, i64_w, i32_w]
        rfl
       refine pure_ (i := 20) (N := some 48) (v := ?_) (a' := ?_) (Qbz 21 2097151) rfl rfl (by kernel_rfl) (fun _ _ _ h => h) (Or.inl ⟨by rfl, ?_⟩) ?_ ?_
       rotate_left
       ·intro w'
        go_simp
        with_reducible rfl
       rotate_left
       ·simp only [Act.put, Qp1, Qp2, Qp3, i64_w, i32_w]
        rfl
       refine done_ (by kernel_rfl) ?_
       go_wp2
       go_ret2
       exact ⟨rfl, below_step (below_weaken HB1.out HB1.out.size HS9.out.below) (below_drew (Below.refl _ _))⟩
      ·obtain ⟨xn, rfl⟩ := Int.eq_ofNat_of_zero_le (show 0 ≤ x1 by omega)
       have hx2 : decide ((G.length : Int) ≤ (xn : Int)) = false := decide_eq_false (by omega)
       have hx3 : decide (G.length ≤ xn) = false := decide_eq_false (by omega)
       have hah := HAH.out
       rw [decide_eq_true (by omega : (0 : Int) ≤ (xn : Int)), decide_eq_true (by omega : (xn : Int) < (G.length : Int)), Bool.true_and, Bool.true_and, Int.toNat_natCast] at hah
       have HAH := Aside0.mk hah
       clear hah
       obtain ⟨Jb, b1, b2, b3, b4, b5⟩ := bitJ left xn (by omega) (by omega)
       cases hbit : left.testBit xn
       ·rw [hbit] at b5
        have hr : false = r1 := by
         have := HAH.out
         rw [hbit] at this
         simpa using this
        subst hr
        clear hbit
        go_wp2
        rw [← hw9, ← htS]; clear hw9 htS
        refine start_ (n := 21) (S := fun w' => w'.cell? ⟨tS, 1, none⟩ = some (.int .i64 (xn : Int)) ∧ w'.cell? ⟨rB, 1, none⟩ = some (.int .i64 (left : Int))) (ds := []) (Qbz 21 0) (by kernel_rfl) rfl rfl ⟨f1d, f2d⟩ (fun hHeld => ?_)
        refine pure_ (i := 0) (N := some 28) (v := ?_) (a' := ?_) (Qbz 21 1) rfl rfl (by kernel_rfl) (fun _ _ _ h => h) (Or.inl ⟨by rfl, ?_⟩) ?_ ?_
        rotate_left
        ·intro w'
         go_simp
         with_reducible rfl
        rotate_left
        ·simp only [Act.put, Qp1, Qp2, Qp3, i64_w, i32_w]
         rfl
        refine take_ (i := 1) (N := some 29) (v := ?_) (a' := ?_) (Qbz 21 3) rfl rfl (by kernel_rfl) (fun _ _ _ h => h) (Or.inl ⟨by rfl, ?_⟩) hHeld ?_ ?_
        rotate_left
        ·rintro w' ⟨s0, s1⟩
         go_simp
         with_reducible rfl
        rotate_left
        ·simp only [Act.put, Qp1, Qp2, Qp3, i64_w, i32_w]
         rfl
        refine pure_ (i := 2) (N := some 30) (v := ?_) (a' := ?_) (Qbz 21 7) rfl rfl (by kernel_rfl) (fun _ _ _ h => h) (Or.inl ⟨by rfl, ?_⟩) ?_ ?_
        rotate_left
        ·intro w'
         go_simp
         with_reducible rfl
        rotate_left
        ·simp only [Act.put, Qp1, Qp2, Qp3, i64_w, i32_w]
         rfl
        refine pure_ (i := 3) (N := some 31) (v := ?_) (a' := ?_) (Qbz 21 15) rfl rfl (by kernel_rfl) (fun _ _ _ h => h) (Or.inl ⟨by rfl, ?_⟩) ?_ ?_
        rotate_left
        ·intro w'
         go_simp
         with_reducible rfl
        rotate_left
        ·simp only [Act.put, Qp1, Qp2, Qp3, i64_w, i32_w]
         rfl
        refine pure_ (i := 4) (N := some 32) (v := ?_) (a' := ?_) (Qbz 21 31) rfl rfl (by kernel_rfl) (fun _ _ _ h => h) (Or.inl ⟨by rfl, ?_⟩) ?_ ?_
        rotate_left
        ·intro w'
         go_simp
         with_reducible rfl
        rotate_left
        ·simp only [Act.put, Qp1, Qp2, Qp3, i64_w, i32_w]
         rfl
        refine pure_ (i := 6) (N := some 34) (v := ?_) (a' := ?_) (Qbz 21 95) rfl rfl (by kernel_rfl) (fun _ _ _ h => h) (Or.inl ⟨by rfl, ?_⟩) ?_ ?_
        rotate_left
        ·intro w'
         go_simp
         with_reducible rfl
        rotate_left
        ·simp only [Act.put, Qp1, Qp2, Qp3, i64_w, i32_w]
         rfl
        refine pure_ (i := 7) (N := some 35) (v := ?_) (a' := ?_) (Qbz 21 223) rfl rfl (by kernel_rfl) (fun _ _ _ h => h) (Or.inl ⟨by rfl, ?_⟩) ?_ ?_
        rotate_left
        ·intro w'
         go_simp
         with_reducible rfl
        rotate_left
        ·simp only [Act.put, Qp1, Qp2, Qp3, i64_w, i32_w]
         rfl
        refine take_ (i := 5) (N := some 33) (v := ?_) (a' := ?_) (Qbz 21 255) rfl rfl (by kernel_rfl) (fun _ _ _ h => h) (Or.inl ⟨by rfl, ?_⟩) hHeld ?_ ?_
        rotate_left
        ·rintro w' ⟨s0, s1⟩
         go_simp
         with_reducible rfl
        rotate_left
        ·simp only [Act.put, Qp1, Qp2, Qp3, i64_w, i32_w]
         rfl
        refine pure_ (i := 8) (N := some 36) (v := ?_) (a' := ?_) (Qbz 21 511) rfl rfl (by kernel_rfl) (fun _ _ _ h => h) (Or.inl ⟨by rfl, ?_⟩) ?_ ?_
        rotate_left
        ·intro w'
         go_simp
         with_reducible rfl
        rotate_left
        ·simp only [Act.put, Qp1, Qp2, Qp3, i64_w, i32_w]
         rfl
        refine pure_ (i := 9) (N := some 37) (v := ?_) (a' := ?_) (Qbz 21 1023) rfl rfl (by kernel_rfl) (fun _ _ _ h => h) (Or.inl ⟨by rfl, ?_⟩) ?_ ?_
        rotate_left
        ·intro w'
         go_simp
         with_reducible rfl
        rotate_left
        ·simp only [Act.put, Qp1, Qp2, Qp3, i64_w, i32_w]
         rfl
        refine pure_ (i := 10) (N := some 38) (v := ?_) (a' := ?_) (Qbz 21 2047) rfl rfl (by kernel_rfl) (fun _ _ _ h => h) (Or.inl ⟨by rfl, ?_⟩) ?_ ?_
        rotate_left
        ·intro w'
         go_simp
         with_reducible rfl
        rotate_left
        ·simp only [Act.put, Qp1, Qp2, Qp3, i64_w, i32_w]
         rfl
        refine pure_ (i := 11) (N := some 39) (v := ?_) (a' := ?_) (Qbz 21 4095) rfl rfl (by kernel_rfl) (fun _ _ _ h => h) (Or.inl ⟨by rfl, ?_⟩) ?_ ?_
        rotate_left
        ·intro w'
         go_simp
         with_reducible rfl
        rotate_left
        ·simp only [Act.put, Qp1, Qp2, Qp3, i64_w, i32_w]
         rfl
        refine pure_ (i := 12) (N := some 40) (v := ?_) (a' := ?_) (Qbz 21 8191) rfl rfl (by kernel_rfl) (fun _ _ _ h => h) (Or.inl ⟨by rfl, ?_⟩) ?_ ?_
        rotate_left
        ·intro w'
         go_simp
         with_reducible rfl
        rotate_left
        ·simp only [Act.put, Qp1, Qp2, Qp3, i64_w, i32_w]
         rfl
        refine pure_ (i := 13) (N := some 41) (v := ?_) (a' := ?_) (Qbz 21 16383) rfl rfl (by kernel_rfl) (fun _ _ _ h => h) (Or.inl ⟨by rfl, ?_⟩) ?_ ?_
        rotate_left
        ·intro w'
         go_simp
         with_reducible rfl
        rotate_left
        ·simp only [Act.put, Qp1, Qp2, Qp3, i64_w, i32_w]
         rfl
        refine pure_ (i := 15) (N := some 43) (v := ?_) (a' := ?_) (Qbz 21 49151) rfl rfl (by kernel_rfl) (fun _ _ _ h => h) (Or.inl ⟨by rfl, ?_⟩) ?_ ?_
        rotate_left
        ·intro w'
         go_simp
         with_reducible rfl
        rotate_left
        ·simp only [Act.put, Qp1, Qp2, Qp3, i64_w, i32_w]
         rfl
        refine take_ (i := 14) (N := some 42) (v := ?_) (a' := ?_) (Qbz 21 65535) rfl rfl (by kernel_rfl) (fun _ _ _ h => h) (Or.inl ⟨by rfl, ?_⟩) hHeld ?_ ?_
        rotate_left
        ·rintro w' ⟨s0, s1⟩
         go_simp
         with_reducible rfl
        rotate_left
        ·simp only [Act.put, Qp1, Qp2, Qp3, i64_w, i32_w]
         rfl
        refine take_ (i := 16) (N := some 44) (v := ?_) (a' := ?_) (Qbz 21 131071) rfl rfl (by kernel_rfl) (fun _ _ _ h => h) (Or.inl ⟨by rfl, ?_⟩) hHeld ?_ ?_
        rotate_left
        ·rintro w' ⟨s0, s1⟩
         go_simp
         with_reducible rfl
        rotate_left
        ·simp only [Act.put, Qp1, Qp2, Qp3, i64_w, i32_w]
         rfl
        refine pure_ (i := 17) (N := some 45) (v := ?_) (a' := ?_) (Qbz 21 262143) rfl rfl (by kernel_rfl) (fun _ _ _ h => h) (Or.inl ⟨by rfl, ?_⟩) ?_ ?_
        rotate_left
        ·intro w'
         go_simp
         with_reducible rfl
        rotate_left
        ·simp only [Act.put, Qp1, Qp2, Qp3, i64_w, i32_w]
         rfl
        refine pure_ (i := 18) (N := some 46) (v := ?_) (a' := ?_) (Qbz 21 524287) rfl rfl (by kernel_rfl) (fun _ _ _ h => h) (Or.inl ⟨by rfl, ?_⟩) ?_ ?_
        rotate_left
        ·intro w'
         go_simp
         with_reducible rfl
        rotate_left
        ·simp only [Act.put, Qp1, Qp2, Qp3, i64_w, i32_w]
         rfl
        refine pure_ (i := 19) (N := some 47) (v := ?_) (a' := ?_) (Qbz 21 1048575) rfl rfl (by kernel_rfl) (fun _ _ _ h => h) (Or.inl ⟨by rfl, ?_⟩) ?_ ?_
        rotate_left
        ·intro w'
         go_simp
         with_reducible rfl
        rotate_left
        ·simp only [Act.put, Qp1, Qp2, Qp3, i64_w, i32_w]
         rfl
        refine pure_ (i := 20) (N := some 48) (v := ?_) (a' := ?_) (Qbz 21 2097151) rfl rfl (by kernel_rfl) (fun _ _ _ h => h) (Or.inl ⟨by rfl, ?_⟩) ?_ ?_
        rotate_left
        ·intro w'
         go_simp
         with_reducible rfl
        rotate_left
        ·simp only [Act.put, Qp1, Qp2, Qp3, i64_w, i32_w]
         rfl
        refine done_ (by kernel_rfl) ?_
        go_wp2
        go_ret2
        exact ⟨rfl, below_step (below_weaken HB1.out HB1.out.size HS9.out.below) (below_drew (Below.refl _ _))⟩
       ·rw [hbit] at b5
        have HST : Aside0 (∀ W, RS w1 W rB gT cT J left → Calls Tryd.prog 79 #[.pointer (some ⟨rB, 0, none⟩), .int .i64 (xn : Int)] W fun e w' => e = .returned (.tuple #[.agg #[.int .i64 ((nearL J left xn).length : Int), .int .i64 (xn : Int), .int .i64 (sA (nearL J left xn)), .int .i64 (sB (nearL J left xn))], .bool (decide ((nearL J left xn).length ≤ 2))]) ∧ Below W.heap.size W w') := ⟨fun W hW => by
         have hC := hW.C
         exact step_calls rB (some ⟨gT, 0, none⟩) cT J left xn W (GL_below HGL.out (below_step HB1.out hW.below)) ((blk_cell hW.blk 0).trans rfl) ((blk_cell hW.blk 1).trans rfl) hC.2 (by omega) (by omega) (by
          have := hW.inn.2 xn
          exact small G (by omega) (by rw [← hJl]; exact this)) hl5 _ rfl⟩
        have HSD : Aside0 (RS w1 w9.drew rB gT cT J left) := ⟨HS9.out.low (below_drew (Below.refl _ _))⟩
        have hah := HAH.out
        rw [hbit, Bool.true_and] at hah
        have HAH := Aside0.mk hah
        have HBT := Aside0.mk hbit
        clear hah hbit
        obtain ⟨kd, hkd⟩ : ∃ kd : Int, kd = ((nearL J left xn).length : Int) := ⟨_, rfl⟩
        obtain ⟨s1, hs1⟩ : ∃ s1 : Int, s1 = sA (nearL J left xn) := ⟨_, rfl⟩
        obtain ⟨s2, hs2⟩ : ∃ s2 : Int, s2 = sB (nearL J left xn) := ⟨_, rfl⟩
        rw [← hkd, ← hs1, ← hs2] at HST
        have HSS : Aside0 (stepS J left xn = ⟨kd, (xn : Int), s1, s2⟩) := ⟨by rw [hkd, hs1, hs2]; rfl⟩
        have HX9d : Aside0 (w9.drew.heap[tS]? = some (.cells #[.int .i64 x0, .int .i64 (xn : Int), .int .i64 x2, .int .i64 x3] 95 (0, 0))) := ⟨HX9.out⟩
        by_cases hcan : (nearL J left xn).length ≤ 2
        ·have hcd : decide ((nearL J left xn).length ≤ 2) = true := decide_eq_true hcan
         rw [hcd] at HST
         have HCD := Aside0.mk hcd
         have HKD := Aside0.mk hkd
         have HS1 := Aside0.mk hs1
         have HS2 := Aside0.mk hs2
         clear hcd hkd hs1 hs2
         by_cases c0 : kd = x0
         ·subst c0
          by_cases c2 : s1 = x2
          ·subst c2
           by_cases c3 : s2 = x3
           ·subst c3
            have hin : ∀ a ∈ nearL J left xn, a < J.length := fun a ha => near_in HS.out.inn (by omega) (by omega) ha
            have hnc := next_case J left xn hin hcan
            have hnl : (nextJ J left xn).length = J.length := by
             rcases hnc with ⟨_, e⟩ | ⟨_, a, b, _, _, h3, h4, e⟩
             ·rw [e]
             ·rw [e]; exact (HS.out.inn.join h3 h4).1
            rw [← HKD.out, ← HS1.out, ← HS2.out] at hnc
            have HDO : Aside0 (∀ W, RS w1 W rB gT cT J left → Calls Tryd.prog 80 #[.pointer (some ⟨rB, 0, none⟩), .agg #[.int .i64 kd, .int .i64 (xn : Int), .int .i64 s1, .int .i64 s2]] W fun e w' => e = .returned (.tuple #[]) ∧ RS w1 w' rB gT cT (nextJ J left xn) (diff left (2 ^ xn)) ∧ Kept W w' (fun k => k = rB ∨ k = gT)) := ⟨fun W hW => do_calls w1 W rB gT cT J left hW (by omega) hl5 xn (by omega) _ _ _ _ hnc⟩
            have HNX : Aside0 (ckR G.length (l1.drop (i + 1)) (nextJ J left xn) (diff left (2 ^ xn)) = r1) := ⟨by
             have := HAH.out
             rw [HCD.out, HSS.out] at this
             simpa [eqS] using this⟩
            have HNL := Aside0.mk hnl
            have HDL : Aside0 (diff left (2 ^ xn) < 2 ^ G.length) := ⟨Nat.lt_of_le_of_lt (diff_le _ _) HLL.out⟩
            clear hin hnc hnl
            go_wp2
            rw [← hw9, ← htS]; clear hw9 htS
            refine start_ (n := 21) (S := fun w' => w'.cell? ⟨tS, 1, none⟩ = some (.int .i64 (xn : Int)) ∧ w'.cell? ⟨rB, 1, none⟩ = some (.int .i64 (left : Int))) (ds := []) (Qbz 21 0) (by kernel_rfl) rfl rfl ⟨f1d, f2d⟩ (fun hHeld => ?_)
            refine pure_ (i := 0) (N := some 28) (v := ?_) (a' := ?_) (Qbz 21 1) rfl rfl (by kernel_rfl) (fun _ _ _ h => h) (Or.inl ⟨by rfl, ?_⟩) ?_ ?_
            rotate_left
            ·intro w'
             go_simp
             with_reducible rfl
            rotate_left
            ·simp only [Act.put, Qp1, Qp2, Qp3, i64_w, i32_w]
             rfl
            refine take_ (i := 1) (N := some 29) (v := ?_) (a' := ?_) (Qbz 21 3) rfl rfl (by kernel_rfl) (fun _ _ _ h => h) (Or.inl ⟨by rfl, ?_⟩) hHeld ?_ ?_
            rotate_left
            ·rintro w' ⟨s0, s1⟩
             go_simp
             with_reducible rfl
            rotate_left
            ·simp only [Act.put, Qp1, Qp2, Qp3, i64_w, i32_w]
             rfl
            refine pure_ (i := 2) (N := some 30) (v := ?_) (a' := ?_) (Qbz 21 7) rfl rfl (by kernel_rfl) (fun _ _ _ h => h) (Or.inl ⟨by rfl, ?_⟩) ?_ ?_
            rotate_left
            ·intro w'
             go_simp
             with_reducible rfl
            rotate_left
            ·simp only [Act.put, Qp1, Qp2, Qp3, i64_w, i32_w]
             rfl
            refine pure_ (i := 3) (N := some 31) (v := ?_) (a' := ?_) (Qbz 21 15) rfl rfl (by kernel_rfl) (fun _ _ _ h => h) (Or.inl ⟨by rfl, ?_⟩) ?_ ?_
            rotate_left
            ·intro w'
             go_simp
             with_reducible rfl
            rotate_left
            ·simp only [Act.put, Qp1, Qp2, Qp3, i64_w, i32_w]
             rfl
            refine pure_ (i := 4) (N := some 32) (v := ?_) (a' := ?_) (Qbz 21 31) rfl rfl (by kernel_rfl) (fun _ _ _ h => h) (Or.inl ⟨by rfl, ?_⟩) ?_ ?_
            rotate_left
            ·intro w'
             go_simp
             with_reducible rfl
            rotate_left
            ·simp only [Act.put, Qp1, Qp2, Qp3, i64_w, i32_w]
             rfl
            refine pure_ (i := 6) (N := some 34) (v := ?_) (a' := ?_) (Qbz 21 95) rfl rfl (by kernel_rfl) (fun _ _ _ h => h) (Or.inl ⟨by rfl, ?_⟩) ?_ ?_
            rotate_left
            ·intro w'
             go_simp
             with_reducible rfl
            rotate_left
            ·simp only [Act.put, Qp1, Qp2, Qp3, i64_w, i32_w]
             rfl
            refine pure_ (i := 7) (N := some 35) (v := ?_) (a' := ?_) (Qbz 21 223) rfl rfl (by kernel_rfl) (fun _ _ _ h => h) (Or.inl ⟨by rfl, ?_⟩) ?_ ?_
            rotate_left
            ·intro w'
             go_simp
             with_reducible rfl
            rotate_left
            ·simp only [Act.put, Qp1, Qp2, Qp3, i64_w, i32_w]
             rfl
            refine take_ (i := 5) (N := some 33) (v := ?_) (a' := ?_) (Qbz 21 255) rfl rfl (by kernel_rfl) (fun _ _ _ h => h) (Or.inl ⟨by rfl, ?_⟩) hHeld ?_ ?_
            rotate_left
            ·rintro w' ⟨s0, s1⟩
             go_simp
             with_reducible rfl
            rotate_left
            ·simp only [Act.put, Qp1, Qp2, Qp3, i64_w, i32_w]
             rfl
            refine pure_ (i := 8) (N := some 36) (v := ?_) (a' := ?_) (Qbz 21 511) rfl rfl (by kernel_rfl) (fun _ _ _ h => h) (Or.inl ⟨by rfl, ?_⟩) ?_ ?_
            rotate_left
            ·intro w'
             go_simp
             with_reducible rfl
            rotate_left
            ·simp only [Act.put, Qp1, Qp2, Qp3, i64_w, i32_w]
             rfl
            refine pure_ (i := 9) (N := some 37) (v := ?_) (a' := ?_) (Qbz 21 1023) rfl rfl (by kernel_rfl) (fun _ _ _ h => h) (Or.inl ⟨by rfl, ?_⟩) ?_ ?_
            rotate_left
            ·intro w'
             go_simp
             with_reducible rfl
            rotate_left
            ·simp only [Act.put, Qp1, Qp2, Qp3, i64_w, i32_w]
             rfl
            refine pure_ (i := 10) (N := some 38) (v := ?_) (a' := ?_) (Qbz 21 2047) rfl rfl (by kernel_rfl) (fun _ _ _ h => h) (Or.inl ⟨by rfl, ?_⟩) ?_ ?_
            rotate_left
            ·intro w'
             go_simp
             with_reducible rfl
            rotate_left
            ·simp only [Act.put, Qp1, Qp2, Qp3, i64_w, i32_w]
             rfl
            refine pure_ (i := 11) (N := some 39) (v := ?_) (a' := ?_) (Qbz 21 4095) rfl rfl (by kernel_rfl) (fun _ _ _ h => h) (Or.inl ⟨by rfl, ?_⟩) ?_ ?_
            rotate_left
            ·intro w'
             go_simp
             with_reducible rfl
            rotate_left
            ·simp only [Act.put, Qp1, Qp2, Qp3, i64_w, i32_w]
             rfl
            refine pure_ (i := 12) (N := some 40) (v := ?_) (a' := ?_) (Qbz 21 8191) rfl rfl (by kernel_rfl) (fun _ _ _ h => h) (Or.inl ⟨by rfl, ?_⟩) ?_ ?_
            rotate_left
            ·intro w'
             go_simp
             with_reducible rfl
            rotate_left
            ·simp only [Act.put, Qp1, Qp2, Qp3, i64_w, i32_w]
             rfl
            refine pure_ (i := 13) (N := some 41) (v := ?_) (a' := ?_) (Qbz 21 16383) rfl rfl (by kernel_rfl) (fun _ _ _ h => h) (Or.inl ⟨by rfl, ?_⟩) ?_ ?_
            rotate_left
            ·intro w'
             go_simp
             with_reducible rfl
            rotate_left
            ·simp only [Act.put, Qp1, Qp2, Qp3, i64_w, i32_w]
             rfl
            refine pure_ (i := 15) (N := some 43) (v := ?_) (a' := ?_) (Qbz 21 49151) rfl rfl (by kernel_rfl) (fun _ _ _ h => h) (Or.inl ⟨by rfl, ?_⟩) ?_ ?_
            rotate_left
            ·intro w'
             go_simp
             with_reducible rfl
            rotate_left
            ·simp only [Act.put, Qp1, Qp2, Qp3, i64_w, i32_w]
             rfl
            refine take_ (i := 14) (N := some 42) (v := ?_) (a' := ?_) (Qbz 21 65535) rfl rfl (by kernel_rfl) (fun _ _ _ h => h) (Or.inl ⟨by rfl, ?_⟩) hHeld ?_ ?_
            rotate_left
            ·rintro w' ⟨s0, s1⟩
             go_simp
             with_reducible rfl
            rotate_left
            ·simp only [Act.put, Qp1, Qp2, Qp3, i64_w, i32_w]
             rfl
            refine take_ (i := 16) (N := some 44) (v := ?_) (a' := ?_) (Qbz 21 131071) rfl rfl (by kernel_rfl) (fun _ _ _ h => h) (Or.inl ⟨by rfl, ?_⟩) hHeld ?_ ?_
            rotate_left
            ·rintro w' ⟨s0, s1⟩
             go_simp
             with_reducible rfl
            rotate_left
            ·simp only [Act.put, Qp1, Qp2, Qp3, i64_w, i32_w]
             rfl
            refine pure_ (i := 17) (N := some 45) (v := ?_) (a' := ?_) (Qbz 21 262143) rfl rfl (by kernel_rfl) (fun _ _ _ h => h) (Or.inl ⟨by rfl, ?_⟩) ?_ ?_
            rotate_left
            ·intro w'
             go_simp
             with_reducible rfl
            rotate_left
            ·simp only [Act.put, Qp1, Qp2, Qp3, i64_w, i32_w]
             rfl
            refine pure_ (i := 18) (N := some 46) (v := ?_) (a' := ?_) (Qbz 21 524287) rfl rfl (by kernel_rfl) (fun _ _ _ h => h) (Or.inl ⟨by rfl, ?_⟩) ?_ ?_
            rotate_left
            ·intro w'
             go_simp
             with_reducible rfl
            rotate_left
            ·simp only [Act.put, Qp1, Qp2, Qp3, i64_w, i32_w]
             rfl
            refine pure_ (i := 19) (N := some 47) (v := ?_) (a' := ?_) (Qbz 21 1048575) rfl rfl (by kernel_rfl) (fun _ _ _ h => h) (Or.inl ⟨by rfl, ?_⟩) ?_ ?_
            rotate_left
            ·intro w'
             go_simp
             with_reducible rfl
            rotate_left
            ·simp only [Act.put, Qp1, Qp2, Qp3, i64_w, i32_w]
             rfl
            refine pure_ (i := 20) (N := some 48) (v := ?_) (a' := ?_) (Qbz 21 2097151) rfl rfl (by kernel_rfl) (fun _ _ _ h => h) (Or.inl ⟨by rfl, ?_⟩) ?_ ?_
            rotate_left
            ·intro w'
             go_simp
             with_reducible rfl
            rotate_left
            ·simp only [Act.put, Qp1, Qp2, Qp3, i64_w, i32_w]
             rfl
            refine done_ (by kernel_rfl) ?_
            go_wp2_with (first
             | (go_at_call 79; refine (HST.out _ HSD.out).mono ?_; rintro e w10 ⟨rfl, hb10⟩; have hb11 := below_step hb10 (below_alloc (Below.refl w10.heap.size w10) (.cells #[.int .i64 kd, .int .i64 (xn : Int), .int .i64 s1, .int .i64 s2] 95)); have HS11 := Aside0.mk (HSD.out.low hb11); have hx11 := blk_below HX9d.out hb11; obtain ⟨y0, y1, y2, y3⟩ := four_reads hx11; have HX11 := Aside0.mk hx11; clear hx11 hb10 hb11)
             | (go_at_call 80; refine (HDO.out _ HS11.out).mono ?_; rintro e w12 ⟨rfl, hS12, _⟩; have HS12 := Aside0.mk hS12; clear hS12))
            go_roundg gi'
            case measure => omega
            case rel => exact ⟨i + 1, nextJ J left xn, diff left (2 ^ xn), by go_num, by omega, by rw [HNL.out]; exact hJl, HDL, HNX, HS12⟩
           ·have hr : false = r1 := by
             have := HAH.out
             rw [HCD.out, HSS.out] at this
             simpa [eqS, show (s2 == x3) = false from beq_eq_false_iff_ne.2 c3] using this
            subst hr
            have c3' : ¬ x3 = s2 := fun e => c3 e.symm
            have d1 : (s2 == x3) = false := beq_eq_false_iff_ne.2 c3
            have d2 : (s2 != x3) = true := by simp [c3]
            have d3 : decide (s2 = x3) = false := decide_eq_false c3
            go_wp2
            rw [← hw9, ← htS]; clear hw9 htS
            refine start_ (n := 21) (S := fun w' => w'.cell? ⟨tS, 1, none⟩ = some (.int .i64 (xn : Int)) ∧ w'.cell? ⟨rB, 1, none⟩ = some (.int .i64 (left : Int))) (ds := []) (Qbz 21 0) (by kernel_rfl) rfl rfl ⟨f1d, f2d⟩ (fun hHeld => ?_)
            refine pure_ (i := 0) (N := some 28) (v := ?_) (a' := ?_) (Qbz 21 1) rfl rfl (by kernel_rfl) (fun _ _ _ h => h) (Or.inl ⟨by rfl, ?_⟩) ?_ ?_
            rotate_left
            ·intro w'
             go_simp
             with_reducible rfl
            rotate_left
            ·simp only [Act.put, Qp1, Qp2, Qp3, i64_w, i32_w]
             rfl
            refine take_ (i := 1) (N := some 29) (v := ?_) (a' := ?_) (Qbz 21 3) rfl rfl (by kernel_rfl) (fun _ _ _ h => h) (Or.inl ⟨by rfl, ?_⟩) hHeld ?_ ?_
            rotate_left
            ·rintro w' ⟨s0, s1⟩
             go_simp
             with_reducible rfl
            rotate_left
            ·simp only [Act.put, Qp1, Qp2, Qp3, i64_w, i32_w]
             rfl
            refine pure_ (i := 2) (N := some 30) (v := ?_) (a' := ?_) (Qbz 21 7) rfl rfl (by kernel_rfl) (fun _ _ _ h => h) (Or.inl ⟨by rfl, ?_⟩) ?_ ?_
            rotate_left
            ·intro w'
             go_simp
             with_reducible rfl
            rotate_left
            ·simp only [Act.put, Qp1, Qp2, Qp3, i64_w, i32_w]
             rfl
            refine pure_ (i := 3) (N := some 31) (v := ?_) (a' := ?_) (Qbz 21 15) rfl rfl (by kernel_rfl) (fun _ _ _ h => h) (Or.inl ⟨by rfl, ?_⟩) ?_ ?_
            rotate_left
            ·intro w'
             go_simp
             with_reducible rfl
            rotate_left
            ·simp only [Act.put, Qp1, Qp2, Qp3, i64_w, i32_w]
             rfl
            refine pure_ (i := 4) (N := some 32) (v := ?_) (a' := ?_) (Qbz 21 31) rfl rfl (by kernel_rfl) (fun _ _ _ h => h) (Or.inl ⟨by rfl, ?_⟩) ?_ ?_
            rotate_left
            ·intro w'
             go_simp
             with_reducible rfl
            rotate_left
            ·simp only [Act.put, Qp1, Qp2, Qp3, i64_w, i32_w]
             rfl
            refine pure_ (i := 6) (N := some 34) (v := ?_) (a' := ?_) (Qbz 21 95) rfl rfl (by kernel_rfl) (fun _ _ _ h => h) (Or.inl ⟨by rfl, ?_⟩) ?_ ?_
            rotate_left
            ·intro w'
             go_simp
             with_reducible rfl
            rotate_left
            ·simp only [Act.put, Qp1, Qp2, Qp3, i64_w, i32_w]
             rfl
            refine pure_ (i := 7) (N := some 35) (v := ?_) (a' := ?_) (Qbz 21 223) rfl rfl (by kernel_rfl) (fun _ _ _ h => h) (Or.inl ⟨by rfl, ?_⟩) ?_ ?_
            rotate_left
            ·intro w'
             go_simp
             with_reducible rfl
            rotate_left
            ·simp only [Act.put, Qp1, Qp2, Qp3, i64_w, i32_w]
             rfl
            refine take_ (i := 5) (N := some 33) (v := ?_) (a' := ?_) (Qbz 21 255) rfl rfl (by kernel_rfl) (fun _ _ _ h => h) (Or.inl ⟨by rfl, ?_⟩) hHeld ?_ ?_
            rotate_left
            ·rintro w' ⟨s0, s1⟩
             go_simp
             with_reducible rfl
            rotate_left
            ·simp only [Act.put, Qp1, Qp2, Qp3, i64_w, i32_w]
             rfl
            refine pure_ (i := 8) (N := some 36) (v := ?_) (a' := ?_) (Qbz 21 511) rfl rfl (by kernel_rfl) (fun _ _ _ h => h) (Or.inl ⟨by rfl, ?_⟩) ?_ ?_
            rotate_left
            ·intro w'
             go_simp
             with_reducible rfl
            rotate_left
            ·simp only [Act.put, Qp1, Qp2, Qp3, i64_w, i32_w]
             rfl
            refine pure_ (i := 9) (N := some 37) (v := ?_) (a' := ?_) (Qbz 21 1023) rfl rfl (by kernel_rfl) (fun _ _ _ h => h) (Or.inl ⟨by rfl, ?_⟩) ?_ ?_
            rotate_left
            ·intro w'
             go_simp
             with_reducible rfl
            rotate_left
            ·simp only [Act.put, Qp1, Qp2, Qp3, i64_w, i32_w]
             rfl
            refine pure_ (i := 10) (N := some 38) (v := ?_) (a' := ?_) (Qbz 21 2047) rfl rfl (by kernel_rfl) (fun _ _ _ h => h) (Or.inl ⟨by rfl, ?_⟩) ?_ ?_
            rotate_left
            ·intro w'
             go_simp
             with_reducible rfl
            rotate_left
            ·simp only [Act.put, Qp1, Qp2, Qp3, i64_w, i32_w]
             rfl
            refine pure_ (i := 11) (N := some 39) (v := ?_) (a' := ?_) (Qbz 21 4095) rfl rfl (by kernel_rfl) (fun _ _ _ h => h) (Or.inl ⟨by rfl, ?_⟩) ?_ ?_
            rotate_left
            ·intro w'
             go_simp
             with_reducible rfl
            rotate_left
            ·simp only [Act.put, Qp1, Qp2, Qp3, i64_w, i32_w]
             rfl
            refine pure_ (i := 12) (N := some 40) (v := ?_) (a' := ?_) (Qbz 21 8191) rfl rfl (by kernel_rfl) (fun _ _ _ h => h) (Or.inl ⟨by rfl, ?_⟩) ?_ ?_
            rotate_left
            ·intro w'
             go_simp
             with_reducible rfl
            rotate_left
            ·simp only [Act.put, Qp1, Qp2, Qp3, i64_w, i32_w]
             rfl
            refine pure_ (i := 13) (N := some 41) (v := ?_) (a' := ?_) (Qbz 21 16383) rfl rfl (by kernel_rfl) (fun _ _ _ h => h) (Or.inl ⟨by rfl, ?_⟩) ?_ ?_
            rotate_left
            ·intro w'
             go_simp
             with_reducible rfl
            rotate_left
            ·simp only [Act.put, Qp1, Qp2, Qp3, i64_w, i32_w]
             rfl
            refine pure_ (i := 15) (N := some 43) (v := ?_) (a' := ?_) (Qbz 21 49151) rfl rfl (by kernel_rfl) (fun _ _ _ h => h) (Or.inl ⟨by rfl, ?_⟩) ?_ ?_
            rotate_left
            ·intro w'
             go_simp
             with_reducible rfl
            rotate_left
            ·simp only [Act.put, Qp1, Qp2, Qp3, i64_w, i32_w]
             rfl
            refine take_ (i := 14) (N := some 42) (v := ?_) (a' := ?_) (Qbz 21 65535) rfl rfl (by kernel_rfl) (fun _ _ _ h => h) (Or.inl ⟨by rfl, ?_⟩) hHeld ?_ ?_
            rotate_left
            ·rintro w' ⟨s0, s1⟩
             go_simp
             with_reducible rfl
            rotate_left
            ·simp only [Act.put, Qp1, Qp2, Qp3, i64_w, i32_w]
             rfl
            refine take_ (i := 16) (N := some 44) (v := ?_) (a' := ?_) (Qbz 21 131071) rfl rfl (by kernel_rfl) (fun _ _ _ h => h) (Or.inl ⟨by rfl, ?_⟩) hHeld ?_ ?_
            rotate_left
            ·rintro w' ⟨s0, s1⟩
             go_simp
             with_reducible rfl
            rotate_left
            ·simp only [Act.put, Qp1, Qp2, Qp3, i64_w, i32_w]
             rfl
            refine pure_ (i := 17) (N := some 45) (v := ?_) (a' := ?_) (Qbz 21 262143) rfl rfl (by kernel_rfl) (fun _ _ _ h => h) (Or.inl ⟨by rfl, ?_⟩) ?_ ?_
            rotate_left
            ·intro w'
             go_simp
             with_reducible rfl
            rotate_left
            ·simp only [Act.put, Qp1, Qp2, Qp3, i64_w, i32_w]
             rfl
            refine pure_ (i := 18) (N := some 46) (v := ?_) (a' := ?_) (Qbz 21 524287) rfl rfl (by kernel_rfl) (fun _ _ _ h => h) (Or.inl ⟨by rfl, ?_⟩) ?_ ?_
            rotate_left
            ·intro w'
             go_simp
             with_reducible rfl
            rotate_left
            ·simp only [Act.put, Qp1, Qp2, Qp3, i64_w, i32_w]
             rfl
            refine pure_ (i := 19) (N := some 47) (v := ?_) (a' := ?_) (Qbz 21 1048575) rfl rfl (by kernel_rfl) (fun _ _ _ h => h) (Or.inl ⟨by rfl, ?_⟩) ?_ ?_
            rotate_left
            ·intro w'
             go_simp
             with_reducible rfl
            rotate_left
            ·simp only [Act.put, Qp1, Qp2, Qp3, i64_w, i32_w]
             rfl
            refine pure_ (i := 20) (N := some 48) (v := ?_) (a' := ?_) (Qbz 21 2097151) rfl rfl (by kernel_rfl) (fun _ _ _ h => h) (Or.inl ⟨by rfl, ?_⟩) ?_ ?_
            rotate_left
            ·intro w'
             go_simp
             with_reducible rfl
            rotate_left
            ·simp only [Act.put, Qp1, Qp2, Qp3, i64_w, i32_w]
             rfl
            refine done_ (by kernel_rfl) ?_
            go_wp2_with (go_at_call 79; refine (HST.out _ HSD.out).mono ?_; rintro e w10 ⟨rfl, hb10⟩; have hb11 := below_step hb10 (below_alloc (Below.refl w10.heap.size w10) (.cells #[.int .i64 kd, .int .i64 (xn : Int), .int .i64 s1, .int .i64 s2] 95)); have HS11 := Aside0.mk (HSD.out.low hb11); have hx11 := blk_below HX9d.out hb11; obtain ⟨y0, y1, y2, y3⟩ := four_reads hx11; have HX11 := Aside0.mk hx11; clear hx11 hb10 hb11)
            go_ret2
            exact ⟨rfl, below_weaken HB1.out HB1.out.size HS11.out.below⟩
          ·have hr : false = r1 := by
            have := HAH.out
            rw [HCD.out, HSS.out] at this
            simpa [eqS, show (s1 == x2) = false from beq_eq_false_iff_ne.2 c2] using this
           subst hr
           have c2' : ¬ x2 = s1 := fun e => c2 e.symm
           have d1 : (s1 == x2) = false := beq_eq_false_iff_ne.2 c2
           have d3 : decide (s1 = x2) = false := decide_eq_false c2
           go_wp2
           rw [← hw9, ← htS]; clear hw9 htS
           refine start_ (n := 21) (S := fun w' => w'.cell? ⟨tS, 1, none⟩ = some (.int .i64 (xn : Int)) ∧ w'.cell? ⟨rB, 1, none⟩ = some (.int .i64 (left : Int))) (ds := []) (Qbz 21 0) (by kernel_rfl) rfl rfl ⟨f1d, f2d⟩ (fun hHeld => ?_)
           refine pure_ (i := 0) (N := some 28) (v := ?_) (a' := ?_) (Qbz 21 1) rfl rfl (by kernel_rfl) (fun _ _ _ h => h) (Or.inl ⟨by rfl, ?_⟩) ?_ ?_
           rotate_left
           ·intro w'
            go_simp
            with_reducible rfl
           rotate_left
           ·simp only [Act.put, Qp1, Qp2, Qp3, i64_w, i32_w]
            rfl
           refine take_ (i := 1) (N := some 29) (v := ?_) (a' := ?_) (Qbz 21 3) rfl rfl (by kernel_rfl) (fun _ _ _ h => h) (Or.inl ⟨by rfl, ?_⟩) hHeld ?_ ?_
           rotate_left
           ·rintro w' ⟨s0, s1⟩
            go_simp
            with_reducible rfl
           rotate_left
           ·simp only [Act.put, Qp1, Qp2, Qp3, i64_w, i32_w]
            rfl
           refine pure_ (i := 2) (N := some 30) (v := ?_) (a' := ?_) (Qbz 21 7) rfl rfl (by kernel_rfl) (fun _ _ _ h => h) (Or.inl ⟨by rfl, ?_⟩) ?_ ?_
           rotate_left
           ·intro w'
            go_simp
            with_reducible rfl
           rotate_left
           ·simp only [Act.put, Qp1, Qp2, Qp3, i64_w, i32_w]
            rfl
           refine pure_ (i := 3) (N := some 31) (v := ?_) (a' := ?_) (Qbz 21 15) rfl rfl (by kernel_rfl) (fun _ _ _ h => h) (Or.inl ⟨by rfl, ?_⟩) ?_ ?_
           rotate_left
           ·intro w'
            go_simp
            with_reducible rfl
           rotate_left
           ·simp only [Act.put, Qp1, Qp2, Qp3, i64_w, i32_w]
            rfl
           refine pure_ (i := 4) (N := some 32) (v := ?_) (a' := ?_) (Qbz 21 31) rfl rfl (by kernel_rfl) (fun _ _ _ h => h) (Or.inl ⟨by rfl, ?_⟩) ?_ ?_
           rotate_left
           ·intro w'
            go_simp
            with_reducible rfl
           rotate_left
           ·simp only [Act.put, Qp1, Qp2, Qp3, i64_w, i32_w]
            rfl
           refine pure_ (i := 6) (N := some 34) (v := ?_) (a' := ?_) (Qbz 21 95) rfl rfl (by kernel_rfl) (fun _ _ _ h => h) (Or.inl ⟨by rfl, ?_⟩) ?_ ?_
           rotate_left
           ·intro w'
            go_simp
            with_reducible rfl
           rotate_left
           ·simp only [Act.put, Qp1, Qp2, Qp3, i64_w, i32_w]
            rfl
           refine pure_ (i := 7) (N := some 35) (v := ?_) (a' := ?_) (Qbz 21 223) rfl rfl (by kernel_rfl) (fun _ _ _ h => h) (Or.inl ⟨by rfl, ?_⟩) ?_ ?_
           rotate_left
           ·intro w'
            go_simp
            with_reducible rfl
           rotate_left
           ·simp only [Act.put, Qp1, Qp2, Qp3, i64_w, i32_w]
            rfl
           refine take_ (i := 5) (N := some 33) (v := ?_) (a' := ?_) (Qbz 21 255) rfl rfl (by kernel_rfl) (fun _ _ _ h => h) (Or.inl ⟨by rfl, ?_⟩) hHeld ?_ ?_
           rotate_left
           ·rintro w' ⟨s0, s1⟩
            go_simp
            with_reducible rfl
           rotate_left
           ·simp only [Act.put, Qp1, Qp2, Qp3, i64_w, i32_w]
            rfl
           refine pure_ (i := 8) (N := some 36) (v := ?_) (a' := ?_) (Qbz 21 511) rfl rfl (by kernel_rfl) (fun _ _ _ h => h) (Or.inl ⟨by rfl, ?_⟩) ?_ ?_
           rotate_left
           ·intro w'
            go_simp
            with_reducible rfl
           rotate_left
           ·simp only [Act.put, Qp1, Qp2, Qp3, i64_w, i32_w]
            rfl
           refine pure_ (i := 9) (N := some 37) (v := ?_) (a' := ?_) (Qbz 21 1023) rfl rfl (by kernel_rfl) (fun _ _ _ h => h) (Or.inl ⟨by rfl, ?_⟩) ?_ ?_
           rotate_left
           ·intro w'
            go_simp
            with_reducible rfl
           rotate_left
           ·simp only [Act.put, Qp1, Qp2, Qp3, i64_w, i32_w]
            rfl
           refine pure_ (i := 10) (N := some 38) (v := ?_) (a' := ?_) (Qbz 21 2047) rfl rfl (by kernel_rfl) (fun _ _ _ h => h) (Or.inl ⟨by rfl, ?_⟩) ?_ ?_
           rotate_left
           ·intro w'
            go_simp
            with_reducible rfl
           rotate_left
           ·simp only [Act.put, Qp1, Qp2, Qp3, i64_w, i32_w]
            rfl
           refine pure_ (i := 11) (N := some 39) (v := ?_) (a' := ?_) (Qbz 21 4095) rfl rfl (by kernel_rfl) (fun _ _ _ h => h) (Or.inl ⟨by rfl, ?_⟩) ?_ ?_
           rotate_left
           ·intro w'
            go_simp
            with_reducible rfl
           rotate_left
           ·simp only [Act.put, Qp1, Qp2, Qp3, i64_w, i32_w]
            rfl
           refine pure_ (i := 12) (N := some 40) (v := ?_) (a' := ?_) (Qbz 21 8191) rfl rfl (by kernel_rfl) (fun _ _ _ h => h) (Or.inl ⟨by rfl, ?_⟩) ?_ ?_
           rotate_left
           ·intro w'
            go_simp
            with_reducible rfl
           rotate_left
           ·simp only [Act.put, Qp1, Qp2, Qp3, i64_w, i32_w]
            rfl
           refine pure_ (i := 13) (N := some 41) (v := ?_) (a' := ?_) (Qbz 21 16383) rfl rfl (by kernel_rfl) (fun _ _ _ h => h) (Or.inl ⟨by rfl, ?_⟩) ?_ ?_
           rotate_left
           ·intro w'
            go_simp
            with_reducible rfl
           rotate_left
           ·simp only [Act.put, Qp1, Qp2, Qp3, i64_w, i32_w]
            rfl
           refine pure_ (i := 15) (N := some 43) (v := ?_) (a' := ?_) (Qbz 21 49151) rfl rfl (by kernel_rfl) (fun _ _ _ h => h) (Or.inl ⟨by rfl, ?_⟩) ?_ ?_
           rotate_left
           ·intro w'
            go_simp
            with_reducible rfl
           rotate_left
           ·simp only [Act.put, Qp1, Qp2, Qp3, i64_w, i32_w]
            rfl
           refine take_ (i := 14) (N := some 42) (v := ?_) (a' := ?_) (Qbz 21 65535) rfl rfl (by kernel_rfl) (fun _ _ _ h => h) (Or.inl ⟨by rfl, ?_⟩) hHeld ?_ ?_
           rotate_left
           ·rintro w' ⟨s0, s1⟩
            go_simp
            with_reducible rfl
           rotate_left
           ·simp only [Act.put, Qp1, Qp2, Qp3, i64_w, i32_w]
            rfl
           refine take_ (i := 16) (N := some 44) (v := ?_) (a' := ?_) (Qbz 21 131071) rfl rfl (by kernel_rfl) (fun _ _ _ h => h) (Or.inl ⟨by rfl, ?_⟩) hHeld ?_ ?_
           rotate_left
           ·rintro w' ⟨s0, s1⟩
            go_simp
            with_reducible rfl
           rotate_left
           ·simp only [Act.put, Qp1, Qp2, Qp3, i64_w, i32_w]
            rfl
           refine pure_ (i := 17) (N := some 45) (v := ?_) (a' := ?_) (Qbz 21 262143) rfl rfl (by kernel_rfl) (fun _ _ _ h => h) (Or.inl ⟨by rfl, ?_⟩) ?_ ?_
           rotate_left
           ·intro w'
            go_simp
            with_reducible rfl
           rotate_left
           ·simp only [Act.put, Qp1, Qp2, Qp3, i64_w, i32_w]
            rfl
           refine pure_ (i := 18) (N := some 46) (v := ?_) (a' := ?_) (Qbz 21 524287) rfl rfl (by kernel_rfl) (fun _ _ _ h => h) (Or.inl ⟨by rfl, ?_⟩) ?_ ?_
           rotate_left
           ·intro w'
            go_simp
            with_reducible rfl
           rotate_left
           ·simp only [Act.put, Qp1, Qp2, Qp3, i64_w, i32_w]
            rfl
           refine pure_ (i := 19) (N := some 47) (v := ?_) (a' := ?_) (Qbz 21 1048575) rfl rfl (by kernel_rfl) (fun _ _ _ h => h) (Or.inl ⟨by rfl, ?_⟩) ?_ ?_
           rotate_left
           ·intro w'
            go_simp
            with_reducible rfl
           rotate_left
           ·simp only [Act.put, Qp1, Qp2, Qp3, i64_w, i32_w]
            rfl
           refine pure_ (i := 20) (N := some 48) (v := ?_) (a' := ?_) (Qbz 21 2097151) rfl rfl (by kernel_rfl) (fun _ _ _ h => h) (Or.inl ⟨by rfl, ?_⟩) ?_ ?_
           rotate_left
           ·intro w'
            go_simp
            with_reducible rfl
           rotate_left
           ·simp only [Act.put, Qp1, Qp2, Qp3, i64_w, i32_w]
            rfl
           refine done_ (by kernel_rfl) ?_
           go_wp2_with (go_at_call 79; refine (HST.out _ HSD.out).mono ?_; rintro e w10 ⟨rfl, hb10⟩; have hb11 := below_step hb10 (below_alloc (Below.refl w10.heap.size w10) (.cells #[.int .i64 kd, .int .i64 (xn : Int), .int .i64 s1, .int .i64 s2] 95)); have HS11 := Aside0.mk (HSD.out.low hb11); have hx11 := blk_below HX9d.out hb11; obtain ⟨y0, y1, y2, y3⟩ := four_reads hx11; have HX11 := Aside0.mk hx11; clear hx11 hb10 hb11)
           go_ret2
           exact ⟨rfl, below_weaken HB1.out HB1.out.size HS11.out.below⟩
         ·have hr : false = r1 := by
           have := HAH.out
           rw [HCD.out, HSS.out] at this
           simpa [eqS, show (kd == x0) = false from beq_eq_false_iff_ne.2 c0] using this
          subst hr
          have c0' : ¬ x0 = kd := fun e => c0 e.symm
          have d1 : (kd == x0) = false := beq_eq_false_iff_ne.2 c0
          have d3 : decide (kd = x0) = false := decide_eq_false c0
          go_wp2
          rw [← hw9, ← htS]; clear hw9 htS
          refine start_ (n := 21) (S := fun w' => w'.cell? ⟨tS, 1, none⟩ = some (.int .i64 (xn : Int)) ∧ w'.cell? ⟨rB, 1, none⟩ = some (.int .i64 (left : Int))) (ds := []) (Qbz 21 0) (by kernel_rfl) rfl rfl ⟨f1d, f2d⟩ (fun hHeld => ?_)
          refine pure_ (i := 0) (N := some 28) (v := ?_) (a' := ?_) (Qbz 21 1) rfl rfl (by kernel_rfl) (fun _ _ _ h => h) (Or.inl ⟨by rfl, ?_⟩) ?_ ?_
          rotate_left
          ·intro w'
           go_simp
           with_reducible rfl
          rotate_left
          ·simp only [Act.put, Qp1, Qp2, Qp3, i64_w, i32_w]
           rfl
          refine take_ (i := 1) (N := some 29) (v := ?_) (a' := ?_) (Qbz 21 3) rfl rfl (by kernel_rfl) (fun _ _ _ h => h) (Or.inl ⟨by rfl, ?_⟩) hHeld ?_ ?_
          rotate_left
          ·rintro w' ⟨s0, s1⟩
           go_simp
           with_reducible rfl
          rotate_left
          ·simp only [Act.put, Qp1, Qp2, Qp3, i64_w, i32_w]
           rfl
          refine pure_ (i := 2) (N := some 30) (v := ?_) (a' := ?_) (Qbz 21 7) rfl rfl (by kernel_rfl) (fun _ _ _ h => h) (Or.inl ⟨by rfl, ?_⟩) ?_ ?_
          rotate_left
          ·intro w'
           go_simp
           with_reducible rfl
          rotate_left
          ·simp only [Act.put, Qp1, Qp2, Qp3, i64_w, i32_w]
           rfl
          refine pure_ (i := 3) (N := some 31) (v := ?_) (a' := ?_) (Qbz 21 15) rfl rfl (by kernel_rfl) (fun _ _ _ h => h) (Or.inl ⟨by rfl, ?_⟩) ?_ ?_
          rotate_left
          ·intro w'
           go_simp
           with_reducible rfl
          rotate_left
          ·simp only [Act.put, Qp1, Qp2, Qp3, i64_w, i32_w]
           rfl
          refine pure_ (i := 4) (N := some 32) (v := ?_) (a' := ?_) (Qbz 21 31) rfl rfl (by kernel_rfl) (fun _ _ _ h => h) (Or.inl ⟨by rfl, ?_⟩) ?_ ?_
          rotate_left
          ·intro w'
           go_simp
           with_reducible rfl
          rotate_left
          ·simp only [Act.put, Qp1, Qp2, Qp3, i64_w, i32_w]
           rfl
          refine pure_ (i := 6) (N := some 34) (v := ?_) (a' := ?_) (Qbz 21 95) rfl rfl (by kernel_rfl) (fun _ _ _ h => h) (Or.inl ⟨by rfl, ?_⟩) ?_ ?_
          rotate_left
          ·intro w'
           go_simp
           with_reducible rfl
          rotate_left
          ·simp only [Act.put, Qp1, Qp2, Qp3, i64_w, i32_w]
           rfl
          refine pure_ (i := 7) (N := some 35) (v := ?_) (a' := ?_) (Qbz 21 223) rfl rfl (by kernel_rfl) (fun _ _ _ h => h) (Or.inl ⟨by rfl, ?_⟩) ?_ ?_
          rotate_left
          ·intro w'
           go_simp
           with_reducible rfl
          rotate_left
          ·simp only [Act.put, Qp1, Qp2, Qp3, i64_w, i32_w]
           rfl
          refine take_ (i := 5) (N := some 33) (v := ?_) (a' := ?_) (Qbz 21 255) rfl rfl (by kernel_rfl) (fun _ _ _ h => h) (Or.inl ⟨by rfl, ?_⟩) hHeld ?_ ?_
          rotate_left
          ·rintro w' ⟨s0, s1⟩
           go_simp
           with_reducible rfl
          rotate_left
          ·simp only [Act.put, Qp1, Qp2, Qp3, i64_w, i32_w]
           rfl
          refine pure_ (i := 8) (N := some 36) (v := ?_) (a' := ?_) (Qbz 21 511) rfl rfl (by kernel_rfl) (fun _ _ _ h => h) (Or.inl ⟨by rfl, ?_⟩) ?_ ?_
          rotate_left
          ·intro w'
           go_simp
           with_reducible rfl
          rotate_left
          ·simp only [Act.put, Qp1, Qp2, Qp3, i64_w, i32_w]
           rfl
          refine pure_ (i := 9) (N := some 37) (v := ?_) (a' := ?_) (Qbz 21 1023) rfl rfl (by kernel_rfl) (fun _ _ _ h => h) (Or.inl ⟨by rfl, ?_⟩) ?_ ?_
          rotate_left
          ·intro w'
           go_simp
           with_reducible rfl
          rotate_left
          ·simp only [Act.put, Qp1, Qp2, Qp3, i64_w, i32_w]
           rfl
          refine pure_ (i := 10) (N := some 38) (v := ?_) (a' := ?_) (Qbz 21 2047) rfl rfl (by kernel_rfl) (fun _ _ _ h => h) (Or.inl ⟨by rfl, ?_⟩) ?_ ?_
          rotate_left
          ·intro w'
           go_simp
           with_reducible rfl
          rotate_left
          ·simp only [Act.put, Qp1, Qp2, Qp3, i64_w, i32_w]
           rfl
          refine pure_ (i := 11) (N := some 39) (v := ?_) (a' := ?_) (Qbz 21 4095) rfl rfl (by kernel_rfl) (fun _ _ _ h => h) (Or.inl ⟨by rfl, ?_⟩) ?_ ?_
          rotate_left
          ·intro w'
           go_simp
           with_reducible rfl
          rotate_left
          ·simp only [Act.put, Qp1, Qp2, Qp3, i64_w, i32_w]
           rfl
          refine pure_ (i := 12) (N := some 40) (v := ?_) (a' := ?_) (Qbz 21 8191) rfl rfl (by kernel_rfl) (fun _ _ _ h => h) (Or.inl ⟨by rfl, ?_⟩) ?_ ?_
          rotate_left
          ·intro w'
           go_simp
           with_reducible rfl
          rotate_left
          ·simp only [Act.put, Qp1, Qp2, Qp3, i64_w, i32_w]
           rfl
          refine pure_ (i := 13) (N := some 41) (v := ?_) (a' := ?_) (Qbz 21 16383) rfl rfl (by kernel_rfl) (fun _ _ _ h => h) (Or.inl ⟨by rfl, ?_⟩) ?_ ?_
          rotate_left
          ·intro w'
           go_simp
           with_reducible rfl
          rotate_left
          ·simp only [Act.put, Qp1, Qp2, Qp3, i64_w, i32_w]
           rfl
          refine pure_ (i := 15) (N := some 43) (v := ?_) (a' := ?_) (Qbz 21 49151) rfl rfl (by kernel_rfl) (fun _ _ _ h => h) (Or.inl ⟨by rfl, ?_⟩) ?_ ?_
          rotate_left
          ·intro w'
           go_simp
           with_reducible rfl
          rotate_left
          ·simp only [Act.put, Qp1, Qp2, Qp3, i64_w, i32_w]
           rfl
          refine take_ (i := 14) (N := some 42) (v := ?_) (a' := ?_) (Qbz 21 65535) rfl rfl (by kernel_rfl) (fun _ _ _ h => h) (Or.inl ⟨by rfl, ?_⟩) hHeld ?_ ?_
          rotate_left
          ·rintro w' ⟨s0, s1⟩
           go_simp
           with_reducible rfl
          rotate_left
          ·simp only [Act.put, Qp1, Qp2, Qp3, i64_w, i32_w]
           rfl
          refine take_ (i := 16) (N := some 44) (v := ?_) (a' := ?_) (Qbz 21 131071) rfl rfl (by kernel_rfl) (fun _ _ _ h => h) (Or.inl ⟨by rfl, ?_⟩) hHeld ?_ ?_
          rotate_left
          ·rintro w' ⟨s0, s1⟩
           go_simp
           with_reducible rfl
          rotate_left
          ·simp only [Act.put, Qp1, Qp2, Qp3, i64_w, i32_w]
           rfl
          refine pure_ (i := 17) (N := some 45) (v := ?_) (a' := ?_) (Qbz 21 262143) rfl rfl (by kernel_rfl) (fun _ _ _ h => h) (Or.inl ⟨by rfl, ?_⟩) ?_ ?_
          rotate_left
          ·intro w'
           go_simp
           with_reducible rfl
          rotate_left
          ·simp only [Act.put, Qp1, Qp2, Qp3, i64_w, i32_w]
           rfl
          refine pure_ (i := 18) (N := some 46) (v := ?_) (a' := ?_) (Qbz 21 524287) rfl rfl (by kernel_rfl) (fun _ _ _ h => h) (Or.inl ⟨by rfl, ?_⟩) ?_ ?_
          rotate_left
          ·intro w'
           go_simp
           with_reducible rfl
          rotate_left
          ·simp only [Act.put, Qp1, Qp2, Qp3, i64_w, i32_w]
           rfl
          refine pure_ (i := 19) (N := some 47) (v := ?_) (a' := ?_) (Qbz 21 1048575) rfl rfl (by kernel_rfl) (fun _ _ _ h => h) (Or.inl ⟨by rfl, ?_⟩) ?_ ?_
          rotate_left
          ·intro w'
           go_simp
           with_reducible rfl
          rotate_left
          ·simp only [Act.put, Qp1, Qp2, Qp3, i64_w, i32_w]
           rfl
          refine pure_ (i := 20) (N := some 48) (v := ?_) (a' := ?_) (Qbz 21 2097151) rfl rfl (by kernel_rfl) (fun _ _ _ h => h) (Or.inl ⟨by rfl, ?_⟩) ?_ ?_
          rotate_left
          ·intro w'
           go_simp
           with_reducible rfl
          rotate_left
          ·simp only [Act.put, Qp1, Qp2, Qp3, i64_w, i32_w]
           rfl
          refine done_ (by kernel_rfl) ?_
          go_wp2_with (go_at_call 79; refine (HST.out _ HSD.out).mono ?_; rintro e w10 ⟨rfl, hb10⟩; have hb11 := below_step hb10 (below_alloc (Below.refl w10.heap.size w10) (.cells #[.int .i64 kd, .int .i64 (xn : Int), .int .i64 s1, .int .i64 s2] 95)); have HS11 := Aside0.mk (HSD.out.low hb11); have hx11 := blk_below HX9d.out hb11; obtain ⟨y0, y1, y2, y3⟩ := four_reads hx11; have HX11 := Aside0.mk hx11; clear hx11 hb10 hb11)
          go_ret2
          exact ⟨rfl, below_weaken HB1.out HB1.out.size HS11.out.below⟩
        ·have hcd : decide ((nearL J left xn).length ≤ 2) = false := decide_eq_false hcan
         rw [hcd] at HST
         have hr : false = r1 := by
          have := HAH.out
          rw [hcd] at this
          simpa using this
         subst hr
         clear hcd hcan hkd hs1 hs2
         go_wp2
         rw [← hw9, ← htS]; clear hw9 htS
         refine start_ (n := 21) (S := fun w' => w'.cell? ⟨tS, 1, none⟩ = some (.int .i64 (xn : Int)) ∧ w'.cell? ⟨rB, 1, none⟩ = some (.int .i64 (left : Int))) (ds := []) (Qbz 21 0) (by kernel_rfl) rfl rfl ⟨f1d, f2d⟩ (fun hHeld => ?_)
         refine pure_ (i := 0) (N := some 28) (v := ?_) (a' := ?_) (Qbz 21 1) rfl rfl (by kernel_rfl) (fun _ _ _ h => h) (Or.inl ⟨by rfl, ?_⟩) ?_ ?_
         rotate_left
         ·intro w'
          go_simp
          with_reducible rfl
         rotate_left
         ·simp only [Act.put, Qp1, Qp2, Qp3, i64_w, i32_w]
          rfl
         refine take_ (i := 1) (N := some 29) (v := ?_) (a' := ?_) (Qbz 21 3) rfl rfl (by kernel_rfl) (fun _ _ _ h => h) (Or.inl ⟨by rfl, ?_⟩) hHeld ?_ ?_
         rotate_left
         ·rintro w' ⟨s0, s1⟩
          go_simp
          with_reducible rfl
         rotate_left
         ·simp only [Act.put, Qp1, Qp2, Qp3, i64_w, i32_w]
          rfl
         refine pure_ (i := 2) (N := some 30) (v := ?_) (a' := ?_) (Qbz 21 7) rfl rfl (by kernel_rfl) (fun _ _ _ h => h) (Or.inl ⟨by rfl, ?_⟩) ?_ ?_
         rotate_left
         ·intro w'
          go_simp
          with_reducible rfl
         rotate_left
         ·simp only [Act.put, Qp1, Qp2, Qp3, i64_w, i32_w]
          rfl
         refine pure_ (i := 3) (N := some 31) (v := ?_) (a' := ?_) (Qbz 21 15) rfl rfl (by kernel_rfl) (fun _ _ _ h => h) (Or.inl ⟨by rfl, ?_⟩) ?_ ?_
         rotate_left
         ·intro w'
          go_simp
          with_reducible rfl
         rotate_left
         ·simp only [Act.put, Qp1, Qp2, Qp3, i64_w, i32_w]
          rfl
         refine pure_ (i := 4) (N := some 32) (v := ?_) (a' := ?_) (Qbz 21 31) rfl rfl (by kernel_rfl) (fun _ _ _ h => h) (Or.inl ⟨by rfl, ?_⟩) ?_ ?_
         rotate_left
         ·intro w'
          go_simp
          with_reducible rfl
         rotate_left
         ·simp only [Act.put, Qp1, Qp2, Qp3, i64_w, i32_w]
          rfl
         refine pure_ (i := 6) (N := some 34) (v := ?_) (a' := ?_) (Qbz 21 95) rfl rfl (by kernel_rfl) (fun _ _ _ h => h) (Or.inl ⟨by rfl, ?_⟩) ?_ ?_
         rotate_left
         ·intro w'
          go_simp
          with_reducible rfl
         rotate_left
         ·simp only [Act.put, Qp1, Qp2, Qp3, i64_w, i32_w]
          rfl
         refine pure_ (i := 7) (N := some 35) (v := ?_) (a' := ?_) (Qbz 21 223) rfl rfl (by kernel_rfl) (fun _ _ _ h => h) (Or.inl ⟨by rfl, ?_⟩) ?_ ?_
         rotate_left
         ·intro w'
          go_simp
          with_reducible rfl
         rotate_left
         ·simp only [Act.put, Qp1, Qp2, Qp3, i64_w, i32_w]
          rfl
         refine take_ (i := 5) (N := some 33) (v := ?_) (a' := ?_) (Qbz 21 255) rfl rfl (by kernel_rfl) (fun _ _ _ h => h) (Or.inl ⟨by rfl, ?_⟩) hHeld ?_ ?_
         rotate_left
         ·rintro w' ⟨s0, s1⟩
          go_simp
          with_reducible rfl
         rotate_left
         ·simp only [Act.put, Qp1, Qp2, Qp3, i64_w, i32_w]
          rfl
         refine pure_ (i := 8) (N := some 36) (v := ?_) (a' := ?_) (Qbz 21 511) rfl rfl (by kernel_rfl) (fun _ _ _ h => h) (Or.inl ⟨by rfl, ?_⟩) ?_ ?_
         rotate_left
         ·intro w'
          go_simp
          with_reducible rfl
         rotate_left
         ·simp only [Act.put, Qp1, Qp2, Qp3, i64_w, i32_w]
          rfl
         refine pure_ (i := 9) (N := some 37) (v := ?_) (a' := ?_) (Qbz 21 1023) rfl rfl (by kernel_rfl) (fun _ _ _ h => h) (Or.inl ⟨by rfl, ?_⟩) ?_ ?_
         rotate_left
         ·intro w'
          go_simp
          with_reducible rfl
         rotate_left
         ·simp only [Act.put, Qp1, Qp2, Qp3, i64_w, i32_w]
          rfl
         refine pure_ (i := 10) (N := some 38) (v := ?_) (a' := ?_) (Qbz 21 2047) rfl rfl (by kernel_rfl) (fun _ _ _ h => h) (Or.inl ⟨by rfl, ?_⟩) ?_ ?_
         rotate_left
         ·intro w'
          go_simp
          with_reducible rfl
         rotate_left
         ·simp only [Act.put, Qp1, Qp2, Qp3, i64_w, i32_w]
          rfl
         refine pure_ (i := 11) (N := some 39) (v := ?_) (a' := ?_) (Qbz 21 4095) rfl rfl (by kernel_rfl) (fun _ _ _ h => h) (Or.inl ⟨by rfl, ?_⟩) ?_ ?_
         rotate_left
         ·intro w'
          go_simp
          with_reducible rfl
         rotate_left
         ·simp only [Act.put, Qp1, Qp2, Qp3, i64_w, i32_w]
          rfl
         refine pure_ (i := 12) (N := some 40) (v := ?_) (a' := ?_) (Qbz 21 8191) rfl rfl (by kernel_rfl) (fun _ _ _ h => h) (Or.inl ⟨by rfl, ?_⟩) ?_ ?_
         rotate_left
         ·intro w'
          go_simp
          with_reducible rfl
         rotate_left
         ·simp only [Act.put, Qp1, Qp2, Qp3, i64_w, i32_w]
          rfl
         refine pure_ (i := 13) (N := some 41) (v := ?_) (a' := ?_) (Qbz 21 16383) rfl rfl (by kernel_rfl) (fun _ _ _ h => h) (Or.inl ⟨by rfl, ?_⟩) ?_ ?_
         rotate_left
         ·intro w'
          go_simp
          with_reducible rfl
         rotate_left
         ·simp only [Act.put, Qp1, Qp2, Qp3, i64_w, i32_w]
          rfl
         refine pure_ (i := 15) (N := some 43) (v := ?_) (a' := ?_) (Qbz 21 49151) rfl rfl (by kernel_rfl) (fun _ _ _ h => h) (Or.inl ⟨by rfl, ?_⟩) ?_ ?_
         rotate_left
         ·intro w'
          go_simp
          with_reducible rfl
         rotate_left
         ·simp only [Act.put, Qp1, Qp2, Qp3, i64_w, i32_w]
          rfl
         refine take_ (i := 14) (N := some 42) (v := ?_) (a' := ?_) (Qbz 21 65535) rfl rfl (by kernel_rfl) (fun _ _ _ h => h) (Or.inl ⟨by rfl, ?_⟩) hHeld ?_ ?_
         rotate_left
         ·rintro w' ⟨s0, s1⟩
          go_simp
          with_reducible rfl
         rotate_left
         ·simp only [Act.put, Qp1, Qp2, Qp3, i64_w, i32_w]
          rfl
         refine take_ (i := 16) (N := some 44) (v := ?_) (a' := ?_) (Qbz 21 131071) rfl rfl (by kernel_rfl) (fun _ _ _ h => h) (Or.inl ⟨by rfl, ?_⟩) hHeld ?_ ?_
         rotate_left
         ·rintro w' ⟨s0, s1⟩
          go_simp
          with_reducible rfl
         rotate_left
         ·simp only [Act.put, Qp1, Qp2, Qp3, i64_w, i32_w]
          rfl
         refine pure_ (i := 17) (N := some 45) (v := ?_) (a' := ?_) (Qbz 21 262143) rfl rfl (by kernel_rfl) (fun _ _ _ h => h) (Or.inl ⟨by rfl, ?_⟩) ?_ ?_
         rotate_left
         ·intro w'
          go_simp
          with_reducible rfl
         rotate_left
         ·simp only [Act.put, Qp1, Qp2, Qp3, i64_w, i32_w]
          rfl
         refine pure_ (i := 18) (N := some 46) (v := ?_) (a' := ?_) (Qbz 21 524287) rfl rfl (by kernel_rfl) (fun _ _ _ h => h) (Or.inl ⟨by rfl, ?_⟩) ?_ ?_
         rotate_left
         ·intro w'
          go_simp
          with_reducible rfl
         rotate_left
         ·simp only [Act.put, Qp1, Qp2, Qp3, i64_w, i32_w]
          rfl
         refine pure_ (i := 19) (N := some 47) (v := ?_) (a' := ?_) (Qbz 21 1048575) rfl rfl (by kernel_rfl) (fun _ _ _ h => h) (Or.inl ⟨by rfl, ?_⟩) ?_ ?_
         rotate_left
         ·intro w'
          go_simp
          with_reducible rfl
         rotate_left
         ·simp only [Act.put, Qp1, Qp2, Qp3, i64_w, i32_w]
          rfl
         refine pure_ (i := 20) (N := some 48) (v := ?_) (a' := ?_) (Qbz 21 2097151) rfl rfl (by kernel_rfl) (fun _ _ _ h => h) (Or.inl ⟨by rfl, ?_⟩) ?_ ?_
         rotate_left
         ·intro w'
          go_simp
          with_reducible rfl
         rotate_left
         ·simp only [Act.put, Qp1, Qp2, Qp3, i64_w, i32_w]
          rfl
         refine done_ (by kernel_rfl) ?_
         go_wp2_with (go_at_call 79; refine (HST.out _ HSD.out).mono ?_; rintro e w10 ⟨rfl, hb10⟩; have hb11 := below_step hb10 (below_alloc (Below.refl w10.heap.size w10) (.cells #[.int .i64 kd, .int .i64 (xn : Int), .int .i64 s1, .int .i64 s2] 95)); have HS11 := Aside0.mk (HSD.out.low hb11); have hx11 := blk_below HX9d.out hb11; obtain ⟨y0, y1, y2, y3⟩ := four_reads hx11; have HX11 := Aside0.mk hx11; clear hx11 hb10 hb11)
         go_ret2
         exact ⟨rfl, below_weaken HB1.out HB1.out.size HS11.out.below⟩
    ·have hi1 : ((i : Int) < (l1.length : Int)) = False := eq_false (by omega)
     have hi2 : decide ((i : Int) < (l1.length : Int)) = false := decide_eq_false (by omega)
     have ha := HA.out
     rw [List.drop_eq_nil_of_le (by omega)] at ha
     have hz1 : wr.cell? ⟨rB, 1, none⟩ = some (.int .i64 (left : Int)) := (blk_cell HS.out.blk 1).trans rfl
     have hr : decide (left = 0) = r1 := ha
     have hd : ((left : Int) == 0) = r1 := by
      rw [← hr]
      by_cases h0 : left = 0
      ·rw [h0]; rfl
      ·rw [decide_eq_false h0, beq_eq_false_iff_ne]; omega
     clear ha HA hr
     go_wp2
     go_ret2
     refine ⟨?_, below_weaken HB1.out HB1.out.size HS.out.below⟩
     rw [← hd]
     rfl
 ·rw [if_neg hlen] at h
  cases h
end Go.Proofs.YtjloppfdagfpmaaDoor.X
end
section
/- Minors of a graph with a node less, or with two neighbours made one; of complete patterns with a node less. -/
namespace Go.Proofs.YtjloppfdagfpmaaDoor.T
open Go.RowKit YtjloppfdagfpmaaDoorW.PrintWords YtjloppfdagfpmaaDoorW.PrintLast YtjloppfdagfpmaaDoorW.PrintMore
theorem mnr_pe {V : Nat → Prop} {adj : Nat → Nat → Prop} {k : Nat} {pe pe' : Nat → Nat → Prop} (hp : ∀ i j, i < k → j < k → pe' i j → pe i j) (h : Mnr V adj k pe) : Mnr V adj k pe' := by
 obtain ⟨M, h1, h2, h3⟩ := h
 exact ⟨M, h1, h2, fun i j hi hj hij => h3 i j hi hj (hp i j hi hj hij)⟩
end Go.Proofs.YtjloppfdagfpmaaDoor.T
end
section
namespace Go.Proofs.YtjloppfdagfpmaaDoor.X
open Go.RowKit YtjloppfdagfpmaaDoorW.PrintWords YtjloppfdagfpmaaDoorW.PrintLast YtjloppfdagfpmaaDoorW.PrintMore
attribute [local go_sem] max2_int min2_int max_two min_two max_three min_three max_four min_four
/-! ### lampblacklaw07_has: function 20 -/
def lampblacklaw07_has.f (l0 : List Int) (l1 : List Int) : Option (Bool × Bool) := (lampblacklaw07_Few.f l0).bind fun t164 => ((minor_Model.f t164 l1).bind fun bt167 => (if bt167.2 = 0 then (some ((bt167.2 == 0), true)) else (some ((bt167.2 == 0), (bt167.2 == 4)))))
set_option maxHeartbeats 8000000 in
set_option maxRecDepth 100000 in
theorem lampblacklaw07_has.calls (A0 : Option Addr) (c0 : Nat) (l0 : List Int) (A1 : Option Addr) (c1 : Nat) (l1 : List Int) (r1 : Bool) (r2 : Bool) (w : World) (hGL : GL w) (hr0 : Kd.C (Kd.int .i64) w A0 l0.length l0) (hc0 : l0.length ≤ c0) (hr1 : Kd.C (Kd.int .i64) w A1 l1.length l1) (hc1 : l1.length ≤ c1) (h : lampblacklaw07_has.f l0 l1 = some (r1, r2)) :
  Calls Tryd.prog 20 #[.slice A0 l0.length c0, .slice A1 l1.length c1] w fun e w' => e = .returned (.tuple #[.bool r1, .bool r2]) ∧ Below w.heap.size w w' := by
 have HGL := Aside0.mk hGL
 clear hGL
 have HR0 := Aside0.mk hr0
 have HC0 := Aside0.mk hc0
 clear hr0 hc0
 have HR1 := Aside0.mk hr1
 have HC1 := Aside0.mk hc1
 clear hr1 hc1
 have HB := Aside0.mk (Below.refl w.heap.size w)
 have H : ((lampblacklaw07_Few.f l0).bind fun t164 => ((minor_Model.f t164 l1).bind fun bt167 => (if bt167.2 = 0 then (some ((bt167.2 == 0), true)) else (some ((bt167.2 == 0), (bt167.2 == 4)))))) = some (r1, r2) := h
 clear h
 replace H := Option.bind_eq_some_iff.mp H
 obtain ⟨t164, A30, H⟩ := H
 replace H : ((minor_Model.f t164 l1).bind fun bt167 => (if bt167.2 = 0 then (some ((bt167.2 == 0), true)) else (some ((bt167.2 == 0), (bt167.2 == 4))))) = some (r1, r2) := H
 have A3 := Aside0.mk A30
 clear A30
 replace H := Option.bind_eq_some_iff.mp H
 obtain ⟨⟨t167, t168⟩, A40, H⟩ := H
 replace H : (if t168 = 0 then (some ((t168 == 0), true)) else (some ((t168 == 0), (t168 == 4)))) = some (r1, r2) := H
 have A4 := Aside0.mk A40
 clear A40
 by_cases c5 : t168 = 0
 ·rw [if_pos c5] at H
  have c5b0 : (t168 == 0) = true := beq_iff_eq.mpr c5
  have c5b1 : (t168 != 0) = false := bne_eq_false_iff_eq.mpr c5
  clear c5
  simp only [Option.some.injEq, Prod.mk.injEq] at H
  obtain ⟨rfl, rfl⟩ := H
  go_enter Tryd.func20, Tryd.ntmps20
  go_wp2_with (first | ((with_reducible refine gate_callee (f := 22) rfl ?_); refine goesL_ (some 10) rfl rfl Tryd.func22 (by kernel_rfl) rfl #[.slice A0 l0.length c0] rfl (Qls) ?_; (with_reducible refine (lampblacklaw07_Few.calls _ _ l0 t164 _ ?side1 ?side2 A3.out).mono ?_); (case side1 => exact Qsc HR0.out); (case side2 => exact HC0.out); rintro e w6 ⟨v165, rfl, ho0, hb⟩; refine ⟨_, rfl, ?_⟩; have n0_ := Aside0.mk (Kd.R_lower ho0 (below_size (Qaw))); have n1_ := Aside0.mk (below_step (Qaw) hb); clear HB; have HO166 := n0_; have HB := n1_; clear n0_ n1_; (try clear hb); (try clear hb2); (try clear hk); (try clear hi); (try clear ho0); obtain ⟨Ao7, co7, eo7⟩ := Kd.R_slice HO166.out; subst eo7) | ((with_reducible refine gate_callee (f := 21) rfl ?_); refine goesL_ (some 12) rfl rfl Tryd.func21 (by kernel_rfl) rfl #[.slice Ao7 t164.length co7, .slice A1 l1.length c1] rfl (Qls) ?_; (with_reducible refine (minor_Model.calls (hGL := (Qlg)) _ _ t164 _ _ l1 t167 t168 _ ?side1 ?side2 ?side3 ?side4 A4.out).mono ?_); (case side1 => exact Qsc (Kd.R_reads' HO166.out).2.2); (case side2 => exact (Kd.R_reads' HO166.out).2.1); (case side3 => exact Qsc (Kd.C_below HR1.out HB.out)); (case side4 => exact HC1.out); rintro e w8 ⟨v169, rfl, ho0, hb⟩; refine ⟨_, rfl, ?_⟩; have n0_ := Aside0.mk (Kd.R_elder' (Qro HO166.out) (Kd.R_base ho0) hb); have n1_ := Aside0.mk (Kd.R_lower (Kd.R_new' ho0 (Kd.R_lt (Qro HO166.out))) (below_size (Qaw))); have n2_ := Aside0.mk (below_step (Qaw) hb); clear HO166; clear HB; have HO166 := n0_; have HO170 := n1_; have HB := n2_; clear n0_ n1_ n2_; (try clear hb); (try clear hb2); (try clear hk); (try clear hi); (try clear ho0)))
  go_ret2
  exact ⟨by first | rfl | (simp [errW_none, errW_some] <;> rfl) | (simp [*, errW_none, errW_some] <;> rfl), by repeat (first | (with_reducible first | exact HB.out | apply below_alloc | apply pw_below_drewN | apply below_drew1) | exact HB.out)⟩
 ·rw [if_neg c5] at H
  have c5b0 : (t168 == 0) = false := beq_eq_false_iff_ne.mpr c5
  have c5b1 : (t168 != 0) = true := bne_iff_ne.mpr c5
  simp only [Option.some.injEq, Prod.mk.injEq] at H
  obtain ⟨rfl, rfl⟩ := H
  go_enter Tryd.func20, Tryd.ntmps20
  go_wp2_with (first | ((with_reducible refine gate_callee (f := 22) rfl ?_); refine goesL_ (some 10) rfl rfl Tryd.func22 (by kernel_rfl) rfl #[.slice A0 l0.length c0] rfl (Qls) ?_; (with_reducible refine (lampblacklaw07_Few.calls _ _ l0 t164 _ ?side1 ?side2 A3.out).mono ?_); (case side1 => exact Qsc HR0.out); (case side2 => exact HC0.out); rintro e w9 ⟨v165, rfl, ho0, hb⟩; refine ⟨_, rfl, ?_⟩; have n0_ := Aside0.mk (Kd.R_lower ho0 (below_size (Qaw))); have n1_ := Aside0.mk (below_step (Qaw) hb); clear HB; have HO166 := n0_; have HB := n1_; clear n0_ n1_; (try clear hb); (try clear hb2); (try clear hk); (try clear hi); (try clear ho0); obtain ⟨Ao10, co10, eo10⟩ := Kd.R_slice HO166.out; subst eo10) | ((with_reducible refine gate_callee (f := 21) rfl ?_); refine goesL_ (some 12) rfl rfl Tryd.func21 (by kernel_rfl) rfl #[.slice Ao10 t164.length co10, .slice A1 l1.length c1] rfl (Qls) ?_; (with_reducible refine (minor_Model.calls (hGL := (Qlg)) _ _ t164 _ _ l1 t167 t168 _ ?side1 ?side2 ?side3 ?side4 A4.out).mono ?_); (case side1 => exact Qsc (Kd.R_reads' HO166.out).2.2); (case side2 => exact (Kd.R_reads' HO166.out).2.1); (case side3 => exact Qsc (Kd.C_below HR1.out HB.out)); (case side4 => exact HC1.out); rintro e w11 ⟨v169, rfl, ho0, hb⟩; refine ⟨_, rfl, ?_⟩; have n0_ := Aside0.mk (Kd.R_elder' (Qro HO166.out) (Kd.R_base ho0) hb); have n1_ := Aside0.mk (Kd.R_lower (Kd.R_new' ho0 (Kd.R_lt (Qro HO166.out))) (below_size (Qaw))); have n2_ := Aside0.mk (below_step (Qaw) hb); clear HO166; clear HB; have HO166 := n0_; have HO170 := n1_; have HB := n2_; clear n0_ n1_ n2_; (try clear hb); (try clear hb2); (try clear hk); (try clear hi); (try clear ho0)))
  go_ret2
  exact ⟨by first | rfl | (simp [errW_none, errW_some] <;> rfl) | (simp [*, errW_none, errW_some] <;> rfl), by repeat (first | (with_reducible first | exact HB.out | apply below_alloc | apply pw_below_drewN | apply below_drew1) | exact HB.out)⟩
end Go.Proofs.YtjloppfdagfpmaaDoor.X
end
section
namespace Go.Proofs.YtjloppfdagfpmaaDoor.X
open Go.RowKit YtjloppfdagfpmaaDoorW.PrintWords YtjloppfdagfpmaaDoorW.PrintLast YtjloppfdagfpmaaDoorW.PrintMore
attribute [local go_sem] max2_int min2_int max_two min_two max_three min_three max_four min_four
/-! ### lampblackref07_K: function 33 -/
mutual
def lampblackref07_K.l0 : Nat → List Int → Int → Int → Option (List Int)
 | 0, _, _, _ => none
 | k + 1, x3, x8, x9 => if x9 < x8 then (lampblackref07_K.l1 k x3 x9 x8 x9 x9 0) else (some x3)
def lampblackref07_K.l1 : Nat → List Int → Int → Int → Int → Int → Int → Option (List Int)
 | 0, _, _, _, _, _, _ => none
 | k + 1, x3, x4, x8, x9, x12, x13 => if x13 < x12 then ((lampblackref07_join.f x3 x4 x13).bind fun t261 => (lampblackref07_K.l1 k t261 x4 x8 x9 x12 (wrap64 (x13 + 1)))) else (lampblackref07_K.l0 k x3 x8 (wrap64 (x9 + 1)))
end
def lampblackref07_K.f (k : Nat) (a0 : Int) : Option (List Int) := if 0 ≤ a0 then (if (a0 : Int).toNat ≤ 35184372088832 then (lampblackref07_K.l0 k (List.replicate (a0 : Int).toNat 0) a0 0) else (none)) else (none)
theorem lampblackref07_K.mono_l : ∀ k, (∀ y0 y1 y2, LeO (lampblackref07_K.l0 k y0 y1 y2) (lampblackref07_K.l0 (k + 1) y0 y1 y2)) ∧ (∀ y0 y1 y2 y3 y4 y5, LeO (lampblackref07_K.l1 k y0 y1 y2 y3 y4 y5) (lampblackref07_K.l1 (k + 1) y0 y1 y2 y3 y4 y5))
 | 0 => ⟨fun _ _ _ r h => by simp [lampblackref07_K.l0] at h, fun _ _ _ _ _ _ r h => by simp [lampblackref07_K.l1] at h⟩
 | k + 1 => by
  obtain ⟨ih0, ih1⟩ := lampblackref07_K.mono_l k
  refine ⟨?_, ?_⟩
  ·intro y0 y1 y2
   unfold lampblackref07_K.l0
   repeat' first
   | (with_reducible exact ih0 _ _ _)
   | (with_reducible exact ih1 _ _ _ _ _ _)
   | (with_reducible exact LeO.refl _)
   | (with_reducible exact LeO.none _)
   | (with_reducible refine LeO.ite ?_ ?_)
   | (with_reducible refine LeO.bind ?_ (fun _ => ?_))
   | exact ih0 _ _ _
   | exact ih1 _ _ _ _ _ _
   | exact LeO.none _
   | refine LeO.ite ?_ ?_
   | refine LeO.bind ?_ (fun _ => ?_)
  ·intro y0 y1 y2 y3 y4 y5
   unfold lampblackref07_K.l1
   repeat' first
   | (with_reducible exact ih0 _ _ _)
   | (with_reducible exact ih1 _ _ _ _ _ _)
   | (with_reducible exact LeO.refl _)
   | (with_reducible exact LeO.none _)
   | (with_reducible refine LeO.ite ?_ ?_)
   | (with_reducible refine LeO.bind ?_ (fun _ => ?_))
   | exact ih0 _ _ _
   | exact ih1 _ _ _ _ _ _
   | exact LeO.none _
   | refine LeO.ite ?_ ?_
   | refine LeO.bind ?_ (fun _ => ?_)
theorem lampblackref07_K.mono : ∀ a0 k, LeO (lampblackref07_K.f k a0) (lampblackref07_K.f (k + 1) a0) := by
 intro a0 k
 obtain ⟨ih0, ih1⟩ := lampblackref07_K.mono_l k
 unfold lampblackref07_K.f
 repeat' first
   | (with_reducible exact ih0 _ _ _)
   | (with_reducible exact ih1 _ _ _ _ _ _)
   | (with_reducible exact LeO.refl _)
   | (with_reducible exact LeO.none _)
   | (with_reducible refine LeO.ite ?_ ?_)
   | (with_reducible refine LeO.bind ?_ (fun _ => ?_))
   | exact ih0 _ _ _
   | exact ih1 _ _ _ _ _ _
   | exact LeO.none _
   | refine LeO.ite ?_ ?_
   | refine LeO.bind ?_ (fun _ => ?_)
set_option maxHeartbeats 8000000 in
set_option maxRecDepth 100000 in
theorem lampblackref07_K.calls (k : Nat) (a0 : Int) (r : List Int) (w : World) (h : lampblackref07_K.f k a0 = some r) :
  Calls Tryd.prog 33 #[.int .i64 a0] w fun e w' => ∃ v0_ : Value, e = .returned (v0_) ∧ Kd.R (Kd.int .i64) 3 w' w.heap.size (fun _ => True) v0_ r ∧ Below w.heap.size w w' := by
 have HB := Aside0.mk (Below.refl w.heap.size w)
 have H : (if 0 ≤ a0 then (if (a0 : Int).toNat ≤ 35184372088832 then (lampblackref07_K.l0 k (List.replicate (a0 : Int).toNat 0) a0 0) else (none)) else (none)) = some r := h
 clear h
 by_cases c2 : 0 ≤ a0
 ·rw [if_pos c2] at H
  have c2b0 := eq_true c2
  have c2b1 : decide (0 ≤ a0) = true := decide_eq_true c2
  clear c2
  by_cases c3 : (a0 : Int).toNat ≤ 35184372088832
  ·rw [if_pos c3] at H
   have c3b0 := eq_true c3
   have c3b1 : decide ((a0 : Int).toNat ≤ 35184372088832) = true := decide_eq_true c3
   clear c3
   obtain ⟨y258, hy258⟩ : ∃ y_ : List Int, y_ = (List.replicate (a0 : Int).toNat 0) := ⟨_, rfl⟩
   replace H : (lampblackref07_K.l0 k y258 a0 0) = some r := by first | (rw [hy258]; with_reducible exact H) | (have H2_ := (Option.bind_some _ _).symm.trans H; rw [hy258]; with_reducible exact H2_) | (have H2_ := (Option.bind_some _ _).symm.trans H; with_reducible exact H2_) | with_reducible exact H | (rw [hy258]; exact H) | exact H
   have Ny258 := Aside0.mk hy258
   clear hy258
   have H' := Aside0.mk H
   clear H
   go_enter Tryd.func33, Tryd.ntmps33
   go_wp2_with (first | ((with_reducible refine gate_dst (N := 7) rfl ?_); refine Kd.R_make (Kd.int .i64) _ 3 rfl (N := 7) rfl 23 _ _ rfl a0 rfl rfl Tryd.underlying23 (.int .i64 0) 8 info3 rfl (by decide) (by omega) 0 (ok := fun _ => True) (okp := fun _ => True) rfl (fun _ hk => hk) trivial (of_decide_eq_true (by first | (with_reducible assumption) | assumption)) (Nat.le_trans (Nat.mul_le_mul_right _ (of_decide_eq_true (by first | (with_reducible assumption) | assumption) : a0.toNat ≤ 35184372088832)) (by omega)) (Below.refl _ _) (Nat.le_refl _) ?_; intro v259 w4 ho5 hb hg_ hnew_; clear hg_ hnew_; (first | rw [← Ny258.out] at ho5 | (simp only [Int.reduceToNat] at ho5; rw [← Ny258.out] at ho5)); have n0_ := Aside0.mk (Kd.R_lower ho5 (below_size (Qaw))); have n1_ := Aside0.mk (below_step (Qaw) hb); clear HB; have HO260 := n0_; have HB := n1_; clear n0_ n1_; clear hb ho5))
   go_loopg [9] k (fun kq v9 w' => ∃ (x3_1 : List Int) (x9_1 : Int), v9 = .int .i64 x9_1 ∧ Aside0 (lampblackref07_K.l0 kq x3_1 a0 x9_1 = some r) ∧ Aside0 (kq ≤ k) ∧ Aside0 (Kd.R (Kd.int .i64) 3 w' w.heap.size (fun _ => True) v259 x3_1) ∧ Aside0 (Below w.heap.size w w'))
   case atStart => exact ⟨(y258), (0), (by first | rfl | (simp; done) | (simp [*]; done)), H', ⟨Nat.le_refl _⟩, ⟨by (with_reducible repeat (first | apply Kd.R_alloc | apply Kd.R_drewN | apply Kd.R_drew)); exact HO260.out⟩, ⟨by repeat (first | (with_reducible first | exact HB.out | apply below_alloc | apply pw_below_drewN | apply below_drew1) | exact HB.out)⟩⟩
   case round =>
    clear H'
    try clear c2
    try clear c2b0
    try clear c2b1
    try clear p2
    try clear c3
    try clear c3b0
    try clear c3b1
    obtain ⟨x3_1, x9_1, rfl, HA, HK1, HO_3, HB⟩ := hrel
    cases gk with
    | zero => exact absurd HA.out (by simp [lampblackref07_K.l0])
    | succ k1 =>
     have H := HA.out
     clear HA
     simp only [lampblackref07_K.l0] at H
     by_cases c6 : x9_1 < a0
     ·rw [if_pos c6] at H
      have c6b0 : decide (x9_1 < a0) = true := decide_eq_true c6
      clear c6
      have H' := Aside0.mk H
      clear H
      go_wp2
      go_loopg [13] k1 (fun kq v13 w' => ∃ (x3_2 : List Int) (x13_2 : Int), v13 = .int .i64 x13_2 ∧ Aside0 (lampblackref07_K.l1 kq x3_2 x9_1 a0 x9_1 x9_1 x13_2 = some r) ∧ Aside0 (kq ≤ k1) ∧ Aside0 (Kd.R (Kd.int .i64) 3 w' w.heap.size (fun _ => True) v259 x3_2) ∧ Aside0 (Below w.heap.size w w'))
      case atStart => exact ⟨(x3_1), (0), (by first | rfl | (simp; done) | (simp [*]; done)), H', ⟨Nat.le_refl _⟩, ⟨by (with_reducible repeat (first | apply Kd.R_alloc | apply Kd.R_drewN | apply Kd.R_drew)); exact HO_3.out⟩, ⟨by repeat (first | (with_reducible first | exact HB.out | apply below_alloc | apply pw_below_drewN | apply below_drew1) | exact HB.out)⟩⟩
      case round =>
       clear H'
       try clear c2
       try clear c2b0
       try clear c2b1
       try clear p2
       try clear c3
       try clear c3b0
       try clear c3b1
       try clear c6
       try clear c6b0
       try clear p2
       obtain ⟨x3_2, x13_2, rfl, HA, HK2, HO_3, HB⟩ := hrel
       cases gk with
       | zero => exact absurd HA.out (by simp [lampblackref07_K.l1])
       | succ k2 =>
        have H := HA.out
        clear HA
        simp only [lampblackref07_K.l1] at H
        by_cases c7 : x13_2 < x9_1
        ·rw [if_pos c7] at H
         have c7b0 : decide (x13_2 < x9_1) = true := decide_eq_true c7
         clear c7
         replace H := Option.bind_eq_some_iff.mp H
         obtain ⟨t261, A80, H⟩ := H
         replace H : (lampblackref07_K.l1 k2 t261 x9_1 a0 x9_1 x9_1 (wrap64 (x13_2 + 1))) = some r := H
         have A8 := Aside0.mk A80
         clear A80
         have H' := Aside0.mk H
         clear H
         obtain ⟨Ao9, co9, eo9⟩ := Kd.R_slice HO_3.out
         subst eo9
         go_wp2_with (first | ((with_reducible refine gate_callee (f := 75) rfl ?_); refine goesL_ (some 19) rfl rfl Tryd.func75 (by kernel_rfl) rfl #[.slice Ao9 x3_2.length co9, .int .i64 x9_1, .int .i64 x13_2] rfl (Qls) ?_; (with_reducible refine (lampblackref07_join.calls (fun k_ => some k_ = (.slice Ao9 x3_2.length co9 : Value).ownBlock) (.slice Ao9 x3_2.length co9) x3_2 x9_1 x13_2 t261 w _ ?side1 ?side2 A8.out).mono ?_); (case side1 => repeat (first | (with_reducible first | exact HB.out | apply below_alloc | apply pw_below_drewN | apply below_drew1) | exact HB.out)); (case side2 => exact Kd.R_tight rfl HO_3.out); rintro e w10 ⟨rfl, hy0, hb, hkp⟩; refine ⟨_, rfl, ?_⟩; have n0_ := Aside0.mk (Kd.R_reok rfl hy0 (fun k_ e_ => HO_3.out.1 k_ e_)); have n1_ := Aside0.mk (hb); clear HO_3; clear HB; have HO_3 := n0_; have HB := n1_; clear n0_ n1_; (try clear hb); (try clear hkp); (try clear hy0)))
         go_roundg k2
         case measure => have := HK1.out; have := HK2.out; omega
         case rel => exact ⟨(t261), (wrap64 (x13_2 + 1)), (by first | rfl | (simp; done) | (simp [*]; done)), H', ⟨by have := HK1.out; have := HK2.out; omega⟩, ⟨by (with_reducible repeat (first | apply Kd.R_alloc | apply Kd.R_drewN | apply Kd.R_drew)); exact HO_3.out⟩, ⟨by repeat (first | (with_reducible first | exact HB.out | apply below_alloc | apply pw_below_drewN | apply below_drew1) | exact HB.out)⟩⟩
        ·rw [if_neg c7] at H
         have c7b0 : decide (x13_2 < x9_1) = false := decide_eq_false c7
         clear c7
         have H' := Aside0.mk H
         clear H
         go_wp2
         go_roundg k2
         case measure => have := HK1.out; have := HK2.out; omega
         case rel => exact ⟨(x3_2), (wrap64 (x9_1 + 1)), (by first | rfl | (simp; done) | (simp [*]; done)), H', ⟨by have := HK1.out; have := HK2.out; omega⟩, ⟨by (with_reducible repeat (first | apply Kd.R_alloc | apply Kd.R_drewN | apply Kd.R_drew)); exact HO_3.out⟩, ⟨by repeat (first | (with_reducible first | exact HB.out | apply below_alloc | apply pw_below_drewN | apply below_drew1) | exact HB.out)⟩⟩
     ·rw [if_neg c6] at H
      have c6b0 : decide (x9_1 < a0) = false := decide_eq_false c6
      clear c6
      obtain rfl := Option.some.inj H
      go_wp2
      go_ret
      exact ⟨_, by first | rfl | (simp [errW_none, errW_some] <;> rfl) | (simp [*, errW_none, errW_some] <;> rfl), by (with_reducible repeat (first | apply Kd.R_alloc | apply Kd.R_drewN | apply Kd.R_drew)); exact HO_3.out, by repeat (first | (with_reducible first | exact HB.out | apply below_alloc | apply pw_below_drewN | apply below_drew1) | exact HB.out)⟩
  ·rw [if_neg c3] at H
   exact absurd H (by simp)
 ·rw [if_neg c2] at H
  exact absurd H (by simp)
end Go.Proofs.YtjloppfdagfpmaaDoor.X
end
section
/- (minor) Model and has in plain words; complete graphs as patterns. -/
namespace Go.Proofs.YtjloppfdagfpmaaDoor.X
open Go.RowKit YtjloppfdagfpmaaDoorW.PrintWords YtjloppfdagfpmaaDoorW.PrintLast YtjloppfdagfpmaaDoorW.PrintMore YtjloppfdagfpmaaDoor.T
theorem gi_inj {A B : List Nat} (h : gi A = gi B) : A = B := by rw [← gi_toNat A, h, gi_toNat]
theorem gr_of_chk {m : Nat} (hm : m ≤ 13) {G : List Nat} (h : chk m (gi G) = true) : Gr m G := by
 obtain ⟨G', e, hG⟩ := (chk_iff m (by omega) _).1 h
 rw [gi_inj e]; exact hG
theorem Model_eq {G P : List Nat} (hG : Gr 8 G) (hP : Gr 6 P) : minor_Model.f (gi G) (gi P) = some ((findN G P).elim ([], 4) fun M => (gi M, 0)) := by
 have h1 := hG.most
 have h2 := hP.most
 unfold minor_Model.f
 rw [if_pos ⟨by rw [gi_length]; omega, by rw [gi_length]; omega⟩, (chk_iff 8 (by omega) _).2 ⟨G, rfl, hG⟩, (chk_iff 6 (by omega) _).2 ⟨P, rfl, hP⟩, gi_toNat, gi_toNat]
 rfl
def IsMnr (G P : List Nat) : Prop := Mnr (fun x => x < G.length) (Adj G) P.length (Adj P)
theorem find_mnr {m m' : Nat} {G P : List Nat} (hG : Gr m G) (hm : m ≤ 9) (hP : Gr m' P) (hm' : m' ≤ 9) : (findN G P).isSome = true ↔ IsMnr G P := by
 unfold IsMnr
 rw [← mod_iff hG hm hP hm']
 have hn := Nat.le_trans hG.most hm
 cases h : findN G P with
 | none => exact ⟨fun h => (by cases h), fun ⟨M, hM⟩ => (find_none hn hP.pos h M hM).elim⟩
 | some R => exact ⟨fun _ => ⟨R, (find_some hn hP.pos h).1⟩, fun _ => rfl⟩
theorem few_ok {G : List Nat} (hG : Gr 8 G) : lampblacklaw07_Few.f (gi G) = some (gi G) := by
 obtain ⟨h, e, e1, _, _⟩ := few_eq (gi G) (by rw [gi_length]; have := hG.most; omega)
 rw [e1 ((chk_iff 8 (by omega) _).2 ⟨G, rfl, hG⟩)] at e
 exact e
theorem has_eq {G P : List Nat} (hG : Gr 8 G) (hP : Gr 6 P) : ∃ b, lampblacklaw07_has.f (gi G) (gi P) = some (b, true) ∧ (b = true ↔ IsMnr G P) := by
 have hf := find_mnr hG (by omega) hP (by omega)
 unfold lampblacklaw07_has.f
 rw [few_ok hG]
 simp only [Option.bind_some]
 rw [Model_eq hG hP]
 cases h : findN G P with
 | none =>
  refine ⟨false, rfl, ?_⟩
  rw [← hf, h]
  simp
 | some R =>
  refine ⟨true, rfl, ?_⟩
  rw [← hf, h]
  simp
def kN (n : Nat) : List Nat := (List.range n).map fun i => diff (2 ^ n - 1) (2 ^ i)
theorem kN_length (n : Nat) : (kN n).length = n := by unfold kN; simp
theorem kN_chk : ∀ i : Fin 6, chk 6 (gi (kN (i.val + 1))) = true := by decide +kernel
theorem kN_gr {n : Nat} (h1 : 1 ≤ n) (h6 : n ≤ 6) : Gr 6 (kN n) := by
 have := kN_chk ⟨n - 1, by omega⟩
 rw [show (n - 1 + 1) = n by omega] at this
 exact gr_of_chk (by omega) this
theorem kN_adj {n i j : Nat} (hi : i < n) (hj : j < n) : Adj (kN n) i j ↔ i ≠ j := by
 show ((kN n).getD i 0).testBit j = true ↔ _
 unfold kN
 rw [List.getD_eq_getElem?_getD, List.getElem?_map, List.getElem?_range hi, Option.map_some, Option.getD_some, diff_testBit, Bool.and_eq_true]
 constructor
 ·rintro ⟨_, h⟩ rfl
  simp at h
 ·intro h
  refine ⟨(all_bit n j).2 hj, ?_⟩
  have : ¬ bset (2 ^ i) j := fun h2 => h ((two_pow_bit i j).1 h2).symm
  simpa [bset] using this
theorem mnr_k {G : List Nat} {n : Nat} : IsMnr G (kN n) ↔ Mnr (fun x => x < G.length) (Adj G) n (fun i j => i ≠ j) := by
 unfold IsMnr
 rw [kN_length]
 exact ⟨mnr_pe fun i j hi hj h => (kN_adj hi hj).2 h, mnr_pe fun i j hi hj h => (kN_adj hi hj).1 h⟩
theorem refK_all : ∀ i : Fin 6, lampblackref07_K.f 60 ((i.val : Int) + 1) = some (gi (kN (i.val + 1))) := by decide +kernel
theorem refK_ev {n : Nat} (h1 : 1 ≤ n) (h6 : n ≤ 6) : Ev (fun k => lampblackref07_K.f k (n : Int)) (gi (kN n)) := by
 have := refK_all ⟨n - 1, by omega⟩
 rw [show (((⟨n - 1, by omega⟩ : Fin 6).val : Int) + 1) = (n : Int) by simp; omega, show ((⟨n - 1, by omega⟩ : Fin 6).val + 1) = n by simp; omega] at this
 exact Ev.of (lampblackref07_K.mono _) this
end Go.Proofs.YtjloppfdagfpmaaDoor.X
end
section
namespace Go.Proofs.YtjloppfdagfpmaaDoor.X
open Go.RowKit YtjloppfdagfpmaaDoorW.PrintWords YtjloppfdagfpmaaDoorW.PrintLast YtjloppfdagfpmaaDoorW.PrintMore
attribute [local go_sem] max2_int min2_int max_two min_two max_three min_three max_four min_four
/-! ### minor_clique: function 74 -/
mutual
def minor_clique.l0 : Nat → List Int → Int → Int → Option (List Int)
 | 0, _, _, _ => none
 | k + 1, x3, x8, x9 => if x9 < x8 then (minor_clique.l1 k x3 x9 x8 x9 x9 0) else (some x3)
def minor_clique.l1 : Nat → List Int → Int → Int → Int → Int → Int → Option (List Int)
 | 0, _, _, _, _, _, _ => none
 | k + 1, x3, x4, x8, x9, x12, x13 => if x13 < x12 then ((minor_town_join.f x3 x4 x13).bind fun t239 => (minor_clique.l1 k t239 x4 x8 x9 x12 (wrap64 (x13 + 1)))) else (minor_clique.l0 k x3 x8 (wrap64 (x9 + 1)))
end
def minor_clique.f (k : Nat) (a0 : Int) : Option (List Int) := if 0 ≤ a0 then (if (a0 : Int).toNat ≤ 35184372088832 then (minor_clique.l0 k (List.replicate (a0 : Int).toNat 0) a0 0) else (none)) else (none)
set_option maxHeartbeats 8000000 in
set_option maxRecDepth 100000 in
theorem minor_clique.calls (k : Nat) (a0 : Int) (r : List Int) (w : World) (h : minor_clique.f k a0 = some r) :
  Calls Tryd.prog 74 #[.int .i64 a0] w fun e w' => ∃ v0_ : Value, e = .returned (v0_) ∧ Kd.R (Kd.int .i64) 3 w' w.heap.size (fun _ => True) v0_ r ∧ Below w.heap.size w w' := by
 have HB := Aside0.mk (Below.refl w.heap.size w)
 have H : (if 0 ≤ a0 then (if (a0 : Int).toNat ≤ 35184372088832 then (minor_clique.l0 k (List.replicate (a0 : Int).toNat 0) a0 0) else (none)) else (none)) = some r := h
 clear h
 by_cases c2 : 0 ≤ a0
 ·rw [if_pos c2] at H
  have c2b0 := eq_true c2
  have c2b1 : decide (0 ≤ a0) = true := decide_eq_true c2
  clear c2
  by_cases c3 : (a0 : Int).toNat ≤ 35184372088832
  ·rw [if_pos c3] at H
   have c3b0 := eq_true c3
   have c3b1 : decide ((a0 : Int).toNat ≤ 35184372088832) = true := decide_eq_true c3
   clear c3
   obtain ⟨y236, hy236⟩ : ∃ y_ : List Int, y_ = (List.replicate (a0 : Int).toNat 0) := ⟨_, rfl⟩
   replace H : (minor_clique.l0 k y236 a0 0) = some r := by first | (rw [hy236]; with_reducible exact H) | (have H2_ := (Option.bind_some _ _).symm.trans H; rw [hy236]; with_reducible exact H2_) | (have H2_ := (Option.bind_some _ _).symm.trans H; with_reducible exact H2_) | with_reducible exact H | (rw [hy236]; exact H) | exact H
   have Ny236 := Aside0.mk hy236
   clear hy236
   have H' := Aside0.mk H
   clear H
   go_enter Tryd.func74, Tryd.ntmps74
   go_wp2_with (first | ((with_reducible refine gate_dst (N := 7) rfl ?_); refine Kd.R_make (Kd.int .i64) _ 3 rfl (N := 7) rfl 79 _ _ rfl a0 rfl rfl Tryd.underlying79 (.int .i64 0) 8 info3 rfl (by decide) (by omega) 0 (ok := fun _ => True) (okp := fun _ => True) rfl (fun _ hk => hk) trivial (of_decide_eq_true (by first | (with_reducible assumption) | assumption)) (Nat.le_trans (Nat.mul_le_mul_right _ (of_decide_eq_true (by first | (with_reducible assumption) | assumption) : a0.toNat ≤ 35184372088832)) (by omega)) (Below.refl _ _) (Nat.le_refl _) ?_; intro v237 w4 ho5 hb hg_ hnew_; clear hg_ hnew_; (first | rw [← Ny236.out] at ho5 | (simp only [Int.reduceToNat] at ho5; rw [← Ny236.out] at ho5)); have n0_ := Aside0.mk (Kd.R_lower ho5 (below_size (Qaw))); have n1_ := Aside0.mk (below_step (Qaw) hb); clear HB; have HO238 := n0_; have HB := n1_; clear n0_ n1_; clear hb ho5))
   go_loopg [9] k (fun kq v9 w' => ∃ (x3_1 : List Int) (x9_1 : Int), v9 = .int .i64 x9_1 ∧ Aside0 (minor_clique.l0 kq x3_1 a0 x9_1 = some r) ∧ Aside0 (kq ≤ k) ∧ Aside0 (Kd.R (Kd.int .i64) 3 w' w.heap.size (fun _ => True) v237 x3_1) ∧ Aside0 (Below w.heap.size w w'))
   case atStart => exact ⟨(y236), (0), (by first | rfl | (simp; done) | (simp [*]; done)), H', ⟨Nat.le_refl _⟩, ⟨by (with_reducible repeat (first | apply Kd.R_alloc | apply Kd.R_drewN | apply Kd.R_drew)); exact HO238.out⟩, ⟨by repeat (first | (with_reducible first | exact HB.out | apply below_alloc | apply pw_below_drewN | apply below_drew1) | exact HB.out)⟩⟩
   case round =>
    clear H'
    try clear c2
    try clear c2b0
    try clear c2b1
    try clear p2
    try clear c3
    try clear c3b0
    try clear c3b1
    obtain ⟨x3_1, x9_1, rfl, HA, HK1, HO_3, HB⟩ := hrel
    cases gk with
    | zero => exact absurd HA.out (by simp [minor_clique.l0])
    | succ k1 =>
     have H := HA.out
     clear HA
     simp only [minor_clique.l0] at H
     by_cases c6 : x9_1 < a0
     ·rw [if_pos c6] at H
      have c6b0 : decide (x9_1 < a0) = true := decide_eq_true c6
      clear c6
      have H' := Aside0.mk H
      clear H
      go_wp2
      go_loopg [13] k1 (fun kq v13 w' => ∃ (x3_2 : List Int) (x13_2 : Int), v13 = .int .i64 x13_2 ∧ Aside0 (minor_clique.l1 kq x3_2 x9_1 a0 x9_1 x9_1 x13_2 = some r) ∧ Aside0 (kq ≤ k1) ∧ Aside0 (Kd.R (Kd.int .i64) 3 w' w.heap.size (fun _ => True) v237 x3_2) ∧ Aside0 (Below w.heap.size w w'))
      case atStart => exact ⟨(x3_1), (0), (by first | rfl | (simp; done) | (simp [*]; done)), H', ⟨Nat.le_refl _⟩, ⟨by (with_reducible repeat (first | apply Kd.R_alloc | apply Kd.R_drewN | apply Kd.R_drew)); exact HO_3.out⟩, ⟨by repeat (first | (with_reducible first | exact HB.out | apply below_alloc | apply pw_below_drewN | apply below_drew1) | exact HB.out)⟩⟩
      case round =>
       clear H'
       try clear c2
       try clear c2b0
       try clear c2b1
       try clear p2
       try clear c3
       try clear c3b0
       try clear c3b1
       try clear c6
       try clear c6b0
       try clear p2
       obtain ⟨x3_2, x13_2, rfl, HA, HK2, HO_3, HB⟩ := hrel
       cases gk with
       | zero => exact absurd HA.out (by simp [minor_clique.l1])
       | succ k2 =>
        have H := HA.out
        clear HA
        simp only [minor_clique.l1] at H
        by_cases c7 : x13_2 < x9_1
        ·rw [if_pos c7] at H
         have c7b0 : decide (x13_2 < x9_1) = true := decide_eq_true c7
         clear c7
         replace H := Option.bind_eq_some_iff.mp H
         obtain ⟨t239, A80, H⟩ := H
         replace H : (minor_clique.l1 k2 t239 x9_1 a0 x9_1 x9_1 (wrap64 (x13_2 + 1))) = some r := H
         have A8 := Aside0.mk A80
         clear A80
         have H' := Aside0.mk H
         clear H
         obtain ⟨Ao9, co9, eo9⟩ := Kd.R_slice HO_3.out
         subst eo9
         go_wp2_with (first | ((with_reducible refine gate_callee (f := 62) rfl ?_); refine goesL_ (some 19) rfl rfl Tryd.func62 (by kernel_rfl) rfl #[.slice Ao9 x3_2.length co9, .int .i64 x9_1, .int .i64 x13_2] rfl (Qls) ?_; (with_reducible refine (minor_town_join.calls (fun k_ => some k_ = (.slice Ao9 x3_2.length co9 : Value).ownBlock) (.slice Ao9 x3_2.length co9) x3_2 x9_1 x13_2 t239 w _ ?side1 ?side2 A8.out).mono ?_); (case side1 => repeat (first | (with_reducible first | exact HB.out | apply below_alloc | apply pw_below_drewN | apply below_drew1) | exact HB.out)); (case side2 => exact Kd.R_tight rfl HO_3.out); rintro e w10 ⟨rfl, hy0, hb, hkp⟩; refine ⟨_, rfl, ?_⟩; have n0_ := Aside0.mk (Kd.R_reok rfl hy0 (fun k_ e_ => HO_3.out.1 k_ e_)); have n1_ := Aside0.mk (hb); clear HO_3; clear HB; have HO_3 := n0_; have HB := n1_; clear n0_ n1_; (try clear hb); (try clear hkp); (try clear hy0)))
         go_roundg k2
         case measure => have := HK1.out; have := HK2.out; omega
         case rel => exact ⟨(t239), (wrap64 (x13_2 + 1)), (by first | rfl | (simp; done) | (simp [*]; done)), H', ⟨by have := HK1.out; have := HK2.out; omega⟩, ⟨by (with_reducible repeat (first | apply Kd.R_alloc | apply Kd.R_drewN | apply Kd.R_drew)); exact HO_3.out⟩, ⟨by repeat (first | (with_reducible first | exact HB.out | apply below_alloc | apply pw_below_drewN | apply below_drew1) | exact HB.out)⟩⟩
        ·rw [if_neg c7] at H
         have c7b0 : decide (x13_2 < x9_1) = false := decide_eq_false c7
         clear c7
         have H' := Aside0.mk H
         clear H
         go_wp2
         go_roundg k2
         case measure => have := HK1.out; have := HK2.out; omega
         case rel => exact ⟨(x3_2), (wrap64 (x9_1 + 1)), (by first | rfl | (simp; done) | (simp [*]; done)), H', ⟨by have := HK1.out; have := HK2.out; omega⟩, ⟨by (with_reducible repeat (first | apply Kd.R_alloc | apply Kd.R_drewN | apply Kd.R_drew)); exact HO_3.out⟩, ⟨by repeat (first | (with_reducible first | exact HB.out | apply below_alloc | apply pw_below_drewN | apply below_drew1) | exact HB.out)⟩⟩
     ·rw [if_neg c6] at H
      have c6b0 : decide (x9_1 < a0) = false := decide_eq_false c6
      clear c6
      obtain rfl := Option.some.inj H
      go_wp2
      go_ret
      exact ⟨_, by first | rfl | (simp [errW_none, errW_some] <;> rfl) | (simp [*, errW_none, errW_some] <;> rfl), by (with_reducible repeat (first | apply Kd.R_alloc | apply Kd.R_drewN | apply Kd.R_drew)); exact HO_3.out, by repeat (first | (with_reducible first | exact HB.out | apply below_alloc | apply pw_below_drewN | apply below_drew1) | exact HB.out)⟩
  ·rw [if_neg c3] at H
   exact absurd H (by simp)
 ·rw [if_neg c2] at H
  exact absurd H (by simp)
end Go.Proofs.YtjloppfdagfpmaaDoor.X
end
section
/- minor.Greatest, by hand. -/
namespace Go.Proofs.YtjloppfdagfpmaaDoor.X
open Go.RowKit YtjloppfdagfpmaaDoorW.PrintWords YtjloppfdagfpmaaDoorW.PrintLast YtjloppfdagfpmaaDoorW.PrintMore YtjloppfdagfpmaaDoor.T
def greatN (G : List Nat) : Nat → Nat
 | 0 => 0
 | n + 1 => if (findN G (kN (n + 1))).isSome then n + 1 else greatN G n
def minor_Greatest.f (g : List Int) : Option (Int × Int) :=
 if g.length < 1000 then some (if chk 8 g = true then ((greatN (g.map Int.toNat) (min 6 g.length) : Int), 0) else (0, 2)) else none
theorem find_one {G : List Nat} (hG : Gr 8 G) : (findN G (kN 1)).isSome = true := by
 rw [find_mnr hG (by omega) (kN_gr (n := 1) (by omega) (by omega)) (by omega), mnr_k]
 exact ⟨fun _ x => x = 0, fun i _ => ⟨conn_one _ 0, fun x hx => by rw [hx]; exact hG.pos⟩, fun i j x hi hj _ _ => by omega, fun i j hi hj h => by omega⟩
theorem clique_all : ∀ i : Fin 6, minor_clique.f 60 ((i.val : Int) + 1) = some (gi (kN (i.val + 1))) := by decide +kernel
theorem clique_f {n : Nat} (h1 : 1 ≤ n) (h6 : n ≤ 6) : minor_clique.f 60 (n : Int) = some (gi (kN n)) := by
 have := clique_all ⟨n - 1, by omega⟩
 rw [show (((⟨n - 1, by omega⟩ : Fin 6).val : Int) + 1) = (n : Int) by simp; omega, show ((⟨n - 1, by omega⟩ : Fin 6).val + 1) = n by simp; omega] at this
 exact this
theorem kN_small {n : Nat} (h1 : 1 ≤ n) (h6 : n ≤ 6) : ∀ x ∈ kN n, x < 512 := fun x hx => by
 have hg := kN_gr h1 h6
 obtain ⟨i, hi, e⟩ := List.getElem_of_mem hx
 have := hg.row i
 rw [List.getD_eq_getElem?_getD, List.getElem?_eq_getElem hi] at this
 rw [← e]
 exact small _ (by rw [kN_length]; omega) this
set_option maxHeartbeats 4000000 in
set_option maxRecDepth 100000 in
theorem minor_Greatest.calls (A0 : Option Addr) (c0 : Nat) (l0 : List Int) (r1 : Int) (r2 : Int) (w : World) (hGL : GL w) (hr0 : Kd.C (Kd.int .i64) w A0 l0.length l0) (hc0 : l0.length ≤ c0) (h : minor_Greatest.f l0 = some (r1, r2)) :
  Calls Tryd.prog 53 #[.slice A0 l0.length c0] w fun e w' => e = .returned (.tuple #[.int .i64 r1, .int .i64 r2]) ∧ Below w.heap.size w w' := by
 unfold minor_Greatest.f at h
 by_cases hlen : l0.length < 1000
 ·rw [if_pos hlen] at h
  have h := Option.some.inj h
  have HC1 : Aside0 (∀ W, Below w.heap.size w W → Calls Tryd.prog 63 #[.slice A0 l0.length c0, .int .i64 8] W fun e w' => ∃ v, e = .returned (.tuple #[v, .bool (chk 8 l0)]) ∧ (chk 8 l0 = true → ∃ A1 c1, v = .slice A1 l0.length c1 ∧ l0.length ≤ c1 ∧ Kd.C (Kd.int .i64) w' A1 l0.length l0) ∧ Below W.heap.size W w') := ⟨fun W hW => read_any 8 (by omega) (by omega) A0 c0 W (Kd.C_below hr0 hW) hc0⟩
  have HGL := Aside0.mk hGL
  cases hg : chk 8 l0
  ·rw [hg] at h HC1
   injection h with h1 h2
   subst h1 h2
   clear hg hr0
   go_enter Tryd.func53, Tryd.ntmps53
   go_wp2_with (go_at_call 63; refine (HC1.out _ (Below.refl _ _)).mono ?_; rintro e w1 ⟨v1, rfl, _, hb1⟩; have HB1 := Aside0.mk hb1; clear hb1)
   go_ret2
   exact ⟨rfl, HB1.out⟩
  ·rw [hg] at h HC1
   obtain ⟨G, rfl, hG⟩ := (chk_iff 8 (by omega) _).1 hg
   rw [gi_toNat] at h
   simp only [gi_length] at HC1 hr0 hc0 h ⊢
   have hn := hG.most
   have hn1 := hG.pos
   have HG := Aside0.mk hG
   obtain ⟨z, hz⟩ : ∃ z, min 6 G.length = z := ⟨_, rfl⟩
   rw [hz] at h
   injection h with h1 h2
   subst h2
   have hz6 : z ≤ 6 := by omega
   have hz1 : 1 ≤ z := by omega
   have hmn : (if (6 : Int) ≤ (G.length : Int) then (6 : Int) else (G.length : Int)) = (z : Int) := by split <;> omega
   have hmn2 : min (6 : Int) (G.length : Int) = (z : Int) := by omega
   have hmn3 : (if (G.length : Int) < (6 : Int) then (G.length : Int) else (6 : Int)) = (z : Int) := by split <;> omega
   have HR : Aside0 (((greatN G z : Nat) : Int) = r1) := ⟨h1⟩
   clear hg hr0 hG hGL hz h1
   have HONE := Aside0.mk (find_one HG.out)
   have heq_ := fun (w : World) (a : Option Addr) (n c : Nat) => Lib.run_eql_slice_nil (P := Tryd.prog) w 22 3 a n c 0 0 Tryd.underlying22
   go_enter Tryd.func53, Tryd.ntmps53
   go_wp2_with (go_at_call 63; refine (HC1.out _ (Below.refl _ _)).mono ?_; rintro e w1 ⟨v1, rfl, hv1, hb1⟩; obtain ⟨A5, c5, rfl, hc5, hC5⟩ := hv1 trivial; have HB1 := Aside0.mk hb1; have HC5 := Aside0.mk hC5; clear hb1 hv1 hC5)
   go_loopg [6] z (fun kq v6 w' => v6 = .int .i64 (kq : Int) ∧ 1 ≤ kq ∧ kq ≤ 6 ∧ Aside0 (((greatN G kq : Nat) : Int) = r1) ∧ Aside0 (Below w1.heap.size w1 w'))
   case atStart => exact ⟨by first | rfl | (simp; omega), hz1, hz6, HR, ⟨Below.refl _ _⟩⟩
   case round =>
    clear HR
    obtain ⟨rfl, hk1, hk6, HA, HBW⟩ := hrel
    have HCL : Aside0 (∀ W, Below w1.heap.size w1 W → Calls Tryd.prog 74 #[.int .i64 (gk : Int)] W fun e w' => ∃ A c, e = .returned (.slice A gk c) ∧ gk ≤ c ∧ Kd.C (Kd.int .i64) w' A (gi (kN gk)).length (gi (kN gk)) ∧ Below W.heap.size W w') := ⟨fun W hW => by
     refine (minor_clique.calls 60 (gk : Int) (gi (kN gk)) W (clique_f hk1 hk6)).mono ?_
     rintro e w' ⟨v, rfl, hv, hb⟩
     obtain ⟨A, c, ev, hc, hC⟩ := Kd.R_reads hv
     rw [gi_length, kN_length] at ev hc
     exact ⟨A, c, by rw [ev], hc, hC, hb⟩⟩
    have HFD : Aside0 (∀ W A c, Below w1.heap.size w1 W → Kd.C (Kd.int .i64) W A (gi (kN gk)).length (gi (kN gk)) → Calls Tryd.prog 64 #[.slice A5 G.length c5, .slice A gk c] W fun e w' => ∃ v, e = .returned v ∧ ((findN G (kN gk) = none ∧ v = .slice none 0 0) ∨ ((findN G (kN gk)).isSome = true ∧ ∃ a n c, v = .slice (some a) n c)) ∧ Below W.heap.size W w') := ⟨fun W A c hW hA => by
     have hCG : Kd.C (Kd.int .i64) W A5 (gi G).length (gi G) := by rw [gi_length]; exact Kd.C_below HC5.out hW
     have := find_calls A5 c5 G (gr_mono HG.out (by omega)) hc5 A c (kN gk) (by rw [kN_length]; exact hk1) (by rw [kN_length]; omega) (kN_small hk1 hk6) W (GL_below HGL.out (below_step HB1.out hW)) hCG hA
     rw [kN_length] at this
     refine this.mono ?_
     rintro e w' ⟨v, e1, _, e2, e3⟩
     exact ⟨v, e1, e2, e3⟩⟩
    cases hf : findN G (kN gk) with
    | none =>
     rw [hf] at HFD
     have h2 : 2 ≤ gk := by
      apply Classical.byContradiction
      intro h
      obtain rfl : gk = 1 := by omega
      have := HONE.out
      rw [hf] at this; cases this
     obtain ⟨g1, rfl⟩ : ∃ g1, gk = g1 + 1 := ⟨gk - 1, by omega⟩
     have HA2 : Aside0 (((greatN G g1 : Nat) : Int) = r1) := ⟨by
      have := HA.out
      rw [greatN, hf] at this
      exact this⟩
     clear hf HA
     go_wp2_with (first
      | (go_at_call 74; refine (HCL.out _ HBW.out).mono ?_; rintro e w3 ⟨A6, c6, rfl, hc6, hC6, hb3⟩; have HB3 := Aside0.mk (below_step HBW.out hb3); have HC6 := Aside0.mk hC6; clear hb3 hC6)
      | (go_at_call 64; refine (HFD.out _ _ _ HB3.out HC6.out).mono ?_; rintro e w4 ⟨v4, rfl, hv4, hb4⟩; have hv5 : v4 = .slice none 0 0 := hv4.elim (fun h => h.2) (fun h => by cases h.1); subst hv5; have HB4 := Aside0.mk (below_step HB3.out hb4); clear hb4 hv4))
     go_roundg g1
     case measure => omega
     case rel => exact ⟨by go_num, by omega, by omega, HA2, HB4⟩
    | some M =>
     rw [hf] at HFD
     have hr : ((gk : Nat) : Int) = r1 := by
      have := HA.out
      obtain ⟨g1, rfl⟩ : ∃ g1, gk = g1 + 1 := ⟨gk - 1, by omega⟩
      rw [greatN, hf] at this
      exact this
     subst hr
     clear hf HA
     go_wp2_with (first
      | (go_at_call 74; refine (HCL.out _ HBW.out).mono ?_; rintro e w3 ⟨A6, c6, rfl, hc6, hC6, hb3⟩; have HB3 := Aside0.mk (below_step HBW.out hb3); have HC6 := Aside0.mk hC6; clear hb3 hC6)
      | (go_at_call 64; refine (HFD.out _ _ _ HB3.out HC6.out).mono ?_; rintro e w4 ⟨v4, rfl, hv4, hb4⟩; obtain ⟨a4, n4, c4, rfl⟩ : ∃ a n c, v4 = .slice (some a) n c := hv4.elim (fun h => by cases h.1) (fun h => h.2); have HB4 := Aside0.mk (below_step HB3.out hb4); clear hb4 hv4))
     go_ret2
     exact ⟨rfl, below_step HB1.out HB4.out⟩
 ·rw [if_neg hlen] at h
  cases h
end Go.Proofs.YtjloppfdagfpmaaDoor.X
end
