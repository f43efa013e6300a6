/- Part 2 of what SweepLeast rests on: contracts of the functions that it reaches, and what they compute, in plain words. -/
import Derived.Test.YtijfddobandcdaaDoorZSweepLeast0
import Derived.Test.YtijfddobandcdaaDoorZSweepLeast1
import Derived.WalkSpells
section
-- by ownprint.py (wip/tool), over the kit's print
namespace Go.Proofs.YtijfddobandcdaaDoor.X
open Go.RowKit Go.Proofs.YtijfddobandcdaaDoorW.PrintWords Go.Proofs.YtijfddobandcdaaDoorW.PrintLast Go.Proofs.YtijfddobandcdaaDoorW.PrintMore
attribute [local go_sem] max2_int min2_int max_two min_two max_three min_three max_four min_four
set_option linter.unusedVariables false
set_option linter.unusedSimpArgs false

/-! ### sweep_Check: function 36 -/
def sweep_Check.l0 : Nat → Int → List Int → Int → Int → Option (Int × Bool × Int)
  | 0, _, _, _, _ => none
  | k + 1, x9, x23, x24, x25 => if x25 < x24 then (if 0 ≤ x25 then (if x25 < (x23.length : Int) then ((sweep_count.f (rd x23 x25)).bind fun t346 => (sweep_Check.l0 k (mx x9 t346) x23 x24 (wrap64 (x25 + 1)))) else (none)) else (none)) else (some (wrap64 (x9 - 1), true, 0))
def sweep_Check.f (k : Nat) (l0 : List Int) (l1 : List Int) : Option (Int × Bool × Int) := (sweep_read.f k l0).bind fun bt340 => (if bt340.2 = true then ((sweep_town_isPath.f k bt340.1 l1).bind fun t344 => (if t344 = true then (sweep_Check.l0 k 0 l1 (l1.length : Int) 0) else (some (0, false, 0)))) else (some (0, false, 2)))
theorem sweep_Check.mono_l : ∀ k, (∀ y0 y1 y2 y3, LeO (sweep_Check.l0 k y0 y1 y2 y3) (sweep_Check.l0 (k + 1) y0 y1 y2 y3))
  | 0 => fun _ _ _ _ r h => by simp [sweep_Check.l0] at h
  | k + 1 => by
    have ih0 := sweep_Check.mono_l k
    · intro y0 y1 y2 y3
      unfold sweep_Check.l0
      repeat' first
      | (with_reducible exact ih0 _ _ _ _)
      | (with_reducible exact sweep_read.mono _ _)
      | (with_reducible exact sweep_town_isPath.mono _ _ _)
      | (with_reducible exact LeO.refl _)
      | (with_reducible exact LeO.none _)
      | (with_reducible refine LeO.ite ?_ ?_)
      | (with_reducible refine LeO.bind ?_ (fun _ => ?_))
      | exact ih0 _ _ _ _
      | exact sweep_read.mono _ _
      | exact sweep_town_isPath.mono _ _ _
      | exact LeO.none _
      | refine LeO.ite ?_ ?_
      | refine LeO.bind ?_ (fun _ => ?_)
theorem sweep_Check.mono : ∀ a0 a1 k, LeO (sweep_Check.f k a0 a1) (sweep_Check.f (k + 1) a0 a1) := by
  intro a0 a1 k
  have ih0 := sweep_Check.mono_l k
  unfold sweep_Check.f
  repeat' first
      | (with_reducible exact ih0 _ _ _ _)
      | (with_reducible exact sweep_read.mono _ _)
      | (with_reducible exact sweep_town_isPath.mono _ _ _)
      | (with_reducible exact LeO.refl _)
      | (with_reducible exact LeO.none _)
      | (with_reducible refine LeO.ite ?_ ?_)
      | (with_reducible refine LeO.bind ?_ (fun _ => ?_))
      | exact ih0 _ _ _ _
      | exact sweep_read.mono _ _
      | exact sweep_town_isPath.mono _ _ _
      | exact LeO.none _
      | refine LeO.ite ?_ ?_
      | refine LeO.bind ?_ (fun _ => ?_)
set_option maxHeartbeats 8000000 in
set_option maxRecDepth 100000 in
theorem sweep_Check.calls (k : Nat) (A0 : Option Addr) (c0 : Nat) (l0 : List Int) (A1 : Option Addr) (c1 : Nat) (l1 : List Int) (r1 : Int) (r2 : Bool) (r3 : Int) (w : World) (hr0 : Kd.C (Kd.int .i64) w A0 l0.length l0) (hc0 : l0.length ≤ c0) (hr1 : Kd.C (Kd.int .i64) w A1 l1.length l1) (hc1 : l1.length ≤ c1) (h : sweep_Check.f k l0 l1 = some (r1, r2, r3)) :
    Calls Tryd.prog 36 #[.slice A0 l0.length c0, .slice A1 l1.length c1] w fun e w' => e = .returned (.tuple #[.int .i64 r1, .bool r2, .int .i64 r3]) ∧ Below w.heap.size w w' := by
  have HR0 := Aside0.mk hr0
  have HC0 := Aside0.mk hc0
  clear hr0 hc0
  have HR1 := Aside0.mk hr1
  have HC1 := Aside0.mk hc1
  clear hr1 hc1
  have HB := Aside0.mk (Below.refl w.heap.size w)
  have H : ((sweep_read.f k l0).bind fun bt340 => (if bt340.2 = true then ((sweep_town_isPath.f k bt340.1 l1).bind fun t344 => (if t344 = true then (sweep_Check.l0 k 0 l1 (l1.length : Int) 0) else (some (0, false, 0)))) else (some (0, false, 2)))) = some (r1, r2, r3) := h
  clear h
  replace H := Option.bind_eq_some_iff.mp H
  obtain ⟨⟨t340, t343⟩, A30, H⟩ := H
  replace H : (if t343 = true then ((sweep_town_isPath.f k t340 l1).bind fun t344 => (if t344 = true then (sweep_Check.l0 k 0 l1 (l1.length : Int) 0) else (some (0, false, 0)))) else (some (0, false, 2))) = some (r1, r2, r3) := H
  have A3 := Aside0.mk A30
  clear A30
  by_cases c4 : t343 = true
  · subst c4
    have H1 : ((sweep_town_isPath.f k t340 l1).bind fun t344 => (if t344 = true then (sweep_Check.l0 k 0 l1 (l1.length : Int) 0) else (some (0, false, 0)))) = some (r1, r2, r3) := by rw [if_pos rfl] at H; exact H
    clear H
    have H := H1
    clear H1
    replace H := Option.bind_eq_some_iff.mp H
    obtain ⟨t344, A50, H⟩ := H
    replace H : (if t344 = true then (sweep_Check.l0 k 0 l1 (l1.length : Int) 0) else (some (0, false, 0))) = some (r1, r2, r3) := H
    have A5 := Aside0.mk A50
    clear A50
    by_cases c6 : t344 = true
    · subst c6
      have H1 : (sweep_Check.l0 k 0 l1 (l1.length : Int) 0) = some (r1, r2, r3) := by rw [if_pos rfl] at H; exact H
      clear H
      have H := H1
      clear H1
      have H' := Aside0.mk H
      clear H
      go_enter Tryd.func36, Tryd.ntmps36
      go_wp2_with (first | ((with_reducible refine gate_callee (f := 49) rfl ?_); refine goesL_ (some 14) rfl rfl Tryd.func49 (by kernel_rfl) rfl #[.slice A0 l0.length c0] rfl (by (try simp only [List.map_toArray, List.map_cons, List.map_nil]); first | done | rfl | (simp only [List.length_drop, List.length_take]; rfl)) ?_; (with_reducible refine (sweep_read.calls k (fun k_ => k_ < w.heap.size) _ _ l0 t340 true _ ?side1 A3.out).mono ?_); (case side1 => exact Kd.V_mk HC0.out (Kd.F_below (Kd.C_F (Kd.heap_int .i64) HR0.out) (by repeat (first | (with_reducible first | exact HB.out | apply below_alloc | apply pw_below_drewN | apply below_drew1) | exact HB.out)))); rintro e w7 ⟨v341, rfl, ho0, hb⟩; refine ⟨_, rfl, ?_⟩; have n0_ := Aside0.mk (Kd.V_lower (Kd.V_mono (ok' := fun k_ => True) ho0 (fun k_ hk_ => trivial)) (below_size (by repeat (first | (with_reducible first | exact HB.out | apply below_alloc | apply pw_below_drewN | apply below_drew1) | exact HB.out)))); have n1_ := Aside0.mk (below_step (by repeat (first | (with_reducible first | exact HB.out | apply below_alloc | apply pw_below_drewN | apply below_drew1) | exact HB.out)) hb); clear HB; have HO342 := n0_; have HB := n1_; clear n0_ n1_; (try clear hb); (try clear hb2); (try clear hk); (try clear hi); (try clear ho0); obtain ⟨Ao8, co8, eo8⟩ := Kd.V_slice HO342.out; subst eo8) | ((with_reducible refine gate_callee (f := 62) rfl ?_); refine goesL_ (some 21) rfl rfl Tryd.func62 (by kernel_rfl) rfl #[.slice Ao8 t340.length co8, .slice A1 l1.length c1] rfl (by (try simp only [List.map_toArray, List.map_cons, List.map_nil]); first | done | rfl | (simp only [List.length_drop, List.length_take]; rfl)) ?_; (with_reducible refine (sweep_town_isPath.calls k _ _ t340 _ _ l1 true _ ?side1 ?side2 ?side3 ?side4 A5.out).mono ?_); (case side1 => repeat (first | exact (Kd.V_reads' HO342.out).2.2 | (with_reducible refine Kd.C_alloc ?_ _) | (with_reducible refine Kd.C_drewN ?_ _) | (with_reducible refine Kd.C_drew ?_))); (case side2 => exact (Kd.V_reads' HO342.out).2.1); (case side3 => repeat (first | exact (Kd.C_below HR1.out HB.out) | (with_reducible refine Kd.C_alloc ?_ _) | (with_reducible refine Kd.C_drewN ?_ _) | (with_reducible refine Kd.C_drew ?_))); (case side4 => exact HC1.out); rintro e w9 ⟨rfl, hb⟩; refine ⟨_, rfl, ?_⟩; have n0_ := Aside0.mk (Kd.V_below (by (with_reducible repeat (first | apply Kd.V_alloc | apply Kd.V_drewN | apply Kd.V_drew)); exact HO342.out) hb); have n1_ := Aside0.mk (below_step (by repeat (first | (with_reducible first | exact HB.out | apply below_alloc | apply pw_below_drewN | apply below_drew1) | exact HB.out)) hb); clear HO342; clear HB; have HO342 := n0_; have HB := n1_; clear n0_ n1_; (try clear hb); (try clear hb2); (try clear hk); (try clear hi)))
      go_loopg [9, 25] k (fun kq v9 v25 w' => ∃ (x9_1 : Int) (x25_1 : Int), v9 = .int .i64 x9_1 ∧ v25 = .int .i64 x25_1 ∧ Aside0 (sweep_Check.l0 kq x9_1 l1 (l1.length : Int) x25_1 = some (r1, r2, r3)) ∧ Aside0 (kq ≤ k) ∧ Aside0 (Below w.heap.size w w'))
      case atStart => exact ⟨(0), (0), (by first | rfl | (simp; done) | (simp [*]; done)), (by first | rfl | (simp; done) | (simp [*]; done)), H', ⟨Nat.le_refl _⟩, ⟨by repeat (first | (with_reducible first | exact HB.out | apply below_alloc | apply pw_below_drewN | apply below_drew1) | exact HB.out)⟩⟩
      case round =>
        clear H'
        try clear c1
        try clear p2
        try clear c3
        try clear c4
        try clear c6
        obtain ⟨x9_1, x25_1, rfl, rfl, HA, HK1, HB⟩ := hrel
        cases gk with
        | zero => exact absurd HA.out (by simp [sweep_Check.l0])
        | succ k1 =>
          have H := HA.out
          clear HA
          simp only [sweep_Check.l0] at H
          by_cases c10 : x25_1 < (l1.length : Int)
          · rw [if_pos c10] at H
            have c10b0 : decide (x25_1 < (l1.length : Int)) = true := decide_eq_true c10
            clear c10
            by_cases c11 : 0 ≤ x25_1
            · rw [if_pos c11] at H
              have c11b0 : decide (0 ≤ x25_1) = true := decide_eq_true c11
              clear c11
              by_cases c12 : x25_1 < (l1.length : Int)
              · rw [if_pos c12] at H
                have c12b0 : decide (x25_1 < (l1.length : Int)) = true := decide_eq_true c12
                clear c12
                replace H := Option.bind_eq_some_iff.mp H
                obtain ⟨t346, A130, H⟩ := H
                replace H : (sweep_Check.l0 k1 (mx x9_1 t346) l1 (l1.length : Int) (wrap64 (x25_1 + 1))) = some (r1, r2, r3) := H
                have A13 := Aside0.mk A130
                clear A130
                obtain ⟨ji14, hji14⟩ : ∃ j_ : Int, (mx x9_1 t346) = j_ := ⟨_, rfl⟩
                replace H : (sweep_Check.l0 k1 ji14 l1 (l1.length : Int) (wrap64 (x25_1 + 1))) = some (r1, r2, r3) := by first | (rw [hji14] at H; exact H) | (simp only [hji14] at H ⊢; exact H)
                (try rw [hji14] at A13)
                have hji14_ : (if x9_1 < t346 then t346 else x9_1) = ji14 := hji14
                have H' := Aside0.mk H
                clear H
                have p345 : 0 ≤ (x25_1 : Int) := of_decide_eq_true (by first | (with_reducible assumption) | assumption)
                have q345 : x25_1 < (l1.length : Int) := of_decide_eq_true (by first | (with_reducible assumption) | assumption)
                obtain ⟨ad345, e345, hx345_0⟩ := Kd.at_int HR1.out x25_1 p345 q345
                cases e345
                replace hx345_0 := (HB.out.cell (World.block_lt_of_cell? w _ hx345_0)).trans hx345_0
                replace p345 := eq_true p345
                replace q345 := eq_true q345
                go_wp2_with (first | ((with_reducible refine gate_callee (f := 63) rfl ?_); refine goesL_ (some 31) rfl rfl Tryd.func63 (by kernel_rfl) rfl #[.int .i64 (rd l1 x25_1)] rfl (by (try simp only [List.map_toArray, List.map_cons, List.map_nil]); first | done | rfl | (simp only [List.length_drop, List.length_take]; rfl)) ?_; (with_reducible refine (sweep_count.calls (rd l1 x25_1) t346 _ A13.out).mono ?_); rintro e w' ⟨rfl, ⟨nd, rfl⟩⟩; refine ⟨_, rfl, ?_⟩))
                go_roundg k1
                case measure => have := HK1.out; omega
                case rel => exact ⟨(ji14), (wrap64 (x25_1 + 1)), (by first | rfl | (simp; done) | (simp only [← hji14] <;> (first | rfl | simp)) | (simp [*]; done)), (by first | rfl | (simp; done) | (simp [*]; done)), H', ⟨by have := HK1.out; omega⟩, ⟨by repeat (first | (with_reducible first | exact HB.out | apply below_alloc | apply pw_below_drewN | apply below_drew1) | exact HB.out)⟩⟩
              · rw [if_neg c12] at H
                exact absurd H (by simp)
            · rw [if_neg c11] at H
              exact absurd H (by simp)
          · rw [if_neg c10] at H
            have c10b0 : decide (x25_1 < (l1.length : Int)) = false := decide_eq_false c10
            clear c10
            simp only [Option.some.injEq, Prod.mk.injEq] at H
            obtain ⟨rfl, rfl, rfl⟩ := H
            go_wp2
            go_ret3
            exact ⟨by first | rfl | (simp [errW_none, errW_some] <;> rfl) | (simp [*, errW_none, errW_some] <;> rfl), by repeat (first | (with_reducible first | exact HB.out | apply below_alloc | apply pw_below_drewN | apply below_drew1) | exact HB.out)⟩
    · replace c6 := Bool.eq_false_iff.mpr c6
      subst c6
      have H1 : (some (0, false, 0)) = some (r1, r2, r3) := by rw [if_neg (show ¬ (false = true) by decide)] at H; exact H
      clear H
      have H := H1
      clear H1
      simp only [Option.some.injEq, Prod.mk.injEq] at H
      obtain ⟨rfl, rfl, rfl⟩ := H
      go_enter Tryd.func36, Tryd.ntmps36
      go_wp2_with (first | ((with_reducible refine gate_callee (f := 49) rfl ?_); refine goesL_ (some 14) rfl rfl Tryd.func49 (by kernel_rfl) rfl #[.slice A0 l0.length c0] rfl (by (try simp only [List.map_toArray, List.map_cons, List.map_nil]); first | done | rfl | (simp only [List.length_drop, List.length_take]; rfl)) ?_; (with_reducible refine (sweep_read.calls k (fun k_ => k_ < w.heap.size) _ _ l0 t340 true _ ?side1 A3.out).mono ?_); (case side1 => exact Kd.V_mk HC0.out (Kd.F_below (Kd.C_F (Kd.heap_int .i64) HR0.out) (by repeat (first | (with_reducible first | exact HB.out | apply below_alloc | apply pw_below_drewN | apply below_drew1) | exact HB.out)))); rintro e w15 ⟨v341, rfl, ho0, hb⟩; refine ⟨_, rfl, ?_⟩; have n0_ := Aside0.mk (Kd.V_lower (Kd.V_mono (ok' := fun k_ => True) ho0 (fun k_ hk_ => trivial)) (below_size (by repeat (first | (with_reducible first | exact HB.out | apply below_alloc | apply pw_below_drewN | apply below_drew1) | exact HB.out)))); have n1_ := Aside0.mk (below_step (by repeat (first | (with_reducible first | exact HB.out | apply below_alloc | apply pw_below_drewN | apply below_drew1) | exact HB.out)) hb); clear HB; have HO342 := n0_; have HB := n1_; clear n0_ n1_; (try clear hb); (try clear hb2); (try clear hk); (try clear hi); (try clear ho0); obtain ⟨Ao16, co16, eo16⟩ := Kd.V_slice HO342.out; subst eo16) | ((with_reducible refine gate_callee (f := 62) rfl ?_); refine goesL_ (some 21) rfl rfl Tryd.func62 (by kernel_rfl) rfl #[.slice Ao16 t340.length co16, .slice A1 l1.length c1] rfl (by (try simp only [List.map_toArray, List.map_cons, List.map_nil]); first | done | rfl | (simp only [List.length_drop, List.length_take]; rfl)) ?_; (with_reducible refine (sweep_town_isPath.calls k _ _ t340 _ _ l1 false _ ?side1 ?side2 ?side3 ?side4 A5.out).mono ?_); (case side1 => repeat (first | exact (Kd.V_reads' HO342.out).2.2 | (with_reducible refine Kd.C_alloc ?_ _) | (with_reducible refine Kd.C_drewN ?_ _) | (with_reducible refine Kd.C_drew ?_))); (case side2 => exact (Kd.V_reads' HO342.out).2.1); (case side3 => repeat (first | exact (Kd.C_below HR1.out HB.out) | (with_reducible refine Kd.C_alloc ?_ _) | (with_reducible refine Kd.C_drewN ?_ _) | (with_reducible refine Kd.C_drew ?_))); (case side4 => exact HC1.out); rintro e w17 ⟨rfl, hb⟩; refine ⟨_, rfl, ?_⟩; have n0_ := Aside0.mk (Kd.V_below (by (with_reducible repeat (first | apply Kd.V_alloc | apply Kd.V_drewN | apply Kd.V_drew)); exact HO342.out) hb); have n1_ := Aside0.mk (below_step (by repeat (first | (with_reducible first | exact HB.out | apply below_alloc | apply pw_below_drewN | apply below_drew1) | exact HB.out)) hb); clear HO342; clear HB; have HO342 := n0_; have HB := n1_; clear n0_ n1_; (try clear hb); (try clear hb2); (try clear hk); (try clear hi)))
      go_ret3
      exact ⟨by first | rfl | (simp [errW_none, errW_some] <;> rfl) | (simp [*, errW_none, errW_some] <;> rfl), by repeat (first | (with_reducible first | exact HB.out | apply below_alloc | apply pw_below_drewN | apply below_drew1) | exact HB.out)⟩
  · replace c4 := Bool.eq_false_iff.mpr c4
    subst c4
    have H1 : (some (0, false, 2)) = some (r1, r2, r3) := by rw [if_neg (show ¬ (false = true) by decide)] at H; exact H
    clear H
    have H := H1
    clear H1
    simp only [Option.some.injEq, Prod.mk.injEq] at H
    obtain ⟨rfl, rfl, rfl⟩ := H
    go_enter Tryd.func36, Tryd.ntmps36
    go_wp2_with (first | ((with_reducible refine gate_callee (f := 49) rfl ?_); refine goesL_ (some 14) rfl rfl Tryd.func49 (by kernel_rfl) rfl #[.slice A0 l0.length c0] rfl (by (try simp only [List.map_toArray, List.map_cons, List.map_nil]); first | done | rfl | (simp only [List.length_drop, List.length_take]; rfl)) ?_; (with_reducible refine (sweep_read.calls k (fun k_ => k_ < w.heap.size) _ _ l0 t340 false _ ?side1 A3.out).mono ?_); (case side1 => exact Kd.V_mk HC0.out (Kd.F_below (Kd.C_F (Kd.heap_int .i64) HR0.out) (by repeat (first | (with_reducible first | exact HB.out | apply below_alloc | apply pw_below_drewN | apply below_drew1) | exact HB.out)))); rintro e w18 ⟨v341, rfl, ho0, hb⟩; refine ⟨_, rfl, ?_⟩; have n0_ := Aside0.mk (Kd.V_lower (Kd.V_mono (ok' := fun k_ => True) ho0 (fun k_ hk_ => trivial)) (below_size (by repeat (first | (with_reducible first | exact HB.out | apply below_alloc | apply pw_below_drewN | apply below_drew1) | exact HB.out)))); have n1_ := Aside0.mk (below_step (by repeat (first | (with_reducible first | exact HB.out | apply below_alloc | apply pw_below_drewN | apply below_drew1) | exact HB.out)) hb); clear HB; have HO342 := n0_; have HB := n1_; clear n0_ n1_; (try clear hb); (try clear hb2); (try clear hk); (try clear hi); (try clear ho0)))
    go_ret3
    exact ⟨by first | rfl | (simp [errW_none, errW_some] <;> rfl) | (simp [*, errW_none, errW_some] <;> rfl), by repeat (first | (with_reducible first | exact HB.out | apply below_alloc | apply pw_below_drewN | apply below_drew1) | exact HB.out)⟩

end Go.Proofs.YtijfddobandcdaaDoor.X
end
section
/- isPath, Check: path decompositions and their width. -/
set_option linter.unusedVariables false
namespace Go.Proofs.YtijfddobandcdaaDoor.X
open Go.RowKit Go.Proofs.YtijfddobandcdaaDoorW.PrintWords Go.Proofs.YtijfddobandcdaaDoorW.PrintLast Go.Proofs.YtijfddobandcdaaDoorW.PrintMore Go.Proofs.YtijfddobandcdaaDoor.T

theorem rd_mem {l : List Int} {i : Nat} (h : i < l.length) : rd l (i : Int) = l[i] := by unfold rd; rw [Int.toNat_natCast, List.getD_eq_getElem?_getD, List.getElem?_eq_getElem h]; rfl
theorem min_l0 (l : List Int) (hl : l.length < 2 ^ 60) : ∀ (d i : Nat) (m : Int), i + d = l.length → ∃ r, Ev (fun k => slices_Min_int_int.l0 k l m (i : Int)) r ∧ (r = m ∨ r ∈ l) ∧ r ≤ m ∧ ∀ x ∈ l.drop i, r ≤ x := by
  intro d
  induction d with
  | zero =>
    intro i m hi
    refine ⟨m, Ev.step (f := fun _ => some m) (fun k => by rw [slices_Min_int_int.l0, if_neg (by omega)]) (Ev.some rfl), .inl rfl, Int.le_refl _, ?_⟩
    rw [List.drop_eq_nil_of_le (by omega)]
    simp
  | succ d ih =>
    intro i m hi
    have hi' : i < l.length := by omega
    obtain ⟨r, h1, h2, h3, h4⟩ := ih (i + 1) (mn m l[i]) (by omega)
    have hmn : mn m l[i] ≤ m ∧ mn m l[i] ≤ l[i] ∧ (mn m l[i] = m ∨ mn m l[i] = l[i]) := by unfold mn; split <;> omega
    refine ⟨r, Ev.step (fun k => by rw [slices_Min_int_int.l0, if_pos (by omega), if_pos (by omega), rd_mem hi', wrap_succ i (by omega)]) h1, ?_, by omega, ?_⟩
    · rcases h2 with h | h
      · rcases hmn.2.2 with e | e
        · exact .inl (by omega)
        · exact .inr (by rw [h, e]; exact List.getElem_mem hi')
      · exact .inr h
    · rw [List.drop_eq_getElem_cons hi']
      intro x hx
      rcases List.mem_cons.1 hx with e | e
      · rw [e]; omega
      · exact h4 x e
theorem max_l0 (l : List Int) (hl : l.length < 2 ^ 60) : ∀ (d i : Nat) (m : Int), i + d = l.length → ∃ r, Ev (fun k => slices_Max_int_int.l0 k l m (i : Int)) r ∧ (r = m ∨ r ∈ l) ∧ m ≤ r ∧ ∀ x ∈ l.drop i, x ≤ r := by
  intro d
  induction d with
  | zero =>
    intro i m hi
    refine ⟨m, Ev.step (f := fun _ => some m) (fun k => by rw [slices_Max_int_int.l0, if_neg (by omega)]) (Ev.some rfl), .inl rfl, Int.le_refl _, ?_⟩
    rw [List.drop_eq_nil_of_le (by omega)]
    simp
  | succ d ih =>
    intro i m hi
    have hi' : i < l.length := by omega
    obtain ⟨r, h1, h2, h3, h4⟩ := ih (i + 1) (mx m l[i]) (by omega)
    have hmn : m ≤ mx m l[i] ∧ l[i] ≤ mx m l[i] ∧ (mx m l[i] = m ∨ mx m l[i] = l[i]) := by unfold mx; split <;> omega
    refine ⟨r, Ev.step (fun k => by rw [slices_Max_int_int.l0, if_pos (by omega), if_pos (by omega), rd_mem hi', wrap_succ i (by omega)]) h1, ?_, by omega, ?_⟩
    · rcases h2 with h | h
      · rcases hmn.2.2 with e | e
        · exact .inl (by omega)
        · exact .inr (by rw [h, e]; exact List.getElem_mem hi')
      · exact .inr h
    · rw [List.drop_eq_getElem_cons hi']
      intro x hx
      rcases List.mem_cons.1 hx with e | e
      · rw [e]; omega
      · exact h4 x e
theorem min_ev (l : List Int) (h1 : 1 ≤ l.length) (hl : l.length < 2 ^ 60) : ∃ r, Ev (fun k => slices_Min_int_int.f k l) r ∧ r ∈ l ∧ ∀ x ∈ l, r ≤ x := by
  obtain ⟨r, h2, h3, h4, h5⟩ := min_l0 l hl (l.length - 1) 1 (rd l 0) (by omega)
  have e : rd l 0 = l[0] := rd_mem (i := 0) (by omega)
  refine ⟨r, ?_, ?_, ?_⟩
  · unfold slices_Min_int_int.f
    exact Ev.if_neg (by omega) (Ev.if_pos (by omega) h2)
  · rcases h3 with h | h
    · rw [h, e]; exact List.getElem_mem _
    · exact h
  · intro x hx
    rw [← List.drop_zero (l := l), List.drop_eq_getElem_cons (show 0 < l.length by omega)] at hx
    rcases List.mem_cons.1 hx with h | h
    · rw [h, ← e]; exact h4
    · exact h5 x h
theorem max_ev (l : List Int) (h1 : 1 ≤ l.length) (hl : l.length < 2 ^ 60) : ∃ r, Ev (fun k => slices_Max_int_int.f k l) r ∧ r ∈ l ∧ ∀ x ∈ l, x ≤ r := by
  obtain ⟨r, h2, h3, h4, h5⟩ := max_l0 l hl (l.length - 1) 1 (rd l 0) (by omega)
  have e : rd l 0 = l[0] := rd_mem (i := 0) (by omega)
  refine ⟨r, ?_, ?_, ?_⟩
  · unfold slices_Max_int_int.f
    exact Ev.if_neg (by omega) (Ev.if_pos (by omega) h2)
  · rcases h3 with h | h
    · rw [h, e]; exact List.getElem_mem _
    · exact h
  · intro x hx
    rw [← List.drop_zero (l := l), List.drop_eq_getElem_cons (show 0 < l.length by omega)] at hx
    rcases List.mem_cons.1 hx with h | h
    · rw [h, ← e]; exact h4
    · exact h5 x h

/-- The mark ahead of place i. -/
def ahead (v : Nat) (B : List Nat) (i : Nat) : Bool := if i = 0 then false else (B.getD (i - 1) 0).testBit v
theorem toNat_one {b : Bool} : ((b.toNat : Nat) : Int) = 1 ↔ b = true := by cases b <;> simp
theorem isPath_l1 (G : List Nat) (hG : Gr 7 G) (B : List Nat) (hB : ∀ b ∈ B, b < 2 ^ G.length) (h30 : B.length ≤ 30) (v : Nat) (hv : v < G.length) (r : Bool)
    (cont : Ev (fun k => sweep_town_isPath.l0 k (gi B) (gi G) (G.length : Int) ((v + 1 : Nat) : Int)) r) : ∀ (d i s c : Nat), i + d = B.length → s < 2 ^ G.length → c ≤ i →
    Ev (fun k => sweep_town_isPath.l1 k (gi B) (v : Int) (s : Int) (c : Int) (gi G) (G.length : Int) (v : Int) (gi B) (B.length : Int) (i : Int)) (decide (c + starts (ahead v B i) (marks v (B.drop i)) = 1 ∧ T.left v s (B.drop i) = 0) && r) := by
  have hn := hG.most
  intro d
  induction d with
  | zero =>
    intro i s c hi hs hc
    rw [List.drop_eq_nil_of_le (by omega)]
    simp only [marks, List.map_nil, starts, T.left, Nat.add_zero]
    by_cases h1 : c = 1
    · by_cases h2 : s = 0
      · refine Ev.step (fun k => by rw [sweep_town_isPath.l1, if_neg (by omega), if_pos (by omega), if_pos (by omega), wrap_succ v (by omega)]) ?_
        rw [decide_eq_true ⟨h1, h2⟩, Bool.true_and]
        exact cont
      · refine Ev.step (f := fun _ => some false) (fun k => by rw [sweep_town_isPath.l1, if_neg (by omega), if_pos (by omega), if_neg (by omega)]) (Ev.some ?_)
        rw [decide_eq_false (fun h => h2 h.2), Bool.false_and]
    · refine Ev.step (f := fun _ => some false) (fun k => by rw [sweep_town_isPath.l1, if_neg (by omega), if_neg (by omega)]) (Ev.some ?_)
      rw [decide_eq_false (fun h => h1 h.1), Bool.false_and]
  | succ d ih =>
    intro i s c hi hs hc
    have HS := Aside0.mk hs
    clear hs
    have hi' : i < B.length := by omega
    have hwi := wrap_succ i (by omega)
    have hwc := wrap_succ c (by omega)
    have hb2 := hB _ (List.getElem_mem hi')
    have hr : rd (gi B) (i : Int) = ((B[i] : Nat) : Int) := by rw [rd_gi, List.getD_eq_getElem?_getD, List.getElem?_eq_getElem hi']; rfl
    have hb62 := big (small G (by omega) hb2)
    have hs62 := big (small G (by omega) HS.out)
    have hget : B.getD i 0 = B[i] := by rw [List.getD_eq_getElem?_getD, List.getElem?_eq_getElem hi']; rfl
    have hah : ahead v B (i + 1) = B[i].testBit v := by unfold ahead; rw [if_neg (by omega), Nat.add_sub_cancel, hget]
    rw [List.drop_eq_getElem_cons hi']
    simp only [marks, List.map_cons, starts, T.left]
    have hd := Aside0.mk (show diff s B[i] < 2 ^ G.length from Nat.lt_of_le_of_lt (diff_le _ _) HS.out)
    clear hb2
    by_cases hb : B[i].testBit v = true
    · have hbit : Go.bits .and .i64 (shr .i64 ((B[i] : Nat) : Int) (v : Int)) 1 = 1 := (bit_one _ v hb62 (by omega)).2 hb
      rw [if_pos hb]
      have next : ∀ c' : Nat, c' ≤ i + 1 → Ev (fun k => sweep_town_isPath.l1 k (gi B) (v : Int) ((diff s B[i] : Nat) : Int) (c' : Int) (gi G) (G.length : Int) (v : Int) (gi B) (B.length : Int) ((i + 1 : Nat) : Int)) (decide (c' + starts (B[i].testBit v) ((B.drop (i + 1)).map fun b => b.testBit v) = 1 ∧ T.left v (diff s B[i]) (B.drop (i + 1)) = 0) && r) := fun c' h' => by
        have := ih (i + 1) (diff s B[i]) c' (by omega) hd.out h'
        rw [hah] at this
        exact this
      by_cases hp : ahead v B i = true
      · have hi0 : i ≠ 0 := fun e => by rw [e] at hp; simp [ahead] at hp
        have hpr : (B.getD (i - 1) 0).testBit v = true := by unfold ahead at hp; rw [if_neg hi0] at hp; exact hp
        have hp2 : B.getD (i - 1) 0 < 2 ^ 62 := by
          rw [List.getD_eq_getElem?_getD, List.getElem?_eq_getElem (by omega)]
          exact big (small G (by omega) (hB _ (List.getElem_mem _)))
        refine Ev.step (f := fun k => sweep_town_isPath.j3 k (gi B) (v : Int) (s : Int) (c : Int) ((B[i] : Nat) : Int) (gi G) (G.length : Int) (v : Int) (gi B) (B.length : Int) (i : Int) false) (fun k => ?_) ?_
        · rw [sweep_town_isPath.l1, if_pos (by omega), if_pos (by omega), if_pos (by rw [gi_length]; omega), if_pos (by omega), hr, if_pos hbit, if_neg (by omega), wrap_pred i (by omega) (by omega), if_pos (by omega), if_pos (by rw [gi_length]; omega), rd_gi, bit_at _ v hp2 (by omega), hpr]
          rfl
        · refine Ev.step (fun k => by rw [sweep_town_isPath.j3, if_neg (by simp), if_pos (by omega), if_pos hbit, b_andNot _ _ hs62 hb62, hwi]) ?_
          have := next c (by omega)
          simpa [hp] using this
      · have hp' : ahead v B i = false := by simpa using hp
        refine Ev.step (f := fun k => sweep_town_isPath.j3 k (gi B) (v : Int) (s : Int) (c : Int) ((B[i] : Nat) : Int) (gi G) (G.length : Int) (v : Int) (gi B) (B.length : Int) (i : Int) true) (fun k => ?_) ?_
        · rw [sweep_town_isPath.l1, if_pos (by omega), if_pos (by omega), if_pos (by rw [gi_length]; omega), if_pos (by omega), hr, if_pos hbit]
          by_cases hi0 : i = 0
          · rw [if_pos (by omega)]
          · have hpr : (B.getD (i - 1) 0).testBit v = false := by unfold ahead at hp'; rw [if_neg hi0] at hp'; exact hp'
            have hp2 : B.getD (i - 1) 0 < 2 ^ 62 := by
              rw [List.getD_eq_getElem?_getD, List.getElem?_eq_getElem (by omega)]
              exact big (small G (by omega) (hB _ (List.getElem_mem _)))
            rw [if_neg (by omega), wrap_pred i (by omega) (by omega), if_pos (by omega), if_pos (by rw [gi_length]; omega), rd_gi, bit_at _ v hp2 (by omega), hpr]
            rfl
        · refine Ev.step (fun k => by rw [sweep_town_isPath.j3, if_pos rfl, if_pos (by omega), if_pos hbit, b_andNot _ _ hs62 hb62, hwi, hwc]) ?_
          have := next (c + 1) (by omega)
          rw [hb] at this
          rw [hp', hb, if_pos ⟨rfl, rfl⟩, ← Nat.add_assoc]
          exact this
    · have hb' : B[i].testBit v = false := by simpa using hb
      have hbit : ¬ Go.bits .and .i64 (shr .i64 ((B[i] : Nat) : Int) (v : Int)) 1 = 1 := fun h => hb ((bit_one _ v hb62 (by omega)).1 h)
      rw [if_neg hb]
      refine Ev.step (f := fun k => sweep_town_isPath.j3 k (gi B) (v : Int) (s : Int) (c : Int) ((B[i] : Nat) : Int) (gi G) (G.length : Int) (v : Int) (gi B) (B.length : Int) (i : Int) false) (fun k => ?_) ?_
      · rw [sweep_town_isPath.l1, if_pos (by omega), if_pos (by omega), if_pos (by rw [gi_length]; omega), if_pos (by omega), hr, if_neg hbit]
      · refine Ev.step (fun k => by rw [sweep_town_isPath.j3, if_neg (by simp), if_pos (by omega), if_neg hbit, hwi]) ?_
        have := ih (i + 1) s c (by omega) HS.out (by omega)
        rw [hah, hb'] at this
        rw [hb', if_neg (by simp), Nat.zero_add]
        exact this
/-- What node v asks of the bags. -/
def fits (G B : List Nat) (v : Nat) : Bool := decide (starts false (marks v B) = 1 ∧ T.left v (G.getD v 0) B = 0)
theorem isPath_l0 (G : List Nat) (hG : Gr 7 G) (B : List Nat) (hB : ∀ b ∈ B, b < 2 ^ G.length) (h30 : B.length ≤ 30) : ∀ (d v : Nat), v + d = G.length →
    Ev (fun k => sweep_town_isPath.l0 k (gi B) (gi G) (G.length : Int) (v : Int)) (allFrom (fits G B) G.length d v) := by
  have hn := hG.most
  intro d
  induction d with
  | zero => intro v hv; exact Ev.step (f := fun _ => some true) (fun k => by rw [sweep_town_isPath.l0, if_neg (by omega)]) (Ev.some rfl)
  | succ d ih =>
    intro v hv
    have := isPath_l1 G hG B hB h30 v (by omega) _ (ih (v + 1) (by omega)) B.length 0 (G.getD v 0) 0 (by omega) (hG.row v) (Nat.le_refl _)
    refine Ev.step (fun k => by rw [sweep_town_isPath.l0, if_pos (by omega), if_pos (by omega), if_pos (by rw [gi_length]; omega), rd_gi, gi_length]) ?_
    simp only [allFrom, fits]
    rw [Nat.zero_add, List.drop_zero] at this
    exact this
theorem fits_iff (G B : List Nat) (h1 : 1 ≤ B.length) (h30 : B.length ≤ 30) (hB : ∀ b ∈ B, b < 2 ^ G.length) : allFrom (fits G B) G.length G.length 0 = true ↔ PathDec G B := by
  rw [allFrom_iff]
  simp only [fits, decide_eq_true_eq, starts_one, left_zero]
  constructor
  · intro h
    exact ⟨h1, h30, hB, fun v hv => (h v (by omega) (by omega)).1, fun v u hv ha => (h v (by omega) (by omega)).2 u ha⟩
  · intro h v _ hv
    exact ⟨h.run v (by omega), fun u ha => h.edge v u (by omega) ha⟩
/-- l is a path decomposition. -/
def IsPathL (G : List Nat) (l : List Int) : Prop := ∃ B, l = gi B ∧ PathDec G B
theorem isPath_ev (G : List Nat) (hG : Gr 7 G) (l : List Int) (hl : l.length < 2 ^ 60) : ∃ r, Ev (fun k => sweep_town_isPath.f k (gi G) l) r ∧ (r = true ↔ IsPathL G l) := by
  have hn := hG.most
  have bad : ¬ IsPathL G l → Ev (fun k => sweep_town_isPath.f k (gi G) l) false → ∃ r, Ev (fun k => sweep_town_isPath.f k (gi G) l) r ∧ (r = true ↔ IsPathL G l) := fun h1 h2 => ⟨false, h2, by simp [h1]⟩
  have stop : Ev (fun k => sweep_town_isPath.j0 k (gi G) l true) false := Ev.step (f := fun _ => some false) (fun k => by rw [sweep_town_isPath.j0, if_pos rfl]) (Ev.some rfl)
  have h29 : 2 ^ G.length ≤ 2 ^ 9 := Nat.pow_le_pow_right (by omega) (by omega)
  have h2p := Nat.two_pow_pos G.length
  have hall : sweep_town_all.f (gi G) = some ((2 ^ G.length - 1 : Nat) : Int) := by
    unfold sweep_town_all.f
    rw [gi_length, s_one _ (by omega), w64_small _ (by omega) (by omega)]
    congr 1
    omega
  by_cases h1 : 1 ≤ l.length
  · by_cases h30 : l.length ≤ 30
    · obtain ⟨mi, hmi, hmi2, hmi3⟩ := min_ev l h1 (by omega)
      obtain ⟨ma, hma, hma2, hma3⟩ := max_ev l h1 (by omega)
      by_cases h0 : mi < 0
      · refine bad ?_ ?_
        · rintro ⟨B, rfl, _⟩
          unfold gi at hmi2
          obtain ⟨x, _, hx⟩ := List.mem_map.1 hmi2
          omega
        · unfold sweep_town_isPath.f
          exact Ev.if_neg (by omega) (Ev.if_neg (by omega) (Ev.bind hmi (Ev.if_pos h0 stop)))
      · obtain ⟨B, rfl⟩ := gi_nonneg l (fun x hx => by have := hmi3 x hx; omega)
        rw [gi_length] at h1 h30
        by_cases h2 : ma > ((2 ^ G.length - 1 : Nat) : Int)
        · refine bad ?_ ?_
          · rintro ⟨B', e, h⟩
            rw [← gi_inj e] at h
            obtain ⟨x, hx, rfl⟩ := List.mem_map.1 hma2
            have := h.lt x hx
            omega
          · unfold sweep_town_isPath.f
            refine Ev.if_neg (by rw [gi_length]; omega) (Ev.if_neg (by rw [gi_length]; omega) (Ev.bind hmi (Ev.if_neg h0 (Ev.bind hma (Ev.bind1 hall ?_)))))
            rw [decide_eq_true h2]
            exact stop
        · have hB : ∀ b ∈ B, b < 2 ^ G.length := fun b hb => by have := hma3 b (gi_mem.2 hb); omega
          refine ⟨allFrom (fits G B) G.length G.length 0, ?_, ?_⟩
          · unfold sweep_town_isPath.f
            refine Ev.if_neg (by rw [gi_length]; omega) (Ev.if_neg (by rw [gi_length]; omega) (Ev.bind hmi (Ev.if_neg h0 (Ev.bind hma (Ev.bind1 hall ?_)))))
            rw [decide_eq_false h2]
            refine Ev.step (fun k => by rw [sweep_town_isPath.j0, if_neg (by simp)]) ?_
            rw [gi_length]
            exact isPath_l0 G hG B hB h30 G.length 0 (by omega)
          · rw [fits_iff G B h1 h30 hB]
            exact ⟨fun h => ⟨B, rfl, h⟩, fun ⟨B', e, h⟩ => by rw [gi_inj e]; exact h⟩
    · refine bad ?_ ?_
      · rintro ⟨B, rfl, h⟩
        have := h.most
        rw [gi_length] at h30
        omega
      · unfold sweep_town_isPath.f
        exact Ev.if_neg (by omega) (Ev.if_pos (by omega) stop)
  · refine bad ?_ ?_
    · rintro ⟨B, rfl, h⟩
      have := h.pos
      rw [gi_length] at h1
      omega
    · unfold sweep_town_isPath.f
      exact Ev.if_pos (by omega) stop

theorem check_l0 (G : List Nat) (hG : Gr 7 G) (B : List Nat) (hB : ∀ b ∈ B, b < 2 ^ G.length) (h30 : B.length ≤ 30) : ∀ (d i m : Nat), i + d = B.length → m ≤ 9 →
    Ev (fun k => sweep_Check.l0 k (m : Int) (gi B) (B.length : Int) (i : Int)) (((max m (mostOf (B.drop i)) : Nat) : Int) - 1, true, 0) := by
  have hn := hG.most
  intro d
  induction d with
  | zero =>
    intro i m hi hm
    refine Ev.step (f := fun _ => some ((m : Int) - 1, true, 0)) (fun k => by rw [sweep_Check.l0, if_neg (by omega), w64_small _ (by omega) (by omega)]) (Ev.some ?_)
    rw [List.drop_eq_nil_of_le (by omega)]
    simp [mostOf]
  | succ d ih =>
    intro i m hi hm
    have hi' : i < B.length := by omega
    have hb2 := hB _ (List.getElem_mem hi')
    have hr : rd (gi B) (i : Int) = ((B[i] : Nat) : Int) := by rw [rd_gi, List.getD_eq_getElem?_getD, List.getElem?_eq_getElem hi']; rfl
    have hp := pc_le B[i] 9
    refine Ev.step (f := fun k => (sweep_count.f ((B[i] : Nat) : Int)).bind fun t => sweep_Check.l0 k (mx (m : Int) t) (gi B) (B.length : Int) ((i + 1 : Nat) : Int)) (fun k => ?_) ?_
    · rw [sweep_Check.l0, if_pos (by omega), if_pos (by omega), if_pos (by rw [gi_length]; omega), hr, wrap_succ i (by omega)]
    · refine Ev.bind1 (count_eq _ (small G (by omega) hb2)) ?_
      rw [mx_nat]
      have := ih (i + 1) (max m (pc B[i] 9)) (by omega) (by omega)
      rw [List.drop_eq_getElem_cons hi']
      have e : max m (mostOf (B[i] :: B.drop (i + 1))) = max (max m (pc B[i] 9)) (mostOf (B.drop (i + 1))) := by
        simp only [mostOf, List.foldr_cons]
        omega
      rw [e]
      exact this
theorem Check_yes (G : List Nat) (hG : Gr 7 G) (B : List Nat) (h : PathDec G B) : Ev (fun k => sweep_Check.f k (gi G) (gi B)) (((mostOf B : Nat) : Int) - 1, true, 0) := by
  have hr := read_ev (gi G) (by rw [gi_length]; have := hG.most; omega)
  rw [(chk_iff 7 (by omega) _).2 ⟨G, rfl, hG⟩] at hr
  have h30 := h.most
  obtain ⟨r, h1, h2⟩ := isPath_ev G hG (gi B) (by rw [gi_length]; omega)
  rw [h2.2 ⟨B, rfl, h⟩] at h1
  have := check_l0 G hG B h.lt h.most B.length 0 0 (by omega) (by omega)
  rw [List.drop_zero, Nat.zero_max] at this
  unfold sweep_Check.f
  refine Ev.bind hr (Ev.if_pos rfl (Ev.bind h1 (Ev.if_pos rfl ?_)))
  rw [gi_length]
  exact this
theorem Check_no (G : List Nat) (hG : Gr 7 G) (l : List Int) (hl : l.length < 2 ^ 60) (h : ¬ IsPathL G l) : Ev (fun k => sweep_Check.f k (gi G) l) (0, false, 0) := by
  have hr := read_ev (gi G) (by rw [gi_length]; have := hG.most; omega)
  rw [(chk_iff 7 (by omega) _).2 ⟨G, rfl, hG⟩] at hr
  obtain ⟨r, h1, h2⟩ := isPath_ev G hG l hl
  have hr2 : r = false := by cases r <;> simp_all
  rw [hr2] at h1
  unfold sweep_Check.f
  exact Ev.bind hr (Ev.if_pos rfl (Ev.bind h1 (Ev.if_neg (by simp) (Ev.some rfl))))
theorem Check_bad (g l : List Int) (hl : g.length < 2 ^ 60) (h : chk 7 g = false) : Ev (fun k => sweep_Check.f k g l) (0, false, 2) := by
  have hr := read_ev g hl
  rw [h] at hr
  unfold sweep_Check.f
  exact Ev.bind hr (Ev.if_neg (by simp) (Ev.some rfl))
end Go.Proofs.YtijfddobandcdaaDoor.X
end
section
-- by ownprint.py (wip/tool), over the kit's print
namespace Go.Proofs.YtijfddobandcdaaDoor.X
open Go.RowKit Go.Proofs.YtijfddobandcdaaDoorW.PrintWords Go.Proofs.YtijfddobandcdaaDoorW.PrintLast Go.Proofs.YtijfddobandcdaaDoorW.PrintMore
attribute [local go_sem] max2_int min2_int max_two min_two max_three min_three max_four min_four
set_option linter.unusedVariables false
set_option linter.unusedSimpArgs false

/-! ### sweep_town_isLayout: function 55 -/
def sweep_town_isLayout.l0 : Nat → List Int → List Int → Int → List Int → Int → Int → Option (Bool)
  | 0, _, _, _, _, _, _ => none
  | k + 1, x0, x1, x5, x8, x9, x10 => if x10 < x9 then (if 0 ≤ x10 then (if x10 < (x8.length : Int) then (if (rd x8 x10) < 0 then (some false) else (if (rd x8 x10) ≥ (x0.length : Int) then (some false) else (if 0 ≤ (rd x8 x10) then (sweep_town_isLayout.l0 k x0 x1 (Go.bits .or .i64 x5 (shl .i64 1 (rd x8 x10))) x8 x9 (wrap64 (x10 + 1))) else (none)))) else (none)) else (none)) else (if (x1.length : Int) = (x0.length : Int) then ((sweep_town_all.f x0).bind fun t218 => (some (x5 == t218))) else (some false))
def sweep_town_isLayout.f (k : Nat) (l0 : List Int) (l1 : List Int) : Option (Bool) := sweep_town_isLayout.l0 k l0 l1 0 l1 (l1.length : Int) 0
theorem sweep_town_isLayout.mono_l : ∀ k, (∀ y0 y1 y2 y3 y4 y5, LeO (sweep_town_isLayout.l0 k y0 y1 y2 y3 y4 y5) (sweep_town_isLayout.l0 (k + 1) y0 y1 y2 y3 y4 y5))
  | 0 => fun _ _ _ _ _ _ r h => by simp [sweep_town_isLayout.l0] at h
  | k + 1 => by
    have ih0 := sweep_town_isLayout.mono_l k
    · intro y0 y1 y2 y3 y4 y5
      unfold sweep_town_isLayout.l0
      repeat' first
      | (with_reducible exact ih0 _ _ _ _ _ _)
      | (with_reducible exact LeO.refl _)
      | (with_reducible exact LeO.none _)
      | (with_reducible refine LeO.ite ?_ ?_)
      | (with_reducible refine LeO.bind ?_ (fun _ => ?_))
      | exact ih0 _ _ _ _ _ _
      | exact LeO.none _
      | refine LeO.ite ?_ ?_
      | refine LeO.bind ?_ (fun _ => ?_)
theorem sweep_town_isLayout.mono : ∀ a0 a1 k, LeO (sweep_town_isLayout.f k a0 a1) (sweep_town_isLayout.f (k + 1) a0 a1) := by
  intro a0 a1 k
  have ih0 := sweep_town_isLayout.mono_l k
  unfold sweep_town_isLayout.f
  repeat' first
      | (with_reducible exact ih0 _ _ _ _ _ _)
      | (with_reducible exact LeO.refl _)
      | (with_reducible exact LeO.none _)
      | (with_reducible refine LeO.ite ?_ ?_)
      | (with_reducible refine LeO.bind ?_ (fun _ => ?_))
      | exact ih0 _ _ _ _ _ _
      | exact LeO.none _
      | refine LeO.ite ?_ ?_
      | refine LeO.bind ?_ (fun _ => ?_)
set_option maxHeartbeats 8000000 in
set_option maxRecDepth 100000 in
theorem sweep_town_isLayout.calls (k : Nat) (A0 : Option Addr) (c0 : Nat) (l0 : List Int) (A1 : Option Addr) (c1 : Nat) (l1 : List Int) (r : Bool) (w : World) (hr0 : Kd.C (Kd.int .i64) w A0 l0.length l0) (hc0 : l0.length ≤ c0) (hr1 : Kd.C (Kd.int .i64) w A1 l1.length l1) (hc1 : l1.length ≤ c1) (h : sweep_town_isLayout.f k l0 l1 = some r) :
    Calls Tryd.prog 55 #[.slice A0 l0.length c0, .slice A1 l1.length c1] w fun e w' => e = .returned (.bool r) ∧ Drawn0 w w' := by
  have HR0 := Aside0.mk hr0
  have HC0 := Aside0.mk hc0
  clear hr0 hc0
  have HR1 := Aside0.mk hr1
  have HC1 := Aside0.mk hc1
  clear hr1 hc1
  have H : (sweep_town_isLayout.l0 k l0 l1 0 l1 (l1.length : Int) 0) = some r := h
  clear h
  have H' := Aside0.mk H
  clear H
  go_enter Tryd.func55, Tryd.ntmps55
  go_wp2
  go_loopg [5, 10] k (fun kq v5 v10 w' => ∃ (x5_1 : Int) (x10_1 : Int), v5 = .int .i64 x5_1 ∧ v10 = .int .i64 x10_1 ∧ Aside0 (sweep_town_isLayout.l0 kq l0 l1 x5_1 l1 (l1.length : Int) x10_1 = some r) ∧ Aside0 (kq ≤ k) ∧ Drawn0 w w')
  case atStart => exact ⟨(0), (0), (by first | rfl | (simp; done) | (simp [*]; done)), (by first | rfl | (simp; done) | (simp [*]; done)), H', ⟨Nat.le_refl _⟩, by repeat (first | exact Drawn0.refl _ | apply Drawn0.step)⟩
  case round =>
    clear H'
    try clear c1
    try clear p2
    obtain ⟨x5_1, x10_1, rfl, rfl, HA, HK1, ⟨m1, rfl⟩⟩ := hrel
    cases gk with
    | zero => exact absurd HA.out (by simp [sweep_town_isLayout.l0])
    | succ k1 =>
      have H := HA.out
      clear HA
      simp only [sweep_town_isLayout.l0] at H
      by_cases c3 : x10_1 < (l1.length : Int)
      · rw [if_pos c3] at H
        have c3b0 : decide (x10_1 < (l1.length : Int)) = true := decide_eq_true c3
        clear c3
        by_cases c4 : 0 ≤ x10_1
        · rw [if_pos c4] at H
          have c4b0 : decide (0 ≤ x10_1) = true := decide_eq_true c4
          clear c4
          by_cases c5 : x10_1 < (l1.length : Int)
          · rw [if_pos c5] at H
            have c5b0 : decide (x10_1 < (l1.length : Int)) = true := decide_eq_true c5
            clear c5
            by_cases c6 : (rd l1 x10_1) < 0
            · rw [if_pos c6] at H
              have c6b0 : decide ((rd l1 x10_1) < 0) = true := decide_eq_true c6
              clear c6
              obtain rfl := Option.some.inj H
              have p217 : 0 ≤ (x10_1 : Int) := of_decide_eq_true (by first | (with_reducible assumption) | assumption)
              have q217 : x10_1 < (l1.length : Int) := of_decide_eq_true (by first | (with_reducible assumption) | assumption)
              obtain ⟨ad217, e217, hx217_0⟩ := Kd.at_int HR1.out x10_1 p217 q217
              cases e217
              replace p217 := eq_true p217
              replace q217 := eq_true q217
              go_wp2
              go_ret
              exact ⟨by first | rfl | (simp; done) | (simp [*]; done), by repeat (first | exact Drawn0.refl _ | apply Drawn0.step)⟩
            · rw [if_neg c6] at H
              have c6b0 : decide ((rd l1 x10_1) < 0) = false := decide_eq_false c6
              clear c6
              by_cases c7 : (rd l1 x10_1) ≥ (l0.length : Int)
              · rw [if_pos c7] at H
                have c7b0 : decide ((l0.length : Int) ≤ (rd l1 x10_1)) = true := decide_eq_true c7
                clear c7
                obtain rfl := Option.some.inj H
                have p217 : 0 ≤ (x10_1 : Int) := of_decide_eq_true (by first | (with_reducible assumption) | assumption)
                have q217 : x10_1 < (l1.length : Int) := of_decide_eq_true (by first | (with_reducible assumption) | assumption)
                obtain ⟨ad217, e217, hx217_0⟩ := Kd.at_int HR1.out x10_1 p217 q217
                cases e217
                replace p217 := eq_true p217
                replace q217 := eq_true q217
                go_wp2
                go_ret
                exact ⟨by first | rfl | (simp; done) | (simp [*]; done), by repeat (first | exact Drawn0.refl _ | apply Drawn0.step)⟩
              · rw [if_neg c7] at H
                have c7b0 : decide ((l0.length : Int) ≤ (rd l1 x10_1)) = false := decide_eq_false c7
                clear c7
                by_cases c8 : 0 ≤ (rd l1 x10_1)
                · rw [if_pos c8] at H
                  have c8b0 := eq_true c8
                  have c8b1 : decide (0 ≤ (rd l1 x10_1)) = true := decide_eq_true c8
                  clear c8
                  obtain ⟨ji9, hji9⟩ : ∃ j_ : Int, (shl .i64 1 (rd l1 x10_1)) = j_ := ⟨_, rfl⟩
                  replace H : (sweep_town_isLayout.l0 k1 l0 l1 (Go.bits .or .i64 x5_1 (ji9)) l1 (l1.length : Int) (wrap64 (x10_1 + 1))) = some r := by first | (rw [hji9] at H; exact H) | (simp only [hji9] at H ⊢; exact H)
                  have hji9_ : (IntKind.i64.wrap (1 * 2 ^ min (rd l1 x10_1).toNat 64)) = ji9 := hji9
                  have hji9z : (rd l1 x10_1) ≤ 64 → (IntKind.i64.wrap (1 * 2 ^ (rd l1 x10_1).toNat)) = ji9 := shl_small hji9
                  have hji9u : (IntKind.i64.wrap (2 ^ min (rd l1 x10_1).toNat 64)) = ji9 := by have h_ := hji9_; rw [Int.one_mul] at h_; exact h_
                  have hji9v : (rd l1 x10_1) ≤ 64 → (IntKind.i64.wrap (2 ^ (rd l1 x10_1).toNat)) = ji9 := fun hle_ => by have h_ := hji9z hle_; rw [Int.one_mul] at h_; exact h_
                  have hji9y : (wrap64 (1 * 2 ^ min (rd l1 x10_1).toNat 64)) = ji9 := (i64_w _).symm.trans hji9_
                  have hji9x : (rd l1 x10_1) ≤ 64 → (wrap64 (1 * 2 ^ (rd l1 x10_1).toNat)) = ji9 := fun h_ => (i64_w _).symm.trans (hji9z h_)
                  have H' := Aside0.mk H
                  clear H
                  have p217 : 0 ≤ (x10_1 : Int) := of_decide_eq_true (by first | (with_reducible assumption) | assumption)
                  have q217 : x10_1 < (l1.length : Int) := of_decide_eq_true (by first | (with_reducible assumption) | assumption)
                  obtain ⟨ad217, e217, hx217_0⟩ := Kd.at_int HR1.out x10_1 p217 q217
                  cases e217
                  replace p217 := eq_true p217
                  replace q217 := eq_true q217
                  go_wp2
                  go_roundg k1
                  case measure => have := HK1.out; omega
                  case rel => exact ⟨(Go.bits .or .i64 x5_1 (ji9)), (wrap64 (x10_1 + 1)), (by first | rfl | (simp; done) | (simp only [← hji9] <;> (first | rfl | simp)) | (simp [*]; done)), (by first | rfl | (simp; done) | (simp [*]; done)), H', ⟨by have := HK1.out; omega⟩, by repeat (first | exact Drawn0.refl _ | apply Drawn0.step)⟩
                · rw [if_neg c8] at H
                  exact absurd H (by simp)
          · rw [if_neg c5] at H
            exact absurd H (by simp)
        · rw [if_neg c4] at H
          exact absurd H (by simp)
      · rw [if_neg c3] at H
        have c3b0 : decide (x10_1 < (l1.length : Int)) = false := decide_eq_false c3
        clear c3
        by_cases c10 : (l1.length : Int) = (l0.length : Int)
        · rw [if_pos c10] at H
          have c10b0 : ((l1.length : Int) == (l0.length : Int)) = true := beq_iff_eq.mpr c10
          have c10b1 : ((l1.length : Int) != (l0.length : Int)) = false := bne_eq_false_iff_eq.mpr c10
          have c10b2 : (l1.length == l0.length) = true := by first | simpa using c10 | (simp at c10 ⊢; omega)
          clear c10
          replace H := Option.bind_eq_some_iff.mp H
          obtain ⟨t218, A110, H⟩ := H
          replace H : (some (x5_1 == t218)) = some r := H
          have A11 := Aside0.mk A110
          clear A110
          obtain rfl := Option.some.inj H
          go_wp2_with (first | (go_at_call 61; (with_reducible refine (sweep_town_all.calls _ _ l0 t218 _ ?side1 ?side2 A11.out).mono ?_); (case side1 => repeat (first | exact HR0.out | (with_reducible refine Kd.C_alloc ?_ _) | (with_reducible refine Kd.C_drewN ?_ _) | (with_reducible refine Kd.C_drew ?_))); (case side2 => exact HC0.out); rintro e w' ⟨rfl, ⟨nd, rfl⟩⟩))
          go_ret
          exact ⟨by first | rfl | (simp; done) | (simp [*]; done), by repeat (first | exact Drawn0.refl _ | apply Drawn0.step)⟩
        · rw [if_neg c10] at H
          have c10b0 : ((l1.length : Int) == (l0.length : Int)) = false := beq_eq_false_iff_ne.mpr c10
          have c10b1 : ((l1.length : Int) != (l0.length : Int)) = true := bne_iff_ne.mpr c10
          have c10b2 : (l1.length == l0.length) = false := by first | simpa using c10 | (simp at c10 ⊢; omega)
          obtain rfl := Option.some.inj H
          go_wp2
          go_ret
          exact ⟨by first | rfl | (simp; done) | (simp [*]; done), by repeat (first | exact Drawn0.refl _ | apply Drawn0.step)⟩

end Go.Proofs.YtijfddobandcdaaDoor.X
end
section
-- by ownprint.py (wip/tool), over the kit's print
namespace Go.Proofs.YtijfddobandcdaaDoor.X
open Go.RowKit Go.Proofs.YtijfddobandcdaaDoorW.PrintWords Go.Proofs.YtijfddobandcdaaDoorW.PrintLast Go.Proofs.YtijfddobandcdaaDoorW.PrintMore
attribute [local go_sem] max2_int min2_int max_two min_two max_three min_three max_four min_four
set_option linter.unusedVariables false
set_option linter.unusedSimpArgs false

/-! ### sweep_town_bags: function 52 -/
def sweep_town_bags.l0 : Nat → List Int → List Int → Int → List Int → Int → Int → Option (List Int)
  | 0, _, _, _, _, _, _ => none
  | k + 1, x0, x5, x6, x9, x10, x11 => if x11 < x10 then (if 0 ≤ x11 then (if x11 < (x9.length : Int) then ((sweep_town_border.f x0 x6).bind fun t194 => (if 0 ≤ (rd x9 x11) then (if x5.length < 17592186044416 then (sweep_town_bags.l0 k x0 (x5 ++ [Go.bits .or .i64 t194 (shl .i64 1 (rd x9 x11))]) (Go.bits .or .i64 x6 (shl .i64 1 (rd x9 x11))) x9 x10 (wrap64 (x11 + 1))) else (none)) else (none))) else (none)) else (none)) else (some x5)
def sweep_town_bags.f (k : Nat) (l0 : List Int) (l1 : List Int) : Option (List Int) := sweep_town_bags.l0 k l0 ([] : List Int) 0 l1 (l1.length : Int) 0
theorem sweep_town_bags.mono_l : ∀ k, (∀ y0 y1 y2 y3 y4 y5, LeO (sweep_town_bags.l0 k y0 y1 y2 y3 y4 y5) (sweep_town_bags.l0 (k + 1) y0 y1 y2 y3 y4 y5))
  | 0 => fun _ _ _ _ _ _ r h => by simp [sweep_town_bags.l0] at h
  | k + 1 => by
    have ih0 := sweep_town_bags.mono_l k
    · intro y0 y1 y2 y3 y4 y5
      unfold sweep_town_bags.l0
      repeat' first
      | (with_reducible exact ih0 _ _ _ _ _ _)
      | (with_reducible exact LeO.refl _)
      | (with_reducible exact LeO.none _)
      | (with_reducible refine LeO.ite ?_ ?_)
      | (with_reducible refine LeO.bind ?_ (fun _ => ?_))
      | exact ih0 _ _ _ _ _ _
      | exact LeO.none _
      | refine LeO.ite ?_ ?_
      | refine LeO.bind ?_ (fun _ => ?_)
theorem sweep_town_bags.mono : ∀ a0 a1 k, LeO (sweep_town_bags.f k a0 a1) (sweep_town_bags.f (k + 1) a0 a1) := by
  intro a0 a1 k
  have ih0 := sweep_town_bags.mono_l k
  unfold sweep_town_bags.f
  repeat' first
      | (with_reducible exact ih0 _ _ _ _ _ _)
      | (with_reducible exact LeO.refl _)
      | (with_reducible exact LeO.none _)
      | (with_reducible refine LeO.ite ?_ ?_)
      | (with_reducible refine LeO.bind ?_ (fun _ => ?_))
      | exact ih0 _ _ _ _ _ _
      | exact LeO.none _
      | refine LeO.ite ?_ ?_
      | refine LeO.bind ?_ (fun _ => ?_)
def sweep_town_bags.T6 : Bool × List (List Nat × List Nat) := (true, [([], []), ([], []), ([], []), ([1, 2], [1, 2]), ([], []), ([4], [4]), ([3, 5], [3, 5]), ([6], [6]), ([0, 7, 3], [0, 7]), ([8, 8, 0, 1, 2, 3, 4, 5, 6, 7, 8], [0, 8])])
def sweep_town_bags.B6 : List Nat := [0, 0, 0, 6, 0, 16, 62, 126, 255, 511]
theorem sweep_town_bags.tab6 : rtab .any (opsOf Tryd.f52 6) = sweep_town_bags.T6 := by kernel_rfl
theorem sweep_town_bags.bits6 : waitsOk sweep_town_bags.T6.2 sweep_town_bags.B6 = true := by kernel_rfl
set_option maxHeartbeats 8000000 in
set_option maxRecDepth 100000 in
theorem sweep_town_bags.calls (k : Nat) (A0 : Option Addr) (c0 : Nat) (l0 : List Int) (A1 : Option Addr) (c1 : Nat) (l1 : List Int) (r : List Int) (w : World) (hGL : GL w) (hr0 : Kd.C (Kd.int .i64) w A0 l0.length l0) (hc0 : l0.length ≤ c0) (hr1 : Kd.C (Kd.int .i64) w A1 l1.length l1) (hc1 : l1.length ≤ c1) (h : sweep_town_bags.f k l0 l1 = some r) :
    Calls Tryd.prog 52 #[.slice A0 l0.length c0, .slice A1 l1.length c1] w fun e w' => ∃ v0_ : Value, e = .returned (v0_) ∧ Kd.R (Kd.int .i64) 3 w' w.heap.size (fun _ => True) v0_ r ∧ Below w.heap.size w w' := by
  have HGL := Aside0.mk hGL
  clear hGL
  have HR0 := Aside0.mk hr0
  have HC0 := Aside0.mk hc0
  clear hr0 hc0
  have HR1 := Aside0.mk hr1
  have HC1 := Aside0.mk hc1
  clear hr1 hc1
  have HB := Aside0.mk (Below.refl w.heap.size w)
  have H : (sweep_town_bags.l0 k l0 ([] : List Int) 0 l1 (l1.length : Int) 0) = some r := h
  clear h
  have H' := Aside0.mk H
  clear H
  go_enter Tryd.func52, Tryd.ntmps52
  go_wp2
  go_loopg [5, 6, 11] k (fun kq v5 v6 v11 w' => ∃ (x5_1 : List Int) (x6_1 : Int) (x11_1 : Int), v6 = .int .i64 x6_1 ∧ v11 = .int .i64 x11_1 ∧ Aside0 (sweep_town_bags.l0 kq l0 x5_1 x6_1 l1 (l1.length : Int) x11_1 = some r) ∧ Aside0 (kq ≤ k) ∧ Aside0 (Kd.R (Kd.int .i64) 3 w' w.heap.size (fun _ => True) v5 x5_1) ∧ Aside0 (Below w.heap.size w w'))
  case atStart => exact ⟨(([] : List Int)), (0), (0), (by first | rfl | (simp; done) | (simp [*]; done)), (by first | rfl | (simp; done) | (simp [*]; done)), H', ⟨Nat.le_refl _⟩, ⟨by first | exact Kd.R_nil _ _ _ _ _ | exact Kd.N_nil _ _ _ _ _ | exact Kd.V_nil _ _ _ _ _ | exact Kd.Q_nil _ _ _ _ _ | exact Kd.S_nil _ _ _ _ _⟩, ⟨by repeat (first | (with_reducible first | exact HB.out | apply below_alloc | apply pw_below_drewN | apply below_drew1) | exact HB.out)⟩⟩
  case round =>
    clear H'
    try clear c1
    try clear p2
    obtain ⟨x5_1, x6_1, x11_1, rfl, rfl, HA, HK1, HO_5, HB⟩ := hrel
    cases gk with
    | zero => exact absurd HA.out (by simp [sweep_town_bags.l0])
    | succ k1 =>
      have H := HA.out
      clear HA
      simp only [sweep_town_bags.l0] at H
      by_cases c3 : x11_1 < (l1.length : Int)
      · rw [if_pos c3] at H
        have c3b0 : decide (x11_1 < (l1.length : Int)) = true := decide_eq_true c3
        clear c3
        by_cases c4 : 0 ≤ x11_1
        · rw [if_pos c4] at H
          have c4b0 : decide (0 ≤ x11_1) = true := decide_eq_true c4
          clear c4
          by_cases c5 : x11_1 < (l1.length : Int)
          · rw [if_pos c5] at H
            have c5b0 : decide (x11_1 < (l1.length : Int)) = true := decide_eq_true c5
            clear c5
            replace H := Option.bind_eq_some_iff.mp H
            obtain ⟨t194, A60, H⟩ := H
            replace H : (if 0 ≤ (rd l1 x11_1) then (if x5_1.length < 17592186044416 then (sweep_town_bags.l0 k1 l0 (x5_1 ++ [Go.bits .or .i64 t194 (shl .i64 1 (rd l1 x11_1))]) (Go.bits .or .i64 x6_1 (shl .i64 1 (rd l1 x11_1))) l1 (l1.length : Int) (wrap64 (x11_1 + 1))) else (none)) else (none)) = some r := H
            have A6 := Aside0.mk A60
            clear A60
            by_cases c7 : 0 ≤ (rd l1 x11_1)
            · rw [if_pos c7] at H
              have c7b0 := eq_true c7
              have c7b1 : decide (0 ≤ (rd l1 x11_1)) = true := decide_eq_true c7
              clear c7
              obtain ⟨ji8, hji8⟩ : ∃ j_ : Int, (shl .i64 1 (rd l1 x11_1)) = j_ := ⟨_, rfl⟩
              replace H : (if x5_1.length < 17592186044416 then (sweep_town_bags.l0 k1 l0 (x5_1 ++ [Go.bits .or .i64 t194 (ji8)]) (Go.bits .or .i64 x6_1 (ji8)) l1 (l1.length : Int) (wrap64 (x11_1 + 1))) else (none)) = some r := by first | (rw [hji8] at H; exact H) | (simp only [hji8] at H ⊢; exact H)
              (try rw [hji8] at A6)
              have hji8_ : (IntKind.i64.wrap (1 * 2 ^ min (rd l1 x11_1).toNat 64)) = ji8 := hji8
              have hji8z : (rd l1 x11_1) ≤ 64 → (IntKind.i64.wrap (1 * 2 ^ (rd l1 x11_1).toNat)) = ji8 := shl_small hji8
              have hji8u : (IntKind.i64.wrap (2 ^ min (rd l1 x11_1).toNat 64)) = ji8 := by have h_ := hji8_; rw [Int.one_mul] at h_; exact h_
              have hji8v : (rd l1 x11_1) ≤ 64 → (IntKind.i64.wrap (2 ^ (rd l1 x11_1).toNat)) = ji8 := fun hle_ => by have h_ := hji8z hle_; rw [Int.one_mul] at h_; exact h_
              have hji8y : (wrap64 (1 * 2 ^ min (rd l1 x11_1).toNat 64)) = ji8 := (i64_w _).symm.trans hji8_
              have hji8x : (rd l1 x11_1) ≤ 64 → (wrap64 (1 * 2 ^ (rd l1 x11_1).toNat)) = ji8 := fun h_ => (i64_w _).symm.trans (hji8z h_)
              by_cases c9 : x5_1.length < 17592186044416
              · rw [if_pos c9] at H
                have LMc9 := Aside0.mk c9
                clear c9
                obtain ⟨y195, hy195⟩ : ∃ y_ : List Int, y_ = (x5_1 ++ [Go.bits .or .i64 t194 (ji8)]) := ⟨_, rfl⟩
                replace H : (sweep_town_bags.l0 k1 l0 y195 (Go.bits .or .i64 x6_1 (ji8)) l1 (l1.length : Int) (wrap64 (x11_1 + 1))) = some r := by first | (rw [hy195]; with_reducible exact H) | (have H2_ := (Option.bind_some _ _).symm.trans H; rw [hy195]; with_reducible exact H2_) | (have H2_ := (Option.bind_some _ _).symm.trans H; with_reducible exact H2_) | with_reducible exact H | (rw [hy195]; exact H) | exact H
                have Ny195 := Aside0.mk hy195
                clear hy195
                have c10b0 := eq_true (of_decide_eq_true (by first | (with_reducible assumption) | assumption) : 0 ≤ (rd l1 x11_1))
                have H' := Aside0.mk H
                clear H
                have p193 : 0 ≤ (x11_1 : Int) := of_decide_eq_true (by first | (with_reducible assumption) | assumption)
                have q193 : x11_1 < (l1.length : Int) := of_decide_eq_true (by first | (with_reducible assumption) | assumption)
                obtain ⟨ad193, e193, hx193_0⟩ := Kd.at_int HR1.out x11_1 p193 q193
                cases e193
                replace hx193_0 := (HB.out.cell (World.block_lt_of_cell? w _ hx193_0)).trans hx193_0
                replace p193 := eq_true p193
                replace q193 := eq_true q193
                try go_wp2
                have n0_ := Aside0.mk (Kd.R_drew HO_5.out)
                have n1_ := Aside0.mk (below_drew1 HB.out)
                clear HO_5
                clear HB
                have HO_5 := n0_
                have HB := n1_
                clear n0_ n1_
                refine start_ (n := 10) (S := fun w' => True) (ds := []) #[false, false, false, false, false, false, false, false, false, false] (by kernel_rfl) rfl rfl trivial (fun hHeld => ?_); refine with_tabW sweep_town_bags.tab6 sweep_town_bags.bits6 (fun HT_ HW_ => ?_)
                generalize wr.drew = w11 at HO_5 HB hHeld ⊢
                refine pure_ (i := 0) (N := some 15) (v := ?_) (a' := ?_) #[true, false, false, false, false, false, false, false, false, false] rfl rfl (any_of HT_.out (by kernel_rfl)) (fun _ _ _ h => h) (Or.inl ⟨by rfl, ?_⟩) ?_ ?_
                rotate_left
                · intro w'
                  go_simp
                  with_reducible rfl
                rotate_left
                · simp only [Act.put, List.setIfInBounds_toArray, List.set_cons_zero, List.set_cons_succ, i64_w, i32_w]
                  rfl
                refine pure_ (i := 1) (N := some 16) (v := ?_) (a' := ?_) #[true, true, false, false, false, false, false, false, false, false] rfl rfl (any_of HT_.out (by kernel_rfl)) (fun _ _ _ h => h) (Or.inl ⟨by rfl, ?_⟩) ?_ ?_
                rotate_left
                · intro w'
                  go_simp
                  with_reducible rfl
                rotate_left
                · simp only [Act.put, List.setIfInBounds_toArray, List.set_cons_zero, List.set_cons_succ, i64_w, i32_w]
                  rfl
                refine pure_ (i := 2) (N := some 17) (v := ?_) (a' := ?_) #[true, true, true, false, false, false, false, false, false, false] rfl rfl (any_of HT_.out (by kernel_rfl)) (fun _ _ _ h => h) (Or.inl ⟨by rfl, ?_⟩) ?_ ?_
                rotate_left
                · intro w'
                  go_simp
                  with_reducible rfl
                rotate_left
                · simp only [Act.put, List.setIfInBounds_toArray, List.set_cons_zero, List.set_cons_succ, i64_w, i32_w]
                  rfl
                refine pure_ (i := 4) (N := some 19) (v := ?_) (a' := ?_) #[true, true, true, false, true, false, false, false, false, false] rfl rfl (any_of HT_.out (by kernel_rfl)) (fun _ _ _ h => h) (Or.inl ⟨by rfl, ?_⟩) ?_ ?_
                rotate_left
                · intro w'
                  go_simp
                  with_reducible rfl
                rotate_left
                · simp only [Act.put, List.setIfInBounds_toArray, List.set_cons_zero, List.set_cons_succ, i64_w, i32_w]
                  rfl
                refine pure_ (i := 5) (N := some 20) (v := ?_) (a' := ?_) #[true, true, true, false, true, true, false, false, false, false] rfl rfl (any_of HT_.out (by kernel_rfl)) (fun _ _ _ h => h) (Or.inl ⟨by rfl, ?_⟩) ?_ ?_
                rotate_left
                · intro w'
                  go_simp
                  with_reducible rfl
                rotate_left
                · simp only [Act.put, List.setIfInBounds_toArray, List.set_cons_zero, List.set_cons_succ, i64_w, i32_w]
                  rfl
                refine one_ (i := 3) (N := some 18) #[true, true, true, true, true, true, false, false, false, false] rfl rfl (one_of HT_.out (by kernel_rfl)) (by decide) (fun K hK => ?_)
                refine goes_ Tryd.func73 (by kernel_rfl) rfl #[.slice A0 l0.length c0, .int .i64 x6_1] (by rfl) rfl rfl (by (try simp only [List.map_toArray, List.map_cons, List.map_nil]); first | done | rfl | (simp only [List.length_drop, List.length_take]; rfl)) ?_
                with_reducible refine (sweep_town_border.calls (hGL := (by repeat (first | (with_reducible exact HGL.out) | (with_reducible exact GL_below HGL.out HB.out) | (with_reducible refine GL_alloc ?_ _) | (with_reducible refine GL_drewN ?_ _) | (with_reducible refine GL_drew ?_)))) _ _ l0 x6_1 t194 _ ?side1 ?side2 A6.out).mono ?_
                (case side1 => repeat (first | exact (Kd.C_below HR0.out HB.out) | (with_reducible refine Kd.C_alloc ?_ _) | (with_reducible refine Kd.C_drewN ?_ _) | (with_reducible refine Kd.C_drew ?_)))
                (case side2 => exact HC0.out)
                rintro e w12 ⟨rfl, hb⟩
                refine ⟨_, rfl, ?_⟩
                have n0_ := Aside0.mk (Kd.R_below (by (with_reducible repeat (first | apply Kd.R_alloc | apply Kd.R_drewN | apply Kd.R_drew)); exact HO_5.out) hb)
                have n1_ := Aside0.mk (below_step (by repeat (first | (with_reducible first | exact HB.out | apply below_alloc | apply pw_below_drewN | apply below_drew1) | exact HB.out)) hb)
                clear HO_5
                clear HB
                have HO_5 := n0_
                have HB := n1_
                clear n0_ n1_
                (try clear hb)
                (try clear hb2)
                (try clear hk)
                (try clear hi)
                refine hK.out _ _ trivial (fun hHeld => ?_)
                clear hK K
                refine norm_ (a' := ?_) ?_ ?_
                rotate_left
                · show Act.put _ (some 18) _ = _
                  simp only [Act.put, List.setIfInBounds_toArray, List.set_cons_zero, List.set_cons_succ, i64_w, i32_w]
                  rfl
                refine pure_ (i := 6) (N := some 21) (v := ?_) (a' := ?_) #[true, true, true, true, true, true, true, false, false, false] rfl rfl (any_of HT_.out (by kernel_rfl)) (fun _ _ _ h => h) (Or.inl ⟨by rfl, ?_⟩) ?_ ?_
                rotate_left
                · intro w'
                  go_simp
                  with_reducible rfl
                rotate_left
                · simp only [Act.put, List.setIfInBounds_toArray, List.set_cons_zero, List.set_cons_succ, i64_w, i32_w]
                  rfl
                refine one_ (i := 7) (N := some 22) #[true, true, true, true, true, true, true, true, false, false] rfl rfl (one_of HT_.out (by kernel_rfl)) (by decide) (fun K hK => ?_)
                refine value_ (w1 := ?_) (v := ?_) (by rfl) rfl ?_ ?_
                rotate_left 2
                · go_simp
                  constructor
                  · rfl
                  · rfl
                refine hK.out _ _ trivial (fun hHeld => ?_)
                clear hK K
                refine norm_ (a' := ?_) ?_ ?_
                rotate_left
                · show Act.put _ (some 22) _ = _
                  simp only [Act.put, List.setIfInBounds_toArray, List.set_cons_zero, List.set_cons_succ, i64_w, i32_w]
                  rfl
                refine one_ (i := 8) (N := some 23) #[true, true, true, true, true, true, true, true, true, false] rfl rfl (one_of HT_.out (by kernel_rfl)) (by decide) (fun K hK => ?_)
                refine Kd.R_append_step (Kd.int .i64) (w0 := w) w.heap.size (by rfl) (.tmp 15) (.tmp 22) 22 3 (.int .i64 0) 8 rfl Tryd.underlying22 info3 rfl (by decide) (by omega) u5 x5_1 (Go.bits .or .i64 t194 (ji8)) [.int .i64 (Go.bits .or .i64 t194 (ji8))] (fun _ => True) (fun _ => False) rfl rfl ?aP (fun _ hk => hk.elim) ?aF ?aO ?aB ?aS ?aL ?_
                (case aP => exact rfl)
                (case aB => exact (by repeat (first | (with_reducible first | exact HB.out | apply below_alloc | apply pw_below_drewN | apply below_drew1) | exact HB.out)))
                (case aF => exact (fun _ _ => trivial))
                (case aO => exact (by (with_reducible repeat (first | apply Kd.R_alloc | apply Kd.R_drewN | apply Kd.R_drew)); exact HO_5.out))
                (case aS => exact (below_size (by repeat (first | (with_reducible first | exact HB.out | apply below_alloc | apply pw_below_drewN | apply below_drew1) | exact HB.out))))
                (case aL => have := LMc9.out; omega)
                intro v196 w13 ho hb hg hat
                rw [← Ny195.out] at ho
                have n0_ := Aside0.mk (hb)
                have n1_ := Aside0.mk (ho)
                clear HB
                clear HO_5
                have HB := n0_
                have HO197 := n1_
                clear n0_ n1_
                clear ho hb hg hat
                refine hK.out _ _ trivial (fun hHeld => ?_)
                clear hK K
                refine norm_ (a' := ?_) ?_ ?_
                rotate_left
                · show Act.put _ (some 23) _ = _
                  simp only [Act.put, List.setIfInBounds_toArray, List.set_cons_zero, List.set_cons_succ, i64_w, i32_w]
                  rfl
                refine pure_ (i := 9) (N := some 5) (v := ?_) (a' := ?_) #[true, true, true, true, true, true, true, true, true, true] rfl rfl (any_of HT_.out (by kernel_rfl)) (fun _ _ _ h => h) (Or.inl ⟨by rfl, ?_⟩) ?_ ?_
                rotate_left
                · intro w'
                  go_simp
                  with_reducible rfl
                rotate_left
                · simp only [Act.put, List.setIfInBounds_toArray, List.set_cons_zero, List.set_cons_succ, i64_w, i32_w]
                  rfl
                refine done_ (done_of HT_.out (by kernel_rfl)) ?_
                try go_wp2
                go_roundg k1
                case measure => have := HK1.out; omega
                case rel => exact ⟨(y195), (Go.bits .or .i64 x6_1 (ji8)), (wrap64 (x11_1 + 1)), (by first | rfl | (simp; done) | (simp only [← hji8] <;> (first | rfl | simp)) | (simp [*]; done)), (by first | rfl | (simp; done) | (simp [*]; done)), H', ⟨by have := HK1.out; omega⟩, ⟨by (with_reducible repeat (first | apply Kd.R_alloc | apply Kd.R_drewN | apply Kd.R_drew)); exact HO197.out⟩, ⟨by repeat (first | (with_reducible first | exact HB.out | apply below_alloc | apply pw_below_drewN | apply below_drew1) | exact HB.out)⟩⟩
              · rw [if_neg c9] at H
                exact absurd H (by simp)
            · rw [if_neg c7] at H
              exact absurd H (by simp)
          · rw [if_neg c5] at H
            exact absurd H (by simp)
        · rw [if_neg c4] at H
          exact absurd H (by simp)
      · rw [if_neg c3] at H
        have c3b0 : decide (x11_1 < (l1.length : Int)) = false := decide_eq_false c3
        clear c3
        obtain rfl := Option.some.inj H
        go_wp2
        go_ret
        exact ⟨_, by first | rfl | (simp [errW_none, errW_some] <;> rfl) | (simp [*, errW_none, errW_some] <;> rfl), by (with_reducible repeat (first | apply Kd.R_alloc | apply Kd.R_drewN | apply Kd.R_drew)); exact HO_5.out, by repeat (first | (with_reducible first | exact HB.out | apply below_alloc | apply pw_below_drewN | apply below_drew1) | exact HB.out)⟩

end Go.Proofs.YtijfddobandcdaaDoor.X
end
section
-- by ownprint.py (wip/tool), over the kit's print
namespace Go.Proofs.YtijfddobandcdaaDoor.X
open Go.RowKit Go.Proofs.YtijfddobandcdaaDoorW.PrintWords Go.Proofs.YtijfddobandcdaaDoorW.PrintLast Go.Proofs.YtijfddobandcdaaDoorW.PrintMore
attribute [local go_sem] max2_int min2_int max_two min_two max_three min_three max_four min_four
set_option linter.unusedVariables false
set_option linter.unusedSimpArgs false

/-! ### lampblackref02_IsOrder: function 30 -/
def lampblackref02_IsOrder.l0 : Nat → List Int → Int → Int → List Int → Int → Int → Option (Bool)
  | 0, _, _, _, _, _, _ => none
  | k + 1, x0, x1, x5, x8, x9, x10 => if x10 < x9 then (if 0 ≤ x10 then (if x10 < (x8.length : Int) then (if (rd x8 x10) < 0 then (some false) else (if (rd x8 x10) ≥ x1 then (some false) else (if 0 ≤ (rd x8 x10) then (if (Go.bits .and .i64 (shr .i64 x5 (rd x8 x10)) 1) = 1 then (some false) else (lampblackref02_IsOrder.l0 k x0 x1 (Go.bits .or .i64 x5 (shl .i64 1 (rd x8 x10))) x8 x9 (wrap64 (x10 + 1)))) else (none)))) else (none)) else (none)) else (some ((x0.length : Int) == x1))
def lampblackref02_IsOrder.f (k : Nat) (l0 : List Int) (a1 : Int) : Option (Bool) := lampblackref02_IsOrder.l0 k l0 a1 0 l0 (l0.length : Int) 0
theorem lampblackref02_IsOrder.mono_l : ∀ k, (∀ y0 y1 y2 y3 y4 y5, LeO (lampblackref02_IsOrder.l0 k y0 y1 y2 y3 y4 y5) (lampblackref02_IsOrder.l0 (k + 1) y0 y1 y2 y3 y4 y5))
  | 0 => fun _ _ _ _ _ _ r h => by simp [lampblackref02_IsOrder.l0] at h
  | k + 1 => by
    have ih0 := lampblackref02_IsOrder.mono_l k
    · intro y0 y1 y2 y3 y4 y5
      unfold lampblackref02_IsOrder.l0
      repeat' first
      | (with_reducible exact ih0 _ _ _ _ _ _)
      | (with_reducible exact LeO.refl _)
      | (with_reducible exact LeO.none _)
      | (with_reducible refine LeO.ite ?_ ?_)
      | (with_reducible refine LeO.bind ?_ (fun _ => ?_))
      | exact ih0 _ _ _ _ _ _
      | exact LeO.none _
      | refine LeO.ite ?_ ?_
      | refine LeO.bind ?_ (fun _ => ?_)
theorem lampblackref02_IsOrder.mono : ∀ a0 a1 k, LeO (lampblackref02_IsOrder.f k a0 a1) (lampblackref02_IsOrder.f (k + 1) a0 a1) := by
  intro a0 a1 k
  have ih0 := lampblackref02_IsOrder.mono_l k
  unfold lampblackref02_IsOrder.f
  repeat' first
      | (with_reducible exact ih0 _ _ _ _ _ _)
      | (with_reducible exact LeO.refl _)
      | (with_reducible exact LeO.none _)
      | (with_reducible refine LeO.ite ?_ ?_)
      | (with_reducible refine LeO.bind ?_ (fun _ => ?_))
      | exact ih0 _ _ _ _ _ _
      | exact LeO.none _
      | refine LeO.ite ?_ ?_
      | refine LeO.bind ?_ (fun _ => ?_)
set_option maxHeartbeats 8000000 in
set_option maxRecDepth 100000 in
theorem lampblackref02_IsOrder.calls (k : Nat) (A0 : Option Addr) (c0 : Nat) (l0 : List Int) (a1 : Int) (r : Bool) (w : World) (hr0 : Kd.C (Kd.int .i64) w A0 l0.length l0) (hc0 : l0.length ≤ c0) (h : lampblackref02_IsOrder.f k l0 a1 = some r) :
    Calls Tryd.prog 30 #[.slice A0 l0.length c0, .int .i64 a1] w fun e w' => e = .returned (.bool r) ∧ Drawn0 w w' := by
  have HR0 := Aside0.mk hr0
  have HC0 := Aside0.mk hc0
  clear hr0 hc0
  have H : (lampblackref02_IsOrder.l0 k l0 a1 0 l0 (l0.length : Int) 0) = some r := h
  clear h
  have H' := Aside0.mk H
  clear H
  go_enter Tryd.func30, Tryd.ntmps30
  go_wp2
  go_loopg [5, 10] k (fun kq v5 v10 w' => ∃ (x5_1 : Int) (x10_1 : Int), v5 = .int .i64 x5_1 ∧ v10 = .int .i64 x10_1 ∧ Aside0 (lampblackref02_IsOrder.l0 kq l0 a1 x5_1 l0 (l0.length : Int) x10_1 = some r) ∧ Aside0 (kq ≤ k) ∧ Drawn0 w w')
  case atStart => exact ⟨(0), (0), (by first | rfl | (simp; done) | (simp [*]; done)), (by first | rfl | (simp; done) | (simp [*]; done)), H', ⟨Nat.le_refl _⟩, by repeat (first | exact Drawn0.refl _ | apply Drawn0.step)⟩
  case round =>
    clear H'
    try clear p2
    obtain ⟨x5_1, x10_1, rfl, rfl, HA, HK1, ⟨m1, rfl⟩⟩ := hrel
    cases gk with
    | zero => exact absurd HA.out (by simp [lampblackref02_IsOrder.l0])
    | succ k1 =>
      have H := HA.out
      clear HA
      simp only [lampblackref02_IsOrder.l0] at H
      by_cases c3 : x10_1 < (l0.length : Int)
      · rw [if_pos c3] at H
        have c3b0 : decide (x10_1 < (l0.length : Int)) = true := decide_eq_true c3
        clear c3
        by_cases c4 : 0 ≤ x10_1
        · rw [if_pos c4] at H
          have c4b0 : decide (0 ≤ x10_1) = true := decide_eq_true c4
          clear c4
          by_cases c5 : x10_1 < (l0.length : Int)
          · rw [if_pos c5] at H
            have c5b0 : decide (x10_1 < (l0.length : Int)) = true := decide_eq_true c5
            clear c5
            by_cases c6 : (rd l0 x10_1) < 0
            · rw [if_pos c6] at H
              have c6b0 : decide ((rd l0 x10_1) < 0) = true := decide_eq_true c6
              clear c6
              obtain rfl := Option.some.inj H
              have p234 : 0 ≤ (x10_1 : Int) := of_decide_eq_true (by first | (with_reducible assumption) | assumption)
              have q234 : x10_1 < (l0.length : Int) := of_decide_eq_true (by first | (with_reducible assumption) | assumption)
              obtain ⟨ad234, e234, hx234_0⟩ := Kd.at_int HR0.out x10_1 p234 q234
              cases e234
              replace p234 := eq_true p234
              replace q234 := eq_true q234
              go_wp2
              go_ret
              exact ⟨by first | rfl | (simp; done) | (simp [*]; done), by repeat (first | exact Drawn0.refl _ | apply Drawn0.step)⟩
            · rw [if_neg c6] at H
              have c6b0 : decide ((rd l0 x10_1) < 0) = false := decide_eq_false c6
              clear c6
              by_cases c7 : (rd l0 x10_1) ≥ a1
              · rw [if_pos c7] at H
                have c7b0 : decide (a1 ≤ (rd l0 x10_1)) = true := decide_eq_true c7
                clear c7
                obtain rfl := Option.some.inj H
                have p234 : 0 ≤ (x10_1 : Int) := of_decide_eq_true (by first | (with_reducible assumption) | assumption)
                have q234 : x10_1 < (l0.length : Int) := of_decide_eq_true (by first | (with_reducible assumption) | assumption)
                obtain ⟨ad234, e234, hx234_0⟩ := Kd.at_int HR0.out x10_1 p234 q234
                cases e234
                replace p234 := eq_true p234
                replace q234 := eq_true q234
                go_wp2
                go_ret
                exact ⟨by first | rfl | (simp; done) | (simp [*]; done), by repeat (first | exact Drawn0.refl _ | apply Drawn0.step)⟩
              · rw [if_neg c7] at H
                have c7b0 : decide (a1 ≤ (rd l0 x10_1)) = false := decide_eq_false c7
                clear c7
                by_cases c8 : 0 ≤ (rd l0 x10_1)
                · rw [if_pos c8] at H
                  have c8b0 := eq_true c8
                  have c8b1 : decide (0 ≤ (rd l0 x10_1)) = true := decide_eq_true c8
                  clear c8
                  obtain ⟨ji9, hji9⟩ : ∃ j_ : Int, (shr .i64 x5_1 (rd l0 x10_1)) = j_ := ⟨_, rfl⟩
                  replace H : (if (Go.bits .and .i64 (ji9) 1) = 1 then (some false) else (lampblackref02_IsOrder.l0 k1 l0 a1 (Go.bits .or .i64 x5_1 (shl .i64 1 (rd l0 x10_1))) l0 (l0.length : Int) (wrap64 (x10_1 + 1)))) = some r := by first | (rw [hji9] at H; exact H) | (simp only [hji9] at H ⊢; exact H)
                  have hji9_ : (x5_1 / 2 ^ min (rd l0 x10_1).toNat 64) = ji9 := hji9
                  have hji9z : (rd l0 x10_1) ≤ 64 → (x5_1 / 2 ^ (rd l0 x10_1).toNat) = ji9 := shr_small hji9
                  by_cases c10 : (Go.bits .and .i64 (ji9) 1) = 1
                  · rw [if_pos c10] at H
                    have c10b0 : ((Go.bits .and .i64 (ji9) 1) == 1) = true := beq_iff_eq.mpr c10
                    have c10b1 : ((Go.bits .and .i64 (ji9) 1) != 1) = false := bne_eq_false_iff_eq.mpr c10
                    clear c10
                    obtain rfl := Option.some.inj H
                    have p234 : 0 ≤ (x10_1 : Int) := of_decide_eq_true (by first | (with_reducible assumption) | assumption)
                    have q234 : x10_1 < (l0.length : Int) := of_decide_eq_true (by first | (with_reducible assumption) | assumption)
                    obtain ⟨ad234, e234, hx234_0⟩ := Kd.at_int HR0.out x10_1 p234 q234
                    cases e234
                    replace p234 := eq_true p234
                    replace q234 := eq_true q234
                    go_wp2
                    go_ret
                    exact ⟨by first | rfl | (simp; done) | (simp only [← hji9] <;> (first | rfl | simp)) | (simp [*]; done), by repeat (first | exact Drawn0.refl _ | apply Drawn0.step)⟩
                  · rw [if_neg c10] at H
                    have c10b0 : ((Go.bits .and .i64 (ji9) 1) == 1) = false := beq_eq_false_iff_ne.mpr c10
                    have c10b1 : ((Go.bits .and .i64 (ji9) 1) != 1) = true := bne_iff_ne.mpr c10
                    have c11b0 := eq_true (of_decide_eq_true (by first | (with_reducible assumption) | assumption) : 0 ≤ (rd l0 x10_1))
                    obtain ⟨ji12, hji12⟩ : ∃ j_ : Int, (shl .i64 1 (rd l0 x10_1)) = j_ := ⟨_, rfl⟩
                    replace H : (lampblackref02_IsOrder.l0 k1 l0 a1 (Go.bits .or .i64 x5_1 (ji12)) l0 (l0.length : Int) (wrap64 (x10_1 + 1))) = some r := by first | (rw [hji12] at H; exact H) | (simp only [hji12] at H ⊢; exact H)
                    have hji12_ : (IntKind.i64.wrap (1 * 2 ^ min (rd l0 x10_1).toNat 64)) = ji12 := hji12
                    have hji12z : (rd l0 x10_1) ≤ 64 → (IntKind.i64.wrap (1 * 2 ^ (rd l0 x10_1).toNat)) = ji12 := shl_small hji12
                    have hji12u : (IntKind.i64.wrap (2 ^ min (rd l0 x10_1).toNat 64)) = ji12 := by have h_ := hji12_; rw [Int.one_mul] at h_; exact h_
                    have hji12v : (rd l0 x10_1) ≤ 64 → (IntKind.i64.wrap (2 ^ (rd l0 x10_1).toNat)) = ji12 := fun hle_ => by have h_ := hji12z hle_; rw [Int.one_mul] at h_; exact h_
                    have hji12y : (wrap64 (1 * 2 ^ min (rd l0 x10_1).toNat 64)) = ji12 := (i64_w _).symm.trans hji12_
                    have hji12x : (rd l0 x10_1) ≤ 64 → (wrap64 (1 * 2 ^ (rd l0 x10_1).toNat)) = ji12 := fun h_ => (i64_w _).symm.trans (hji12z h_)
                    have H' := Aside0.mk H
                    clear H
                    have p234 : 0 ≤ (x10_1 : Int) := of_decide_eq_true (by first | (with_reducible assumption) | assumption)
                    have q234 : x10_1 < (l0.length : Int) := of_decide_eq_true (by first | (with_reducible assumption) | assumption)
                    obtain ⟨ad234, e234, hx234_0⟩ := Kd.at_int HR0.out x10_1 p234 q234
                    cases e234
                    replace p234 := eq_true p234
                    replace q234 := eq_true q234
                    go_wp2
                    go_roundg k1
                    case measure => have := HK1.out; omega
                    case rel => exact ⟨(Go.bits .or .i64 x5_1 (ji12)), (wrap64 (x10_1 + 1)), (by first | rfl | (simp; done) | (simp only [← hji12] <;> (first | rfl | simp)) | (simp [*]; done)), (by first | rfl | (simp; done) | (simp [*]; done)), H', ⟨by have := HK1.out; omega⟩, by repeat (first | exact Drawn0.refl _ | apply Drawn0.step)⟩
                · rw [if_neg c8] at H
                  exact absurd H (by simp)
          · rw [if_neg c5] at H
            exact absurd H (by simp)
        · rw [if_neg c4] at H
          exact absurd H (by simp)
      · rw [if_neg c3] at H
        have c3b0 : decide (x10_1 < (l0.length : Int)) = false := decide_eq_false c3
        clear c3
        obtain rfl := Option.some.inj H
        go_wp2
        go_ret
        exact ⟨by first | rfl | (simp; done) | (simp [*]; done), by repeat (first | exact Drawn0.refl _ | apply Drawn0.step)⟩

end Go.Proofs.YtijfddobandcdaaDoor.X
end
section
-- by ownprint.py (wip/tool), over the kit's print
namespace Go.Proofs.YtijfddobandcdaaDoor.X
open Go.RowKit Go.Proofs.YtijfddobandcdaaDoorW.PrintWords Go.Proofs.YtijfddobandcdaaDoorW.PrintLast Go.Proofs.YtijfddobandcdaaDoorW.PrintMore
attribute [local go_sem] max2_int min2_int max_two min_two max_three min_three max_four min_four
set_option linter.unusedVariables false
set_option linter.unusedSimpArgs false

/-! ### lampblackref03_Bags: function 33 -/
def lampblackref03_Bags.l0 : Nat → List Int → List Int → Int → List Int → Int → Int → Option (List Int)
  | 0, _, _, _, _, _, _ => none
  | k + 1, x0, x5, x6, x9, x10, x11 => if x11 < x10 then (if 0 ≤ x11 then (if x11 < (x9.length : Int) then ((lampblackref03_Border.f k x0 x6).bind fun t270 => (if 0 ≤ (rd x9 x11) then (if x5.length < 17592186044416 then (lampblackref03_Bags.l0 k x0 (x5 ++ [Go.bits .or .i64 t270 (shl .i64 1 (rd x9 x11))]) (Go.bits .or .i64 x6 (shl .i64 1 (rd x9 x11))) x9 x10 (wrap64 (x11 + 1))) else (none)) else (none))) else (none)) else (none)) else (some x5)
def lampblackref03_Bags.f (k : Nat) (l0 : List Int) (l1 : List Int) : Option (List Int) := lampblackref03_Bags.l0 k l0 ([] : List Int) 0 l1 (l1.length : Int) 0
theorem lampblackref03_Bags.mono_l : ∀ k, (∀ y0 y1 y2 y3 y4 y5, LeO (lampblackref03_Bags.l0 k y0 y1 y2 y3 y4 y5) (lampblackref03_Bags.l0 (k + 1) y0 y1 y2 y3 y4 y5))
  | 0 => fun _ _ _ _ _ _ r h => by simp [lampblackref03_Bags.l0] at h
  | k + 1 => by
    have ih0 := lampblackref03_Bags.mono_l k
    · intro y0 y1 y2 y3 y4 y5
      unfold lampblackref03_Bags.l0
      repeat' first
      | (with_reducible exact ih0 _ _ _ _ _ _)
      | (with_reducible exact lampblackref03_Border.mono _ _ _)
      | (with_reducible exact LeO.refl _)
      | (with_reducible exact LeO.none _)
      | (with_reducible refine LeO.ite ?_ ?_)
      | (with_reducible refine LeO.bind ?_ (fun _ => ?_))
      | exact ih0 _ _ _ _ _ _
      | exact lampblackref03_Border.mono _ _ _
      | exact LeO.none _
      | refine LeO.ite ?_ ?_
      | refine LeO.bind ?_ (fun _ => ?_)
theorem lampblackref03_Bags.mono : ∀ a0 a1 k, LeO (lampblackref03_Bags.f k a0 a1) (lampblackref03_Bags.f (k + 1) a0 a1) := by
  intro a0 a1 k
  have ih0 := lampblackref03_Bags.mono_l k
  unfold lampblackref03_Bags.f
  repeat' first
      | (with_reducible exact ih0 _ _ _ _ _ _)
      | (with_reducible exact lampblackref03_Border.mono _ _ _)
      | (with_reducible exact LeO.refl _)
      | (with_reducible exact LeO.none _)
      | (with_reducible refine LeO.ite ?_ ?_)
      | (with_reducible refine LeO.bind ?_ (fun _ => ?_))
      | exact ih0 _ _ _ _ _ _
      | exact lampblackref03_Border.mono _ _ _
      | exact LeO.none _
      | refine LeO.ite ?_ ?_
      | refine LeO.bind ?_ (fun _ => ?_)
def lampblackref03_Bags.T6 : Bool × List (List Nat × List Nat) := (true, [([], []), ([], []), ([], []), ([1, 2], [1, 2]), ([], []), ([4], [4]), ([3, 5], [3, 5]), ([6], [6]), ([0, 7, 3], [0, 7]), ([8, 8, 0, 1, 2, 3, 4, 5, 6, 7, 8], [0, 8])])
def lampblackref03_Bags.B6 : List Nat := [0, 0, 0, 6, 0, 16, 62, 126, 255, 511]
theorem lampblackref03_Bags.tab6 : rtab .any (opsOf Tryd.f33 6) = lampblackref03_Bags.T6 := by kernel_rfl
theorem lampblackref03_Bags.bits6 : waitsOk lampblackref03_Bags.T6.2 lampblackref03_Bags.B6 = true := by kernel_rfl
set_option maxHeartbeats 8000000 in
set_option maxRecDepth 100000 in
theorem lampblackref03_Bags.calls (k : Nat) (A0 : Option Addr) (c0 : Nat) (l0 : List Int) (A1 : Option Addr) (c1 : Nat) (l1 : List Int) (r : List Int) (w : World) (hr0 : Kd.C (Kd.int .i64) w A0 l0.length l0) (hc0 : l0.length ≤ c0) (hr1 : Kd.C (Kd.int .i64) w A1 l1.length l1) (hc1 : l1.length ≤ c1) (h : lampblackref03_Bags.f k l0 l1 = some r) :
    Calls Tryd.prog 33 #[.slice A0 l0.length c0, .slice A1 l1.length c1] w fun e w' => ∃ v0_ : Value, e = .returned (v0_) ∧ Kd.R (Kd.int .i64) 3 w' w.heap.size (fun _ => True) v0_ r ∧ Below w.heap.size w w' := by
  have HR0 := Aside0.mk hr0
  have HC0 := Aside0.mk hc0
  clear hr0 hc0
  have HR1 := Aside0.mk hr1
  have HC1 := Aside0.mk hc1
  clear hr1 hc1
  have HB := Aside0.mk (Below.refl w.heap.size w)
  have H : (lampblackref03_Bags.l0 k l0 ([] : List Int) 0 l1 (l1.length : Int) 0) = some r := h
  clear h
  have H' := Aside0.mk H
  clear H
  go_enter Tryd.func33, Tryd.ntmps33
  go_wp2
  go_loopg [5, 6, 11] k (fun kq v5 v6 v11 w' => ∃ (x5_1 : List Int) (x6_1 : Int) (x11_1 : Int), v6 = .int .i64 x6_1 ∧ v11 = .int .i64 x11_1 ∧ Aside0 (lampblackref03_Bags.l0 kq l0 x5_1 x6_1 l1 (l1.length : Int) x11_1 = some r) ∧ Aside0 (kq ≤ k) ∧ Aside0 (Kd.R (Kd.int .i64) 3 w' w.heap.size (fun _ => True) v5 x5_1) ∧ Aside0 (Below w.heap.size w w'))
  case atStart => exact ⟨(([] : List Int)), (0), (0), (by first | rfl | (simp; done) | (simp [*]; done)), (by first | rfl | (simp; done) | (simp [*]; done)), H', ⟨Nat.le_refl _⟩, ⟨by first | exact Kd.R_nil _ _ _ _ _ | exact Kd.N_nil _ _ _ _ _ | exact Kd.V_nil _ _ _ _ _ | exact Kd.Q_nil _ _ _ _ _ | exact Kd.S_nil _ _ _ _ _⟩, ⟨by repeat (first | (with_reducible first | exact HB.out | apply below_alloc | apply pw_below_drewN | apply below_drew1) | exact HB.out)⟩⟩
  case round =>
    clear H'
    try clear c1
    try clear p2
    obtain ⟨x5_1, x6_1, x11_1, rfl, rfl, HA, HK1, HO_5, HB⟩ := hrel
    cases gk with
    | zero => exact absurd HA.out (by simp [lampblackref03_Bags.l0])
    | succ k1 =>
      have H := HA.out
      clear HA
      simp only [lampblackref03_Bags.l0] at H
      by_cases c3 : x11_1 < (l1.length : Int)
      · rw [if_pos c3] at H
        have c3b0 : decide (x11_1 < (l1.length : Int)) = true := decide_eq_true c3
        clear c3
        by_cases c4 : 0 ≤ x11_1
        · rw [if_pos c4] at H
          have c4b0 : decide (0 ≤ x11_1) = true := decide_eq_true c4
          clear c4
          by_cases c5 : x11_1 < (l1.length : Int)
          · rw [if_pos c5] at H
            have c5b0 : decide (x11_1 < (l1.length : Int)) = true := decide_eq_true c5
            clear c5
            replace H := Option.bind_eq_some_iff.mp H
            obtain ⟨t270, A60, H⟩ := H
            replace H : (if 0 ≤ (rd l1 x11_1) then (if x5_1.length < 17592186044416 then (lampblackref03_Bags.l0 k1 l0 (x5_1 ++ [Go.bits .or .i64 t270 (shl .i64 1 (rd l1 x11_1))]) (Go.bits .or .i64 x6_1 (shl .i64 1 (rd l1 x11_1))) l1 (l1.length : Int) (wrap64 (x11_1 + 1))) else (none)) else (none)) = some r := H
            have A6 := Aside0.mk A60
            clear A60
            by_cases c7 : 0 ≤ (rd l1 x11_1)
            · rw [if_pos c7] at H
              have c7b0 := eq_true c7
              have c7b1 : decide (0 ≤ (rd l1 x11_1)) = true := decide_eq_true c7
              clear c7
              obtain ⟨ji8, hji8⟩ : ∃ j_ : Int, (shl .i64 1 (rd l1 x11_1)) = j_ := ⟨_, rfl⟩
              replace H : (if x5_1.length < 17592186044416 then (lampblackref03_Bags.l0 k1 l0 (x5_1 ++ [Go.bits .or .i64 t270 (ji8)]) (Go.bits .or .i64 x6_1 (ji8)) l1 (l1.length : Int) (wrap64 (x11_1 + 1))) else (none)) = some r := by first | (rw [hji8] at H; exact H) | (simp only [hji8] at H ⊢; exact H)
              (try rw [hji8] at A6)
              have hji8_ : (IntKind.i64.wrap (1 * 2 ^ min (rd l1 x11_1).toNat 64)) = ji8 := hji8
              have hji8z : (rd l1 x11_1) ≤ 64 → (IntKind.i64.wrap (1 * 2 ^ (rd l1 x11_1).toNat)) = ji8 := shl_small hji8
              have hji8u : (IntKind.i64.wrap (2 ^ min (rd l1 x11_1).toNat 64)) = ji8 := by have h_ := hji8_; rw [Int.one_mul] at h_; exact h_
              have hji8v : (rd l1 x11_1) ≤ 64 → (IntKind.i64.wrap (2 ^ (rd l1 x11_1).toNat)) = ji8 := fun hle_ => by have h_ := hji8z hle_; rw [Int.one_mul] at h_; exact h_
              have hji8y : (wrap64 (1 * 2 ^ min (rd l1 x11_1).toNat 64)) = ji8 := (i64_w _).symm.trans hji8_
              have hji8x : (rd l1 x11_1) ≤ 64 → (wrap64 (1 * 2 ^ (rd l1 x11_1).toNat)) = ji8 := fun h_ => (i64_w _).symm.trans (hji8z h_)
              by_cases c9 : x5_1.length < 17592186044416
              · rw [if_pos c9] at H
                have LMc9 := Aside0.mk c9
                clear c9
                obtain ⟨y271, hy271⟩ : ∃ y_ : List Int, y_ = (x5_1 ++ [Go.bits .or .i64 t270 (ji8)]) := ⟨_, rfl⟩
                replace H : (lampblackref03_Bags.l0 k1 l0 y271 (Go.bits .or .i64 x6_1 (ji8)) l1 (l1.length : Int) (wrap64 (x11_1 + 1))) = some r := by first | (rw [hy271]; with_reducible exact H) | (have H2_ := (Option.bind_some _ _).symm.trans H; rw [hy271]; with_reducible exact H2_) | (have H2_ := (Option.bind_some _ _).symm.trans H; with_reducible exact H2_) | with_reducible exact H | (rw [hy271]; exact H) | exact H
                have Ny271 := Aside0.mk hy271
                clear hy271
                have c10b0 := eq_true (of_decide_eq_true (by first | (with_reducible assumption) | assumption) : 0 ≤ (rd l1 x11_1))
                have H' := Aside0.mk H
                clear H
                have p269 : 0 ≤ (x11_1 : Int) := of_decide_eq_true (by first | (with_reducible assumption) | assumption)
                have q269 : x11_1 < (l1.length : Int) := of_decide_eq_true (by first | (with_reducible assumption) | assumption)
                obtain ⟨ad269, e269, hx269_0⟩ := Kd.at_int HR1.out x11_1 p269 q269
                cases e269
                replace hx269_0 := (HB.out.cell (World.block_lt_of_cell? w _ hx269_0)).trans hx269_0
                replace p269 := eq_true p269
                replace q269 := eq_true q269
                try go_wp2
                have n0_ := Aside0.mk (Kd.R_drew HO_5.out)
                have n1_ := Aside0.mk (below_drew1 HB.out)
                clear HO_5
                clear HB
                have HO_5 := n0_
                have HB := n1_
                clear n0_ n1_
                refine start_ (n := 10) (S := fun w' => True) (ds := []) #[false, false, false, false, false, false, false, false, false, false] (by kernel_rfl) rfl rfl trivial (fun hHeld => ?_); refine with_tabW lampblackref03_Bags.tab6 lampblackref03_Bags.bits6 (fun HT_ HW_ => ?_)
                generalize wr.drew = w11 at HO_5 HB hHeld ⊢
                refine pure_ (i := 0) (N := some 15) (v := ?_) (a' := ?_) #[true, false, false, false, false, false, false, false, false, false] rfl rfl (any_of HT_.out (by kernel_rfl)) (fun _ _ _ h => h) (Or.inl ⟨by rfl, ?_⟩) ?_ ?_
                rotate_left
                · intro w'
                  go_simp
                  with_reducible rfl
                rotate_left
                · simp only [Act.put, List.setIfInBounds_toArray, List.set_cons_zero, List.set_cons_succ, i64_w, i32_w]
                  rfl
                refine pure_ (i := 1) (N := some 16) (v := ?_) (a' := ?_) #[true, true, false, false, false, false, false, false, false, false] rfl rfl (any_of HT_.out (by kernel_rfl)) (fun _ _ _ h => h) (Or.inl ⟨by rfl, ?_⟩) ?_ ?_
                rotate_left
                · intro w'
                  go_simp
                  with_reducible rfl
                rotate_left
                · simp only [Act.put, List.setIfInBounds_toArray, List.set_cons_zero, List.set_cons_succ, i64_w, i32_w]
                  rfl
                refine pure_ (i := 2) (N := some 17) (v := ?_) (a' := ?_) #[true, true, true, false, false, false, false, false, false, false] rfl rfl (any_of HT_.out (by kernel_rfl)) (fun _ _ _ h => h) (Or.inl ⟨by rfl, ?_⟩) ?_ ?_
                rotate_left
                · intro w'
                  go_simp
                  with_reducible rfl
                rotate_left
                · simp only [Act.put, List.setIfInBounds_toArray, List.set_cons_zero, List.set_cons_succ, i64_w, i32_w]
                  rfl
                refine pure_ (i := 4) (N := some 19) (v := ?_) (a' := ?_) #[true, true, true, false, true, false, false, false, false, false] rfl rfl (any_of HT_.out (by kernel_rfl)) (fun _ _ _ h => h) (Or.inl ⟨by rfl, ?_⟩) ?_ ?_
                rotate_left
                · intro w'
                  go_simp
                  with_reducible rfl
                rotate_left
                · simp only [Act.put, List.setIfInBounds_toArray, List.set_cons_zero, List.set_cons_succ, i64_w, i32_w]
                  rfl
                refine pure_ (i := 5) (N := some 20) (v := ?_) (a' := ?_) #[true, true, true, false, true, true, false, false, false, false] rfl rfl (any_of HT_.out (by kernel_rfl)) (fun _ _ _ h => h) (Or.inl ⟨by rfl, ?_⟩) ?_ ?_
                rotate_left
                · intro w'
                  go_simp
                  with_reducible rfl
                rotate_left
                · simp only [Act.put, List.setIfInBounds_toArray, List.set_cons_zero, List.set_cons_succ, i64_w, i32_w]
                  rfl
                refine one_ (i := 3) (N := some 18) #[true, true, true, true, true, true, false, false, false, false] rfl rfl (one_of HT_.out (by kernel_rfl)) (by decide) (fun K hK => ?_)
                refine goes_ Tryd.func59 (by kernel_rfl) rfl #[.slice A0 l0.length c0, .int .i64 x6_1] (by rfl) rfl rfl (by (try simp only [List.map_toArray, List.map_cons, List.map_nil]); first | done | rfl | (simp only [List.length_drop, List.length_take]; rfl)) ?_
                with_reducible refine (lampblackref03_Border.calls k1 _ _ l0 x6_1 t270 _ ?side1 ?side2 A6.out).mono ?_
                (case side1 => repeat (first | exact (Kd.C_below HR0.out HB.out) | (with_reducible refine Kd.C_alloc ?_ _) | (with_reducible refine Kd.C_drewN ?_ _) | (with_reducible refine Kd.C_drew ?_)))
                (case side2 => exact HC0.out)
                rintro e w' ⟨rfl, ⟨nd, rfl⟩⟩
                refine ⟨_, rfl, ?_⟩
                refine hK.out _ _ trivial (fun hHeld => ?_)
                clear hK K
                refine norm_ (a' := ?_) ?_ ?_
                rotate_left
                · show Act.put _ (some 18) _ = _
                  simp only [Act.put, List.setIfInBounds_toArray, List.set_cons_zero, List.set_cons_succ, i64_w, i32_w]
                  rfl
                refine pure_ (i := 6) (N := some 21) (v := ?_) (a' := ?_) #[true, true, true, true, true, true, true, false, false, false] rfl rfl (any_of HT_.out (by kernel_rfl)) (fun _ _ _ h => h) (Or.inl ⟨by rfl, ?_⟩) ?_ ?_
                rotate_left
                · intro w'
                  go_simp
                  with_reducible rfl
                rotate_left
                · simp only [Act.put, List.setIfInBounds_toArray, List.set_cons_zero, List.set_cons_succ, i64_w, i32_w]
                  rfl
                refine one_ (i := 7) (N := some 22) #[true, true, true, true, true, true, true, true, false, false] rfl rfl (one_of HT_.out (by kernel_rfl)) (by decide) (fun K hK => ?_)
                refine value_ (w1 := ?_) (v := ?_) (by rfl) rfl ?_ ?_
                rotate_left 2
                · go_simp
                  constructor
                  · rfl
                  · rfl
                refine hK.out _ _ trivial (fun hHeld => ?_)
                clear hK K
                refine norm_ (a' := ?_) ?_ ?_
                rotate_left
                · show Act.put _ (some 22) _ = _
                  simp only [Act.put, List.setIfInBounds_toArray, List.set_cons_zero, List.set_cons_succ, i64_w, i32_w]
                  rfl
                refine one_ (i := 8) (N := some 23) #[true, true, true, true, true, true, true, true, true, false] rfl rfl (one_of HT_.out (by kernel_rfl)) (by decide) (fun K hK => ?_)
                refine Kd.R_append_step (Kd.int .i64) (w0 := w) w.heap.size (by rfl) (.tmp 15) (.tmp 22) 22 3 (.int .i64 0) 8 rfl Tryd.underlying22 info3 rfl (by decide) (by omega) u5 x5_1 (Go.bits .or .i64 t270 (ji8)) [.int .i64 (Go.bits .or .i64 t270 (ji8))] (fun _ => True) (fun _ => False) rfl rfl ?aP (fun _ hk => hk.elim) ?aF ?aO ?aB ?aS ?aL ?_
                (case aP => exact rfl)
                (case aB => exact (by repeat (first | (with_reducible first | exact HB.out | apply below_alloc | apply pw_below_drewN | apply below_drew1) | exact HB.out)))
                (case aF => exact (fun _ _ => trivial))
                (case aO => exact (by (with_reducible repeat (first | apply Kd.R_alloc | apply Kd.R_drewN | apply Kd.R_drew)); exact HO_5.out))
                (case aS => exact (below_size (by repeat (first | (with_reducible first | exact HB.out | apply below_alloc | apply pw_below_drewN | apply below_drew1) | exact HB.out))))
                (case aL => have := LMc9.out; omega)
                intro v272 w12 ho hb hg hat
                rw [← Ny271.out] at ho
                have n0_ := Aside0.mk (hb)
                have n1_ := Aside0.mk (ho)
                clear HB
                clear HO_5
                have HB := n0_
                have HO273 := n1_
                clear n0_ n1_
                clear ho hb hg hat
                refine hK.out _ _ trivial (fun hHeld => ?_)
                clear hK K
                refine norm_ (a' := ?_) ?_ ?_
                rotate_left
                · show Act.put _ (some 23) _ = _
                  simp only [Act.put, List.setIfInBounds_toArray, List.set_cons_zero, List.set_cons_succ, i64_w, i32_w]
                  rfl
                refine pure_ (i := 9) (N := some 5) (v := ?_) (a' := ?_) #[true, true, true, true, true, true, true, true, true, true] rfl rfl (any_of HT_.out (by kernel_rfl)) (fun _ _ _ h => h) (Or.inl ⟨by rfl, ?_⟩) ?_ ?_
                rotate_left
                · intro w'
                  go_simp
                  with_reducible rfl
                rotate_left
                · simp only [Act.put, List.setIfInBounds_toArray, List.set_cons_zero, List.set_cons_succ, i64_w, i32_w]
                  rfl
                refine done_ (done_of HT_.out (by kernel_rfl)) ?_
                try go_wp2
                go_roundg k1
                case measure => have := HK1.out; omega
                case rel => exact ⟨(y271), (Go.bits .or .i64 x6_1 (ji8)), (wrap64 (x11_1 + 1)), (by first | rfl | (simp; done) | (simp only [← hji8] <;> (first | rfl | simp)) | (simp [*]; done)), (by first | rfl | (simp; done) | (simp [*]; done)), H', ⟨by have := HK1.out; omega⟩, ⟨by (with_reducible repeat (first | apply Kd.R_alloc | apply Kd.R_drewN | apply Kd.R_drew)); exact HO273.out⟩, ⟨by repeat (first | (with_reducible first | exact HB.out | apply below_alloc | apply pw_below_drewN | apply below_drew1) | exact HB.out)⟩⟩
              · rw [if_neg c9] at H
                exact absurd H (by simp)
            · rw [if_neg c7] at H
              exact absurd H (by simp)
          · rw [if_neg c5] at H
            exact absurd H (by simp)
        · rw [if_neg c4] at H
          exact absurd H (by simp)
      · rw [if_neg c3] at H
        have c3b0 : decide (x11_1 < (l1.length : Int)) = false := decide_eq_false c3
        clear c3
        obtain rfl := Option.some.inj H
        go_wp2
        go_ret
        exact ⟨_, by first | rfl | (simp [errW_none, errW_some] <;> rfl) | (simp [*, errW_none, errW_some] <;> rfl), by (with_reducible repeat (first | apply Kd.R_alloc | apply Kd.R_drewN | apply Kd.R_drew)); exact HO_5.out, by repeat (first | (with_reducible first | exact HB.out | apply below_alloc | apply pw_below_drewN | apply below_drew1) | exact HB.out)⟩

end Go.Proofs.YtijfddobandcdaaDoor.X
end
section
-- by ownprint.py (wip/tool), over the kit's print
namespace Go.Proofs.YtijfddobandcdaaDoor.X
open Go.RowKit Go.Proofs.YtijfddobandcdaaDoorW.PrintWords Go.Proofs.YtijfddobandcdaaDoorW.PrintLast Go.Proofs.YtijfddobandcdaaDoorW.PrintMore
attribute [local go_sem] max2_int min2_int max_two min_two max_three min_three max_four min_four
set_option linter.unusedVariables false
set_option linter.unusedSimpArgs false

/-! ### slices_Equal_int_int: function 29 -/
def slices_Equal_int_int.l0 : Nat → List Int → List Int → Int → Int → Option (Bool)
  | 0, _, _, _, _ => none
  | k + 1, x0, x1, x12, x13 => if x13 < x12 then (if 0 ≤ x13 then (if x13 < (x0.length : Int) then (if x13 < (x1.length : Int) then (if (rd x0 x13) = (rd x1 x13) then (slices_Equal_int_int.l0 k x0 x1 x12 (wrap64 (x13 + 1))) else (some false)) else (none)) else (none)) else (none)) else (some true)
def slices_Equal_int_int.f (k : Nat) (l0 : List Int) (l1 : List Int) : Option (Bool) := if (l0.length : Int) = (l1.length : Int) then (slices_Equal_int_int.l0 k l0 l1 (l0.length : Int) 0) else (some false)
theorem slices_Equal_int_int.mono_l : ∀ k, (∀ y0 y1 y2 y3, LeO (slices_Equal_int_int.l0 k y0 y1 y2 y3) (slices_Equal_int_int.l0 (k + 1) y0 y1 y2 y3))
  | 0 => fun _ _ _ _ r h => by simp [slices_Equal_int_int.l0] at h
  | k + 1 => by
    have ih0 := slices_Equal_int_int.mono_l k
    · intro y0 y1 y2 y3
      unfold slices_Equal_int_int.l0
      repeat' first
      | (with_reducible exact ih0 _ _ _ _)
      | (with_reducible exact LeO.refl _)
      | (with_reducible exact LeO.none _)
      | (with_reducible refine LeO.ite ?_ ?_)
      | (with_reducible refine LeO.bind ?_ (fun _ => ?_))
      | exact ih0 _ _ _ _
      | exact LeO.none _
      | refine LeO.ite ?_ ?_
      | refine LeO.bind ?_ (fun _ => ?_)
theorem slices_Equal_int_int.mono : ∀ a0 a1 k, LeO (slices_Equal_int_int.f k a0 a1) (slices_Equal_int_int.f (k + 1) a0 a1) := by
  intro a0 a1 k
  have ih0 := slices_Equal_int_int.mono_l k
  unfold slices_Equal_int_int.f
  repeat' first
      | (with_reducible exact ih0 _ _ _ _)
      | (with_reducible exact LeO.refl _)
      | (with_reducible exact LeO.none _)
      | (with_reducible refine LeO.ite ?_ ?_)
      | (with_reducible refine LeO.bind ?_ (fun _ => ?_))
      | exact ih0 _ _ _ _
      | exact LeO.none _
      | refine LeO.ite ?_ ?_
      | refine LeO.bind ?_ (fun _ => ?_)
set_option maxHeartbeats 8000000 in
set_option maxRecDepth 100000 in
theorem slices_Equal_int_int.calls (k : Nat) (A0 : Option Addr) (c0 : Nat) (l0 : List Int) (A1 : Option Addr) (c1 : Nat) (l1 : List Int) (r : Bool) (w : World) (hr0 : Kd.C (Kd.int .i64) w A0 l0.length l0) (hc0 : l0.length ≤ c0) (hr1 : Kd.C (Kd.int .i64) w A1 l1.length l1) (hc1 : l1.length ≤ c1) (h : slices_Equal_int_int.f k l0 l1 = some r) :
    Calls Tryd.prog 29 #[.slice A0 l0.length c0, .slice A1 l1.length c1] w fun e w' => e = .returned (.bool r) ∧ Drawn0 w w' := by
  have HR0 := Aside0.mk hr0
  have HC0 := Aside0.mk hc0
  clear hr0 hc0
  have HR1 := Aside0.mk hr1
  have HC1 := Aside0.mk hc1
  clear hr1 hc1
  have H : (if (l0.length : Int) = (l1.length : Int) then (slices_Equal_int_int.l0 k l0 l1 (l0.length : Int) 0) else (some false)) = some r := h
  clear h
  by_cases c3 : (l0.length : Int) = (l1.length : Int)
  · rw [if_pos c3] at H
    have c3b0 : ((l0.length : Int) == (l1.length : Int)) = true := beq_iff_eq.mpr c3
    have c3b1 : ((l0.length : Int) != (l1.length : Int)) = false := bne_eq_false_iff_eq.mpr c3
    have c3b2 : (l0.length == l1.length) = true := by first | simpa using c3 | (simp at c3 ⊢; omega)
    clear c3
    have H' := Aside0.mk H
    clear H
    go_enter Tryd.func29, Tryd.ntmps29
    go_wp2
    repeat (go_quiet (fail); try go_wp2)
    go_loopg [13] k (fun kq v13 w' => ∃ (x13_1 : Int), v13 = .int .i64 x13_1 ∧ Aside0 (slices_Equal_int_int.l0 kq l0 l1 (l0.length : Int) x13_1 = some r) ∧ Aside0 (kq ≤ k) ∧ Drawn0 w w')
    case atStart => exact ⟨(0), (by first | rfl | (simp; done) | (simp [*]; done)), H', ⟨Nat.le_refl _⟩, by repeat (first | exact Drawn0.refl _ | apply Drawn0.step)⟩
    case round =>
      clear H'
      try clear c1
      try clear c2
      try clear p2
      try clear c3
      try clear c3b0
      try clear c3b1
      try clear c3b2
      obtain ⟨x13_1, rfl, HA, HK1, ⟨m1, rfl⟩⟩ := hrel
      cases gk with
      | zero => exact absurd HA.out (by simp [slices_Equal_int_int.l0])
      | succ k1 =>
        have H := HA.out
        clear HA
        simp only [slices_Equal_int_int.l0] at H
        by_cases c4 : x13_1 < (l0.length : Int)
        · rw [if_pos c4] at H
          have c4b0 : decide (x13_1 < (l0.length : Int)) = true := decide_eq_true c4
          clear c4
          by_cases c5 : 0 ≤ x13_1
          · rw [if_pos c5] at H
            have c5b0 : decide (0 ≤ x13_1) = true := decide_eq_true c5
            clear c5
            by_cases c6 : x13_1 < (l0.length : Int)
            · rw [if_pos c6] at H
              have c6b0 : decide (x13_1 < (l0.length : Int)) = true := decide_eq_true c6
              clear c6
              by_cases c7 : x13_1 < (l1.length : Int)
              · rw [if_pos c7] at H
                have c7b0 : decide (x13_1 < (l1.length : Int)) = true := decide_eq_true c7
                clear c7
                by_cases c8 : (rd l0 x13_1) = (rd l1 x13_1)
                · rw [if_pos c8] at H
                  have c8b0 : ((rd l0 x13_1) == (rd l1 x13_1)) = true := beq_iff_eq.mpr c8
                  have c8b1 : ((rd l0 x13_1) != (rd l1 x13_1)) = false := bne_eq_false_iff_eq.mpr c8
                  clear c8
                  have H' := Aside0.mk H
                  clear H
                  have p232 : 0 ≤ (x13_1 : Int) := of_decide_eq_true (by first | (with_reducible assumption) | assumption)
                  have q232 : x13_1 < (l0.length : Int) := of_decide_eq_true (by first | (with_reducible assumption) | assumption)
                  obtain ⟨ad232, e232, hx232_0⟩ := Kd.at_int HR0.out x13_1 p232 q232
                  cases e232
                  replace p232 := eq_true p232
                  replace q232 := eq_true q232
                  have p233 : 0 ≤ (x13_1 : Int) := of_decide_eq_true (by first | (with_reducible assumption) | assumption)
                  have q233 : x13_1 < (l1.length : Int) := of_decide_eq_true (by first | (with_reducible assumption) | assumption)
                  obtain ⟨ad233, e233, hx233_0⟩ := Kd.at_int HR1.out x13_1 p233 q233
                  cases e233
                  replace p233 := eq_true p233
                  replace q233 := eq_true q233
                  go_wp2
                  repeat (go_quiet (fail); try go_wp2)
                  go_roundg k1
                  case measure => have := HK1.out; omega
                  case rel => exact ⟨(wrap64 (x13_1 + 1)), (by first | rfl | (simp; done) | (simp [*]; done)), H', ⟨by have := HK1.out; omega⟩, by repeat (first | exact Drawn0.refl _ | apply Drawn0.step)⟩
                · rw [if_neg c8] at H
                  have c8b0 : ((rd l0 x13_1) == (rd l1 x13_1)) = false := beq_eq_false_iff_ne.mpr c8
                  have c8b1 : ((rd l0 x13_1) != (rd l1 x13_1)) = true := bne_iff_ne.mpr c8
                  obtain rfl := Option.some.inj H
                  have p232 : 0 ≤ (x13_1 : Int) := of_decide_eq_true (by first | (with_reducible assumption) | assumption)
                  have q232 : x13_1 < (l0.length : Int) := of_decide_eq_true (by first | (with_reducible assumption) | assumption)
                  obtain ⟨ad232, e232, hx232_0⟩ := Kd.at_int HR0.out x13_1 p232 q232
                  cases e232
                  replace p232 := eq_true p232
                  replace q232 := eq_true q232
                  have p233 : 0 ≤ (x13_1 : Int) := of_decide_eq_true (by first | (with_reducible assumption) | assumption)
                  have q233 : x13_1 < (l1.length : Int) := of_decide_eq_true (by first | (with_reducible assumption) | assumption)
                  obtain ⟨ad233, e233, hx233_0⟩ := Kd.at_int HR1.out x13_1 p233 q233
                  cases e233
                  replace p233 := eq_true p233
                  replace q233 := eq_true q233
                  go_wp2
                  repeat (go_quiet (fail); try go_wp2)
                  go_ret
                  exact ⟨by first | rfl | (simp; done) | (simp [*]; done), by repeat (first | exact Drawn0.refl _ | apply Drawn0.step)⟩
              · rw [if_neg c7] at H
                exact absurd H (by simp)
            · rw [if_neg c6] at H
              exact absurd H (by simp)
          · rw [if_neg c5] at H
            exact absurd H (by simp)
        · rw [if_neg c4] at H
          have c4b0 : decide (x13_1 < (l0.length : Int)) = false := decide_eq_false c4
          clear c4
          obtain rfl := Option.some.inj H
          go_wp2
          repeat (go_quiet (fail); try go_wp2)
          go_ret
          exact ⟨by first | rfl | (simp; done) | (simp [*]; done), by repeat (first | exact Drawn0.refl _ | apply Drawn0.step)⟩
  · rw [if_neg c3] at H
    have c3b0 : ((l0.length : Int) == (l1.length : Int)) = false := beq_eq_false_iff_ne.mpr c3
    have c3b1 : ((l0.length : Int) != (l1.length : Int)) = true := bne_iff_ne.mpr c3
    have c3b2 : (l0.length == l1.length) = false := by first | simpa using c3 | (simp at c3 ⊢; omega)
    obtain rfl := Option.some.inj H
    go_enter Tryd.func29, Tryd.ntmps29
    go_wp2
    repeat (go_quiet (fail); try go_wp2)
    go_ret
    exact ⟨by first | rfl | (simp; done) | (simp [*]; done), by repeat (first | exact Drawn0.refl _ | apply Drawn0.step)⟩

end Go.Proofs.YtijfddobandcdaaDoor.X
end
section
-- by ownprint.py (wip/tool), over the kit's print
namespace Go.Proofs.YtijfddobandcdaaDoor.X
open Go.RowKit Go.Proofs.YtijfddobandcdaaDoorW.PrintWords Go.Proofs.YtijfddobandcdaaDoorW.PrintLast Go.Proofs.YtijfddobandcdaaDoorW.PrintMore
attribute [local go_sem] max2_int min2_int max_two min_two max_three min_three max_four min_four
set_option linter.unusedVariables false
set_option linter.unusedSimpArgs false

/-! ### slices_Clone_int_int: function 57 -/
def slices_Clone_int_int.f (l0 : List Int) : Option (List Int) := (some (([] : List Int) : List Int)).bind fun y187 => (if y187.length + l0.length < 17592186044416 then (some (y187 ++ l0)) else (none))
set_option maxHeartbeats 8000000 in
set_option maxRecDepth 100000 in
theorem slices_Clone_int_int.calls_some (a0 : Addr) (c0 : Nat) (l0 : List Int) (r : List Int) (w : World) (hr0 : Kd.C (Kd.int .i64) w (some a0) l0.length l0) (hc0 : l0.length ≤ c0) (h : slices_Clone_int_int.f l0 = some r) :
    Calls Tryd.prog 57 #[.slice (some a0) l0.length c0] w fun e w' => ∃ v0_ : Value, e = .returned (v0_) ∧ Kd.R (Kd.int .i64) 3 w' w.heap.size (fun _ => True) v0_ r ∧ Below w.heap.size w w' := by
  have HR0 := Aside0.mk hr0
  have HC0 := Aside0.mk hc0
  clear hr0 hc0
  have HB := Aside0.mk (Below.refl w.heap.size w)
  have H : ((some (([] : List Int) : List Int)).bind fun y187 => (if y187.length + l0.length < 17592186044416 then (some (y187 ++ l0)) else (none))) = some r := h
  clear h
  obtain ⟨y187, hy187⟩ : ∃ y_ : List Int, y_ = (([] : List Int)) := ⟨_, rfl⟩
  replace H : (if y187.length + l0.length < 17592186044416 then (some (y187 ++ l0)) else (none)) = some r := by first | (rw [hy187]; with_reducible exact H) | (have H2_ := (Option.bind_some _ _).symm.trans H; rw [hy187]; with_reducible exact H2_) | (have H2_ := (Option.bind_some _ _).symm.trans H; with_reducible exact H2_) | with_reducible exact H | (rw [hy187]; exact H) | exact H
  have Ny187 := Aside0.mk hy187
  clear hy187
  by_cases c2 : y187.length + l0.length < 17592186044416
  · rw [if_pos c2] at H
    have LMc2 := Aside0.mk c2
    clear c2
    obtain ⟨y190, hy190⟩ : ∃ y_ : List Int, y_ = (y187 ++ l0) := ⟨_, rfl⟩
    replace H : (some y190) = some r := by first | (rw [hy190]; with_reducible exact H) | (have H2_ := (Option.bind_some _ _).symm.trans H; rw [hy190]; with_reducible exact H2_) | (have H2_ := (Option.bind_some _ _).symm.trans H; with_reducible exact H2_) | with_reducible exact H | (rw [hy190]; exact H) | exact H
    have Ny190 := Aside0.mk hy190
    clear hy190
    obtain rfl := Option.some.inj H
    have heq_ := fun (w : World) => Lib.run_eql_slice_nil (P := Tryd.prog) w 22 3 (some a0) l0.length c0 0 0 Tryd.underlying22
    go_enter Tryd.func57, Tryd.ntmps57
    go_wp2_with (first | ((with_reducible refine gate_dst (N := 5) rfl ?_); refine Kd.R_lit (Kd.int .i64) _ 3 ?hg (N := 5) ?hd (xs := ([] : List Int)) (inner := []) (ok := fun _ => True) (okp := fun _ => True) ?hr ?hp (fun _ hk => hk) trivial (Below.refl _ _) (Nat.le_refl _) (by simp) ?_; (case hd => rfl); (case hg => rfl); (case hr => first | (go_simp; done) | (go_simp; rfl)); (case hp => exact (Reps.none _ _)); intro v188 w3 ho4 hb hg_ hnew_; clear hg_ hnew_; (first | rw [← Ny187.out] at ho4 | (simp only [Int.reduceToNat] at ho4; rw [← Ny187.out] at ho4)); have n0_ := Aside0.mk (Kd.R_lower ho4 (below_size (by repeat (first | (with_reducible first | exact HB.out | apply below_alloc | apply pw_below_drewN | apply below_drew1) | exact HB.out)))); have n1_ := Aside0.mk (below_step (by repeat (first | (with_reducible first | exact HB.out | apply below_alloc | apply pw_below_drewN | apply below_drew1) | exact HB.out)) hb); clear HB; have HO189 := n0_; have HB := n1_; clear n0_ n1_; clear hb ho4) | ((with_reducible refine gate_builtin (b := .append) (xs := #[.tmp 5, .tmp 6]) rfl ?_); at_builtin; refine Kd.R_append_rows (Kd.int .i64) (w0 := w) w.heap.size rfl (.tmp 5) (.tmp 6) 22 3 (.int .i64 0) 8 rfl Tryd.underlying22 info3 rfl (by decide) (by omega) v188 y187 l0 _ _ _ (fun _ => True) (fun _ => False) rfl rfl ?aO ?aR (fun _ _ h => h) (fun _ h => h.elim) ?aF ?aB ?aS ?aL ?_; (case aR => repeat (first | exact (Kd.C_below HR0.out HB.out) | (with_reducible refine Kd.C_alloc ?_ _) | (with_reducible refine Kd.C_drewN ?_ _) | (with_reducible refine Kd.C_drew ?_))); (case aB => exact (by repeat (first | (with_reducible first | exact HB.out | apply below_alloc | apply pw_below_drewN | apply below_drew1) | exact HB.out))); (case aF => exact (fun _ _ => trivial)); (case aO => exact (by (with_reducible repeat (first | apply Kd.R_alloc | apply Kd.R_drewN | apply Kd.R_drew)); exact HO189.out)); (case aS => exact (below_size (by repeat (first | (with_reducible first | exact HB.out | apply below_alloc | apply pw_below_drewN | apply below_drew1) | exact HB.out)))); (case aL => have := LMc2.out; omega); intro v191 w5 ho hb hg hat; rw [← Ny190.out] at ho; have n0_ := Aside0.mk (hb); have n1_ := Aside0.mk (ho); clear HB; clear HO189; have HB := n0_; have HO192 := n1_; clear n0_ n1_; clear ho hb hg hat))
    go_ret
    exact ⟨_, by first | rfl | (simp [errW_none, errW_some] <;> rfl) | (simp [*, errW_none, errW_some] <;> rfl), by (with_reducible repeat (first | apply Kd.R_alloc | apply Kd.R_drewN | apply Kd.R_drew)); exact HO192.out, by repeat (first | (with_reducible first | exact HB.out | apply below_alloc | apply pw_below_drewN | apply below_drew1) | exact HB.out)⟩
  · rw [if_neg c2] at H
    exact absurd H (by simp)

theorem slices_Clone_int_int.calls (A0 : Option Addr) (c0 : Nat) (l0 : List Int) (r : List Int) (w : World) (hr0 : Kd.C (Kd.int .i64) w A0 l0.length l0) (hc0 : l0.length ≤ c0) (h : slices_Clone_int_int.f l0 = some r) :
    Calls Tryd.prog 57 #[.slice A0 l0.length c0] w fun e w' => ∃ v0_ : Value, e = .returned (v0_) ∧ Kd.R (Kd.int .i64) 3 w' w.heap.size (fun _ => True) v0_ r ∧ Below w.heap.size w w' := by
  cases A0 with
  | some a0 => exact slices_Clone_int_int.calls_some a0 c0 l0 r w hr0 hc0 h
  | none =>
    have hl : l0 = [] := by
      rcases Nat.eq_zero_or_pos l0.length with h0 | h0
      · exact List.length_eq_zero_iff.mp h0
      · obtain ⟨ad, he, _⟩ := hr0.2.2 h0
        cases he
    subst hl
    obtain rfl : [] = r := by simpa [slices_Clone_int_int.f] using h
    clear h hr0 hc0
    have heq_ := fun (w : World) => Lib.run_eql_slice_nil (P := Tryd.prog) w 22 3 none 0 c0 0 0 Tryd.underlying22
    go_enter Tryd.func57, Tryd.ntmps57
    go_wp2
    go_ret
    exact ⟨_, rfl, Kd.R_nil _ _ _ _ _, Below.refl _ _⟩

end Go.Proofs.YtijfddobandcdaaDoor.X
end
section
-- by ownprint.py (wip/tool), over the kit's print
namespace Go.Proofs.YtijfddobandcdaaDoor.X
open Go.RowKit Go.Proofs.YtijfddobandcdaaDoorW.PrintWords Go.Proofs.YtijfddobandcdaaDoorW.PrintLast Go.Proofs.YtijfddobandcdaaDoorW.PrintMore
attribute [local go_sem] max2_int min2_int max_two min_two max_three min_three max_four min_four
set_option linter.unusedVariables false
set_option linter.unusedSimpArgs false

/-! ### lampblacklaw03_list: function 27 -/
def lampblacklaw03_list.f (l0 : List Int) : Option (List Int) := if 0 ≤ (mn (l0.length : Int) 140) then (if (mn (l0.length : Int) 140) ≤ (l0.length : Int) then ((slices_Clone_int_int.f (l0.take ((mn (l0.length : Int) 140) : Int).toNat)).bind fun t229 => (some t229)) else (none)) else (none)
set_option maxHeartbeats 8000000 in
set_option maxRecDepth 100000 in
theorem lampblacklaw03_list.calls (A0 : Option Addr) (c0 : Nat) (l0 : List Int) (r : List Int) (w : World) (hr0 : Kd.C (Kd.int .i64) w A0 l0.length l0) (hc0 : l0.length ≤ c0) (h : lampblacklaw03_list.f l0 = some r) :
    Calls Tryd.prog 27 #[.slice A0 l0.length c0] w fun e w' => ∃ v0_ : Value, e = .returned (v0_) ∧ Kd.R (Kd.int .i64) 3 w' w.heap.size (fun _ => True) v0_ r ∧ Below w.heap.size w w' := by
  have HR0 := Aside0.mk hr0
  have HC0 := Aside0.mk hc0
  clear hr0 hc0
  have HB := Aside0.mk (Below.refl w.heap.size w)
  have H : (if 0 ≤ (mn (l0.length : Int) 140) then (if (mn (l0.length : Int) 140) ≤ (l0.length : Int) then ((slices_Clone_int_int.f (l0.take ((mn (l0.length : Int) 140) : Int).toNat)).bind fun t229 => (some t229)) else (none)) else (none)) = some r := h
  clear h
  obtain ⟨ji2, hji2⟩ : ∃ j_ : Int, (mn (l0.length : Int) 140) = j_ := ⟨_, rfl⟩
  replace H : (if 0 ≤ (ji2) then (if (ji2) ≤ (l0.length : Int) then ((slices_Clone_int_int.f (l0.take ((ji2) : Int).toNat)).bind fun t229 => (some t229)) else (none)) else (none)) = some r := by first | (rw [hji2] at H; exact H) | (simp only [hji2] at H ⊢; exact H)
  (try (have hji2h : ji2 ≤ 140 := by (rw [← hji2]; unfold mn; (repeat' split) <;> omega)))
  (try (have hji2g : ji2 ≤ 64 := by omega))
  (try (have hji2l : 0 ≤ ji2 := by (rw [← hji2]; unfold mn; (repeat' split) <;> omega)))
  (try (have hji2m : 0 ≤ ji2 := by omega))
  have hji2_ : (if 140 < (l0.length : Int) then 140 else (l0.length : Int)) = ji2 := hji2
  by_cases c3 : 0 ≤ (ji2)
  · rw [if_pos c3] at H
    have c3b0 := eq_true c3
    have c3b1 : decide (0 ≤ (ji2)) = true := decide_eq_true c3
    clear c3
    by_cases c4 : (ji2) ≤ (l0.length : Int)
    · rw [if_pos c4] at H
      have c4b0 := eq_true c4
      have c4b1 : decide ((ji2) ≤ (l0.length : Int)) = true := decide_eq_true c4
      clear c4
      replace H := Option.bind_eq_some_iff.mp H
      obtain ⟨t229, A50, H⟩ := H
      replace H : (some t229) = some r := H
      have A5 := Aside0.mk A50
      clear A50
      obtain rfl := Option.some.inj H
      obtain ⟨i06, hi06, _, hsz6, _⟩ := info_parts info3
      obtain ⟨hcut6, hA6, hC6⟩ := print_take_of (P := Tryd.prog) (Value.int .i64) 0 22 3 .i64 Tryd.underlying22 hi06 hsz6 A0 c0 l0 (ji2) (of_decide_eq_true (by first | (with_reducible assumption) | assumption)) (of_decide_eq_true (by first | (with_reducible assumption) | assumption)) HC0.out
      have HR228 := Aside0.mk (Kd.C_of_reads (h1 := fun _ => rfl) (hA6 _ (Kd.reads_of_C HR0.out)))
      have HC228 := Aside0.mk hC6
      clear hA6 hC6 hi06 hsz6
      go_enter Tryd.func27, Tryd.ntmps27
      go_wp2_with (first | ((with_reducible refine gate_callee (f := 57) rfl ?_); refine goesL_ (some 8) rfl rfl Tryd.func57 (by kernel_rfl) rfl #[.slice A0 (l0.take ((ji2) : Int).toNat).length c0] rfl (by (try simp only [List.map_toArray, List.map_cons, List.map_nil]); first | done | (rw [show (l0.take ((ji2) : Int).toNat).length = (ji2).toNat from (by rw [List.length_take]; have h_ : ((ji2) : Int) ≤ (l0.length : Int) := of_decide_eq_true (by first | (with_reducible assumption) | assumption); omega)] <;> rfl) | (simp only [hji2]; rfl) | rfl | (simp only [List.length_drop, List.length_take]; rfl)) ?_; (with_reducible refine (slices_Clone_int_int.calls _ _ (l0.take ((ji2) : Int).toNat) t229 _ ?side1 ?side2 A5.out).mono ?_); (case side1 => repeat (first | exact HR228.out | (with_reducible refine Kd.C_alloc ?_ _) | (with_reducible refine Kd.C_drewN ?_ _) | (with_reducible refine Kd.C_drew ?_))); (case side2 => exact HC228.out); rintro e w7 ⟨v230, rfl, ho0, hb⟩; refine ⟨_, rfl, ?_⟩; have n0_ := Aside0.mk (Kd.R_lower ho0 (below_size (by repeat (first | (with_reducible first | exact HB.out | apply below_alloc | apply pw_below_drewN | apply below_drew1) | exact HB.out)))); have n1_ := Aside0.mk (below_step (by repeat (first | (with_reducible first | exact HB.out | apply below_alloc | apply pw_below_drewN | apply below_drew1) | exact HB.out)) hb); clear HB; have HO231 := n0_; have HB := n1_; clear n0_ n1_; (try clear hb); (try clear hb2); (try clear hk); (try clear hi); (try clear ho0)))
      go_ret
      exact ⟨_, by first | rfl | (simp [errW_none, errW_some] <;> rfl) | (simp only [← hji2]; first | rfl | (simp [errW_none, errW_some] <;> rfl)) | (simp [*, errW_none, errW_some] <;> rfl), by (with_reducible repeat (first | apply Kd.R_alloc | apply Kd.R_drewN | apply Kd.R_drew)); exact HO231.out, by repeat (first | (with_reducible first | exact HB.out | apply below_alloc | apply pw_below_drewN | apply below_drew1) | exact HB.out)⟩
    · rw [if_neg c4] at H
      exact absurd H (by simp)
  · rw [if_neg c3] at H
    exact absurd H (by simp)

end Go.Proofs.YtijfddobandcdaaDoor.X
end
section
/- IsOrder, isLayout, Border, bags, Equal: what they compute. -/
set_option linter.unusedVariables false
namespace Go.Proofs.YtijfddobandcdaaDoor.X
open Go.RowKit Go.Proofs.YtijfddobandcdaaDoorW.PrintWords Go.Proofs.YtijfddobandcdaaDoorW.PrintLast Go.Proofs.YtijfddobandcdaaDoorW.PrintMore Go.Proofs.YtijfddobandcdaaDoor.T

theorem bit_bset (a i : Nat) (ha : a < 2 ^ 62) (hi : i < 62) : Go.bits .and .i64 (shr .i64 (a : Int) (i : Int)) 1 = 1 ↔ bset a i := bit_one a i ha hi
theorem isOrder_l0 (l : List Int) (n : Nat) (hn : n ≤ 9) (hl : l.length < 2 ^ 60) : ∀ (d i : Nat) (P : List Nat), i + d = l.length → l.take i = gi P → P.Nodup → (∀ v ∈ P, v < n) →
    ∃ r, Ev (fun k => lampblackref02_IsOrder.l0 k l (n : Int) ((lset P : Nat) : Int) l (l.length : Int) (i : Int)) r ∧ (r = true ↔ IsOrd n l) := by
  intro d
  induction d with
  | zero =>
    intro i P hi hP h1 h2
    have e : l = gi P := by rw [← hP, List.take_of_length_le (by omega)]
    refine ⟨((l.length : Int) == (n : Int)), Ev.step (f := fun _ => some ((l.length : Int) == (n : Int))) (fun k => by rw [lampblackref02_IsOrder.l0, if_neg (by omega)]) (Ev.some rfl), ?_⟩
    rw [e, IsOrd.of h1 h2, gi_length, beq_iff_eq]
    omega
  | succ d ih =>
    intro i P hi hP h1 h2
    have hil : i < l.length := by omega
    have hP62 : lset P < 2 ^ 62 := Nat.lt_of_lt_of_le (lset_lt h2) (Nat.pow_le_pow_right (by omega) (by omega))
    by_cases h3 : rd l (i : Int) < 0
    · refine ⟨false, Ev.step (f := fun _ => some false) (fun k => by rw [lampblackref02_IsOrder.l0, if_pos (by omega), if_pos (by omega), if_pos (by omega), if_pos h3]) (Ev.some rfl), ?_⟩
      simp only [Bool.false_eq_true, false_iff]
      intro h
      obtain ⟨v, hv, _⟩ := h.get i hil
      omega
    · by_cases h4 : rd l (i : Int) ≥ (n : Int)
      · refine ⟨false, Ev.step (f := fun _ => some false) (fun k => by rw [lampblackref02_IsOrder.l0, if_pos (by omega), if_pos (by omega), if_pos (by omega), if_neg h3, if_pos h4]) (Ev.some rfl), ?_⟩
        simp only [Bool.false_eq_true, false_iff]
        intro h
        obtain ⟨v, hv, hv2⟩ := h.get i hil
        omega
      · obtain ⟨v, hv⟩ : ∃ v : Nat, rd l (i : Int) = (v : Int) := ⟨(rd l (i : Int)).toNat, by omega⟩
        have hvn : v < n := by omega
        by_cases h5 : v ∈ P
        · refine ⟨false, Ev.step (f := fun _ => some false) (fun k => ?_) (Ev.some rfl), ?_⟩
          · rw [lampblackref02_IsOrder.l0, if_pos (by omega), if_pos (by omega), if_pos (by omega), if_neg h3, if_neg h4, if_pos (by omega), hv, if_pos ((bit_bset _ _ hP62 (by omega)).2 ((lset_bit P v).2 h5))]
          · simp only [Bool.false_eq_true, false_iff]
            intro h
            exact h.fresh hil hP hv h5
        · have hb : ¬ Go.bits .and .i64 (shr .i64 ((lset P : Nat) : Int) (v : Int)) 1 = 1 := fun h => h5 ((lset_bit P v).1 ((bit_bset _ _ hP62 (by omega)).1 h))
          obtain ⟨r, h6, h7⟩ := ih (i + 1) (P ++ [v]) (by omega) (take_snoc hP hil v hv) (List.nodup_append.2 ⟨h1, by simp, by simp; intro a ha; exact fun e => h5 (e ▸ ha)⟩) (by
            intro x hx
            rcases List.mem_append.1 hx with h | h
            · exact h2 x h
            · rw [List.mem_singleton.1 h]; exact hvn)
          refine ⟨r, Ev.step (fun k => ?_) h6, h7⟩
          have e2 : 2 ^ v < 2 ^ 62 := Nat.pow_lt_pow_right (by omega) (by omega)
          rw [lampblackref02_IsOrder.l0, if_pos (by omega), if_pos (by omega), if_pos (by omega), if_neg h3, if_neg h4, if_pos (by omega), hv, if_neg hb, s_one v (by omega), b_or _ _ hP62 e2, wrap_succ i (by omega), lset_snoc]
theorem isOrder_ev (l : List Int) (n : Nat) (hn : n ≤ 9) (hl : l.length < 2 ^ 60) : ∃ r, Ev (fun k => lampblackref02_IsOrder.f k l (n : Int)) r ∧ (r = true ↔ IsOrd n l) :=
  isOrder_l0 l n hn hl l.length 0 [] (by omega) (by simp [gi]) List.nodup_nil (by simp)
theorem isLayout_l0 (G : List Nat) (hG : Gr 7 G) (l : List Int) (hl : l.length < 2 ^ 60) : ∀ (d i : Nat) (P : List Nat), i + d = l.length → l.take i = gi P → (∀ v ∈ P, v < G.length) →
    ∃ r, Ev (fun k => sweep_town_isLayout.l0 k (gi G) l ((lset P : Nat) : Int) l (l.length : Int) (i : Int)) r ∧ (r = true ↔ IsOrd G.length l) := by
  have hn := hG.most
  intro d
  induction d with
  | zero =>
    intro i P hi hP h2
    have e : l = gi P := by rw [← hP, List.take_of_length_le (by omega)]
    have hall : sweep_town_all.f (gi G) = some ((2 ^ G.length - 1 : Nat) : Int) := by
      unfold sweep_town_all.f
      have h1 : 2 ^ G.length ≤ 2 ^ 9 := Nat.pow_le_pow_right (by omega) (by omega)
      have h2 := Nat.two_pow_pos G.length
      rw [gi_length, s_one _ (by omega), w64_small _ (by omega) (by omega)]
      congr 1
      omega
    by_cases hlen : l.length = G.length
    · refine ⟨(((lset P : Nat) : Int) == ((2 ^ G.length - 1 : Nat) : Int)), Ev.step (fun k => by rw [sweep_town_isLayout.l0, if_neg (by omega), if_pos (by rw [gi_length]; omega)]) (Ev.bind1 hall (Ev.some rfl)), ?_⟩
      have hPl : P.length = G.length := by rw [e, gi_length] at hlen; exact hlen
      constructor
      · intro h
        have h3 : lset P = 2 ^ G.length - 1 := Int.ofNat.inj (beq_iff_eq.1 h)
        have h4 := nodup_of_covers (P := P) (n := G.length) (by omega) fun j hj => by rw [← lset_bit, h3, full_bit]; exact hj
        exact e ▸ (IsOrd.of h4 h2).2 hPl
      · intro h
        rw [e] at h
        obtain ⟨Q, e2, h3, h4, h5⟩ := h
        obtain rfl := gi_inj e2
        have h6 : lset P = 2 ^ G.length - 1 := eq_of_bits fun j => by
          show bset _ _ ↔ bset _ _
          rw [lset_bit, full_bit]
          exact ⟨fun h => h4 j h, covers_of_nodup h5 h3 h4 j⟩
        simp [h6]
    · refine ⟨false, Ev.step (f := fun _ => some false) (fun k => by rw [sweep_town_isLayout.l0, if_neg (by omega), if_neg (by rw [gi_length]; omega)]) (Ev.some rfl), ?_⟩
      simp only [Bool.false_eq_true, false_iff]
      rintro ⟨Q, e2, _, _, h5⟩
      rw [e2, gi_length] at hlen
      exact hlen h5
  | succ d ih =>
    intro i P hi hP h2
    have hil : i < l.length := by omega
    have hP62 : lset P < 2 ^ 62 := Nat.lt_of_lt_of_le (lset_lt h2) (Nat.pow_le_pow_right (by omega) (by omega))
    by_cases h3 : rd l (i : Int) < 0
    · refine ⟨false, Ev.step (f := fun _ => some false) (fun k => by rw [sweep_town_isLayout.l0, if_pos (by omega), if_pos (by omega), if_pos (by omega), if_pos h3]) (Ev.some rfl), ?_⟩
      simp only [Bool.false_eq_true, false_iff]
      intro h
      obtain ⟨v, hv, _⟩ := h.get i hil
      omega
    · by_cases h4 : rd l (i : Int) ≥ (G.length : Int)
      · refine ⟨false, Ev.step (f := fun _ => some false) (fun k => by rw [sweep_town_isLayout.l0, if_pos (by omega), if_pos (by omega), if_pos (by omega), if_neg h3, if_pos (by rw [gi_length]; exact h4)]) (Ev.some rfl), ?_⟩
        simp only [Bool.false_eq_true, false_iff]
        intro h
        obtain ⟨v, hv, hv2⟩ := h.get i hil
        omega
      · obtain ⟨v, hv⟩ : ∃ v : Nat, rd l (i : Int) = (v : Int) := ⟨(rd l (i : Int)).toNat, by omega⟩
        have hvn : v < G.length := by omega
        obtain ⟨r, h6, h7⟩ := ih (i + 1) (P ++ [v]) (by omega) (take_snoc hP hil v hv) (by
          intro x hx
          rcases List.mem_append.1 hx with h | h
          · exact h2 x h
          · rw [List.mem_singleton.1 h]; exact hvn)
        refine ⟨r, Ev.step (fun k => ?_) h6, h7⟩
        have e2 : 2 ^ v < 2 ^ 62 := Nat.pow_lt_pow_right (by omega) (by omega)
        rw [sweep_town_isLayout.l0, if_pos (by omega), if_pos (by omega), if_pos (by omega), if_neg h3, if_neg (by rw [gi_length]; exact h4), if_pos (by omega), hv, s_one v (by omega), b_or _ _ hP62 e2, wrap_succ i (by omega), lset_snoc]
theorem isLayout_ev (G : List Nat) (hG : Gr 7 G) (l : List Int) (hl : l.length < 2 ^ 60) : ∃ r, Ev (fun k => sweep_town_isLayout.f k (gi G) l) r ∧ (r = true ↔ IsOrd G.length l) :=
  isLayout_l0 G hG l hl l.length 0 [] (by omega) (by simp [gi]) (by simp)
/-- list hands on a beginning of at least 140. -/
theorem list_eq (l : List Int) (hl : l.length < 2 ^ 44) : ∃ m, lampblacklaw03_list.f l = some m ∧ (l.length ≤ 140 → m = l) ∧ (140 < l.length → m.length = 140) ∧ m.length ≤ 140 := by
  have hm : mn (l.length : Int) 140 = ((min l.length 140 : Nat) : Int) := mn_nat l.length 140
  refine ⟨l.take (min l.length 140), ?_, fun h => List.take_of_length_le (by omega), fun h => by rw [List.length_take]; omega, by rw [List.length_take]; omega⟩
  unfold lampblacklaw03_list.f slices_Clone_int_int.f
  simp only [hm, Int.toNat_natCast]
  rw [if_pos (by omega), if_pos (by omega)]
  simp only [Option.bind_some, List.length_nil, List.nil_append]
  rw [if_pos (by rw [List.length_take]; omega)]
  rfl
theorem list_ord {l m : List Int} {n : Nat} (hn : n ≤ 9) (h1 : l.length ≤ 140 → m = l) (h2 : 140 < l.length → m.length = 140) : IsOrd n m ↔ IsOrd n l := by
  by_cases h : l.length ≤ 140
  · rw [h1 h]
  · have := h2 (by omega)
    exact ⟨fun h' => by have := h'.length; omega, fun h' => by have := h'.length; omega⟩

theorem refBorder_l0 (G : List Nat) (hG : Gr 7 G) (S : Nat) (hS : S < 2 ^ G.length) : ∀ (d i o : Nat), i + d = G.length → o < 2 ^ G.length → (∀ j, bset o j ↔ j < i ∧ bset (bor G S) j) →
    Ev (fun k => lampblackref03_Border.l0 k (gi G) (S : Int) (o : Int) (G.length : Int) (i : Int)) ((bor G S : Nat) : Int) := by
  have hn := hG.most
  intro d
  induction d with
  | zero =>
    intro i o hi ho h
    have e : o = bor G S := eq_of_bits fun j => by
      show bset _ _ ↔ bset _ _
      rw [h]
      exact ⟨fun h => h.2, fun h => ⟨by have := bit_lt (bor_lt G S) h; omega, h⟩⟩
    subst e
    exact Ev.step (f := fun _ => some ((bor G S : Nat) : Int)) (fun k => by rw [lampblackref03_Border.l0, if_neg (by omega)]) (Ev.some rfl)
  | succ d ih =>
    intro i o hi ho h
    have hi' : i < G.length := by omega
    have hS62 := big (small G (by omega) hS)
    have hr62 := big (small G (by omega) (hG.row i))
    have ho62 := big (small G (by omega) ho)
    have e2 : 2 ^ i < 2 ^ G.length := Nat.pow_lt_pow_right (by omega) hi'
    have e62 := big (small G (by omega) e2)
    have hE2 := Aside0.mk e2
    clear e2
    have step : ∀ o2 : Nat, o2 < 2 ^ G.length → (∀ j, bset o2 j ↔ bset o j ∨ (j = i ∧ bset (bor G S) i)) → Ev (fun k => lampblackref03_Border.l0 k (gi G) (S : Int) (o2 : Int) (G.length : Int) ((i + 1 : Nat) : Int)) ((bor G S : Nat) : Int) := fun o2 h1 h2 => by
      refine ih (i + 1) o2 (by omega) h1 fun j => ?_
      rw [h2, h]
      constructor
      · rintro (h | ⟨rfl, h⟩)
        · exact ⟨by omega, h.2⟩
        · exact ⟨by omega, h⟩
      · rintro ⟨h3, h4⟩
        by_cases e : j = i
        · subst e; exact .inr ⟨rfl, h4⟩
        · exact .inl ⟨by omega, h4⟩
    have hwi := wrap_succ i (by omega)
    by_cases hb : bset S i
    · by_cases hd : diff (G.getD i 0) S = 0
      · refine Ev.step (fun k => ?_) (step o ho fun j => ⟨.inl, fun h => h.elim id fun h => ?_⟩)
        · rw [lampblackref03_Border.l0, if_pos (by omega), if_pos (by omega), if_pos ((bit_bset _ _ hS62 (by omega)).2 hb), if_pos (by rw [gi_length]; omega), rd_gi, b_andNot _ _ hr62 hS62, hd, if_pos (show ((0 : Nat) : Int) = 0 from rfl), hwi]
        · obtain ⟨_, u, hu, hu'⟩ := (bor_bit hG S i).1 h.2
          exact (diff_ne.2 ⟨u, hu, hu'⟩ hd).elim
      · refine Ev.step (fun k => ?_) (step (o ||| 2 ^ i) (or_lt ho hE2.out) fun j => ?_)
        · rw [lampblackref03_Border.l0, if_pos (by omega), if_pos (by omega), if_pos ((bit_bset _ _ hS62 (by omega)).2 hb), if_pos (by rw [gi_length]; omega), rd_gi, b_andNot _ _ hr62 hS62, if_neg (by omega), s_one i (by omega), b_or _ _ ho62 e62, hwi]
        · rw [or_bset, two_pow_bit]
          refine ⟨fun h => h.imp id fun h => ⟨h, ?_⟩, fun h => h.imp id fun h => h.1⟩
          obtain ⟨u, hu⟩ := diff_ne.1 hd
          exact (bor_bit hG S i).2 ⟨hb, u, hu⟩
    · refine Ev.step (fun k => ?_) (step o ho fun j => ⟨.inl, fun h => h.elim id fun h => (hb ((bor_bit hG S i).1 h.2).1).elim⟩)
      rw [lampblackref03_Border.l0, if_pos (by omega), if_pos (by omega), if_neg (fun h => hb ((bit_bset _ _ hS62 (by omega)).1 h)), hwi]
theorem refBorder_ev (G : List Nat) (hG : Gr 7 G) (S : Nat) (hS : S < 2 ^ G.length) : Ev (fun k => lampblackref03_Border.f k (gi G) (S : Int)) ((bor G S : Nat) : Int) := by
  unfold lampblackref03_Border.f
  rw [gi_length]
  exact refBorder_l0 G hG S hS G.length 0 0 (by omega) (Nat.two_pow_pos _) fun j => ⟨fun h => by unfold bset at h; simp at h, fun h => by omega⟩

/-- The bags of a layout that goes on behind S. -/
noncomputable def bagsOf (G : List Nat) : Nat → List Nat → List Nat
  | _, [] => []
  | S, v :: P => (bor G S ||| 2 ^ v) :: bagsOf G (S ||| 2 ^ v) P
theorem bagsOf_length (G : List Nat) : ∀ (P : List Nat) (S : Nat), (bagsOf G S P).length = P.length
  | [], _ => rfl
  | v :: P, S => by simp [bagsOf, bagsOf_length G P]
theorem refBags_l0 (G : List Nat) (hG : Gr 7 G) (P : List Nat) (hP : ∀ v ∈ P, v < G.length) (hl : P.length < 2 ^ 40) : ∀ (d i S : Nat) (out : List Nat), i + d = P.length → S < 2 ^ G.length → out.length = i →
    Ev (fun k => lampblackref03_Bags.l0 k (gi G) (gi out) (S : Int) (gi P) (P.length : Int) (i : Int)) (gi (out ++ bagsOf G S (P.drop i))) := by
  have hn := hG.most
  intro d
  induction d with
  | zero =>
    intro i S out hi hS ho
    refine Ev.step (f := fun _ => some (gi out)) (fun k => by rw [lampblackref03_Bags.l0, if_neg (by omega)]) (Ev.some ?_)
    rw [List.drop_eq_nil_of_le (by omega)]
    simp [bagsOf]
  | succ d ih =>
    intro i S out hi hS ho
    have hi' : i < P.length := by omega
    have hm := hP _ (List.getElem_mem hi')
    have hr : rd (gi P) (i : Int) = ((P[i] : Nat) : Int) := by rw [rd_gi, List.getD_eq_getElem?_getD, List.getElem?_eq_getElem hi']; rfl
    have hS62 := big (small G (by omega) hS)
    have hb62 := big (small G (by omega) (bor_lt G S))
    have e2 : 2 ^ P[i] < 2 ^ G.length := Nat.pow_lt_pow_right (by omega) hm
    have e62 := big (small G (by omega) e2)
    have hS2 := or_lt hS e2
    clear e2
    have h := ih (i + 1) (S ||| 2 ^ P[i]) (out ++ [bor G S ||| 2 ^ P[i]]) (by omega) hS2 (by simp; omega)
    refine Ev.step (f := fun k => (lampblackref03_Border.f k (gi G) (S : Int)).bind fun t259 => if 0 ≤ ((P[i] : Nat) : Int) then (if (gi out).length < 17592186044416 then lampblackref03_Bags.l0 k (gi G) (gi out ++ [Go.bits .or .i64 t259 (shl .i64 1 ((P[i] : Nat) : Int))]) (Go.bits .or .i64 (S : Int) (shl .i64 1 ((P[i] : Nat) : Int))) (gi P) (P.length : Int) (wrap64 ((i : Int) + 1)) else none) else none) (fun k => ?_) ?_
    · rw [lampblackref03_Bags.l0, if_pos (by omega), if_pos (by omega), if_pos (by rw [gi_length]; omega), hr]
    · refine Ev.bind (refBorder_ev G hG S hS) (Ev.if_pos (by omega) (Ev.if_pos (by rw [gi_length]; omega) ?_))
      rw [s_one _ (by omega), b_or _ _ hb62 e62, b_or _ _ hS62 e62, wrap_succ i (by omega), gi_snoc]
      rw [List.drop_eq_getElem_cons hi', bagsOf]
      simpa using h
theorem bags_l0 (G : List Nat) (hG : Gr 7 G) (P : List Nat) (hP : ∀ v ∈ P, v < G.length) (hl : P.length < 2 ^ 40) : ∀ (d i S : Nat) (out : List Nat), i + d = P.length → S < 2 ^ G.length → out.length = i →
    Ev (fun k => sweep_town_bags.l0 k (gi G) (gi out) (S : Int) (gi P) (P.length : Int) (i : Int)) (gi (out ++ bagsOf G S (P.drop i))) := by
  have hn := hG.most
  intro d
  induction d with
  | zero =>
    intro i S out hi hS ho
    refine Ev.step (f := fun _ => some (gi out)) (fun k => by rw [sweep_town_bags.l0, if_neg (by omega)]) (Ev.some ?_)
    rw [List.drop_eq_nil_of_le (by omega)]
    simp [bagsOf]
  | succ d ih =>
    intro i S out hi hS ho
    have hi' : i < P.length := by omega
    have hm := hP _ (List.getElem_mem hi')
    have hr : rd (gi P) (i : Int) = ((P[i] : Nat) : Int) := by rw [rd_gi, List.getD_eq_getElem?_getD, List.getElem?_eq_getElem hi']; rfl
    have hS62 := big (small G (by omega) hS)
    have hb62 := big (small G (by omega) (bor_lt G S))
    have e2 : 2 ^ P[i] < 2 ^ G.length := Nat.pow_lt_pow_right (by omega) hm
    have e62 := big (small G (by omega) e2)
    have hS2 := or_lt hS e2
    clear e2
    have h := ih (i + 1) (S ||| 2 ^ P[i]) (out ++ [bor G S ||| 2 ^ P[i]]) (by omega) hS2 (by simp; omega)
    refine Ev.step (f := fun k => (sweep_town_border.f (gi G) (S : Int)).bind fun t259 => if 0 ≤ ((P[i] : Nat) : Int) then (if (gi out).length < 17592186044416 then sweep_town_bags.l0 k (gi G) (gi out ++ [Go.bits .or .i64 t259 (shl .i64 1 ((P[i] : Nat) : Int))]) (Go.bits .or .i64 (S : Int) (shl .i64 1 ((P[i] : Nat) : Int))) (gi P) (P.length : Int) (wrap64 ((i : Int) + 1)) else none) else none) (fun k => ?_) ?_
    · rw [sweep_town_bags.l0, if_pos (by omega), if_pos (by omega), if_pos (by rw [gi_length]; omega), hr]
    · refine Ev.bind1 (border_eq G hG S hS) (Ev.if_pos (by omega) (Ev.if_pos (by rw [gi_length]; omega) ?_))
      rw [s_one _ (by omega), b_or _ _ hb62 e62, b_or _ _ hS62 e62, wrap_succ i (by omega), gi_snoc]
      rw [List.drop_eq_getElem_cons hi', bagsOf]
      simpa using h
theorem bags_ev (G : List Nat) (hG : Gr 7 G) (P : List Nat) (hP : ∀ v ∈ P, v < G.length) (hl : P.length < 2 ^ 40) : Ev (fun k => sweep_town_bags.f k (gi G) (gi P)) (gi (bagsOf G 0 P)) := by
  unfold sweep_town_bags.f
  rw [gi_length]
  exact bags_l0 G hG P hP hl P.length 0 0 [] (by omega) (Nat.two_pow_pos _) rfl
theorem refBags_ev (G : List Nat) (hG : Gr 7 G) (P : List Nat) (hP : ∀ v ∈ P, v < G.length) (hl : P.length < 2 ^ 40) : Ev (fun k => lampblackref03_Bags.f k (gi G) (gi P)) (gi (bagsOf G 0 P)) := by
  unfold lampblackref03_Bags.f
  rw [gi_length]
  exact refBags_l0 G hG P hP hl P.length 0 0 [] (by omega) (Nat.two_pow_pos _) rfl

theorem equal_l0 (a b : List Int) (hl : a.length = b.length) (h40 : a.length < 2 ^ 40) : ∀ d i, i + d = a.length → Ev (fun k => slices_Equal_int_int.l0 k a b (a.length : Int) (i : Int)) (decide (a.drop i = b.drop i)) := by
  intro d
  induction d with
  | zero =>
    intro i hi
    refine Ev.step (f := fun _ => some true) (fun k => by rw [slices_Equal_int_int.l0, if_neg (by omega)]) (Ev.some ?_)
    rw [List.drop_eq_nil_of_le (by omega), List.drop_eq_nil_of_le (by omega)]
    rfl
  | succ d ih =>
    intro i hi
    have h1 : i < a.length := by omega
    have h2 : i < b.length := by omega
    have r1 : rd a (i : Int) = a[i] := by unfold rd; rw [Int.toNat_natCast, List.getD_eq_getElem?_getD, List.getElem?_eq_getElem h1]; rfl
    have r2 : rd b (i : Int) = b[i] := by unfold rd; rw [Int.toNat_natCast, List.getD_eq_getElem?_getD, List.getElem?_eq_getElem h2]; rfl
    rw [List.drop_eq_getElem_cons h1, List.drop_eq_getElem_cons h2]
    by_cases e : a[i] = b[i]
    · refine Ev.step (f := fun k => slices_Equal_int_int.l0 k a b (a.length : Int) ((i + 1 : Nat) : Int)) (fun k => ?_) ?_
      · rw [slices_Equal_int_int.l0, if_pos (by omega), if_pos (by omega), if_pos (by omega), if_pos (by omega), r1, r2, if_pos e, wrap_succ i (by omega)]
      · rw [show (decide (a[i] :: a.drop (i + 1) = b[i] :: b.drop (i + 1))) = decide (a.drop (i + 1) = b.drop (i + 1)) from decide_eq_decide.2 ⟨fun h => (List.cons.inj h).2, fun h => by rw [e, h]⟩]
        exact ih (i + 1) (by omega)
    · refine Ev.step (f := fun _ => some false) (fun k => ?_) (Ev.some (decide_eq_false fun h => e (List.cons.inj h).1).symm)
      rw [slices_Equal_int_int.l0, if_pos (by omega), if_pos (by omega), if_pos (by omega), if_pos (by omega), r1, r2, if_neg e]
theorem equal_ev (a b : List Int) (h40 : a.length < 2 ^ 40) : Ev (fun k => slices_Equal_int_int.f k a b) (decide (a = b)) := by
  unfold slices_Equal_int_int.f
  by_cases hl : a.length = b.length
  · refine Ev.if_pos (by omega) ?_
    have := equal_l0 a b hl h40 a.length 0 (by omega)
    simpa using this
  · exact Ev.if_neg (by omega) (Ev.some (by symm; rw [decide_eq_false_iff_not]; exact fun e => hl (by rw [e])))
theorem equal_same (a : List Int) (h40 : a.length < 2 ^ 40) : Ev (fun k => slices_Equal_int_int.f k a a) true := by
  have := equal_ev a a h40
  simpa using this
end Go.Proofs.YtijfddobandcdaaDoor.X
end
section
-- by ownprint.py (wip/tool), over the kit's print
namespace Go.Proofs.YtijfddobandcdaaDoor.X
open Go.RowKit Go.Proofs.YtijfddobandcdaaDoorW.PrintWords Go.Proofs.YtijfddobandcdaaDoorW.PrintLast Go.Proofs.YtijfddobandcdaaDoorW.PrintMore
attribute [local go_sem] max2_int min2_int max_two min_two max_three min_three max_four min_four
set_option linter.unusedVariables false
set_option linter.unusedSimpArgs false

/-! ### sweep_town_breadth: function 56 -/
def sweep_town_breadth.l0 : Nat → List Int → Int → Int → List Int → Int → Int → Option (Int)
  | 0, _, _, _, _, _, _ => none
  | k + 1, x0, x5, x6, x9, x10, x11 => if x11 < x10 then (if 0 ≤ x11 then (if x11 < (x9.length : Int) then (if 0 ≤ (rd x9 x11) then ((sweep_town_border.f x0 (Go.bits .or .i64 x5 (shl .i64 1 (rd x9 x11)))).bind fun t220 => ((sweep_count.f t220).bind fun t221 => (sweep_town_breadth.l0 k x0 (Go.bits .or .i64 x5 (shl .i64 1 (rd x9 x11))) (mx x6 t221) x9 x10 (wrap64 (x11 + 1))))) else (none)) else (none)) else (none)) else (some x6)
def sweep_town_breadth.f (k : Nat) (l0 : List Int) (l1 : List Int) : Option (Int) := sweep_town_breadth.l0 k l0 0 0 l1 (l1.length : Int) 0
theorem sweep_town_breadth.mono_l : ∀ k, (∀ y0 y1 y2 y3 y4 y5, LeO (sweep_town_breadth.l0 k y0 y1 y2 y3 y4 y5) (sweep_town_breadth.l0 (k + 1) y0 y1 y2 y3 y4 y5))
  | 0 => fun _ _ _ _ _ _ r h => by simp [sweep_town_breadth.l0] at h
  | k + 1 => by
    have ih0 := sweep_town_breadth.mono_l k
    · intro y0 y1 y2 y3 y4 y5
      unfold sweep_town_breadth.l0
      repeat' first
      | (with_reducible exact ih0 _ _ _ _ _ _)
      | (with_reducible exact LeO.refl _)
      | (with_reducible exact LeO.none _)
      | (with_reducible refine LeO.ite ?_ ?_)
      | (with_reducible refine LeO.bind ?_ (fun _ => ?_))
      | exact ih0 _ _ _ _ _ _
      | exact LeO.none _
      | refine LeO.ite ?_ ?_
      | refine LeO.bind ?_ (fun _ => ?_)
theorem sweep_town_breadth.mono : ∀ a0 a1 k, LeO (sweep_town_breadth.f k a0 a1) (sweep_town_breadth.f (k + 1) a0 a1) := by
  intro a0 a1 k
  have ih0 := sweep_town_breadth.mono_l k
  unfold sweep_town_breadth.f
  repeat' first
      | (with_reducible exact ih0 _ _ _ _ _ _)
      | (with_reducible exact LeO.refl _)
      | (with_reducible exact LeO.none _)
      | (with_reducible refine LeO.ite ?_ ?_)
      | (with_reducible refine LeO.bind ?_ (fun _ => ?_))
      | exact ih0 _ _ _ _ _ _
      | exact LeO.none _
      | refine LeO.ite ?_ ?_
      | refine LeO.bind ?_ (fun _ => ?_)
set_option maxHeartbeats 8000000 in
set_option maxRecDepth 100000 in
theorem sweep_town_breadth.calls (k : Nat) (A0 : Option Addr) (c0 : Nat) (l0 : List Int) (A1 : Option Addr) (c1 : Nat) (l1 : List Int) (r : Int) (w : World) (hGL : GL w) (hr0 : Kd.C (Kd.int .i64) w A0 l0.length l0) (hc0 : l0.length ≤ c0) (hr1 : Kd.C (Kd.int .i64) w A1 l1.length l1) (hc1 : l1.length ≤ c1) (h : sweep_town_breadth.f k l0 l1 = some r) :
    Calls Tryd.prog 56 #[.slice A0 l0.length c0, .slice A1 l1.length c1] w fun e w' => e = .returned (.int .i64 r) ∧ Below w.heap.size w w' := by
  have HGL := Aside0.mk hGL
  clear hGL
  have HR0 := Aside0.mk hr0
  have HC0 := Aside0.mk hc0
  clear hr0 hc0
  have HR1 := Aside0.mk hr1
  have HC1 := Aside0.mk hc1
  clear hr1 hc1
  have HB := Aside0.mk (Below.refl w.heap.size w)
  have H : (sweep_town_breadth.l0 k l0 0 0 l1 (l1.length : Int) 0) = some r := h
  clear h
  have H' := Aside0.mk H
  clear H
  go_enter Tryd.func56, Tryd.ntmps56
  go_wp2
  go_loopg [5, 6, 11] k (fun kq v5 v6 v11 w' => ∃ (x5_1 : Int) (x6_1 : Int) (x11_1 : Int), v5 = .int .i64 x5_1 ∧ v6 = .int .i64 x6_1 ∧ v11 = .int .i64 x11_1 ∧ Aside0 (sweep_town_breadth.l0 kq l0 x5_1 x6_1 l1 (l1.length : Int) x11_1 = some r) ∧ Aside0 (kq ≤ k) ∧ Aside0 (Below w.heap.size w w'))
  case atStart => exact ⟨(0), (0), (0), (by first | rfl | (simp; done) | (simp [*]; done)), (by first | rfl | (simp; done) | (simp [*]; done)), (by first | rfl | (simp; done) | (simp [*]; done)), H', ⟨Nat.le_refl _⟩, ⟨by repeat (first | (with_reducible first | exact HB.out | apply below_alloc | apply pw_below_drewN | apply below_drew1) | exact HB.out)⟩⟩
  case round =>
    clear H'
    try clear c1
    try clear p2
    obtain ⟨x5_1, x6_1, x11_1, rfl, rfl, rfl, HA, HK1, HB⟩ := hrel
    cases gk with
    | zero => exact absurd HA.out (by simp [sweep_town_breadth.l0])
    | succ k1 =>
      have H := HA.out
      clear HA
      simp only [sweep_town_breadth.l0] at H
      by_cases c3 : x11_1 < (l1.length : Int)
      · rw [if_pos c3] at H
        have c3b0 : decide (x11_1 < (l1.length : Int)) = true := decide_eq_true c3
        clear c3
        by_cases c4 : 0 ≤ x11_1
        · rw [if_pos c4] at H
          have c4b0 : decide (0 ≤ x11_1) = true := decide_eq_true c4
          clear c4
          by_cases c5 : x11_1 < (l1.length : Int)
          · rw [if_pos c5] at H
            have c5b0 : decide (x11_1 < (l1.length : Int)) = true := decide_eq_true c5
            clear c5
            by_cases c6 : 0 ≤ (rd l1 x11_1)
            · rw [if_pos c6] at H
              have c6b0 := eq_true c6
              have c6b1 : decide (0 ≤ (rd l1 x11_1)) = true := decide_eq_true c6
              clear c6
              obtain ⟨ji7, hji7⟩ : ∃ j_ : Int, (shl .i64 1 (rd l1 x11_1)) = j_ := ⟨_, rfl⟩
              replace H : ((sweep_town_border.f l0 (Go.bits .or .i64 x5_1 (ji7))).bind fun t220 => ((sweep_count.f t220).bind fun t221 => (sweep_town_breadth.l0 k1 l0 (Go.bits .or .i64 x5_1 (ji7)) (mx x6_1 t221) l1 (l1.length : Int) (wrap64 (x11_1 + 1))))) = some r := by first | (rw [hji7] at H; exact H) | (simp only [hji7] at H ⊢; exact H)
              have hji7_ : (IntKind.i64.wrap (1 * 2 ^ min (rd l1 x11_1).toNat 64)) = ji7 := hji7
              have hji7z : (rd l1 x11_1) ≤ 64 → (IntKind.i64.wrap (1 * 2 ^ (rd l1 x11_1).toNat)) = ji7 := shl_small hji7
              have hji7u : (IntKind.i64.wrap (2 ^ min (rd l1 x11_1).toNat 64)) = ji7 := by have h_ := hji7_; rw [Int.one_mul] at h_; exact h_
              have hji7v : (rd l1 x11_1) ≤ 64 → (IntKind.i64.wrap (2 ^ (rd l1 x11_1).toNat)) = ji7 := fun hle_ => by have h_ := hji7z hle_; rw [Int.one_mul] at h_; exact h_
              have hji7y : (wrap64 (1 * 2 ^ min (rd l1 x11_1).toNat 64)) = ji7 := (i64_w _).symm.trans hji7_
              have hji7x : (rd l1 x11_1) ≤ 64 → (wrap64 (1 * 2 ^ (rd l1 x11_1).toNat)) = ji7 := fun h_ => (i64_w _).symm.trans (hji7z h_)
              replace H := Option.bind_eq_some_iff.mp H
              obtain ⟨t220, A80, H⟩ := H
              replace H : ((sweep_count.f t220).bind fun t221 => (sweep_town_breadth.l0 k1 l0 (Go.bits .or .i64 x5_1 (ji7)) (mx x6_1 t221) l1 (l1.length : Int) (wrap64 (x11_1 + 1)))) = some r := H
              have A8 := Aside0.mk A80
              clear A80
              replace H := Option.bind_eq_some_iff.mp H
              obtain ⟨t221, A90, H⟩ := H
              replace H : (sweep_town_breadth.l0 k1 l0 (Go.bits .or .i64 x5_1 (ji7)) (mx x6_1 t221) l1 (l1.length : Int) (wrap64 (x11_1 + 1))) = some r := H
              have A9 := Aside0.mk A90
              clear A90
              obtain ⟨ji10, hji10⟩ : ∃ j_ : Int, (mx x6_1 t221) = j_ := ⟨_, rfl⟩
              replace H : (sweep_town_breadth.l0 k1 l0 (Go.bits .or .i64 x5_1 (ji7)) ji10 l1 (l1.length : Int) (wrap64 (x11_1 + 1))) = some r := by first | (rw [hji10] at H; exact H) | (simp only [hji10] at H ⊢; exact H)
              (try rw [hji10] at A8)
              (try rw [hji10] at A9)
              have hji10_ : (if x6_1 < t221 then t221 else x6_1) = ji10 := hji10
              have H' := Aside0.mk H
              clear H
              have p219 : 0 ≤ (x11_1 : Int) := of_decide_eq_true (by first | (with_reducible assumption) | assumption)
              have q219 : x11_1 < (l1.length : Int) := of_decide_eq_true (by first | (with_reducible assumption) | assumption)
              obtain ⟨ad219, e219, hx219_0⟩ := Kd.at_int HR1.out x11_1 p219 q219
              cases e219
              replace hx219_0 := (HB.out.cell (World.block_lt_of_cell? w _ hx219_0)).trans hx219_0
              replace p219 := eq_true p219
              replace q219 := eq_true q219
              go_wp2_with (first | ((with_reducible refine gate_callee (f := 73) rfl ?_); refine goesL_ (some 22) rfl rfl Tryd.func73 (by kernel_rfl) rfl #[.slice A0 l0.length c0, .int .i64 (Go.bits .or .i64 x5_1 (ji7))] rfl (by (try simp only [List.map_toArray, List.map_cons, List.map_nil]); first | done | (simp only [hji7]; rfl) | rfl | (simp only [List.length_drop, List.length_take]; rfl)) ?_; (with_reducible refine (sweep_town_border.calls (hGL := (by repeat (first | (with_reducible exact HGL.out) | (with_reducible exact GL_below HGL.out HB.out) | (with_reducible refine GL_alloc ?_ _) | (with_reducible refine GL_drewN ?_ _) | (with_reducible refine GL_drew ?_)))) _ _ l0 (Go.bits .or .i64 x5_1 (ji7)) t220 _ ?side1 ?side2 A8.out).mono ?_); (case side1 => repeat (first | exact (Kd.C_below HR0.out HB.out) | (with_reducible refine Kd.C_alloc ?_ _) | (with_reducible refine Kd.C_drewN ?_ _) | (with_reducible refine Kd.C_drew ?_))); (case side2 => exact HC0.out); rintro e w11 ⟨rfl, hb⟩; refine ⟨_, rfl, ?_⟩; have n0_ := Aside0.mk (below_step (by repeat (first | (with_reducible first | exact HB.out | apply below_alloc | apply pw_below_drewN | apply below_drew1) | exact HB.out)) hb); clear HB; have HB := n0_; clear n0_; (try clear hb); (try clear hb2); (try clear hk); (try clear hi)) | ((with_reducible refine gate_callee (f := 63) rfl ?_); refine goesL_ (some 23) rfl rfl Tryd.func63 (by kernel_rfl) rfl #[.int .i64 t220] rfl (by (try simp only [List.map_toArray, List.map_cons, List.map_nil]); first | done | rfl | (simp only [List.length_drop, List.length_take]; rfl)) ?_; (with_reducible refine (sweep_count.calls t220 t221 _ A9.out).mono ?_); rintro e w' ⟨rfl, ⟨nd, rfl⟩⟩; refine ⟨_, rfl, ?_⟩))
              go_roundg k1
              case measure => have := HK1.out; omega
              case rel => exact ⟨(Go.bits .or .i64 x5_1 (ji7)), (ji10), (wrap64 (x11_1 + 1)), (by first | rfl | (simp; done) | (simp only [← hji7] <;> (first | rfl | simp)) | (simp [*]; done)), (by first | rfl | (simp; done) | (simp only [← hji10] <;> (first | rfl | simp)) | (simp [*]; done)), (by first | rfl | (simp; done) | (simp [*]; done)), H', ⟨by have := HK1.out; omega⟩, ⟨by repeat (first | (with_reducible first | exact HB.out | apply below_alloc | apply pw_below_drewN | apply below_drew1) | exact HB.out)⟩⟩
            · rw [if_neg c6] at H
              exact absurd H (by simp)
          · rw [if_neg c5] at H
            exact absurd H (by simp)
        · rw [if_neg c4] at H
          exact absurd H (by simp)
      · rw [if_neg c3] at H
        have c3b0 : decide (x11_1 < (l1.length : Int)) = false := decide_eq_false c3
        clear c3
        obtain rfl := Option.some.inj H
        go_wp2
        go_ret
        exact ⟨by first | rfl | (simp [errW_none, errW_some] <;> rfl) | (simp [*, errW_none, errW_some] <;> rfl), by repeat (first | (with_reducible first | exact HB.out | apply below_alloc | apply pw_below_drewN | apply below_drew1) | exact HB.out)⟩

end Go.Proofs.YtijfddobandcdaaDoor.X
end
section
-- by ownprint.py (wip/tool), over the kit's print
namespace Go.Proofs.YtijfddobandcdaaDoor.X
open Go.RowKit Go.Proofs.YtijfddobandcdaaDoorW.PrintWords Go.Proofs.YtijfddobandcdaaDoorW.PrintLast Go.Proofs.YtijfddobandcdaaDoorW.PrintMore
attribute [local go_sem] max2_int min2_int max_two min_two max_three min_three max_four min_four
set_option linter.unusedVariables false
set_option linter.unusedSimpArgs false

/-! ### sweep_Breadth: function 26 -/
def sweep_Breadth.f (k : Nat) (l0 : List Int) (l1 : List Int) : Option (Int × Int) := (sweep_read.f k l0).bind fun bt222 => (if bt222.2 = true then ((sweep_town_isLayout.f k bt222.1 l1).bind fun t226 => (if t226 = true then ((sweep_town_breadth.f k bt222.1 l1).bind fun t227 => (some (t227, 0))) else (some (0, 2)))) else (some (0, 2)))
theorem sweep_Breadth.mono : ∀ a0 a1 k, LeO (sweep_Breadth.f k a0 a1) (sweep_Breadth.f (k + 1) a0 a1) := by
  intro a0 a1 k
  unfold sweep_Breadth.f
  repeat' first
      | (with_reducible exact sweep_read.mono _ _)
      | (with_reducible exact sweep_town_breadth.mono _ _ _)
      | (with_reducible exact sweep_town_isLayout.mono _ _ _)
      | (with_reducible exact LeO.refl _)
      | (with_reducible exact LeO.none _)
      | (with_reducible refine LeO.ite ?_ ?_)
      | (with_reducible refine LeO.bind ?_ (fun _ => ?_))
      | exact sweep_read.mono _ _
      | exact sweep_town_breadth.mono _ _ _
      | exact sweep_town_isLayout.mono _ _ _
      | exact LeO.none _
      | refine LeO.ite ?_ ?_
      | refine LeO.bind ?_ (fun _ => ?_)
set_option maxHeartbeats 8000000 in
set_option maxRecDepth 100000 in
theorem sweep_Breadth.calls (k : Nat) (A0 : Option Addr) (c0 : Nat) (l0 : List Int) (A1 : Option Addr) (c1 : Nat) (l1 : List Int) (r1 : Int) (r2 : Int) (w : World) (hGL : GL w) (hr0 : Kd.C (Kd.int .i64) w A0 l0.length l0) (hc0 : l0.length ≤ c0) (hr1 : Kd.C (Kd.int .i64) w A1 l1.length l1) (hc1 : l1.length ≤ c1) (h : sweep_Breadth.f k l0 l1 = some (r1, r2)) :
    Calls Tryd.prog 26 #[.slice A0 l0.length c0, .slice A1 l1.length c1] w fun e w' => e = .returned (.tuple #[.int .i64 r1, .int .i64 r2]) ∧ Below w.heap.size w w' := by
  have HGL := Aside0.mk hGL
  clear hGL
  have HR0 := Aside0.mk hr0
  have HC0 := Aside0.mk hc0
  clear hr0 hc0
  have HR1 := Aside0.mk hr1
  have HC1 := Aside0.mk hc1
  clear hr1 hc1
  have HB := Aside0.mk (Below.refl w.heap.size w)
  have H : ((sweep_read.f k l0).bind fun bt222 => (if bt222.2 = true then ((sweep_town_isLayout.f k bt222.1 l1).bind fun t226 => (if t226 = true then ((sweep_town_breadth.f k bt222.1 l1).bind fun t227 => (some (t227, 0))) else (some (0, 2)))) else (some (0, 2)))) = some (r1, r2) := h
  clear h
  replace H := Option.bind_eq_some_iff.mp H
  obtain ⟨⟨t222, t225⟩, A30, H⟩ := H
  replace H : (if t225 = true then ((sweep_town_isLayout.f k t222 l1).bind fun t226 => (if t226 = true then ((sweep_town_breadth.f k t222 l1).bind fun t227 => (some (t227, 0))) else (some (0, 2)))) else (some (0, 2))) = some (r1, r2) := H
  have A3 := Aside0.mk A30
  clear A30
  by_cases c4 : t225 = true
  · subst c4
    have H1 : ((sweep_town_isLayout.f k t222 l1).bind fun t226 => (if t226 = true then ((sweep_town_breadth.f k t222 l1).bind fun t227 => (some (t227, 0))) else (some (0, 2)))) = some (r1, r2) := by rw [if_pos rfl] at H; exact H
    clear H
    have H := H1
    clear H1
    replace H := Option.bind_eq_some_iff.mp H
    obtain ⟨t226, A50, H⟩ := H
    replace H : (if t226 = true then ((sweep_town_breadth.f k t222 l1).bind fun t227 => (some (t227, 0))) else (some (0, 2))) = some (r1, r2) := H
    have A5 := Aside0.mk A50
    clear A50
    by_cases c6 : t226 = true
    · subst c6
      have H1 : ((sweep_town_breadth.f k t222 l1).bind fun t227 => (some (t227, 0))) = some (r1, r2) := by rw [if_pos rfl] at H; exact H
      clear H
      have H := H1
      clear H1
      replace H := Option.bind_eq_some_iff.mp H
      obtain ⟨t227, A70, H⟩ := H
      replace H : (some (t227, 0)) = some (r1, r2) := H
      have A7 := Aside0.mk A70
      clear A70
      simp only [Option.some.injEq, Prod.mk.injEq] at H
      obtain ⟨rfl, rfl⟩ := H
      go_enter Tryd.func26, Tryd.ntmps26
      go_wp2_with (first | ((with_reducible refine gate_callee (f := 49) rfl ?_); refine goesL_ (some 10) rfl rfl Tryd.func49 (by kernel_rfl) rfl #[.slice A0 l0.length c0] rfl (by (try simp only [List.map_toArray, List.map_cons, List.map_nil]); first | done | rfl | (simp only [List.length_drop, List.length_take]; rfl)) ?_; (with_reducible refine (sweep_read.calls k (fun k_ => k_ < w.heap.size) _ _ l0 t222 true _ ?side1 A3.out).mono ?_); (case side1 => exact Kd.V_mk HC0.out (Kd.F_below (Kd.C_F (Kd.heap_int .i64) HR0.out) (by repeat (first | (with_reducible first | exact HB.out | apply below_alloc | apply pw_below_drewN | apply below_drew1) | exact HB.out)))); rintro e w8 ⟨v223, rfl, ho0, hb⟩; refine ⟨_, rfl, ?_⟩; have n0_ := Aside0.mk (Kd.V_lower (Kd.V_mono (ok' := fun k_ => True) ho0 (fun k_ hk_ => trivial)) (below_size (by repeat (first | (with_reducible first | exact HB.out | apply below_alloc | apply pw_below_drewN | apply below_drew1) | exact HB.out)))); have n1_ := Aside0.mk (below_step (by repeat (first | (with_reducible first | exact HB.out | apply below_alloc | apply pw_below_drewN | apply below_drew1) | exact HB.out)) hb); clear HB; have HO224 := n0_; have HB := n1_; clear n0_ n1_; (try clear hb); (try clear hb2); (try clear hk); (try clear hi); (try clear ho0); obtain ⟨Ao9, co9, eo9⟩ := Kd.V_slice HO224.out; subst eo9) | (go_at_call 55; (with_reducible refine (sweep_town_isLayout.calls k _ _ t222 _ _ l1 true _ ?side1 ?side2 ?side3 ?side4 A5.out).mono ?_); (case side1 => repeat (first | exact (Kd.V_reads' HO224.out).2.2 | (with_reducible refine Kd.C_alloc ?_ _) | (with_reducible refine Kd.C_drewN ?_ _) | (with_reducible refine Kd.C_drew ?_))); (case side2 => exact (Kd.V_reads' HO224.out).2.1); (case side3 => repeat (first | exact (Kd.C_below HR1.out HB.out) | (with_reducible refine Kd.C_alloc ?_ _) | (with_reducible refine Kd.C_drewN ?_ _) | (with_reducible refine Kd.C_drew ?_))); (case side4 => exact HC1.out); rintro e w' ⟨rfl, ⟨nd, rfl⟩⟩) | ((with_reducible refine gate_callee (f := 56) rfl ?_); refine goesL_ (some 23) rfl rfl Tryd.func56 (by kernel_rfl) rfl #[.slice Ao9 t222.length co9, .slice A1 l1.length c1] rfl (by (try simp only [List.map_toArray, List.map_cons, List.map_nil]); first | done | rfl | (simp only [List.length_drop, List.length_take]; rfl)) ?_; (with_reducible refine (sweep_town_breadth.calls (hGL := (by repeat (first | (with_reducible exact HGL.out) | (with_reducible exact GL_below HGL.out HB.out) | (with_reducible refine GL_alloc ?_ _) | (with_reducible refine GL_drewN ?_ _) | (with_reducible refine GL_drew ?_)))) k _ _ t222 _ _ l1 t227 _ ?side1 ?side2 ?side3 ?side4 A7.out).mono ?_); (case side1 => repeat (first | exact (Kd.V_reads' HO224.out).2.2 | (with_reducible refine Kd.C_alloc ?_ _) | (with_reducible refine Kd.C_drewN ?_ _) | (with_reducible refine Kd.C_drew ?_))); (case side2 => exact (Kd.V_reads' HO224.out).2.1); (case side3 => repeat (first | exact (Kd.C_below HR1.out (by repeat (first | (with_reducible first | exact HB.out | apply below_alloc | apply pw_below_drewN | apply below_drew1) | exact HB.out))) | (with_reducible refine Kd.C_alloc ?_ _) | (with_reducible refine Kd.C_drewN ?_ _) | (with_reducible refine Kd.C_drew ?_))); (case side4 => exact HC1.out); rintro e w10 ⟨rfl, hb⟩; refine ⟨_, rfl, ?_⟩; have n0_ := Aside0.mk (Kd.V_below (by (with_reducible repeat (first | apply Kd.V_alloc | apply Kd.V_drewN | apply Kd.V_drew)); exact HO224.out) hb); have n1_ := Aside0.mk (below_step (by repeat (first | (with_reducible first | exact HB.out | apply below_alloc | apply pw_below_drewN | apply below_drew1) | exact HB.out)) hb); clear HO224; clear HB; have HO224 := n0_; have HB := n1_; clear n0_ n1_; (try clear hb); (try clear hb2); (try clear hk); (try clear hi)))
      go_ret2
      exact ⟨by first | rfl | (simp [errW_none, errW_some] <;> rfl) | (simp [*, errW_none, errW_some] <;> rfl), by repeat (first | (with_reducible first | exact HB.out | apply below_alloc | apply pw_below_drewN | apply below_drew1) | exact HB.out)⟩
    · replace c6 := Bool.eq_false_iff.mpr c6
      subst c6
      have H1 : (some (0, 2)) = some (r1, r2) := by rw [if_neg (show ¬ (false = true) by decide)] at H; exact H
      clear H
      have H := H1
      clear H1
      simp only [Option.some.injEq, Prod.mk.injEq] at H
      obtain ⟨rfl, rfl⟩ := H
      go_enter Tryd.func26, Tryd.ntmps26
      go_wp2_with (first | ((with_reducible refine gate_callee (f := 49) rfl ?_); refine goesL_ (some 10) rfl rfl Tryd.func49 (by kernel_rfl) rfl #[.slice A0 l0.length c0] rfl (by (try simp only [List.map_toArray, List.map_cons, List.map_nil]); first | done | rfl | (simp only [List.length_drop, List.length_take]; rfl)) ?_; (with_reducible refine (sweep_read.calls k (fun k_ => k_ < w.heap.size) _ _ l0 t222 true _ ?side1 A3.out).mono ?_); (case side1 => exact Kd.V_mk HC0.out (Kd.F_below (Kd.C_F (Kd.heap_int .i64) HR0.out) (by repeat (first | (with_reducible first | exact HB.out | apply below_alloc | apply pw_below_drewN | apply below_drew1) | exact HB.out)))); rintro e w11 ⟨v223, rfl, ho0, hb⟩; refine ⟨_, rfl, ?_⟩; have n0_ := Aside0.mk (Kd.V_lower (Kd.V_mono (ok' := fun k_ => True) ho0 (fun k_ hk_ => trivial)) (below_size (by repeat (first | (with_reducible first | exact HB.out | apply below_alloc | apply pw_below_drewN | apply below_drew1) | exact HB.out)))); have n1_ := Aside0.mk (below_step (by repeat (first | (with_reducible first | exact HB.out | apply below_alloc | apply pw_below_drewN | apply below_drew1) | exact HB.out)) hb); clear HB; have HO224 := n0_; have HB := n1_; clear n0_ n1_; (try clear hb); (try clear hb2); (try clear hk); (try clear hi); (try clear ho0); obtain ⟨Ao12, co12, eo12⟩ := Kd.V_slice HO224.out; subst eo12) | (go_at_call 55; (with_reducible refine (sweep_town_isLayout.calls k _ _ t222 _ _ l1 false _ ?side1 ?side2 ?side3 ?side4 A5.out).mono ?_); (case side1 => repeat (first | exact (Kd.V_reads' HO224.out).2.2 | (with_reducible refine Kd.C_alloc ?_ _) | (with_reducible refine Kd.C_drewN ?_ _) | (with_reducible refine Kd.C_drew ?_))); (case side2 => exact (Kd.V_reads' HO224.out).2.1); (case side3 => repeat (first | exact (Kd.C_below HR1.out HB.out) | (with_reducible refine Kd.C_alloc ?_ _) | (with_reducible refine Kd.C_drewN ?_ _) | (with_reducible refine Kd.C_drew ?_))); (case side4 => exact HC1.out); rintro e w' ⟨rfl, ⟨nd, rfl⟩⟩))
      go_ret2
      exact ⟨by first | rfl | (simp [errW_none, errW_some] <;> rfl) | (simp [*, errW_none, errW_some] <;> rfl), by repeat (first | (with_reducible first | exact HB.out | apply below_alloc | apply pw_below_drewN | apply below_drew1) | exact HB.out)⟩
  · replace c4 := Bool.eq_false_iff.mpr c4
    subst c4
    have H1 : (some (0, 2)) = some (r1, r2) := by rw [if_neg (show ¬ (false = true) by decide)] at H; exact H
    clear H
    have H := H1
    clear H1
    simp only [Option.some.injEq, Prod.mk.injEq] at H
    obtain ⟨rfl, rfl⟩ := H
    go_enter Tryd.func26, Tryd.ntmps26
    go_wp2_with (first | ((with_reducible refine gate_callee (f := 49) rfl ?_); refine goesL_ (some 10) rfl rfl Tryd.func49 (by kernel_rfl) rfl #[.slice A0 l0.length c0] rfl (by (try simp only [List.map_toArray, List.map_cons, List.map_nil]); first | done | rfl | (simp only [List.length_drop, List.length_take]; rfl)) ?_; (with_reducible refine (sweep_read.calls k (fun k_ => k_ < w.heap.size) _ _ l0 t222 false _ ?side1 A3.out).mono ?_); (case side1 => exact Kd.V_mk HC0.out (Kd.F_below (Kd.C_F (Kd.heap_int .i64) HR0.out) (by repeat (first | (with_reducible first | exact HB.out | apply below_alloc | apply pw_below_drewN | apply below_drew1) | exact HB.out)))); rintro e w13 ⟨v223, rfl, ho0, hb⟩; refine ⟨_, rfl, ?_⟩; have n0_ := Aside0.mk (Kd.V_lower (Kd.V_mono (ok' := fun k_ => True) ho0 (fun k_ hk_ => trivial)) (below_size (by repeat (first | (with_reducible first | exact HB.out | apply below_alloc | apply pw_below_drewN | apply below_drew1) | exact HB.out)))); have n1_ := Aside0.mk (below_step (by repeat (first | (with_reducible first | exact HB.out | apply below_alloc | apply pw_below_drewN | apply below_drew1) | exact HB.out)) hb); clear HB; have HO224 := n0_; have HB := n1_; clear n0_ n1_; (try clear hb); (try clear hb2); (try clear hk); (try clear hi); (try clear ho0)))
    go_ret2
    exact ⟨by first | rfl | (simp [errW_none, errW_some] <;> rfl) | (simp [*, errW_none, errW_some] <;> rfl), by repeat (first | (with_reducible first | exact HB.out | apply below_alloc | apply pw_below_drewN | apply below_drew1) | exact HB.out)⟩

end Go.Proofs.YtijfddobandcdaaDoor.X
end
section
-- by ownprint.py (wip/tool), over the kit's print
namespace Go.Proofs.YtijfddobandcdaaDoor.X
open Go.RowKit Go.Proofs.YtijfddobandcdaaDoorW.PrintWords Go.Proofs.YtijfddobandcdaaDoorW.PrintLast Go.Proofs.YtijfddobandcdaaDoorW.PrintMore
attribute [local go_sem] max2_int min2_int max_two min_two max_three min_three max_four min_four
set_option linter.unusedVariables false
set_option linter.unusedSimpArgs false

/-! ### sweep_Bags: function 32 -/
def sweep_Bags.f (k : Nat) (l0 : List Int) (l1 : List Int) : Option (List Int × Int) := (sweep_read.f k l0).bind fun bt261 => (if bt261.2 = true then ((sweep_town_isLayout.f k bt261.1 l1).bind fun t265 => (if t265 = true then ((sweep_town_bags.f k bt261.1 l1).bind fun t266 => (some (t266, 0))) else (some (([] : List Int), 2)))) else (some (([] : List Int), 2)))
theorem sweep_Bags.mono : ∀ a0 a1 k, LeO (sweep_Bags.f k a0 a1) (sweep_Bags.f (k + 1) a0 a1) := by
  intro a0 a1 k
  unfold sweep_Bags.f
  repeat' first
      | (with_reducible exact sweep_read.mono _ _)
      | (with_reducible exact sweep_town_bags.mono _ _ _)
      | (with_reducible exact sweep_town_isLayout.mono _ _ _)
      | (with_reducible exact LeO.refl _)
      | (with_reducible exact LeO.none _)
      | (with_reducible refine LeO.ite ?_ ?_)
      | (with_reducible refine LeO.bind ?_ (fun _ => ?_))
      | exact sweep_read.mono _ _
      | exact sweep_town_bags.mono _ _ _
      | exact sweep_town_isLayout.mono _ _ _
      | exact LeO.none _
      | refine LeO.ite ?_ ?_
      | refine LeO.bind ?_ (fun _ => ?_)
set_option maxHeartbeats 8000000 in
set_option maxRecDepth 100000 in
theorem sweep_Bags.calls (k : Nat) (A0 : Option Addr) (c0 : Nat) (l0 : List Int) (A1 : Option Addr) (c1 : Nat) (l1 : List Int) (r1 : List Int) (r2 : Int) (w : World) (hGL : GL w) (hr0 : Kd.C (Kd.int .i64) w A0 l0.length l0) (hc0 : l0.length ≤ c0) (hr1 : Kd.C (Kd.int .i64) w A1 l1.length l1) (hc1 : l1.length ≤ c1) (h : sweep_Bags.f k l0 l1 = some (r1, r2)) :
    Calls Tryd.prog 32 #[.slice A0 l0.length c0, .slice A1 l1.length c1] w fun e w' => ∃ v0_ : Value, e = .returned (.tuple #[v0_, .int .i64 r2]) ∧ Kd.R (Kd.int .i64) 3 w' w.heap.size (fun _ => True) v0_ r1 ∧ Below w.heap.size w w' := by
  have HGL := Aside0.mk hGL
  clear hGL
  have HR0 := Aside0.mk hr0
  have HC0 := Aside0.mk hc0
  clear hr0 hc0
  have HR1 := Aside0.mk hr1
  have HC1 := Aside0.mk hc1
  clear hr1 hc1
  have HB := Aside0.mk (Below.refl w.heap.size w)
  have H : ((sweep_read.f k l0).bind fun bt261 => (if bt261.2 = true then ((sweep_town_isLayout.f k bt261.1 l1).bind fun t265 => (if t265 = true then ((sweep_town_bags.f k bt261.1 l1).bind fun t266 => (some (t266, 0))) else (some (([] : List Int), 2)))) else (some (([] : List Int), 2)))) = some (r1, r2) := h
  clear h
  replace H := Option.bind_eq_some_iff.mp H
  obtain ⟨⟨t261, t264⟩, A30, H⟩ := H
  replace H : (if t264 = true then ((sweep_town_isLayout.f k t261 l1).bind fun t265 => (if t265 = true then ((sweep_town_bags.f k t261 l1).bind fun t266 => (some (t266, 0))) else (some (([] : List Int), 2)))) else (some (([] : List Int), 2))) = some (r1, r2) := H
  have A3 := Aside0.mk A30
  clear A30
  by_cases c4 : t264 = true
  · subst c4
    have H1 : ((sweep_town_isLayout.f k t261 l1).bind fun t265 => (if t265 = true then ((sweep_town_bags.f k t261 l1).bind fun t266 => (some (t266, 0))) else (some (([] : List Int), 2)))) = some (r1, r2) := by rw [if_pos rfl] at H; exact H
    clear H
    have H := H1
    clear H1
    replace H := Option.bind_eq_some_iff.mp H
    obtain ⟨t265, A50, H⟩ := H
    replace H : (if t265 = true then ((sweep_town_bags.f k t261 l1).bind fun t266 => (some (t266, 0))) else (some (([] : List Int), 2))) = some (r1, r2) := H
    have A5 := Aside0.mk A50
    clear A50
    by_cases c6 : t265 = true
    · subst c6
      have H1 : ((sweep_town_bags.f k t261 l1).bind fun t266 => (some (t266, 0))) = some (r1, r2) := by rw [if_pos rfl] at H; exact H
      clear H
      have H := H1
      clear H1
      replace H := Option.bind_eq_some_iff.mp H
      obtain ⟨t266, A70, H⟩ := H
      replace H : (some (t266, 0)) = some (r1, r2) := H
      have A7 := Aside0.mk A70
      clear A70
      simp only [Option.some.injEq, Prod.mk.injEq] at H
      obtain ⟨rfl, rfl⟩ := H
      go_enter Tryd.func32, Tryd.ntmps32
      go_wp2_with (first | ((with_reducible refine gate_callee (f := 49) rfl ?_); refine goesL_ (some 10) rfl rfl Tryd.func49 (by kernel_rfl) rfl #[.slice A0 l0.length c0] rfl (by (try simp only [List.map_toArray, List.map_cons, List.map_nil]); first | done | rfl | (simp only [List.length_drop, List.length_take]; rfl)) ?_; (with_reducible refine (sweep_read.calls k (fun k_ => k_ < w.heap.size) _ _ l0 t261 true _ ?side1 A3.out).mono ?_); (case side1 => exact Kd.V_mk HC0.out (Kd.F_below (Kd.C_F (Kd.heap_int .i64) HR0.out) (by repeat (first | (with_reducible first | exact HB.out | apply below_alloc | apply pw_below_drewN | apply below_drew1) | exact HB.out)))); rintro e w8 ⟨v262, rfl, ho0, hb⟩; refine ⟨_, rfl, ?_⟩; have n0_ := Aside0.mk (Kd.V_lower (Kd.V_mono (ok' := fun k_ => True) ho0 (fun k_ hk_ => trivial)) (below_size (by repeat (first | (with_reducible first | exact HB.out | apply below_alloc | apply pw_below_drewN | apply below_drew1) | exact HB.out)))); have n1_ := Aside0.mk (below_step (by repeat (first | (with_reducible first | exact HB.out | apply below_alloc | apply pw_below_drewN | apply below_drew1) | exact HB.out)) hb); clear HB; have HO263 := n0_; have HB := n1_; clear n0_ n1_; (try clear hb); (try clear hb2); (try clear hk); (try clear hi); (try clear ho0); obtain ⟨Ao9, co9, eo9⟩ := Kd.V_slice HO263.out; subst eo9) | (go_at_call 55; (with_reducible refine (sweep_town_isLayout.calls k _ _ t261 _ _ l1 true _ ?side1 ?side2 ?side3 ?side4 A5.out).mono ?_); (case side1 => repeat (first | exact (Kd.V_reads' HO263.out).2.2 | (with_reducible refine Kd.C_alloc ?_ _) | (with_reducible refine Kd.C_drewN ?_ _) | (with_reducible refine Kd.C_drew ?_))); (case side2 => exact (Kd.V_reads' HO263.out).2.1); (case side3 => repeat (first | exact (Kd.C_below HR1.out HB.out) | (with_reducible refine Kd.C_alloc ?_ _) | (with_reducible refine Kd.C_drewN ?_ _) | (with_reducible refine Kd.C_drew ?_))); (case side4 => exact HC1.out); rintro e w' ⟨rfl, ⟨nd, rfl⟩⟩) | ((with_reducible refine gate_callee (f := 52) rfl ?_); refine goesL_ (some 23) rfl rfl Tryd.func52 (by kernel_rfl) rfl #[.slice Ao9 t261.length co9, .slice A1 l1.length c1] rfl (by (try simp only [List.map_toArray, List.map_cons, List.map_nil]); first | done | rfl | (simp only [List.length_drop, List.length_take]; rfl)) ?_; (with_reducible refine (sweep_town_bags.calls (hGL := (by repeat (first | (with_reducible exact HGL.out) | (with_reducible exact GL_below HGL.out HB.out) | (with_reducible refine GL_alloc ?_ _) | (with_reducible refine GL_drewN ?_ _) | (with_reducible refine GL_drew ?_)))) k _ _ t261 _ _ l1 t266 _ ?side1 ?side2 ?side3 ?side4 A7.out).mono ?_); (case side1 => repeat (first | exact (Kd.V_reads' HO263.out).2.2 | (with_reducible refine Kd.C_alloc ?_ _) | (with_reducible refine Kd.C_drewN ?_ _) | (with_reducible refine Kd.C_drew ?_))); (case side2 => exact (Kd.V_reads' HO263.out).2.1); (case side3 => repeat (first | exact (Kd.C_below HR1.out (by repeat (first | (with_reducible first | exact HB.out | apply below_alloc | apply pw_below_drewN | apply below_drew1) | exact HB.out))) | (with_reducible refine Kd.C_alloc ?_ _) | (with_reducible refine Kd.C_drewN ?_ _) | (with_reducible refine Kd.C_drew ?_))); (case side4 => exact HC1.out); rintro e w10 ⟨v267, rfl, ho0, hb⟩; refine ⟨_, rfl, ?_⟩; have n0_ := Aside0.mk (Kd.V_elder' (by (with_reducible repeat (first | apply Kd.V_alloc | apply Kd.V_drewN | apply Kd.V_drew)); exact HO263.out) (Kd.R_base ho0) hb); have n1_ := Aside0.mk (Kd.R_lower ho0 (below_size (by repeat (first | (with_reducible first | exact HB.out | apply below_alloc | apply pw_below_drewN | apply below_drew1) | exact HB.out)))); have n2_ := Aside0.mk (below_step (by repeat (first | (with_reducible first | exact HB.out | apply below_alloc | apply pw_below_drewN | apply below_drew1) | exact HB.out)) hb); clear HO263; clear HB; have HO263 := n0_; have HO268 := n1_; have HB := n2_; clear n0_ n1_ n2_; (try clear hb); (try clear hb2); (try clear hk); (try clear hi); (try clear ho0)))
      go_ret2
      exact ⟨_, by first | rfl | (simp [errW_none, errW_some] <;> rfl) | (simp [*, errW_none, errW_some] <;> rfl), by (with_reducible repeat (first | apply Kd.R_alloc | apply Kd.R_drewN | apply Kd.R_drew)); exact HO268.out, by repeat (first | (with_reducible first | exact HB.out | apply below_alloc | apply pw_below_drewN | apply below_drew1) | exact HB.out)⟩
    · replace c6 := Bool.eq_false_iff.mpr c6
      subst c6
      have H1 : (some (([] : List Int), 2)) = some (r1, r2) := by rw [if_neg (show ¬ (false = true) by decide)] at H; exact H
      clear H
      have H := H1
      clear H1
      simp only [Option.some.injEq, Prod.mk.injEq] at H
      obtain ⟨rfl, rfl⟩ := H
      go_enter Tryd.func32, Tryd.ntmps32
      go_wp2_with (first | ((with_reducible refine gate_callee (f := 49) rfl ?_); refine goesL_ (some 10) rfl rfl Tryd.func49 (by kernel_rfl) rfl #[.slice A0 l0.length c0] rfl (by (try simp only [List.map_toArray, List.map_cons, List.map_nil]); first | done | rfl | (simp only [List.length_drop, List.length_take]; rfl)) ?_; (with_reducible refine (sweep_read.calls k (fun k_ => k_ < w.heap.size) _ _ l0 t261 true _ ?side1 A3.out).mono ?_); (case side1 => exact Kd.V_mk HC0.out (Kd.F_below (Kd.C_F (Kd.heap_int .i64) HR0.out) (by repeat (first | (with_reducible first | exact HB.out | apply below_alloc | apply pw_below_drewN | apply below_drew1) | exact HB.out)))); rintro e w11 ⟨v262, rfl, ho0, hb⟩; refine ⟨_, rfl, ?_⟩; have n0_ := Aside0.mk (Kd.V_lower (Kd.V_mono (ok' := fun k_ => True) ho0 (fun k_ hk_ => trivial)) (below_size (by repeat (first | (with_reducible first | exact HB.out | apply below_alloc | apply pw_below_drewN | apply below_drew1) | exact HB.out)))); have n1_ := Aside0.mk (below_step (by repeat (first | (with_reducible first | exact HB.out | apply below_alloc | apply pw_below_drewN | apply below_drew1) | exact HB.out)) hb); clear HB; have HO263 := n0_; have HB := n1_; clear n0_ n1_; (try clear hb); (try clear hb2); (try clear hk); (try clear hi); (try clear ho0); obtain ⟨Ao12, co12, eo12⟩ := Kd.V_slice HO263.out; subst eo12) | (go_at_call 55; (with_reducible refine (sweep_town_isLayout.calls k _ _ t261 _ _ l1 false _ ?side1 ?side2 ?side3 ?side4 A5.out).mono ?_); (case side1 => repeat (first | exact (Kd.V_reads' HO263.out).2.2 | (with_reducible refine Kd.C_alloc ?_ _) | (with_reducible refine Kd.C_drewN ?_ _) | (with_reducible refine Kd.C_drew ?_))); (case side2 => exact (Kd.V_reads' HO263.out).2.1); (case side3 => repeat (first | exact (Kd.C_below HR1.out HB.out) | (with_reducible refine Kd.C_alloc ?_ _) | (with_reducible refine Kd.C_drewN ?_ _) | (with_reducible refine Kd.C_drew ?_))); (case side4 => exact HC1.out); rintro e w' ⟨rfl, ⟨nd, rfl⟩⟩))
      go_ret2
      exact ⟨_, by first | rfl | (simp [errW_none, errW_some] <;> rfl) | (simp [*, errW_none, errW_some] <;> rfl), by first | exact Kd.R_nil _ _ _ _ _ | exact Kd.N_nil _ _ _ _ _ | exact Kd.V_nil _ _ _ _ _ | exact Kd.Q_nil _ _ _ _ _ | exact Kd.S_nil _ _ _ _ _, by repeat (first | (with_reducible first | exact HB.out | apply below_alloc | apply pw_below_drewN | apply below_drew1) | exact HB.out)⟩
  · replace c4 := Bool.eq_false_iff.mpr c4
    subst c4
    have H1 : (some (([] : List Int), 2)) = some (r1, r2) := by rw [if_neg (show ¬ (false = true) by decide)] at H; exact H
    clear H
    have H := H1
    clear H1
    simp only [Option.some.injEq, Prod.mk.injEq] at H
    obtain ⟨rfl, rfl⟩ := H
    go_enter Tryd.func32, Tryd.ntmps32
    go_wp2_with (first | ((with_reducible refine gate_callee (f := 49) rfl ?_); refine goesL_ (some 10) rfl rfl Tryd.func49 (by kernel_rfl) rfl #[.slice A0 l0.length c0] rfl (by (try simp only [List.map_toArray, List.map_cons, List.map_nil]); first | done | rfl | (simp only [List.length_drop, List.length_take]; rfl)) ?_; (with_reducible refine (sweep_read.calls k (fun k_ => k_ < w.heap.size) _ _ l0 t261 false _ ?side1 A3.out).mono ?_); (case side1 => exact Kd.V_mk HC0.out (Kd.F_below (Kd.C_F (Kd.heap_int .i64) HR0.out) (by repeat (first | (with_reducible first | exact HB.out | apply below_alloc | apply pw_below_drewN | apply below_drew1) | exact HB.out)))); rintro e w13 ⟨v262, rfl, ho0, hb⟩; refine ⟨_, rfl, ?_⟩; have n0_ := Aside0.mk (Kd.V_lower (Kd.V_mono (ok' := fun k_ => True) ho0 (fun k_ hk_ => trivial)) (below_size (by repeat (first | (with_reducible first | exact HB.out | apply below_alloc | apply pw_below_drewN | apply below_drew1) | exact HB.out)))); have n1_ := Aside0.mk (below_step (by repeat (first | (with_reducible first | exact HB.out | apply below_alloc | apply pw_below_drewN | apply below_drew1) | exact HB.out)) hb); clear HB; have HO263 := n0_; have HB := n1_; clear n0_ n1_; (try clear hb); (try clear hb2); (try clear hk); (try clear hi); (try clear ho0)))
    go_ret2
    exact ⟨_, by first | rfl | (simp [errW_none, errW_some] <;> rfl) | (simp [*, errW_none, errW_some] <;> rfl), by first | exact Kd.R_nil _ _ _ _ _ | exact Kd.N_nil _ _ _ _ _ | exact Kd.V_nil _ _ _ _ _ | exact Kd.Q_nil _ _ _ _ _ | exact Kd.S_nil _ _ _ _ _, by repeat (first | (with_reducible first | exact HB.out | apply below_alloc | apply pw_below_drewN | apply below_drew1) | exact HB.out)⟩

end Go.Proofs.YtijfddobandcdaaDoor.X
end
section
/- The bags of a layout are a path decomposition, whose width is the breadth; Breadth. -/
set_option linter.unusedVariables false
namespace Go.Proofs.YtijfddobandcdaaDoor.X
open Go.RowKit Go.Proofs.YtijfddobandcdaaDoorW.PrintWords Go.Proofs.YtijfddobandcdaaDoorW.PrintLast Go.Proofs.YtijfddobandcdaaDoorW.PrintMore Go.Proofs.YtijfddobandcdaaDoor.T

/-- The breadth of a layout that goes on behind S. -/
noncomputable def brOf (G : List Nat) : Nat → List Nat → Nat
  | _, [] => 0
  | S, v :: P => max (bc G (S ||| 2 ^ v)) (brOf G (S ||| 2 ^ v) P)
theorem bc_le (G : List Nat) (S : Nat) : bc G S ≤ 9 := pc_le _ _
theorem brOf_le (G : List Nat) : ∀ (P : List Nat) (S : Nat), brOf G S P ≤ 9
  | [], _ => by simp [brOf]
  | v :: P, S => by simp only [brOf]; have := bc_le G (S ||| 2 ^ v); have := brOf_le G P (S ||| 2 ^ v); omega
theorem breadth_l0 (G : List Nat) (hG : Gr 7 G) (P : List Nat) (hP : ∀ v ∈ P, v < G.length) (hl : P.length < 2 ^ 40) : ∀ (d i S m : Nat), i + d = P.length → S < 2 ^ G.length →
    Ev (fun k => sweep_town_breadth.l0 k (gi G) (S : Int) (m : Int) (gi P) (P.length : Int) (i : Int)) ((max m (brOf G S (P.drop i)) : Nat) : Int) := by
  have hn := hG.most
  intro d
  induction d with
  | zero =>
    intro i S m hi hS
    refine Ev.step (f := fun _ => some (m : Int)) (fun k => by rw [sweep_town_breadth.l0, if_neg (by omega)]) (Ev.some ?_)
    rw [List.drop_eq_nil_of_le (by omega)]
    simp [brOf]
  | succ d ih =>
    intro i S m hi hS
    have hi' : i < P.length := by omega
    have hm := hP _ (List.getElem_mem hi')
    have hwi := wrap_succ i (by omega)
    have hr : rd (gi P) (i : Int) = ((P[i] : Nat) : Int) := by rw [rd_gi, List.getD_eq_getElem?_getD, List.getElem?_eq_getElem hi']; rfl
    have hS62 := big (small G (by omega) hS)
    have h7 : P[i] < 62 := by omega
    have HS2 := Aside0.mk (or_new hS hm)
    have e62 : 2 ^ P[i] < 2 ^ 62 := Nat.pow_lt_pow_right (by omega) h7
    have hor : Go.bits .or .i64 (S : Int) (shl .i64 1 ((P[i] : Nat) : Int)) = ((S ||| 2 ^ P[i] : Nat) : Int) := by rw [s_one _ h7, b_or _ _ hS62 e62]
    clear hS e62
    refine Ev.step (f := fun k => (sweep_town_border.f (gi G) ((S ||| 2 ^ P[i] : Nat) : Int)).bind fun t217 => (sweep_count.f t217).bind fun t218 => sweep_town_breadth.l0 k (gi G) ((S ||| 2 ^ P[i] : Nat) : Int) (mx (m : Int) t218) (gi P) (P.length : Int) ((i + 1 : Nat) : Int)) (fun k => ?_) ?_
    · rw [sweep_town_breadth.l0, if_pos (by omega), if_pos (by omega), if_pos (by rw [gi_length]; omega), hr, if_pos (by omega), hor, hwi]
    · refine Ev.bind1 (border_eq G hG _ HS2.out) (Ev.bind1 (count_eq _ (small G (by omega) (bor_lt G _))) ?_)
      rw [mx_nat, List.drop_eq_getElem_cons hi', brOf]
      have := ih (i + 1) (S ||| 2 ^ P[i]) (max m (bc G (S ||| 2 ^ P[i]))) (by omega) HS2.out
      rw [show max m (max (bc G (S ||| 2 ^ P[i])) (brOf G (S ||| 2 ^ P[i]) (P.drop (i + 1)))) = max (max m (bc G (S ||| 2 ^ P[i]))) (brOf G (S ||| 2 ^ P[i]) (P.drop (i + 1))) by omega]
      exact this
theorem breadth_ev (G : List Nat) (hG : Gr 7 G) (P : List Nat) (hP : ∀ v ∈ P, v < G.length) (hl : P.length < 2 ^ 40) : Ev (fun k => sweep_town_breadth.f k (gi G) (gi P)) ((brOf G 0 P : Nat) : Int) := by
  unfold sweep_town_breadth.f
  rw [gi_length]
  have := breadth_l0 G hG P hP hl P.length 0 0 0 (by omega) (Nat.two_pow_pos _)
  rwa [List.drop_zero, Nat.zero_max] at this
theorem Breadth_yes (G : List Nat) (hG : Gr 7 G) (P : List Nat) (h : IsOrd G.length (gi P)) : Ev (fun k => sweep_Breadth.f k (gi G) (gi P)) (((brOf G 0 P : Nat) : Int), 0) := by
  have hr := read_ev (gi G) (by rw [gi_length]; have := hG.most; omega)
  rw [(chk_iff 7 (by omega) _).2 ⟨G, rfl, hG⟩] at hr
  have hl := h.length
  rw [gi_length] at hl
  obtain ⟨r, h1, h2⟩ := isLayout_ev G hG (gi P) (by rw [gi_length]; have := hG.most; omega)
  rw [h2.2 h] at h1
  have hP : ∀ v ∈ P, v < G.length := by
    obtain ⟨Q, e, _, h3, _⟩ := h
    rw [gi_inj e]; exact h3
  unfold sweep_Breadth.f
  exact Ev.bind hr (Ev.if_pos rfl (Ev.bind h1 (Ev.if_pos rfl (Ev.bind (breadth_ev G hG P hP (by have := hG.most; omega)) (Ev.some rfl)))))
theorem Breadth_no (G : List Nat) (hG : Gr 7 G) (l : List Int) (hl : l.length < 2 ^ 60) (h : ¬ IsOrd G.length l) : Ev (fun k => sweep_Breadth.f k (gi G) l) (0, 2) := by
  have hr := read_ev (gi G) (by rw [gi_length]; have := hG.most; omega)
  rw [(chk_iff 7 (by omega) _).2 ⟨G, rfl, hG⟩] at hr
  obtain ⟨r, h1, h2⟩ := isLayout_ev G hG l hl
  have hr2 : r = false := by cases r <;> simp_all
  rw [hr2] at h1
  unfold sweep_Breadth.f
  exact Ev.bind hr (Ev.if_pos rfl (Ev.bind h1 (Ev.if_neg (by simp) (Ev.some rfl))))
theorem Breadth_bad (g l : List Int) (hl : g.length < 2 ^ 60) (h : chk 7 g = false) : Ev (fun k => sweep_Breadth.f k g l) (0, 2) := by
  have hr := read_ev g hl
  rw [h] at hr
  unfold sweep_Breadth.f
  exact Ev.bind hr (Ev.if_neg (by simp) (Ev.some rfl))
theorem Bags_yes (G : List Nat) (hG : Gr 7 G) (P : List Nat) (h : IsOrd G.length (gi P)) : Ev (fun k => sweep_Bags.f k (gi G) (gi P)) (gi (bagsOf G 0 P), 0) := by
  have hr := read_ev (gi G) (by rw [gi_length]; have := hG.most; omega)
  rw [(chk_iff 7 (by omega) _).2 ⟨G, rfl, hG⟩] at hr
  have hl := h.length
  rw [gi_length] at hl
  obtain ⟨r, h1, h2⟩ := isLayout_ev G hG (gi P) (by rw [gi_length]; have := hG.most; omega)
  rw [h2.2 h] at h1
  have hP : ∀ v ∈ P, v < G.length := by
    obtain ⟨Q, e, _, h3, _⟩ := h
    rw [gi_inj e]; exact h3
  unfold sweep_Bags.f
  exact Ev.bind hr (Ev.if_pos rfl (Ev.bind h1 (Ev.if_pos rfl (Ev.bind (bags_ev G hG P hP (by have := hG.most; omega)) (Ev.some rfl)))))
theorem Bags_no (G : List Nat) (hG : Gr 7 G) (l : List Int) (hl : l.length < 2 ^ 60) (h : ¬ IsOrd G.length l) : Ev (fun k => sweep_Bags.f k (gi G) l) (([] : List Int), 2) := by
  have hr := read_ev (gi G) (by rw [gi_length]; have := hG.most; omega)
  rw [(chk_iff 7 (by omega) _).2 ⟨G, rfl, hG⟩] at hr
  obtain ⟨r, h1, h2⟩ := isLayout_ev G hG l hl
  have hr2 : r = false := by cases r <;> simp_all
  rw [hr2] at h1
  unfold sweep_Bags.f
  exact Ev.bind hr (Ev.if_pos rfl (Ev.bind h1 (Ev.if_neg (by simp) (Ev.some rfl))))
theorem Bags_bad (g l : List Int) (hl : g.length < 2 ^ 60) (h : chk 7 g = false) : Ev (fun k => sweep_Bags.f k g l) (([] : List Int), 2) := by
  have hr := read_ev g hl
  rw [h] at hr
  unfold sweep_Bags.f
  exact Ev.bind hr (Ev.if_neg (by simp) (Ev.some rfl))

/-! A layout's bags, as they go on behind S: S and the nodes of P are all nodes. -/
/-- P can go on behind S: its nodes are new, each once, and none is left out. -/
structure Goes (n S : Nat) (P : List Nat) : Prop where
  nodup : P.Nodup
  new : ∀ v ∈ P, v < n ∧ ¬ bset S v
  all : ∀ j, j < n → bset S j ∨ j ∈ P
theorem Goes.tail {n S v : Nat} {P : List Nat} (h : Goes n S (v :: P)) : Goes n (S ||| 2 ^ v) P where
  nodup := (List.nodup_cons.1 h.nodup).2
  new := fun u hu => ⟨(h.new u (List.mem_cons_of_mem _ hu)).1, fun hb => by
    rcases (or_bset _ _ _).1 hb with h1 | h1
    · exact (h.new u (List.mem_cons_of_mem _ hu)).2 h1
    · rw [(two_pow_bit v u).1 h1] at hu; exact (List.nodup_cons.1 h.nodup).1 hu⟩
  all := fun j hj => by
    rcases h.all j hj with h1 | h1
    · exact .inl ((or_bset _ _ _).2 (.inl h1))
    · rcases List.mem_cons.1 h1 with e | e
      · exact .inl ((or_bset _ _ _).2 (.inr ((two_pow_bit v j).2 e)))
      · exact .inr e
theorem goes_of {n : Nat} {P : List Nat} (h : IsOrd n (gi P)) : Goes n 0 P := by
  obtain ⟨Q, e, h1, h2, h3⟩ := h
  obtain rfl := gi_inj e
  exact ⟨h1, fun v hv => ⟨h2 v hv, fun hb => by unfold bset at hb; simp at hb⟩, fun j hj => .inr (covers_of_nodup h3 h1 h2 j hj)⟩
theorem starts_false0 : ∀ {L : List Bool}, (∀ x ∈ L, x = false) → starts false L = 0
  | [], _ => rfl
  | x :: L, h => by
    have := h x List.mem_cons_self
    subst this
    simp only [starts]
    rw [starts_false0 fun x hx => h x (List.mem_cons_of_mem _ hx)]
    simp
/-- Once a node is in S, its marks stop for good when they stop. -/
theorem late_marks {G : List Nat} (hG : Gr 7 G) (v : Nat) : ∀ (P : List Nat) (S : Nat) (p : Bool), bset S v → v ∉ P → (p = false → ¬ ∃ u, Adj G v u ∧ ¬ bset S u) → starts p (marks v (bagsOf G S P)) = 0 := by
  intro P
  induction P with
  | nil => intro S p _ _ _; rfl
  | cons x P ih =>
    intro S p hS hx hp
    have hvx : v ≠ x := fun e => hx (e ▸ List.mem_cons_self)
    simp only [bagsOf, marks, List.map_cons, starts]
    have hb : (bor G S ||| 2 ^ x).testBit v = true ↔ ∃ u, Adj G v u ∧ ¬ bset S u := by
      show bset _ v ↔ _
      rw [or_bset, bor_bit hG, two_pow_bit]
      exact ⟨fun h => h.elim (fun h => h.2) (fun h => (hvx h).elim), fun h => .inl ⟨hS, h⟩⟩
    have key := ih (S ||| 2 ^ x) ((bor G S ||| 2 ^ x).testBit v) ((or_bset _ _ _).2 (.inl hS)) (fun h => hx (List.mem_cons_of_mem _ h)) (fun h => by
      rintro ⟨u, hu, hu2⟩
      rw [hb.2 ⟨u, hu, fun h => hu2 ((or_bset _ _ _).2 (.inl h))⟩] at h
      cases h)
    unfold marks at key
    rw [key]
    by_cases h1 : (bor G S ||| 2 ^ x).testBit v = true
    · cases p with
      | true => rw [if_neg (by simp)]
      | false => exact (hp rfl (hb.1 h1)).elim
    · rw [if_neg (fun h => h1 h.1)]
theorem bags_run {G : List Nat} (hG : Gr 7 G) (v : Nat) : ∀ (P : List Nat) (S : Nat), Goes G.length S P → v ∈ P → starts false (marks v (bagsOf G S P)) = 1 := by
  intro P
  induction P with
  | nil => intro S _ h; simp at h
  | cons x P ih =>
    intro S hg hv
    have hvS := (hg.new v hv).2
    simp only [bagsOf, marks, List.map_cons, starts]
    by_cases e : v = x
    · subst e
      have hb : (bor G S ||| 2 ^ v).testBit v = true := (or_bset _ _ _).2 (.inr ((two_pow_bit v v).2 rfl))
      rw [hb, if_pos (by simp)]
      have := late_marks hG v P (S ||| 2 ^ v) true ((or_bset _ _ _).2 (.inr ((two_pow_bit v v).2 rfl))) (List.nodup_cons.1 hg.nodup).1 (fun h => by cases h)
      unfold marks at this
      rw [this]
    · have hb : (bor G S ||| 2 ^ x).testBit v = false := by
        cases h : (bor G S ||| 2 ^ x).testBit v
        · rfl
        · rcases (or_bset _ _ _).1 h with h1 | h1
          · exact (hvS ((bor_bit hG _ _).1 h1).1).elim
          · exact (e ((two_pow_bit x v).1 h1)).elim
      rw [hb, if_neg (by simp), Nat.zero_add]
      exact ih _ hg.tail ((List.mem_cons.1 hv).resolve_left e)
theorem bags_edge {G : List Nat} (hG : Gr 7 G) (v u : Nat) (ha : Adj G v u) : ∀ (P : List Nat) (S : Nat), Goes G.length S P → (bset S v ∨ v ∈ P) → u ∈ P → (v ∈ P → False) ∨ True → ∃ b ∈ bagsOf G S P, bset b v ∧ bset b u := by
  intro P
  induction P with
  | nil => intro S _ _ h; simp at h
  | cons x P ih =>
    intro S hg hv hu _
    simp only [bagsOf]
    by_cases e : u = x
    · subst e
      rcases hv with h | h
      · exact ⟨_, List.mem_cons_self, (or_bset _ _ _).2 (.inl ((bor_bit hG _ _).2 ⟨h, u, ha, (hg.new u hu).2⟩)), (or_bset _ _ _).2 (.inr ((two_pow_bit u u).2 rfl))⟩
      · rcases List.mem_cons.1 h with e2 | h2
        · subst e2; exact (hG.adj_irr ha).elim
        · -- v comes behind u: the bag of v has both
          have ha' := hG.adj_symm ha
          have : ∀ (P : List Nat) (S : Nat), Goes G.length S P → bset S u → v ∈ P → ∃ b ∈ bagsOf G S P, bset b v ∧ bset b u := by
            intro P
            induction P with
            | nil => intro S _ _ h; simp at h
            | cons y P ih2 =>
              intro S hg hSu hv
              simp only [bagsOf]
              by_cases e3 : v = y
              · subst e3
                exact ⟨_, List.mem_cons_self, (or_bset _ _ _).2 (.inr ((two_pow_bit v v).2 rfl)), (or_bset _ _ _).2 (.inl ((bor_bit hG _ _).2 ⟨hSu, v, ha', (hg.new v hv).2⟩))⟩
              · obtain ⟨b, hb, h3⟩ := ih2 _ hg.tail ((or_bset _ _ _).2 (.inl hSu)) ((List.mem_cons.1 hv).resolve_left e3)
                exact ⟨b, List.mem_cons_of_mem _ hb, h3⟩
          obtain ⟨b, hb, h3⟩ := this P _ hg.tail ((or_bset _ _ _).2 (.inr ((two_pow_bit u u).2 rfl))) h2
          exact ⟨b, List.mem_cons_of_mem _ hb, h3⟩
    · have hu2 := (List.mem_cons.1 hu).resolve_left e
      have hv2 : bset (S ||| 2 ^ x) v ∨ v ∈ P := by
        rcases hv with h | h
        · exact .inl ((or_bset _ _ _).2 (.inl h))
        · rcases List.mem_cons.1 h with e2 | h2
          · exact .inl ((or_bset _ _ _).2 (.inr ((two_pow_bit x v).2 e2)))
          · exact .inr h2
      obtain ⟨b, hb, h3⟩ := ih _ hg.tail hv2 hu2 (.inr trivial)
      exact ⟨b, List.mem_cons_of_mem _ hb, h3⟩
theorem bags_lt {G : List Nat} : ∀ (P : List Nat) (S : Nat), (∀ v ∈ P, v < G.length) → ∀ b ∈ bagsOf G S P, b < 2 ^ G.length
  | [], _, _ => by simp [bagsOf]
  | v :: P, S, h => by
    intro b hb
    rcases List.mem_cons.1 hb with e | e
    · rw [e]; exact or_new (bor_lt G S) (h v List.mem_cons_self)
    · exact bags_lt P _ (fun u hu => h u (List.mem_cons_of_mem _ hu)) b e
theorem bags_path {G : List Nat} (hG : Gr 7 G) {P : List Nat} (h : IsOrd G.length (gi P)) : PathDec G (bagsOf G 0 P) := by
  have hg := goes_of h
  have hl := h.length
  rw [gi_length] at hl
  have hin : ∀ v, v < G.length → v ∈ P := fun v hv => (hg.all v hv).resolve_left (fun hb => by unfold bset at hb; simp at hb)
  exact ⟨by rw [bagsOf_length]; have := hG.pos; omega, by rw [bagsOf_length]; have := hG.most; omega, bags_lt P 0 (fun v hv => (hg.new v hv).1),
    fun v hv => (starts_one _).1 (bags_run hG v P 0 hg (hin v hv)), fun v u hv ha => bags_edge hG v u ha P 0 hg (.inr (hin v hv)) (hin u (hG.adj_lt ha)) (.inr trivial)⟩
/-- A node that is new makes a set greater by one. -/
theorem pc_new {x v n : Nat} (hv : v < n) (h : ¬ bset x v) : pc (x ||| 2 ^ v) n = pc x n + 1 := by
  apply Nat.le_antisymm
  · exact pc_onto1 v id fun j hj hb => by
      rcases (or_bset _ _ _).1 hb with h1 | h1
      · exact .inr ⟨j, hj, h1, rfl⟩
      · exact .inl ((two_pow_bit v j).1 h1)
  · refine pc_lt v n (fun j _ h => (or_bset _ _ _).2 (.inl h)) hv ?_ ((or_bset _ _ _).2 (.inr ((two_pow_bit v v).2 rfl)))
    cases hx : x.testBit v
    · rfl
    · exact (h hx).elim
theorem bags_most {G : List Nat} (hG : Gr 7 G) : ∀ (P : List Nat) (S : Nat), Goes G.length S P → P ≠ [] → mostOf (bagsOf G S P) = max (bc G S) (brOf G S P) + 1 := by
  intro P
  induction P with
  | nil => intro S _ h; exact (h rfl).elim
  | cons v P ih =>
    intro S hg _
    have hn := hG.most
    have hvS := (hg.new v List.mem_cons_self)
    have h1 : pc (bor G S ||| 2 ^ v) 9 = bc G S + 1 := pc_new (by omega) (fun h => hvS.2 ((bor_bit hG _ _).1 h).1)
    simp only [bagsOf, brOf]
    have h2 : mostOf ((bor G S ||| 2 ^ v) :: bagsOf G (S ||| 2 ^ v) P) = max (pc (bor G S ||| 2 ^ v) 9) (mostOf (bagsOf G (S ||| 2 ^ v) P)) := rfl
    rw [h2, h1]
    cases P with
    | nil =>
      have h3 : bc G (S ||| 2 ^ v) = 0 := by
        have h4 := hg.tail.all
        unfold bc
        have := pc_onto (x := bor G (S ||| 2 ^ v)) (y := 0) (n := 9) [] id (fun j hj hb => by
          obtain ⟨_, u, hu, hu2⟩ := (bor_bit hG _ _).1 hb
          rcases h4 u (hG.adj_lt hu) with h | h
          · exact (hu2 h).elim
          · simp at h)
        have h5 : pc 0 9 = 0 := by decide
        simp at this
        omega
      rw [h3]
      simp [bagsOf, brOf, mostOf]
    | cons y P =>
      rw [ih _ hg.tail (by simp)]
      omega
theorem bags_width {G : List Nat} (hG : Gr 7 G) {P : List Nat} (h : IsOrd G.length (gi P)) : mostOf (bagsOf G 0 P) = brOf G 0 P + 1 := by
  have hl := h.length
  rw [gi_length] at hl
  rw [bags_most hG P 0 (goes_of h) (fun e => by rw [e] at hl; have := hG.pos; simp at hl; omega)]
  have h0 : bc G 0 = 0 := by
    unfold bc
    have e : bor G 0 = 0 := eq_of_bits fun j => by
      show bset _ _ ↔ bset _ _
      rw [bor_bit hG]
      exact ⟨fun h => h.1, fun h => by unfold bset at h; simp at h⟩
    rw [e]
    decide
  rw [h0, Nat.zero_max]
end Go.Proofs.YtijfddobandcdaaDoor.X
end
section
/- The reference's Layout: the first of all orders with the least breadth; it is the program's. -/
set_option linter.unusedVariables false
namespace Go.Proofs.YtijfddobandcdaaDoor.X
open Go.RowKit Go.Proofs.YtijfddobandcdaaDoorW.PrintWords Go.Proofs.YtijfddobandcdaaDoorW.PrintLast Go.Proofs.YtijfddobandcdaaDoorW.PrintMore Go.Proofs.YtijfddobandcdaaDoor.T

theorem size_all : ∀ x : Fin 512, lampblackref02_Size.f 12 (x.val : Int) = some (pc x.val 9 : Int) := by decide +kernel
theorem size_ev (x : Nat) (hx : x < 512) : Ev (fun k => lampblackref02_Size.f k (x : Int)) (pc x 9 : Int) := Ev.of (lampblackref02_Size.mono _) (size_all ⟨x, hx⟩)
theorem refBreadth_l0 (G : List Nat) (hG : Gr 7 G) (P : List Nat) (hP : ∀ v ∈ P, v < G.length) (hl : P.length < 2 ^ 40) : ∀ (d i S m : Nat), i + d = P.length → S < 2 ^ G.length →
    Ev (fun k => lampblackref03_Breadth.l0 k (gi G) (m : Int) (S : Int) (gi P) (P.length : Int) (i : Int)) ((max m (brOf G S (P.drop i)) : Nat) : Int) := by
  have hn := hG.most
  intro d
  induction d with
  | zero =>
    intro i S m hi hS
    refine Ev.step (f := fun _ => some (m : Int)) (fun k => by rw [lampblackref03_Breadth.l0, if_neg (by omega)]) (Ev.some ?_)
    rw [List.drop_eq_nil_of_le (by omega)]
    simp [brOf]
  | succ d ih =>
    intro i S m hi hS
    have hi' : i < P.length := by omega
    have hm := hP _ (List.getElem_mem hi')
    have hwi := wrap_succ i (by omega)
    have hr : rd (gi P) (i : Int) = ((P[i] : Nat) : Int) := by rw [rd_gi, List.getD_eq_getElem?_getD, List.getElem?_eq_getElem hi']; rfl
    have hS62 := big (small G (by omega) hS)
    have h7 : P[i] < 62 := by omega
    have HS2 := Aside0.mk (or_new hS hm)
    have e62 : 2 ^ P[i] < 2 ^ 62 := Nat.pow_lt_pow_right (by omega) h7
    have hor : Go.bits .or .i64 (S : Int) (shl .i64 1 ((P[i] : Nat) : Int)) = ((S ||| 2 ^ P[i] : Nat) : Int) := by rw [s_one _ h7, b_or _ _ hS62 e62]
    clear hS e62
    refine Ev.step (f := fun k => (lampblackref03_Border.f k (gi G) ((S ||| 2 ^ P[i] : Nat) : Int)).bind fun t217 => (lampblackref02_Size.f k t217).bind fun t218 => lampblackref03_Breadth.l0 k (gi G) (mx (m : Int) t218) ((S ||| 2 ^ P[i] : Nat) : Int) (gi P) (P.length : Int) ((i + 1 : Nat) : Int)) (fun k => ?_) ?_
    · rw [lampblackref03_Breadth.l0, if_pos (by omega), if_pos (by omega), if_pos (by rw [gi_length]; omega), hr, if_pos (by omega), hor, hwi]
    · refine Ev.bind (refBorder_ev G hG _ HS2.out) (Ev.bind (size_ev _ (small G (by omega) (bor_lt G _))) ?_)
      rw [mx_nat, List.drop_eq_getElem_cons hi', brOf]
      have := ih (i + 1) (S ||| 2 ^ P[i]) (max m (bc G (S ||| 2 ^ P[i]))) (by omega) HS2.out
      rw [show max m (max (bc G (S ||| 2 ^ P[i])) (brOf G (S ||| 2 ^ P[i]) (P.drop (i + 1)))) = max (max m (bc G (S ||| 2 ^ P[i]))) (brOf G (S ||| 2 ^ P[i]) (P.drop (i + 1))) by omega]
      exact this
theorem refBreadth_ev (G : List Nat) (hG : Gr 7 G) (P : List Nat) (hP : ∀ v ∈ P, v < G.length) (hl : P.length < 2 ^ 40) : Ev (fun k => lampblackref03_Breadth.f k (gi G) (gi P)) ((brOf G 0 P : Nat) : Int) := by
  unfold lampblackref03_Breadth.f
  rw [gi_length]
  have := refBreadth_l0 G hG P hP hl P.length 0 0 0 (by omega) (Nat.two_pow_pos _)
  rwa [List.drop_zero, Nat.zero_max] at this

/-- All orders of the numbers below n that begin with P. -/
def layN (n : Nat) : Nat → List Nat → List (List Nat)
  | 0, P => [P]
  | d + 1, P => (List.range n).flatMap fun v => if v ∈ P then [] else layN n d (P ++ [v])
theorem layF_gi (n : Nat) : ∀ (d : Nat) (P : List Nat), layF n d (gi P) = (layN n d P).map gi
  | 0, P => by simp [layF, layN]
  | d + 1, P => by
    simp only [layF, layN, List.map_flatMap]
    congr 1
    funext v
    by_cases h : v ∈ P
    · rw [if_pos h, if_pos (gi_mem.2 h)]; rfl
    · rw [if_neg h, if_neg (fun h' => h (gi_mem.1 h')), gi_snoc, layF_gi n d]
/-- What an order has passed, from S on. -/
def sset : Nat → List Nat → Nat
  | S, [] => S
  | S, v :: P => sset (S ||| 2 ^ v) P
theorem sset_bit : ∀ (P : List Nat) (S j : Nat), bset (sset S P) j ↔ bset S j ∨ j ∈ P
  | [], S, j => by simp [sset]
  | v :: P, S, j => by rw [sset, sset_bit P, or_bset, two_pow_bit, List.mem_cons, or_assoc]
theorem sset_snoc : ∀ (P : List Nat) (S v : Nat), sset S (P ++ [v]) = sset S P ||| 2 ^ v
  | [], S, v => rfl
  | u :: P, S, v => by simp only [List.cons_append, sset]; exact sset_snoc P _ v
theorem brOf_append (G : List Nat) : ∀ (A : List Nat) (S : Nat) (B : List Nat), brOf G S (A ++ B) = max (brOf G S A) (brOf G (sset S A) B)
  | [], S, B => by simp [brOf, sset]
  | v :: A, S, B => by simp only [List.cons_append, brOf, sset]; rw [brOf_append G A]; omega
theorem lay_of_br {G : List Nat} {q : Nat} : ∀ (P : List Nat) (S : Nat), S < 2 ^ G.length → Goes G.length S P → brOf G S P ≤ q → Lay G q S
  | [], S, hS, h, _ => by
    have e : S = 2 ^ G.length - 1 := eq_of_bits fun j => by
      show bset _ _ ↔ bset _ _
      rw [full_bit]
      exact ⟨fun hj => bit_lt hS hj, fun hj => (h.all j hj).resolve_right (by simp)⟩
    rw [e]; exact .done
  | v :: P, S, hS, h, hq => by
    have hv := h.new v List.mem_cons_self
    simp only [brOf] at hq
    exact .step hv.1 hv.2 (show bc G (S ||| 2 ^ v) ≤ q by omega) (lay_of_br P _ (or_new hS hv.1) h.tail (by omega))
theorem layN_ext (n : Nat) : ∀ (d : Nat) (P X : List Nat), P.length + d = n → P.Nodup → (∀ v ∈ P, v < n) → X ∈ layN n d P → ∃ Q, X = P ++ Q ∧ Goes n (sset 0 P) Q
  | 0, P, X, hl, h1, h2, hX => by
    obtain rfl : X = P := by simpa [layN] using hX
    refine ⟨[], by simp, List.nodup_nil, by simp, fun j hj => .inl ((sset_bit X 0 j).2 (.inr (covers_of_nodup (by omega) h1 h2 j hj)))⟩
  | d + 1, P, X, hl, h1, h2, hX => by
    simp only [layN] at hX
    obtain ⟨v, hv, hX⟩ := List.mem_flatMap.1 hX
    have hvn := List.mem_range.1 hv
    by_cases hvP : v ∈ P
    · rw [if_pos hvP] at hX; simp at hX
    · rw [if_neg hvP] at hX
      obtain ⟨Q, e, hg⟩ := layN_ext n d (P ++ [v]) X (by simp; omega) (List.nodup_append.2 ⟨h1, by simp, by simp; intro a ha; exact fun e => hvP (e ▸ ha)⟩) (by
        intro x hx
        rcases List.mem_append.1 hx with h | h
        · exact h2 x h
        · rw [List.mem_singleton.1 h]; exact hvn) hX
      rw [sset_snoc] at hg
      have hvS : ¬ bset (sset 0 P) v := fun h => by
        rcases (sset_bit P 0 v).1 h with h | h
        · unfold bset at h; simp at h
        · exact hvP h
      refine ⟨v :: Q, by rw [e]; simp, List.nodup_cons.2 ⟨fun h => (hg.new v h).2 ((or_bset _ _ _).2 (.inr ((two_pow_bit v v).2 rfl))), hg.nodup⟩, fun u hu => ?_, fun j hj => ?_⟩
      · rcases List.mem_cons.1 hu with h | h
        · rw [h]; exact ⟨hvn, hvS⟩
        · exact ⟨(hg.new u h).1, fun hb => (hg.new u h).2 ((or_bset _ _ _).2 (.inl hb))⟩
      · rcases hg.all j hj with h | h
        · rcases (or_bset _ _ _).1 h with h | h
          · exact .inl h
          · exact .inr (by rw [(two_pow_bit v j).1 h]; exact List.mem_cons_self)
        · exact .inr (List.mem_cons_of_mem _ h)
theorem range_split {n v : Nat} (h : v < n) : ∃ R, List.range n = List.range v ++ v :: R := by
  refine ⟨(List.range n).drop (v + 1), ?_⟩
  have h1 : (List.range n).take v = List.range v := by rw [List.take_range, Nat.min_eq_left (by omega)]
  have h2 : (List.range n).drop v = v :: (List.range n).drop (v + 1) := by
    rw [List.drop_eq_getElem_cons (by simpa using h)]
    simp
  rw [← h2, ← h1, List.take_append_drop]
theorem greedy_goes {G : List Nat} {m : Nat} {S : Nat} {L : List Nat} (h : Greedy G m S L) : brOf G S L ≤ m := by
  induction h with
  | nil => simp [brOf]
  | cons _ _ h3 _ _ ih => simp only [brOf]; have := h3.2; omega
theorem first_best {G : List Nat} (hG : Gr 7 G) {m : Nat} : ∀ (d : Nat) (P L : List Nat), P.length + d = G.length → P.Nodup → (∀ v ∈ P, v < G.length) → sset 0 P < 2 ^ G.length → Greedy G m (sset 0 P) L →
    ∃ A C, layN G.length d P = A ++ (P ++ L) :: C ∧ ∀ X ∈ A, m < brOf G 0 X := by
  intro d
  induction d with
  | zero =>
    intro P L hl h1 h2 hS hg
    have hfull : ∀ j, j < G.length → bset (sset 0 P) j := fun j hj => (sset_bit P 0 j).2 (.inr (covers_of_nodup (by omega) h1 h2 j hj))
    generalize hSe : sset 0 P = S at hg
    cases hg with
    | nil => exact ⟨[], [], by simp [layN], by simp⟩
    | cons h3 h4 => exact (h4 (hSe ▸ hfull _ h3)).elim
  | succ d ih =>
    intro P L hl h1 h2 hS hg
    generalize hSe : sset 0 P = S at hg
    cases hg with
    | nil =>
      obtain ⟨v, hv, hn⟩ := fresh_node G.length (gi P) (by rw [gi_length]; omega)
      have : bset (sset 0 P) v := by rw [hSe]; exact (full_bit _ _).2 hv
      rcases (sset_bit P 0 v).1 this with h | h
      · unfold bset at h; simp at h
      · exact (hn (gi_mem.2 h)).elim
    | @cons _ v L h3 h4 h5 h6 h7 =>
      subst hSe
      have hvP : v ∉ P := fun h => h4 ((sset_bit P 0 v).2 (.inr h))
      have hnd : ∀ u, u ∉ P → (P ++ [u]).Nodup := fun u hu => List.nodup_append.2 ⟨h1, by simp, by simp; intro a ha; exact fun e => hu (e ▸ ha)⟩
      have hlt : ∀ u, u < G.length → ∀ x ∈ P ++ [u], x < G.length := fun u hu x hx => by
        rcases List.mem_append.1 hx with h | h
        · exact h2 x h
        · rw [List.mem_singleton.1 h]; exact hu
      obtain ⟨A, C, e, hA⟩ := ih (P ++ [v]) L (by simp; omega) (hnd v hvP) (hlt v h3) (by rw [sset_snoc]; exact or_new hS h3) (by rw [sset_snoc]; exact h7)
      obtain ⟨R, hR⟩ := range_split h3
      refine ⟨(List.range v).flatMap (fun u => if u ∈ P then [] else layN G.length d (P ++ [u])) ++ A, C ++ R.flatMap (fun u => if u ∈ P then [] else layN G.length d (P ++ [u])), ?_, fun X hX => ?_⟩
      · simp only [layN]
        rw [hR, List.flatMap_append, List.flatMap_cons, if_neg hvP, e]
        simp
      · rcases List.mem_append.1 hX with h | h
        · obtain ⟨u, hu, hX⟩ := List.mem_flatMap.1 h
          have huv := List.mem_range.1 hu
          by_cases huP : u ∈ P
          · rw [if_pos huP] at hX; simp at hX
          · rw [if_neg huP] at hX
            have hun : u < G.length := by omega
            obtain ⟨Q, eX, hg⟩ := layN_ext G.length d (P ++ [u]) X (by simp; omega) (hnd u huP) (hlt u hun) hX
            apply Classical.byContradiction
            intro hno
            have huS : ¬ bset (sset 0 P) u := fun h => by
              rcases (sset_bit P 0 u).1 h with h | h
              · unfold bset at h; simp at h
              · exact huP h
            refine h6 u huv huS ?_
            rw [eX, List.append_assoc, brOf_append] at hno
            simp only [List.singleton_append, brOf] at hno
            rw [sset_snoc] at hg
            exact ⟨lay_of_br Q _ (or_new hS hun) hg (by omega), by omega⟩
        · exact hA X h
/-- The best of some orders, the first one that has the least breadth. -/
noncomputable def bestN (G : List Nat) : List (List Nat) → List Int → Int → List Int × Int
  | [], best, least => (best, least)
  | P :: Ps, best, least => if ((brOf G 0 P : Nat) : Int) < least then bestN G Ps (gi P) ((brOf G 0 P : Nat) : Int) else bestN G Ps best least
theorem bestOf_ev (G : List Nat) (hG : Gr 7 G) : ∀ (Ps : List (List Nat)) (best : List Int) (least : Int), (∀ P ∈ Ps, P.length < 2 ^ 40 ∧ ∀ v ∈ P, v < G.length) → Ev (fun k => bestOf k (gi G) (Ps.map gi) best least) (bestN G Ps best least)
  | [], best, least, _ => Ev.some rfl
  | P :: Ps, best, least, h => by
    have hP := h P List.mem_cons_self
    have hr : ∀ Q ∈ Ps, Q.length < 2 ^ 40 ∧ ∀ v ∈ Q, v < G.length := fun Q hQ => h Q (List.mem_cons_of_mem _ hQ)
    simp only [List.map_cons, bestOf, bestN]
    refine Ev.bind (refBreadth_ev G hG P hP.2 hP.1) ?_
    by_cases hlt : ((brOf G 0 P : Nat) : Int) < least
    · rw [if_pos hlt]; exact Ev.if_pos hlt (bestOf_ev G hG Ps _ _ hr)
    · rw [if_neg hlt]; exact Ev.if_neg hlt (bestOf_ev G hG Ps _ _ hr)
theorem bestN_keep (G : List Nat) (m : Nat) : ∀ (Ps : List (List Nat)) (best : List Int), (∀ P ∈ Ps, m ≤ brOf G 0 P) → bestN G Ps best (m : Int) = (best, (m : Int))
  | [], _, _ => rfl
  | P :: Ps, best, h => by
    have := h P List.mem_cons_self
    simp only [bestN]
    rw [if_neg (by omega)]
    exact bestN_keep G m Ps best fun Q hQ => h Q (List.mem_cons_of_mem _ hQ)
theorem bestN_first (G : List Nat) (m : Nat) (L : List Nat) (hL : brOf G 0 L = m) (C : List (List Nat)) (hC : ∀ P ∈ C, m ≤ brOf G 0 P) : ∀ (A : List (List Nat)) (best : List Int) (least : Int), (m : Int) < least → (∀ X ∈ A, m < brOf G 0 X) → bestN G (A ++ L :: C) best least = (gi L, (m : Int))
  | [], best, least, h, _ => by
    simp only [List.nil_append, bestN]
    rw [if_pos (by omega), hL]
    exact bestN_keep G m C _ hC
  | P :: A, best, least, h, hA => by
    have := hA P List.mem_cons_self
    have hr : ∀ X ∈ A, m < brOf G 0 X := fun X hX => hA X (List.mem_cons_of_mem _ hX)
    simp only [List.cons_append, bestN]
    split
    · exact bestN_first G m L hL C hC A _ _ (by omega) hr
    · exact bestN_first G m L hL C hC A _ _ h hr
theorem refLayout_ev (G : List Nat) (hG : Gr 7 G) {L : List Nat} {m : Nat} (hm : IsVs G m) (hL : Greedy G m 0 L) : Ev (fun k => lampblackref03_Layout.f k (gi G)) (gi L, (m : Int)) := by
  have hn := hG.most
  have h0 := Nat.two_pow_pos G.length
  obtain ⟨A, C, e, hA⟩ := first_best hG G.length [] L (by simp) List.nodup_nil (by simp) h0 hL
  simp only [List.nil_append] at e
  have hall : ∀ X ∈ layN G.length G.length [], Goes G.length 0 X := fun X hX => by
    obtain ⟨Q, e, hg⟩ := layN_ext G.length G.length [] X (by simp) List.nodup_nil (by simp) hX
    rw [List.nil_append] at e
    rw [e]; exact hg
  have hge : ∀ X ∈ layN G.length G.length [], m ≤ brOf G 0 X := fun X hX => (hm _).2 (lay_of_br X 0 h0 (hall X hX) (Nat.le_refl _))
  have hbr : brOf G 0 L = m := Nat.le_antisymm (greedy_goes hL) (hge L (by rw [e]; exact List.mem_append_right _ List.mem_cons_self))
  have hm7 : m ≤ 9 := by rw [← hbr]; exact brOf_le G L 0
  unfold lampblackref03_Layout.f
  refine Ev.if_pos (by rw [gi_length]; omega) ?_
  rw [gi_length, show ([] : List Int) = gi [] from rfl, layF_gi]
  have := bestOf_ev G hG (layN G.length G.length []) (gi []) 99 (fun P hP => by
    have hg := hall P hP
    refine ⟨?_, fun v hv => (hg.new v hv).1⟩
    have := nodup_le hg.nodup (m := List.range G.length) fun x hx => List.mem_range.2 (hg.new x hx).1
    simp at this
    omega)
  rw [e, bestN_first G m L hbr C (fun P hP => hge P (by rw [e]; exact List.mem_append_right _ (List.mem_cons_of_mem _ hP))) A _ 99 (by omega) hA] at this
  rw [e]
  exact this
end Go.Proofs.YtijfddobandcdaaDoor.X
end
section
/- SweepLeast, without Go and memory: Least returns one more than the path width, or the documented error. -/
set_option linter.unusedVariables false
namespace Go.Proofs.YtijfddobandcdaaDoor.Pure
open Go.RowKit Go.Proofs.YtijfddobandcdaaDoorW.PrintWords Go.Proofs.YtijfddobandcdaaDoorW.PrintLast Go.Proofs.YtijfddobandcdaaDoorW.PrintMore Go.Proofs.YtijfddobandcdaaDoor.T Go.Proofs.YtijfddobandcdaaDoor.X
theorem SweepLeast : ∀ (l0 : List Int), l0.length ≤ maxLen → l0.length * 8 ≤ 140737488351232 → (∀ x ∈ l0, (Lit.int .i64 x).wf = true) → ∃ k, lampblacklaw03_SweepLeast.f k l0 = some true := by
  intro g _ hg _
  apply Ev.rounds
  obtain ⟨h, e, e1, e2, e3⟩ := few_eq g (by omega)
  have hv := valid_ev g (by omega)
  unfold lampblacklaw03_SweepLeast.f
  refine Ev.bind1 e ?_
  by_cases hc : chk 7 g = true
  · obtain ⟨G, rfl, hG⟩ := (chk_iff 7 (by omega) _).1 hc
    rw [hc] at hv
    rw [e1 hc]
    obtain ⟨L, m, hL, hm, hgr⟩ := Layout_ev G hG
    have hp : Ev (fun k => lampblackref03_PathWidth.f k (gi G)) (m : Int) := by
      unfold lampblackref03_PathWidth.f
      exact Ev.bind (refLayout_ev G hG hm hgr) (Ev.some rfl)
    have hl : Ev (fun k => sweep_Least.f k (gi G)) (wrap64 ((m : Int) + 1), 0) := by
      unfold sweep_Least.f
      exact Ev.bind hL (Ev.if_pos rfl (Ev.some rfl))
    exact Ev.bind hl (Ev.bind hv (Ev.if_pos rfl (Ev.bind hp (Ev.if_pos rfl (Ev.if_pos rfl (Ev.bind awake_ev (Ev.some rfl)))))))
  · have hc' : chk 7 g = false := by simpa using hc
    rw [hc'] at hv
    have hl : Ev (fun k => sweep_Least.f k h) (0, 2) := by
      unfold sweep_Least.f
      exact Ev.bind (Layout_bad h (by omega) (e2 hc')) (Ev.if_neg (by simp) (Ev.some rfl))
    exact Ev.bind hl (Ev.bind hv (Ev.if_neg (by simp) (Ev.if_pos rfl (Ev.if_pos rfl (Ev.bind awake_ev (Ev.some rfl))))))
end Go.Proofs.YtijfddobandcdaaDoor.Pure
end
