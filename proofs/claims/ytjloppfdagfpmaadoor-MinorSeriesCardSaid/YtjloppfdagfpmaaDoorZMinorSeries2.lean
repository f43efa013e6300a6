/- Part 2 of what MinorSeries rests on: contracts of the functions that it reaches, and what they compute, in plain words. -/
import Derived.Test.YtjloppfdagfpmaaDoorZMinorSeries0
import Derived.Test.YtjloppfdagfpmaaDoorZMinorSeries1
import Derived.WalkSpells
set_option linter.unusedVariables false
set_option linter.unusedSimpArgs false
section
namespace Go.Proofs.YtjloppfdagfpmaaDoor.X
open Go.RowKit YtjloppfdagfpmaaDoorW.PrintWords YtjloppfdagfpmaaDoorW.PrintLast YtjloppfdagfpmaaDoorW.PrintMore
attribute [local go_sem] max2_int min2_int max_two min_two max_three min_three max_four min_four
/-! ### width_read: function 86 -/
mutual
def width_read.j0 : Nat → List Int → Int → Bool → Option (List Int × Bool)
 | 0, _, _, _ => none
 | k + 1, x0, x4, x15 => if x15 = true then (some (([] : List Int), false)) else (width_read.l0 k x0 x4 x0 (x0.length : Int) 0)
def width_read.l0 : Nat → List Int → Int → List Int → Int → Int → Option (List Int × Bool)
 | 0, _, _, _, _, _ => none
 | k + 1, x0, x4, x16, x17, x18 => if x18 < x17 then (if 0 ≤ x18 then (if x18 < (x16.length : Int) then (if (rd x16 x18) < 0 then (width_read.j2 k x0 x4 x18 (rd x16 x18) x16 x17 x18 true) else (if 0 ≤ x4 then (if (rd x16 x18) ≥ (shl .i64 1 x4) then (width_read.j2 k x0 x4 x18 (rd x16 x18) x16 x17 x18 true) else (width_read.j2 k x0 x4 x18 (rd x16 x18) x16 x17 x18 ((Go.bits .and .i64 (shr .i64 (rd x16 x18) x18) 1) == 1))) else (none))) else (none)) else (none)) else (some (x0, true))
def width_read.j2 : Nat → List Int → Int → Int → Int → List Int → Int → Int → Bool → Option (List Int × Bool)
 | 0, _, _, _, _, _, _, _, _ => none
 | k + 1, x0, x4, x5, x6, x16, x17, x18, x37 => if x37 = true then (some (([] : List Int), false)) else (width_read.l1 k x0 x4 x5 x6 x16 x17 x18 x4 0)
def width_read.l1 : Nat → List Int → Int → Int → Int → List Int → Int → Int → Int → Int → Option (List Int × Bool)
 | 0, _, _, _, _, _, _, _, _, _ => none
 | k + 1, x0, x4, x5, x6, x16, x17, x18, x38, x39 => if x39 < x38 then (if 0 ≤ x39 then (if x39 < (x0.length : Int) then (if 0 ≤ x5 then (if (Go.bits .and .i64 (shr .i64 x6 x39) 1) = (Go.bits .and .i64 (shr .i64 (rd x0 x39) x5) 1) then (width_read.l1 k x0 x4 x5 x6 x16 x17 x18 x38 (wrap64 (x39 + 1))) else (some (([] : List Int), false))) else (none)) else (none)) else (none)) else (width_read.l0 k x0 x4 x16 x17 (wrap64 (x18 + 1)))
end
def width_read.f (k : Nat) (l0 : List Int) : Option (List Int × Bool) := if (l0.length : Int) < 1 then (width_read.j0 k l0 (l0.length : Int) true) else (width_read.j0 k l0 (l0.length : Int) (decide ((l0.length : Int) > 9)))
set_option maxHeartbeats 8000000 in
set_option maxRecDepth 100000 in
theorem width_read.calls (k : Nat) (P0_ : Nat → Prop) (A0 : Option Addr) (c0 : Nat) (l0 : List Int) (r1 : List Int) (r2 : Bool) (w : World) (hs0 : Kd.V (Kd.int .i64) 3 w w.heap.size (fun k_ => P0_ k_) (.slice A0 l0.length c0) l0) (h : width_read.f k l0 = some (r1, r2)) :
  Calls Tryd.prog 86 #[.slice A0 l0.length c0] w fun e w' => ∃ v0_ : Value, e = .returned (.tuple #[v0_, .bool r2]) ∧ Kd.V (Kd.int .i64) 3 w' w.heap.size (fun k_ => (P0_ k_ ∨ w.heap.size ≤ k_)) v0_ r1 ∧ Below w.heap.size w w' := by
 have HO0 := Aside0.mk (show Kd.V (Kd.int .i64) 3 w w.heap.size (fun k_ => (P0_ k_ ∨ w.heap.size ≤ k_)) (.slice A0 l0.length c0) l0 from Kd.V_mono hs0 (fun k_ hk => .inl hk))
 have HB := Aside0.mk (Below.refl w.heap.size w)
 have H : (if (l0.length : Int) < 1 then (width_read.j0 k l0 (l0.length : Int) true) else (width_read.j0 k l0 (l0.length : Int) (decide ((l0.length : Int) > 9)))) = some (r1, r2) := h
 clear h
 have HC2 := Aside0.mk H
 clear H
 go_enter Tryd.func86, Tryd.ntmps86
 go_upto_region 2 with (fail)
 repeat (go_quiet (fail); go_upto_region 2 with (fail))
 go_cut [15] (fun v15 wc => ∃ (kq : Nat) (x15_1 : Bool), v15 = .bool x15_1 ∧ Aside0 (width_read.j0 kq l0 (l0.length : Int) x15_1 = some (r1, r2)) ∧ Aside0 (kq ≤ k) ∧ Aside0 (Kd.V (Kd.int .i64) 3 wc w.heap.size (fun k_ => (P0_ k_ ∨ w.heap.size ≤ k_)) (.slice A0 l0.length c0) l0) ∧ Aside0 (Below w.heap.size w wc))
 case first =>
  have H := HC2.out
  clear HC2
  by_cases c3 : (l0.length : Int) < 1
  ·rw [if_pos c3] at H
   have c3b0 : decide ((l0.length : Int) < 1) = true := decide_eq_true c3
   have c3b1 : decide (l0.length < 1) = true := decide_eq_true (by omega)
   clear c3
   (first | rw [c3b0] | (simp only [i64_w, i32_w]; rw [c3b0]) | skip)
   have H' := Aside0.mk H
   clear H
   go_wp2
   repeat (go_quiet (fail); try go_wp2)
   go_meet
   case rel => exact ⟨_, (true), (by first | rfl | (simp; done) | (simp [*]; done)), H', ⟨by first | omega | exact Nat.le_refl _⟩, ⟨by (with_reducible repeat (first | apply Kd.V_alloc | apply Kd.V_drewN | apply Kd.V_drew)); exact HO0.out⟩, ⟨by repeat (first | (with_reducible first | exact HB.out | apply below_alloc | apply pw_below_drewN | apply below_drew1) | exact HB.out)⟩⟩
  ·rw [if_neg c3] at H
   have c3b0 : decide ((l0.length : Int) < 1) = false := decide_eq_false c3
   have c3b1 : decide (l0.length < 1) = false := decide_eq_false (by omega)
   clear c3
   (first | rw [c3b0] | (simp only [i64_w, i32_w]; rw [c3b0]) | skip)
   have H' := Aside0.mk H
   clear H
   go_wp2
   repeat (go_quiet (fail); try go_wp2)
   go_meet
   case rel => exact ⟨_, (decide ((l0.length : Int) > 9)), (by first | rfl | (simp; done) | (simp [*]; done)), H', ⟨by first | omega | exact Nat.le_refl _⟩, ⟨by (with_reducible repeat (first | apply Kd.V_alloc | apply Kd.V_drewN | apply Kd.V_drew)); exact HO0.out⟩, ⟨by repeat (first | (with_reducible first | exact HB.out | apply below_alloc | apply pw_below_drewN | apply below_drew1) | exact HB.out)⟩⟩
 case rest =>
  clear HC2
  try clear p2
  try clear c3
  try clear c3b0
  try clear c3b1
  obtain ⟨kq, x15_1, rfl, HA, HJ1, HO_0, HB⟩ := hcut
  cases kq with
  | zero => exact absurd HA.out (by simp [width_read.j0])
  | succ kj1 =>
   have H := HA.out
   clear HA
   simp only [width_read.j0] at H
   by_cases c4 : x15_1 = true
   ·subst c4
    have H1 : (some (([] : List Int), false)) = some (r1, r2) := by rw [if_pos rfl] at H; exact H
    clear H
    have H := H1
    clear H1
    simp only [Option.some.injEq, Prod.mk.injEq] at H
    obtain ⟨rfl, rfl⟩ := H
    go_wp2
    repeat (go_quiet (fail); try go_wp2)
    go_ret2
    exact ⟨_, by first | rfl | (simp [errW_none, errW_some] <;> rfl) | (simp [*, errW_none, errW_some] <;> rfl), Kd.V_nil _ _ _ _ _, by repeat (first | (with_reducible first | exact HB.out | apply below_alloc | apply pw_below_drewN | apply below_drew1) | exact HB.out)⟩
   ·replace c4 := Bool.eq_false_iff.mpr c4
    subst c4
    have H1 : (width_read.l0 kj1 l0 (l0.length : Int) l0 (l0.length : Int) 0) = some (r1, r2) := by rw [if_neg (show ¬ (false = true) by decide)] at H; exact H
    clear H
    have H := H1
    clear H1
    have H' := Aside0.mk H
    clear H
    go_wp2
    repeat (go_quiet (fail); try go_wp2)
    go_loopg [18] kj1 (fun kq v18 w' => ∃ (x18_2 : Int), v18 = .int .i64 x18_2 ∧ Aside0 (width_read.l0 kq l0 (l0.length : Int) l0 (l0.length : Int) x18_2 = some (r1, r2)) ∧ Aside0 (kq ≤ kj1) ∧ Aside0 (Kd.V (Kd.int .i64) 3 w' w.heap.size (fun k_ => (P0_ k_ ∨ w.heap.size ≤ k_)) (.slice A0 l0.length c0) l0) ∧ Aside0 (Kd.V (Kd.int .i64) 3 w' w.heap.size (fun k_ => (P0_ k_ ∨ w.heap.size ≤ k_)) (.slice A0 l0.length c0) l0) ∧ Aside0 (Below w.heap.size w w'))
    case atStart => exact ⟨(0), (by first | rfl | (simp; done) | (simp [*]; done)), H', ⟨Nat.le_refl _⟩, ⟨by (with_reducible repeat (first | apply Kd.V_alloc | apply Kd.V_drewN | apply Kd.V_drew)); exact HO_0.out⟩, ⟨by (with_reducible repeat (first | apply Kd.V_alloc | apply Kd.V_drewN | apply Kd.V_drew)); exact HO_0.out⟩, ⟨by repeat (first | (with_reducible first | exact HB.out | apply below_alloc | apply pw_below_drewN | apply below_drew1) | exact HB.out)⟩⟩
    case round =>
     clear H'
     try clear p2
     try clear c3
     try clear c3b0
     try clear c3b1
     try clear c4
     try clear p2
     obtain ⟨x18_2, rfl, HA, HK2, HO_0, HO_16, HB⟩ := hrel
     cases gk with
     | zero => exact absurd HA.out (by simp [width_read.l0])
     | succ k2 =>
      have H := HA.out
      clear HA
      simp only [width_read.l0] at H
      by_cases c5 : x18_2 < (l0.length : Int)
      ·rw [if_pos c5] at H
       have c5b0 : decide (x18_2 < (l0.length : Int)) = true := decide_eq_true c5
       clear c5
       by_cases c6 : 0 ≤ x18_2
       ·rw [if_pos c6] at H
        have c6b0 : decide (0 ≤ x18_2) = true := decide_eq_true c6
        clear c6
        by_cases c7 : x18_2 < (l0.length : Int)
        ·rw [if_pos c7] at H
         have c7b0 : decide (x18_2 < (l0.length : Int)) = true := decide_eq_true c7
         clear c7
         have HC8 := Aside0.mk H
         clear H
         have p559 : 0 ≤ (x18_2 : Int) := of_decide_eq_true (by first | (with_reducible assumption) | assumption)
         have q559 : x18_2 < (l0.length : Int) := of_decide_eq_true (by first | (with_reducible assumption) | assumption)
         obtain ⟨ad559, e559, hx559_0⟩ := Kd.at_int (Kd.V_reads' HO_16.out).2.2 x18_2 p559 q559
         cases e559
         replace p559 := eq_true p559
         replace q559 := eq_true q559
         go_upto_region 7 with (fail)
         repeat (go_quiet (fail); go_upto_region 7 with (fail))
         go_cut [37] (fun v37 wc => ∃ (kq : Nat) (x37_7 : Bool), v37 = .bool x37_7 ∧ Aside0 (width_read.j2 kq l0 (l0.length : Int) x18_2 (rd l0 x18_2) l0 (l0.length : Int) x18_2 x37_7 = some (r1, r2)) ∧ Aside0 (kq ≤ k2) ∧ Aside0 (Kd.V (Kd.int .i64) 3 wc w.heap.size (fun k_ => (P0_ k_ ∨ w.heap.size ≤ k_)) (.slice (some ad559) l0.length c0) l0) ∧ Aside0 (Kd.V (Kd.int .i64) 3 wc w.heap.size (fun k_ => (P0_ k_ ∨ w.heap.size ≤ k_)) (.slice (some ad559) l0.length c0) l0) ∧ Aside0 (Below w.heap.size w wc))
         case first =>
          have H := HC8.out
          clear HC8
          by_cases c9 : (rd l0 x18_2) < 0
          ·rw [if_pos c9] at H
           have c9b0 : decide ((rd l0 x18_2) < 0) = true := decide_eq_true c9
           clear c9
           (first | rw [c9b0] | (simp only [i64_w, i32_w]; rw [c9b0]) | skip)
           have H' := Aside0.mk H
           clear H
           go_wp2
           repeat (go_quiet (fail); try go_wp2)
           go_meet
           case rel => exact ⟨_, (true), (by first | rfl | (simp; done) | (simp [*]; done)), H', ⟨by have := HJ1.out; have := HK2.out; first | omega | exact Nat.le_refl _⟩, ⟨by (with_reducible repeat (first | apply Kd.V_alloc | apply Kd.V_drewN | apply Kd.V_drew)); exact HO_0.out⟩, ⟨by (with_reducible repeat (first | apply Kd.V_alloc | apply Kd.V_drewN | apply Kd.V_drew)); exact HO_16.out⟩, ⟨by repeat (first | (with_reducible first | exact HB.out | apply below_alloc | apply pw_below_drewN | apply below_drew1) | exact HB.out)⟩⟩
          ·rw [if_neg c9] at H
           have c9b0 : decide ((rd l0 x18_2) < 0) = false := decide_eq_false c9
           clear c9
           (first | rw [c9b0] | (simp only [i64_w, i32_w]; rw [c9b0]) | skip)
           by_cases c10 : 0 ≤ (l0.length : Int)
           ·rw [if_pos c10] at H
            have c10b0 := eq_true c10
            have c10b1 : decide (0 ≤ (l0.length : Int)) = true := decide_eq_true c10
            clear c10
            obtain ⟨ji11, hji11⟩ : ∃ j_ : Int, (shl .i64 1 (l0.length : Int)) = j_ := ⟨_, rfl⟩
            replace H : (if (rd l0 x18_2) ≥ (ji11) then (width_read.j2 k2 l0 (l0.length : Int) x18_2 (rd l0 x18_2) l0 (l0.length : Int) x18_2 true) else (width_read.j2 k2 l0 (l0.length : Int) x18_2 (rd l0 x18_2) l0 (l0.length : Int) x18_2 ((Go.bits .and .i64 (shr .i64 (rd l0 x18_2) x18_2) 1) == 1))) = some (r1, r2) := by first | (rw [hji11] at H; exact H) | (simp only [hji11] at H ⊢; exact H)
            have hji11_ : (IntKind.i64.wrap (1 * 2 ^ min (l0.length : Int).toNat 64)) = ji11 := hji11
            have hji11z : (l0.length : Int) ≤ 64 → (IntKind.i64.wrap (1 * 2 ^ (l0.length : Int).toNat)) = ji11 := shl_small hji11
            have hji11p : (IntKind.i64.wrap (1 * 2 ^ min l0.length 64)) = ji11 := hji11_
            have hji11q : (l0.length : Int) ≤ 64 → (IntKind.i64.wrap (1 * 2 ^ l0.length)) = ji11 := hji11z
            have hji11r : (IntKind.i64.wrap (2 ^ min l0.length 64)) = ji11 := by have h_ := hji11p; rw [Int.one_mul] at h_; exact h_
            have hji11s : (l0.length : Int) ≤ 64 → (IntKind.i64.wrap (2 ^ l0.length)) = ji11 := fun hle_ => by have h_ := hji11q hle_; rw [Int.one_mul] at h_; exact h_
            have hji11u : (IntKind.i64.wrap (2 ^ min (l0.length : Int).toNat 64)) = ji11 := by have h_ := hji11_; rw [Int.one_mul] at h_; exact h_
            have hji11v : (l0.length : Int) ≤ 64 → (IntKind.i64.wrap (2 ^ (l0.length : Int).toNat)) = ji11 := fun hle_ => by have h_ := hji11z hle_; rw [Int.one_mul] at h_; exact h_
            have hji11y : (wrap64 (1 * 2 ^ min (l0.length : Int).toNat 64)) = ji11 := (i64_w _).symm.trans hji11_
            have hji11x : (l0.length : Int) ≤ 64 → (wrap64 (1 * 2 ^ (l0.length : Int).toNat)) = ji11 := fun h_ => (i64_w _).symm.trans (hji11z h_)
            by_cases c12 : (rd l0 x18_2) ≥ (ji11)
            ·rw [if_pos c12] at H
             have c12b0 : decide ((ji11) ≤ (rd l0 x18_2)) = true := decide_eq_true c12
             clear c12
             have H' := Aside0.mk H
             clear H
             go_wp2
             repeat (go_quiet (fail); try go_wp2)
             go_meet
             case rel => exact ⟨_, (true), (by first | rfl | (simp; done) | (simp [*]; done)), H', ⟨by have := HJ1.out; have := HK2.out; first | omega | exact Nat.le_refl _⟩, ⟨by (with_reducible repeat (first | apply Kd.V_alloc | apply Kd.V_drewN | apply Kd.V_drew)); exact HO_0.out⟩, ⟨by (with_reducible repeat (first | apply Kd.V_alloc | apply Kd.V_drewN | apply Kd.V_drew)); exact HO_16.out⟩, ⟨by repeat (first | (with_reducible first | exact HB.out | apply below_alloc | apply pw_below_drewN | apply below_drew1) | exact HB.out)⟩⟩
            ·rw [if_neg c12] at H
             have c12b0 : decide ((ji11) ≤ (rd l0 x18_2)) = false := decide_eq_false c12
             clear c12
             have c13b0 := eq_true (of_decide_eq_true (by first | (with_reducible assumption) | assumption) : 0 ≤ x18_2)
             obtain ⟨ji14, hji14⟩ : ∃ j_ : Int, (shr .i64 (rd l0 x18_2) x18_2) = j_ := ⟨_, rfl⟩
             replace H : (width_read.j2 k2 l0 (l0.length : Int) x18_2 (rd l0 x18_2) l0 (l0.length : Int) x18_2 ((Go.bits .and .i64 (ji14) 1) == 1)) = some (r1, r2) := by first | (rw [hji14] at H; exact H) | (simp only [hji14] at H ⊢; exact H)
             have hji14_ : ((rd l0 x18_2) / 2 ^ min x18_2.toNat 64) = ji14 := hji14
             have hji14z : x18_2 ≤ 64 → ((rd l0 x18_2) / 2 ^ x18_2.toNat) = ji14 := shr_small hji14
             have H' := Aside0.mk H
             clear H
             go_wp2
             repeat (go_quiet (fail); try go_wp2)
             go_meet
             case rel => exact ⟨_, (((Go.bits .and .i64 (ji14) 1) == 1)), (by first | rfl | (simp; done) | (simp only [← hji14] <;> (first | rfl | simp)) | (simp [*]; done)), H', ⟨by have := HJ1.out; have := HK2.out; first | omega | exact Nat.le_refl _⟩, ⟨by (with_reducible repeat (first | apply Kd.V_alloc | apply Kd.V_drewN | apply Kd.V_drew)); exact HO_0.out⟩, ⟨by (with_reducible repeat (first | apply Kd.V_alloc | apply Kd.V_drewN | apply Kd.V_drew)); exact HO_16.out⟩, ⟨by repeat (first | (with_reducible first | exact HB.out | apply below_alloc | apply pw_below_drewN | apply below_drew1) | exact HB.out)⟩⟩
           ·rw [if_neg c10] at H
            exact absurd H (by simp)
         case rest =>
          clear HC8
          try clear c1
          try clear p2
          try clear c3
          try clear c3b0
          try clear c3b1
          try clear c4
          try clear c5
          try clear c5b0
          try clear p5
          try clear q5
          try clear hx5
          try clear c6
          try clear c6b0
          try clear p6
          try clear c7
          try clear c7b0
          try clear c8
          try clear c9
          try clear c9b0
          try clear c10
          try clear c10b0
          try clear c10b1
          try clear c12
          try clear c12b0
          try clear c13
          try clear c13b0
          try clear hx559_0
          try clear p2
          try clear p559
          try clear q559
          obtain ⟨kq, x37_7, rfl, HA, HJ7, HO_0, HO_16, HB⟩ := hcut
          cases kq with
          | zero => exact absurd HA.out (by simp [width_read.j2])
          | succ kj7 =>
           have H := HA.out
           clear HA
           simp only [width_read.j2] at H
           by_cases c15 : x37_7 = true
           ·subst c15
            have H1 : (some (([] : List Int), false)) = some (r1, r2) := by rw [if_pos rfl] at H; exact H
            clear H
            have H := H1
            clear H1
            simp only [Option.some.injEq, Prod.mk.injEq] at H
            obtain ⟨rfl, rfl⟩ := H
            go_wp2
            repeat (go_quiet (fail); try go_wp2)
            go_ret2
            exact ⟨_, by first | rfl | (simp [errW_none, errW_some] <;> rfl) | (simp [*, errW_none, errW_some] <;> rfl), Kd.V_nil _ _ _ _ _, by repeat (first | (with_reducible first | exact HB.out | apply below_alloc | apply pw_below_drewN | apply below_drew1) | exact HB.out)⟩
           ·replace c15 := Bool.eq_false_iff.mpr c15
            subst c15
            have H1 : (width_read.l1 kj7 l0 (l0.length : Int) x18_2 (rd l0 x18_2) l0 (l0.length : Int) x18_2 (l0.length : Int) 0) = some (r1, r2) := by rw [if_neg (show ¬ (false = true) by decide)] at H; exact H
            clear H
            have H := H1
            clear H1
            have H' := Aside0.mk H
            clear H
            go_wp2
            repeat (go_quiet (fail); try go_wp2)
            go_loopg [39] kj7 (fun kq v39 w' => ∃ (x39_4 : Int), v39 = .int .i64 x39_4 ∧ Aside0 (width_read.l1 kq l0 (l0.length : Int) x18_2 (rd l0 x18_2) l0 (l0.length : Int) x18_2 (l0.length : Int) x39_4 = some (r1, r2)) ∧ Aside0 (kq ≤ kj7) ∧ Aside0 (Kd.V (Kd.int .i64) 3 w' w.heap.size (fun k_ => (P0_ k_ ∨ w.heap.size ≤ k_)) (.slice (some ad559) l0.length c0) l0) ∧ Aside0 (Kd.V (Kd.int .i64) 3 w' w.heap.size (fun k_ => (P0_ k_ ∨ w.heap.size ≤ k_)) (.slice (some ad559) l0.length c0) l0) ∧ Aside0 (Below w.heap.size w w'))
            case atStart => exact ⟨(0), (by first | rfl | (simp; done) | (simp [*]; done)), H', ⟨Nat.le_refl _⟩, ⟨by (with_reducible repeat (first | apply Kd.V_alloc | apply Kd.V_drewN | apply Kd.V_drew)); exact HO_0.out⟩, ⟨by (with_reducible repeat (first | apply Kd.V_alloc | apply Kd.V_drewN | apply Kd.V_drew)); exact HO_16.out⟩, ⟨by repeat (first | (with_reducible first | exact HB.out | apply below_alloc | apply pw_below_drewN | apply below_drew1) | exact HB.out)⟩⟩
            case round =>
             clear H'
             try clear c1
             try clear p2
             try clear c3
             try clear c3b0
             try clear c3b1
             try clear c4
             try clear c5
             try clear c5b0
             try clear p5
             try clear q5
             try clear hx5
             try clear c6
             try clear c6b0
             try clear p6
             try clear c7
             try clear c7b0
             try clear c8
             try clear c9
             try clear c9b0
             try clear c10
             try clear c10b0
             try clear c10b1
             try clear c12
             try clear c12b0
             try clear c13
             try clear c13b0
             try clear c15
             try clear hx559_0
             try clear p2
             try clear p5
             try clear p559
             try clear p6
             try clear q5
             try clear q559
             obtain ⟨x39_4, rfl, HA, HK4, HO_0, HO_16, HB⟩ := hrel
             cases gk with
             | zero => exact absurd HA.out (by simp [width_read.l1])
             | succ k4 =>
              have H := HA.out
              clear HA
              simp only [width_read.l1] at H
              by_cases c16 : x39_4 < (l0.length : Int)
              ·rw [if_pos c16] at H
               have c16b0 : decide (x39_4 < (l0.length : Int)) = true := decide_eq_true c16
               clear c16
               by_cases c17 : 0 ≤ x39_4
               ·rw [if_pos c17] at H
                have c17b0 := eq_true c17
                have c17b1 : decide (0 ≤ x39_4) = true := decide_eq_true c17
                clear c17
                obtain ⟨ji18, hji18⟩ : ∃ j_ : Int, (shr .i64 (rd l0 x18_2) x39_4) = j_ := ⟨_, rfl⟩
                replace H : (if x39_4 < (l0.length : Int) then (if 0 ≤ x18_2 then (if (Go.bits .and .i64 (ji18) 1) = (Go.bits .and .i64 (shr .i64 (rd l0 x39_4) x18_2) 1) then (width_read.l1 k4 l0 (l0.length : Int) x18_2 (rd l0 x18_2) l0 (l0.length : Int) x18_2 (l0.length : Int) (wrap64 (x39_4 + 1))) else (some (([] : List Int), false))) else (none)) else (none)) = some (r1, r2) := by first | (rw [hji18] at H; exact H) | (simp only [hji18] at H ⊢; exact H)
                have hji18_ : ((rd l0 x18_2) / 2 ^ min x39_4.toNat 64) = ji18 := hji18
                have hji18z : x39_4 ≤ 64 → ((rd l0 x18_2) / 2 ^ x39_4.toNat) = ji18 := shr_small hji18
                by_cases c19 : x39_4 < (l0.length : Int)
                ·rw [if_pos c19] at H
                 have c19b0 : decide (x39_4 < (l0.length : Int)) = true := decide_eq_true c19
                 clear c19
                 by_cases c20 : 0 ≤ x18_2
                 ·rw [if_pos c20] at H
                  have c20b0 := eq_true c20
                  have c20b1 : decide (0 ≤ x18_2) = true := decide_eq_true c20
                  clear c20
                  obtain ⟨ji21, hji21⟩ : ∃ j_ : Int, (shr .i64 (rd l0 x39_4) x18_2) = j_ := ⟨_, rfl⟩
                  replace H : (if (Go.bits .and .i64 (ji18) 1) = (Go.bits .and .i64 (ji21) 1) then (width_read.l1 k4 l0 (l0.length : Int) x18_2 (rd l0 x18_2) l0 (l0.length : Int) x18_2 (l0.length : Int) (wrap64 (x39_4 + 1))) else (some (([] : List Int), false))) = some (r1, r2) := by first | (rw [hji21] at H; exact H) | (simp only [hji21] at H ⊢; exact H)
                  have hji21_ : ((rd l0 x39_4) / 2 ^ min x18_2.toNat 64) = ji21 := hji21
                  have hji21z : x18_2 ≤ 64 → ((rd l0 x39_4) / 2 ^ x18_2.toNat) = ji21 := shr_small hji21
                  by_cases c22 : (Go.bits .and .i64 (ji18) 1) = (Go.bits .and .i64 (ji21) 1)
                  ·rw [if_pos c22] at H
                   have c22b0 : ((Go.bits .and .i64 (ji18) 1) == (Go.bits .and .i64 (ji21) 1)) = true := beq_iff_eq.mpr c22
                   have c22b1 : ((Go.bits .and .i64 (ji18) 1) != (Go.bits .and .i64 (ji21) 1)) = false := bne_eq_false_iff_eq.mpr c22
                   clear c22
                   have H' := Aside0.mk H
                   clear H
                   have p560 : 0 ≤ (x39_4 : Int) := of_decide_eq_true (by first | (with_reducible assumption) | assumption)
                   have q560 : x39_4 < (l0.length : Int) := of_decide_eq_true (by first | (with_reducible assumption) | assumption)
                   obtain ⟨ad560, e560, hx560_0⟩ := Kd.at_int (Kd.V_reads' HO_0.out).2.2 x39_4 p560 q560
                   obtain rfl : ad559 = ad560 := (by injection e560)
                   replace p560 := eq_true p560
                   replace q560 := eq_true q560
                   go_wp2
                   repeat (go_quiet (fail); try go_wp2)
                   go_roundg k4
                   case measure => have := HJ1.out; have := HK2.out; have := HJ7.out; have := HK4.out; omega
                   case rel => exact ⟨(wrap64 (x39_4 + 1)), (by first | rfl | (simp; done) | (simp [*]; done)), H', ⟨by have := HJ1.out; have := HK2.out; have := HJ7.out; have := HK4.out; omega⟩, ⟨by (with_reducible repeat (first | apply Kd.V_alloc | apply Kd.V_drewN | apply Kd.V_drew)); exact HO_0.out⟩, ⟨by (with_reducible repeat (first | apply Kd.V_alloc | apply Kd.V_drewN | apply Kd.V_drew)); exact HO_16.out⟩, ⟨by repeat (first | (with_reducible first | exact HB.out | apply below_alloc | apply pw_below_drewN | apply below_drew1) | exact HB.out)⟩⟩
                  ·rw [if_neg c22] at H
                   have c22b0 : ((Go.bits .and .i64 (ji18) 1) == (Go.bits .and .i64 (ji21) 1)) = false := beq_eq_false_iff_ne.mpr c22
                   have c22b1 : ((Go.bits .and .i64 (ji18) 1) != (Go.bits .and .i64 (ji21) 1)) = true := bne_iff_ne.mpr c22
                   simp only [Option.some.injEq, Prod.mk.injEq] at H
                   obtain ⟨rfl, rfl⟩ := H
                   have p560 : 0 ≤ (x39_4 : Int) := of_decide_eq_true (by first | (with_reducible assumption) | assumption)
                   have q560 : x39_4 < (l0.length : Int) := of_decide_eq_true (by first | (with_reducible assumption) | assumption)
                   obtain ⟨ad560, e560, hx560_0⟩ := Kd.at_int (Kd.V_reads' HO_0.out).2.2 x39_4 p560 q560
                   obtain rfl : ad559 = ad560 := (by injection e560)
                   replace p560 := eq_true p560
                   replace q560 := eq_true q560
                   go_wp2
                   repeat (go_quiet (fail); try go_wp2)
                   go_ret2
                   exact ⟨_, by first | rfl | (simp [errW_none, errW_some] <;> rfl) | (simp only [← hji18, ← hji21]; first | rfl | (simp [errW_none, errW_some] <;> rfl)) | (simp [*, errW_none, errW_some] <;> rfl), Kd.V_nil _ _ _ _ _, by repeat (first | (with_reducible first | exact HB.out | apply below_alloc | apply pw_below_drewN | apply below_drew1) | exact HB.out)⟩
                 ·rw [if_neg c20] at H
                  exact absurd H (by simp)
                ·rw [if_neg c19] at H
                 exact absurd H (by simp)
               ·rw [if_neg c17] at H
                exact absurd H (by simp)
              ·rw [if_neg c16] at H
               have c16b0 : decide (x39_4 < (l0.length : Int)) = false := decide_eq_false c16
               clear c16
               have H' := Aside0.mk H
               clear H
               go_wp2
               repeat (go_quiet (fail); try go_wp2)
               go_roundg k4
               case measure => have := HJ1.out; have := HK2.out; have := HJ7.out; have := HK4.out; omega
               case rel => exact ⟨(wrap64 (x18_2 + 1)), (by first | rfl | (simp; done) | (simp [*]; done)), H', ⟨by have := HJ1.out; have := HK2.out; have := HJ7.out; have := HK4.out; omega⟩, ⟨by (with_reducible repeat (first | apply Kd.V_alloc | apply Kd.V_drewN | apply Kd.V_drew)); exact HO_0.out⟩, ⟨by (with_reducible repeat (first | apply Kd.V_alloc | apply Kd.V_drewN | apply Kd.V_drew)); exact HO_16.out⟩, ⟨by repeat (first | (with_reducible first | exact HB.out | apply below_alloc | apply pw_below_drewN | apply below_drew1) | exact HB.out)⟩⟩
        ·rw [if_neg c7] at H
         exact absurd H (by simp)
       ·rw [if_neg c6] at H
        exact absurd H (by simp)
      ·rw [if_neg c5] at H
       have c5b0 : decide (x18_2 < (l0.length : Int)) = false := decide_eq_false c5
       clear c5
       simp only [Option.some.injEq, Prod.mk.injEq] at H
       obtain ⟨rfl, rfl⟩ := H
       go_wp2
       repeat (go_quiet (fail); try go_wp2)
       go_ret2
       exact ⟨_, by first | rfl | (simp [errW_none, errW_some] <;> rfl) | (simp [*, errW_none, errW_some] <;> rfl), by (with_reducible repeat (first | apply Kd.V_alloc | apply Kd.V_drewN | apply Kd.V_drew)); exact HO_0.out, by repeat (first | (with_reducible first | exact HB.out | apply below_alloc | apply pw_below_drewN | apply below_drew1) | exact HB.out)⟩
end Go.Proofs.YtjloppfdagfpmaaDoor.X
end
section
namespace Go.Proofs.YtjloppfdagfpmaaDoor.X
open Go.RowKit YtjloppfdagfpmaaDoorW.PrintWords YtjloppfdagfpmaaDoorW.PrintLast YtjloppfdagfpmaaDoorW.PrintMore
attribute [local go_sem] max2_int min2_int max_two min_two max_three min_three max_four min_four
/-! ### width_town_all: function 98 -/
def width_town_all.f (l0 : List Int) : Option (Int) := some (wrap64 ((shl .i64 1 (l0.length : Int)) - 1))
set_option maxHeartbeats 8000000 in
set_option maxRecDepth 100000 in
theorem width_town_all.calls (A0 : Option Addr) (c0 : Nat) (l0 : List Int) (r : Int) (w : World) (hr0 : Kd.C (Kd.int .i64) w A0 l0.length l0) (hc0 : l0.length ≤ c0) (h : width_town_all.f l0 = some r) :
  Calls Tryd.prog 98 #[.slice A0 l0.length c0] w fun e w' => e = .returned (.int .i64 r) ∧ Drawn0 w w' := by
 have HR0 := Aside0.mk hr0
 have HC0 := Aside0.mk hc0
 clear hr0 hc0
 have H : (some (wrap64 ((shl .i64 1 (l0.length : Int)) - 1))) = some r := h
 clear h
 obtain ⟨ji2, hji2⟩ : ∃ j_ : Int, (shl .i64 1 (l0.length : Int)) = j_ := ⟨_, rfl⟩
 replace H : (some (wrap64 ((ji2) - 1))) = some r := by first | (rw [hji2] at H; exact H) | (simp only [hji2] at H ⊢; exact H)
 have hji2_ : (IntKind.i64.wrap (1 * 2 ^ min (l0.length : Int).toNat 64)) = ji2 := hji2
 have hji2z : (l0.length : Int) ≤ 64 → (IntKind.i64.wrap (1 * 2 ^ (l0.length : Int).toNat)) = ji2 := shl_small hji2
 have hji2p : (IntKind.i64.wrap (1 * 2 ^ min l0.length 64)) = ji2 := hji2_
 have hji2q : (l0.length : Int) ≤ 64 → (IntKind.i64.wrap (1 * 2 ^ l0.length)) = ji2 := hji2z
 have hji2r : (IntKind.i64.wrap (2 ^ min l0.length 64)) = ji2 := by have h_ := hji2p; rw [Int.one_mul] at h_; exact h_
 have hji2s : (l0.length : Int) ≤ 64 → (IntKind.i64.wrap (2 ^ l0.length)) = ji2 := fun hle_ => by have h_ := hji2q hle_; rw [Int.one_mul] at h_; exact h_
 have hji2u : (IntKind.i64.wrap (2 ^ min (l0.length : Int).toNat 64)) = ji2 := by have h_ := hji2_; rw [Int.one_mul] at h_; exact h_
 have hji2v : (l0.length : Int) ≤ 64 → (IntKind.i64.wrap (2 ^ (l0.length : Int).toNat)) = ji2 := fun hle_ => by have h_ := hji2z hle_; rw [Int.one_mul] at h_; exact h_
 have hji2y : (wrap64 (1 * 2 ^ min (l0.length : Int).toNat 64)) = ji2 := (i64_w _).symm.trans hji2_
 have hji2x : (l0.length : Int) ≤ 64 → (wrap64 (1 * 2 ^ (l0.length : Int).toNat)) = ji2 := fun h_ => (i64_w _).symm.trans (hji2z h_)
 obtain rfl := Option.some.inj H
 go_enter Tryd.func98, Tryd.ntmps98
 go_wp2
 go_ret
 exact ⟨by first | rfl | (simp; done) | (simp only [← hji2] <;> (first | rfl | simp)) | (simp [*]; done), by repeat (first | exact Drawn0.refl _ | apply Drawn0.step)⟩
end Go.Proofs.YtjloppfdagfpmaaDoor.X
end
section
namespace Go.Proofs.YtjloppfdagfpmaaDoor.X
open Go.RowKit YtjloppfdagfpmaaDoorW.PrintWords YtjloppfdagfpmaaDoorW.PrintLast YtjloppfdagfpmaaDoorW.PrintMore
attribute [local go_sem] max2_int min2_int max_two min_two max_three min_three max_four min_four
/-! ### width_nodes: function 104 -/
def width_nodes.l0 : Nat → Int → List Int → Option (List Int)
 | 0, _, _ => none
 | k + 1, x0, x3 => if x0 = 0 then (some x3) else ((bits_TrailingZeros.f (IntKind.u64.wrap (x0))).bind fun t561 => (if x3.length < 17592186044416 then (width_nodes.l0 k (Go.bits .and .i64 x0 (wrap64 (x0 - 1))) (x3 ++ [t561])) else (none)))
def width_nodes.f (k : Nat) (a0 : Int) : Option (List Int) := width_nodes.l0 k a0 ([] : List Int)
theorem width_nodes.mono_l : ∀ k, (∀ y0 y1, LeO (width_nodes.l0 k y0 y1) (width_nodes.l0 (k + 1) y0 y1))
 | 0 => fun _ _ r h => by simp [width_nodes.l0] at h
 | k + 1 => by
  have ih0 := width_nodes.mono_l k
  ·intro y0 y1
   unfold width_nodes.l0
   repeat' first
   | (with_reducible exact ih0 _ _)
   | (with_reducible exact LeO.refl _)
   | (with_reducible exact LeO.none _)
   | (with_reducible refine LeO.ite ?_ ?_)
   | (with_reducible refine LeO.bind ?_ (fun _ => ?_))
   | exact ih0 _ _
   | exact LeO.none _
   | refine LeO.ite ?_ ?_
   | refine LeO.bind ?_ (fun _ => ?_)
theorem width_nodes.mono : ∀ a0 k, LeO (width_nodes.f k a0) (width_nodes.f (k + 1) a0) := by
 intro a0 k
 have ih0 := width_nodes.mono_l k
 unfold width_nodes.f
 repeat' first
   | (with_reducible exact ih0 _ _)
   | (with_reducible exact LeO.refl _)
   | (with_reducible exact LeO.none _)
   | (with_reducible refine LeO.ite ?_ ?_)
   | (with_reducible refine LeO.bind ?_ (fun _ => ?_))
   | exact ih0 _ _
   | exact LeO.none _
   | refine LeO.ite ?_ ?_
   | refine LeO.bind ?_ (fun _ => ?_)
set_option maxHeartbeats 8000000 in
set_option maxRecDepth 100000 in
theorem width_nodes.calls (k : Nat) (a0 : Int) (r : List Int) (w : World) (hGL : GL w) (h : width_nodes.f k a0 = some r) :
  Calls Tryd.prog 104 #[.int .i64 a0] w fun e w' => ∃ v0_ : Value, e = .returned (v0_) ∧ Kd.R (Kd.int .i64) 3 w' w.heap.size (fun _ => True) v0_ r ∧ Below w.heap.size w w' := by
 have HGL := Aside0.mk hGL
 clear hGL
 have HB := Aside0.mk (Below.refl w.heap.size w)
 have H : (width_nodes.l0 k a0 ([] : List Int)) = some r := h
 clear h
 have H' := Aside0.mk H
 clear H
 go_enter Tryd.func104, Tryd.ntmps104
 go_wp2
 go_loopg [0, 3] k (fun kq v0 v3 w' => ∃ (x0_1 : Int) (x3_1 : List Int), v0 = .int .i64 x0_1 ∧ Aside0 (width_nodes.l0 kq x0_1 x3_1 = some r) ∧ Aside0 (kq ≤ k) ∧ Aside0 (Kd.R (Kd.int .i64) 3 w' w.heap.size (fun _ => True) v3 x3_1) ∧ Aside0 (Below w.heap.size w w'))
 case atStart => exact ⟨(a0), (([] : List Int)), (by first | rfl | (simp; done) | (simp [*]; done)), H', ⟨Nat.le_refl _⟩, ⟨by first | exact Kd.R_nil _ _ _ _ _ | exact Kd.N_nil _ _ _ _ _ | exact Kd.V_nil _ _ _ _ _ | exact Kd.Q_nil _ _ _ _ _ | exact Kd.S_nil _ _ _ _ _⟩, ⟨by repeat (first | (with_reducible first | exact HB.out | apply below_alloc | apply pw_below_drewN | apply below_drew1) | exact HB.out)⟩⟩
 case round =>
  clear H'
  try clear c1
  obtain ⟨x0_1, x3_1, rfl, HA, HK1, HO_3, HB⟩ := hrel
  cases gk with
  | zero => exact absurd HA.out (by simp [width_nodes.l0])
  | succ k1 =>
   have H := HA.out
   clear HA
   simp only [width_nodes.l0] at H
   by_cases c2 : x0_1 = 0
   ·rw [if_pos c2] at H
    have c2b0 : (x0_1 == 0) = true := beq_iff_eq.mpr c2
    have c2b1 : (x0_1 != 0) = false := bne_eq_false_iff_eq.mpr c2
    clear c2
    obtain rfl := Option.some.inj H
    go_wp2
    go_ret
    exact ⟨_, by first | rfl | (simp [errW_none, errW_some] <;> rfl) | (simp [*, errW_none, errW_some] <;> rfl), by (with_reducible repeat (first | apply Kd.R_alloc | apply Kd.R_drewN | apply Kd.R_drew)); exact HO_3.out, by repeat (first | (with_reducible first | exact HB.out | apply below_alloc | apply pw_below_drewN | apply below_drew1) | exact HB.out)⟩
   ·rw [if_neg c2] at H
    have c2b0 : (x0_1 == 0) = false := beq_eq_false_iff_ne.mpr c2
    have c2b1 : (x0_1 != 0) = true := bne_iff_ne.mpr c2
    replace H := Option.bind_eq_some_iff.mp H
    obtain ⟨t561, A30, H⟩ := H
    replace H : (if x3_1.length < 17592186044416 then (width_nodes.l0 k1 (Go.bits .and .i64 x0_1 (wrap64 (x0_1 - 1))) (x3_1 ++ [t561])) else (none)) = some r := H
    have A3 := Aside0.mk A30
    clear A30
    by_cases c4 : x3_1.length < 17592186044416
    ·rw [if_pos c4] at H
     have LMc4 := Aside0.mk c4
     clear c4
     obtain ⟨y562, hy562⟩ : ∃ y_ : List Int, y_ = (x3_1 ++ [t561]) := ⟨_, rfl⟩
     replace H : (width_nodes.l0 k1 (Go.bits .and .i64 x0_1 (wrap64 (x0_1 - 1))) y562) = some r := by first | (rw [hy562]; with_reducible exact H) | (have H2_ := (Option.bind_some _ _).symm.trans H; rw [hy562]; with_reducible exact H2_) | (have H2_ := (Option.bind_some _ _).symm.trans H; with_reducible exact H2_) | with_reducible exact H | (rw [hy562]; exact H) | exact H
     have Ny562 := Aside0.mk hy562
     clear hy562
     have H' := Aside0.mk H
     clear H
     go_wp2_with (first | ((with_reducible refine gate_callee (f := 94) rfl ?_); refine goesL_ (some 13) rfl rfl Tryd.func94 (by kernel_rfl) rfl #[.int .u64 (IntKind.u64.wrap (x0_1))] rfl (Qls) ?_; (with_reducible refine (bits_TrailingZeros.calls (hGL := (Qlg)) (IntKind.u64.wrap (x0_1)) t561 _ A3.out).mono ?_); rintro e w' ⟨rfl, ⟨nd, rfl⟩⟩; refine ⟨_, rfl, ?_⟩) | ((with_reducible refine gate_builtin (b := .append) (xs := #[.tmp 10, .tmp 14]) rfl ?_); at_builtin; refine Kd.R_append (Kd.int .i64) (w0 := w) w.heap.size rfl (.tmp 10) (.tmp 14) 22 3 (.int .i64 0) 8 rfl Tryd.underlying22 info3 rfl (by decide) (by omega) u3 x3_1 t561 [.int .i64 t561] (fun _ => True) (fun _ => False) rfl rfl ?aP (fun _ hk => hk.elim) ?aF ?aO ?aB ?aS ?aL ?_; (case aP => exact rfl); (case aB => exact (Qaw)); (case aF => exact (fun _ _ => trivial)); (case aO => exact (Qro HO_3.out)); (case aS => exact (below_size (Qaw))); (case aL => have := LMc4.out; omega); intro v563 w5 ho hb hg hat; rw [← Ny562.out] at ho; have n0_ := Aside0.mk (hb); have n1_ := Aside0.mk (ho); clear HB; clear HO_3; have HB := n0_; have HO564 := n1_; clear n0_ n1_; clear ho hb hg hat))
     go_roundg k1
     case measure => have := HK1.out; omega
     case rel => exact ⟨(Go.bits .and .i64 x0_1 (wrap64 (x0_1 - 1))), (y562), (by first | rfl | (simp; done) | (simp [*]; done)), H', ⟨by have := HK1.out; omega⟩, ⟨by (with_reducible repeat (first | apply Kd.R_alloc | apply Kd.R_drewN | apply Kd.R_drew)); exact HO564.out⟩, ⟨by repeat (first | (with_reducible first | exact HB.out | apply below_alloc | apply pw_below_drewN | apply below_drew1) | exact HB.out)⟩⟩
    ·rw [if_neg c4] at H
     exact absurd H (by simp)
end Go.Proofs.YtjloppfdagfpmaaDoor.X
end
section
namespace Go.Proofs.YtjloppfdagfpmaaDoor.X
open Go.RowKit YtjloppfdagfpmaaDoorW.PrintWords YtjloppfdagfpmaaDoorW.PrintLast YtjloppfdagfpmaaDoorW.PrintMore
attribute [local go_sem] max2_int min2_int max_two min_two max_three min_three max_four min_four
/-! ### width_count: function 120 -/
def width_count.f (a0 : Int) : Option (Int) := (bits_OnesCount.f (IntKind.u64.wrap (a0))).bind fun t571 => (some t571)
set_option maxHeartbeats 8000000 in
set_option maxRecDepth 100000 in
theorem width_count.calls (a0 : Int) (r : Int) (w : World) (h : width_count.f a0 = some r) :
  Calls Tryd.prog 120 #[.int .i64 a0] w fun e w' => e = .returned (.int .i64 r) ∧ Drawn0 w w' := by
 have H : ((bits_OnesCount.f (IntKind.u64.wrap (a0))).bind fun t571 => (some t571)) = some r := h
 clear h
 replace H := Option.bind_eq_some_iff.mp H
 obtain ⟨t571, A20, H⟩ := H
 replace H : (some t571) = some r := H
 have A2 := Aside0.mk A20
 clear A20
 obtain rfl := Option.some.inj H
 go_enter Tryd.func120, Tryd.ntmps120
 go_wp2_with (first | ((with_reducible refine gate_callee (f := 118) rfl ?_); refine goesL_ (some 5) rfl rfl Tryd.func118 (by kernel_rfl) rfl #[.int .u64 (IntKind.u64.wrap (a0))] rfl (Qls) ?_; (with_reducible refine (bits_OnesCount.calls (IntKind.u64.wrap (a0)) t571 _ A2.out).mono ?_); rintro e w' ⟨rfl, ⟨nd, rfl⟩⟩; refine ⟨_, rfl, ?_⟩))
 go_ret
 exact ⟨by first | rfl | (simp; done) | (simp [*]; done), by repeat (first | exact Drawn0.refl _ | apply Drawn0.step)⟩
end Go.Proofs.YtjloppfdagfpmaaDoor.X
end
section
namespace Go.Proofs.YtjloppfdagfpmaaDoor.X
open Go.RowKit YtjloppfdagfpmaaDoorW.PrintWords YtjloppfdagfpmaaDoorW.PrintLast YtjloppfdagfpmaaDoorW.PrintMore
attribute [local go_sem] max2_int min2_int max_two min_two max_three min_three max_four min_four
/-! ### width_town_around: function 100 -/
def width_town_around.l0 : Nat → List Int → Int → List Int → Int → Int → Option (Int)
 | 0, _, _, _, _, _ => none
 | k + 1, x0, x5, x9, x10, x11 => if x11 < x10 then (if 0 ≤ x11 then (if x11 < (x9.length : Int) then (if 0 ≤ (rd x9 x11) then (if (rd x9 x11) < (x0.length : Int) then (width_town_around.l0 k x0 (Go.bits .or .i64 x5 (rd x0 (rd x9 x11))) x9 x10 (wrap64 (x11 + 1))) else (none)) else (none)) else (none)) else (none)) else (some x5)
def width_town_around.f (k : Nat) (l0 : List Int) (a1 : Int) : Option (Int) := (width_nodes.f k a1).bind fun t565 => (width_town_around.l0 k l0 0 t565 (t565.length : Int) 0)
set_option maxHeartbeats 8000000 in
set_option maxRecDepth 100000 in
theorem width_town_around.calls (k : Nat) (A0 : Option Addr) (c0 : Nat) (l0 : List Int) (a1 : Int) (r : Int) (w : World) (hGL : GL w) (hr0 : Kd.C (Kd.int .i64) w A0 l0.length l0) (hc0 : l0.length ≤ c0) (h : width_town_around.f k l0 a1 = some r) :
  Calls Tryd.prog 100 #[.slice A0 l0.length c0, .int .i64 a1] w fun e w' => e = .returned (.int .i64 r) ∧ Below w.heap.size w w' := by
 have HGL := Aside0.mk hGL
 clear hGL
 have HR0 := Aside0.mk hr0
 have HC0 := Aside0.mk hc0
 clear hr0 hc0
 have HB := Aside0.mk (Below.refl w.heap.size w)
 have H : ((width_nodes.f k a1).bind fun t565 => (width_town_around.l0 k l0 0 t565 (t565.length : Int) 0)) = some r := h
 clear h
 replace H := Option.bind_eq_some_iff.mp H
 obtain ⟨t565, A30, H⟩ := H
 replace H : (width_town_around.l0 k l0 0 t565 (t565.length : Int) 0) = some r := H
 have A3 := Aside0.mk A30
 clear A30
 have H' := Aside0.mk H
 clear H
 go_enter Tryd.func100, Tryd.ntmps100
 go_wp2_with (first | ((with_reducible refine gate_callee (f := 104) rfl ?_); refine goesL_ (some 9) rfl rfl Tryd.func104 (by kernel_rfl) rfl #[.int .i64 a1] rfl (Qls) ?_; (with_reducible refine (width_nodes.calls (hGL := (Qlg)) k a1 t565 _ A3.out).mono ?_); rintro e w4 ⟨v566, rfl, ho0, hb⟩; refine ⟨_, rfl, ?_⟩; have n0_ := Aside0.mk (Kd.R_lower ho0 (below_size (Qaw))); have n1_ := Aside0.mk (below_step (Qaw) hb); clear HB; have HO567 := n0_; have HB := n1_; clear n0_ n1_; (try clear hb); (try clear hb2); (try clear hk); (try clear hi); (try clear ho0); obtain ⟨Ao5, co5, eo5⟩ := Kd.R_slice HO567.out; subst eo5))
 go_loopg [5, 11] k (fun kq v5 v11 w' => ∃ (x5_1 : Int) (x11_1 : Int), v5 = .int .i64 x5_1 ∧ v11 = .int .i64 x11_1 ∧ Aside0 (width_town_around.l0 kq l0 x5_1 t565 (t565.length : Int) x11_1 = some r) ∧ Aside0 (kq ≤ k) ∧ Aside0 (Kd.R (Kd.int .i64) 3 w' w.heap.size (fun _ => True) (.slice Ao5 t565.length co5) t565) ∧ Aside0 (Below w.heap.size w w'))
 case atStart => exact ⟨(0), (0), (by first | rfl | (simp; done) | (simp [*]; done)), (by first | rfl | (simp; done) | (simp [*]; done)), H', ⟨Nat.le_refl _⟩, ⟨by (with_reducible repeat (first | apply Kd.R_alloc | apply Kd.R_drewN | apply Kd.R_drew)); exact HO567.out⟩, ⟨by repeat (first | (with_reducible first | exact HB.out | apply below_alloc | apply pw_below_drewN | apply below_drew1) | exact HB.out)⟩⟩
 case round =>
  clear H'
  try clear c1
  try clear p2
  obtain ⟨x5_1, x11_1, rfl, rfl, HA, HK1, HO_9, HB⟩ := hrel
  cases gk with
  | zero => exact absurd HA.out (by simp [width_town_around.l0])
  | succ k1 =>
   have H := HA.out
   clear HA
   simp only [width_town_around.l0] at H
   by_cases c6 : x11_1 < (t565.length : Int)
   ·rw [if_pos c6] at H
    have c6b0 : decide (x11_1 < (t565.length : Int)) = true := decide_eq_true c6
    clear c6
    by_cases c7 : 0 ≤ x11_1
    ·rw [if_pos c7] at H
     have c7b0 : decide (0 ≤ x11_1) = true := decide_eq_true c7
     clear c7
     by_cases c8 : x11_1 < (t565.length : Int)
     ·rw [if_pos c8] at H
      have c8b0 : decide (x11_1 < (t565.length : Int)) = true := decide_eq_true c8
      clear c8
      by_cases c9 : 0 ≤ (rd t565 x11_1)
      ·rw [if_pos c9] at H
       have c9b0 : decide (0 ≤ (rd t565 x11_1)) = true := decide_eq_true c9
       clear c9
       by_cases c10 : (rd t565 x11_1) < (l0.length : Int)
       ·rw [if_pos c10] at H
        have c10b0 : decide ((rd t565 x11_1) < (l0.length : Int)) = true := decide_eq_true c10
        clear c10
        have H' := Aside0.mk H
        clear H
        have p568 : 0 ≤ (x11_1 : Int) := of_decide_eq_true (by first | (with_reducible assumption) | assumption)
        have q568 : x11_1 < (t565.length : Int) := of_decide_eq_true (by first | (with_reducible assumption) | assumption)
        obtain ⟨ad568, e568, hx568_0⟩ := Kd.at_int (Kd.R_reads' HO_9.out).2.2 x11_1 p568 q568
        cases e568
        replace p568 := eq_true p568
        replace q568 := eq_true q568
        have p569 : 0 ≤ ((rd t565 x11_1) : Int) := of_decide_eq_true (by first | (with_reducible assumption) | assumption)
        have q569 : (rd t565 x11_1) < (l0.length : Int) := of_decide_eq_true (by first | (with_reducible assumption) | assumption)
        obtain ⟨ad569, e569, hx569_0⟩ := Kd.at_int HR0.out (rd t565 x11_1) p569 q569
        cases e569
        replace hx569_0 := (HB.out.cell (World.block_lt_of_cell? w _ hx569_0)).trans hx569_0
        replace p569 := eq_true p569
        replace q569 := eq_true q569
        go_wp2
        go_roundg k1
        case measure => have := HK1.out; omega
        case rel => exact ⟨(Go.bits .or .i64 x5_1 (rd l0 (rd t565 x11_1))), (wrap64 (x11_1 + 1)), (by first | rfl | (simp; done) | (simp [*]; done)), (by first | rfl | (simp; done) | (simp [*]; done)), H', ⟨by have := HK1.out; omega⟩, ⟨by (with_reducible repeat (first | apply Kd.R_alloc | apply Kd.R_drewN | apply Kd.R_drew)); exact HO_9.out⟩, ⟨by repeat (first | (with_reducible first | exact HB.out | apply below_alloc | apply pw_below_drewN | apply below_drew1) | exact HB.out)⟩⟩
       ·rw [if_neg c10] at H
        exact absurd H (by simp)
      ·rw [if_neg c9] at H
       exact absurd H (by simp)
     ·rw [if_neg c8] at H
      exact absurd H (by simp)
    ·rw [if_neg c7] at H
     exact absurd H (by simp)
   ·rw [if_neg c6] at H
    have c6b0 : decide (x11_1 < (t565.length : Int)) = false := decide_eq_false c6
    clear c6
    obtain rfl := Option.some.inj H
    go_wp2
    go_ret
    exact ⟨by first | rfl | (simp [errW_none, errW_some] <;> rfl) | (simp [*, errW_none, errW_some] <;> rfl), by repeat (first | (with_reducible first | exact HB.out | apply below_alloc | apply pw_below_drewN | apply below_drew1) | exact HB.out)⟩
end Go.Proofs.YtjloppfdagfpmaaDoor.X
end
section
namespace Go.Proofs.YtjloppfdagfpmaaDoor.X
open Go.RowKit YtjloppfdagfpmaaDoorW.PrintWords YtjloppfdagfpmaaDoorW.PrintLast YtjloppfdagfpmaaDoorW.PrintMore
attribute [local go_sem] max2_int min2_int max_two min_two max_three min_three max_four min_four
/-! ### width_town_part: function 101 -/
def width_town_part.l0 : Nat → List Int → Int → Int → Option (Int)
 | 0, _, _, _ => none
 | k + 1, x0, x1, x2 => (width_town_around.f k x0 x1).bind fun t570 => (if (Go.bits .or .i64 x1 (Go.bits .and .i64 t570 x2)) = x1 then (some x1) else (width_town_part.l0 k x0 (Go.bits .or .i64 x1 (Go.bits .and .i64 t570 x2)) x2))
def width_town_part.f (k : Nat) (l0 : List Int) (a1 : Int) (a2 : Int) : Option (Int) := width_town_part.l0 k l0 a1 a2
set_option maxHeartbeats 8000000 in
set_option maxRecDepth 100000 in
theorem width_town_part.calls (k : Nat) (A0 : Option Addr) (c0 : Nat) (l0 : List Int) (a1 : Int) (a2 : Int) (r : Int) (w : World) (hGL : GL w) (hr0 : Kd.C (Kd.int .i64) w A0 l0.length l0) (hc0 : l0.length ≤ c0) (h : width_town_part.f k l0 a1 a2 = some r) :
  Calls Tryd.prog 101 #[.slice A0 l0.length c0, .int .i64 a1, .int .i64 a2] w fun e w' => e = .returned (.int .i64 r) ∧ Below w.heap.size w w' := by
 have HGL := Aside0.mk hGL
 clear hGL
 have HR0 := Aside0.mk hr0
 have HC0 := Aside0.mk hc0
 clear hr0 hc0
 have HB := Aside0.mk (Below.refl w.heap.size w)
 have H : (width_town_part.l0 k l0 a1 a2) = some r := h
 clear h
 have H' := Aside0.mk H
 clear H
 go_enter Tryd.func101, Tryd.ntmps101
 go_wp2
 go_loopg [1] k (fun kq v1 w' => ∃ (x1_1 : Int), v1 = .int .i64 x1_1 ∧ Aside0 (width_town_part.l0 kq l0 x1_1 a2 = some r) ∧ Aside0 (kq ≤ k) ∧ Aside0 (Below w.heap.size w w'))
 case atStart => exact ⟨(a1), (by first | rfl | (simp; done) | (simp [*]; done)), H', ⟨Nat.le_refl _⟩, ⟨by repeat (first | (with_reducible first | exact HB.out | apply below_alloc | apply pw_below_drewN | apply below_drew1) | exact HB.out)⟩⟩
 case round =>
  clear H'
  try clear c1
  try clear p2
  obtain ⟨x1_1, rfl, HA, HK1, HB⟩ := hrel
  cases gk with
  | zero => exact absurd HA.out (by simp [width_town_part.l0])
  | succ k1 =>
   have H := HA.out
   clear HA
   simp only [width_town_part.l0] at H
   replace H := Option.bind_eq_some_iff.mp H
   obtain ⟨t570, A40, H⟩ := H
   replace H : (if (Go.bits .or .i64 x1_1 (Go.bits .and .i64 t570 a2)) = x1_1 then (some x1_1) else (width_town_part.l0 k1 l0 (Go.bits .or .i64 x1_1 (Go.bits .and .i64 t570 a2)) a2)) = some r := H
   have A4 := Aside0.mk A40
   clear A40
   by_cases c5 : (Go.bits .or .i64 x1_1 (Go.bits .and .i64 t570 a2)) = x1_1
   ·rw [if_pos c5] at H
    have c5b0 : ((Go.bits .or .i64 x1_1 (Go.bits .and .i64 t570 a2)) == x1_1) = true := beq_iff_eq.mpr c5
    have c5b1 : ((Go.bits .or .i64 x1_1 (Go.bits .and .i64 t570 a2)) != x1_1) = false := bne_eq_false_iff_eq.mpr c5
    clear c5
    obtain rfl := Option.some.inj H
    go_wp2_with (first | ((with_reducible refine gate_callee (f := 100) rfl ?_); refine goesL_ (some 11) rfl rfl Tryd.func100 (by kernel_rfl) rfl #[.slice A0 l0.length c0, .int .i64 x1_1] rfl (Qls) ?_; (with_reducible refine (width_town_around.calls (hGL := (Qlg)) k1 _ _ l0 x1_1 t570 _ ?side1 ?side2 A4.out).mono ?_); (case side1 => exact Qsc (Kd.C_below HR0.out HB.out)); (case side2 => exact HC0.out); rintro e w6 ⟨rfl, hb⟩; refine ⟨_, rfl, ?_⟩; have n0_ := Aside0.mk (below_step (Qaw) hb); clear HB; have HB := n0_; clear n0_; (try clear hb); (try clear hb2); (try clear hk); (try clear hi)))
    go_ret
    exact ⟨by first | rfl | (simp [errW_none, errW_some] <;> rfl) | (simp [*, errW_none, errW_some] <;> rfl), by repeat (first | (with_reducible first | exact HB.out | apply below_alloc | apply pw_below_drewN | apply below_drew1) | exact HB.out)⟩
   ·rw [if_neg c5] at H
    have c5b0 : ((Go.bits .or .i64 x1_1 (Go.bits .and .i64 t570 a2)) == x1_1) = false := beq_eq_false_iff_ne.mpr c5
    have c5b1 : ((Go.bits .or .i64 x1_1 (Go.bits .and .i64 t570 a2)) != x1_1) = true := bne_iff_ne.mpr c5
    have H' := Aside0.mk H
    clear H
    go_wp2_with (first | ((with_reducible refine gate_callee (f := 100) rfl ?_); refine goesL_ (some 11) rfl rfl Tryd.func100 (by kernel_rfl) rfl #[.slice A0 l0.length c0, .int .i64 x1_1] rfl (Qls) ?_; (with_reducible refine (width_town_around.calls (hGL := (Qlg)) k1 _ _ l0 x1_1 t570 _ ?side1 ?side2 A4.out).mono ?_); (case side1 => exact Qsc (Kd.C_below HR0.out HB.out)); (case side2 => exact HC0.out); rintro e w7 ⟨rfl, hb⟩; refine ⟨_, rfl, ?_⟩; have n0_ := Aside0.mk (below_step (Qaw) hb); clear HB; have HB := n0_; clear n0_; (try clear hb); (try clear hb2); (try clear hk); (try clear hi)))
    go_roundg k1
    case measure => have := HK1.out; omega
    case rel => exact ⟨(Go.bits .or .i64 x1_1 (Go.bits .and .i64 t570 a2)), (by first | rfl | (simp; done) | (simp [*]; done)), H', ⟨by have := HK1.out; omega⟩, ⟨by repeat (first | (with_reducible first | exact HB.out | apply below_alloc | apply pw_below_drewN | apply below_drew1) | exact HB.out)⟩⟩
end Go.Proofs.YtjloppfdagfpmaaDoor.X
end
section
namespace Go.Proofs.YtjloppfdagfpmaaDoor.X
open Go.RowKit YtjloppfdagfpmaaDoorW.PrintWords YtjloppfdagfpmaaDoorW.PrintLast YtjloppfdagfpmaaDoorW.PrintMore
attribute [local go_sem] max2_int min2_int max_two min_two max_three min_three max_four min_four
/-! ### width_town_degree: function 113 -/
def width_town_degree.f (k : Nat) (l0 : List Int) (a1 : Int) (a2 : Int) : Option (Int) := if 0 ≤ a1 then ((width_town_part.f k l0 (shl .i64 1 a1) (Go.bits .or .i64 a2 (shl .i64 1 a1))).bind fun t572 => ((width_town_around.f k l0 t572).bind fun t573 => ((width_count.f (Go.bits .andNot .i64 (Go.bits .andNot .i64 t573 a2) (shl .i64 1 a1))).bind fun t574 => (some t574)))) else (none)
def width_town_degree.T1 : Bool × List (List Nat × List Nat) := (true, [([], []), ([], []), ([], []), ([2], [2]), ([], []), ([], []), ([5], [5]), ([4, 6], [4, 6]), ([1, 3, 7], [1, 3, 7]), ([0, 8, 8], [0, 8]), ([], []), ([9, 10], [9, 10]), ([], []), ([12], [12]), ([11, 13], [11, 13]), ([14, 9], [14]), ([15, 15, 0, 1, 2, 3, 4, 5, 6, 7, 8, 9, 10, 11, 12, 13, 14, 15], [15])])
def width_town_degree.B1 : List Nat := [0, 0, 0, 4, 0, 0, 32, 112, 254, 511, 0, 2047, 0, 4096, 16383, 32767, 65535]
theorem width_town_degree.tab1 : rtab .any (opsOf Tryd.f113 1) = width_town_degree.T1 := by kernel_rfl
theorem width_town_degree.bits1 : waitsOk width_town_degree.T1.2 width_town_degree.B1 = true := by kernel_rfl
set_option maxHeartbeats 8000000 in
set_option maxRecDepth 100000 in
theorem width_town_degree.calls (k : Nat) (A0 : Option Addr) (c0 : Nat) (l0 : List Int) (a1 : Int) (a2 : Int) (r : Int) (w : World) (hGL : GL w) (hr0 : Kd.C (Kd.int .i64) w A0 l0.length l0) (hc0 : l0.length ≤ c0) (h : width_town_degree.f k l0 a1 a2 = some r) :
  Calls Tryd.prog 113 #[.slice A0 l0.length c0, .int .i64 a1, .int .i64 a2] w fun e w' => e = .returned (.int .i64 r) ∧ Below w.heap.size w w' := by
 have HGL := Aside0.mk hGL
 clear hGL
 have HR0 := Aside0.mk hr0
 have HC0 := Aside0.mk hc0
 clear hr0 hc0
 have HB := Aside0.mk (Below.refl w.heap.size w)
 have H : (if 0 ≤ a1 then ((width_town_part.f k l0 (shl .i64 1 a1) (Go.bits .or .i64 a2 (shl .i64 1 a1))).bind fun t572 => ((width_town_around.f k l0 t572).bind fun t573 => ((width_count.f (Go.bits .andNot .i64 (Go.bits .andNot .i64 t573 a2) (shl .i64 1 a1))).bind fun t574 => (some t574)))) else (none)) = some r := h
 clear h
 by_cases c4 : 0 ≤ a1
 ·rw [if_pos c4] at H
  have c4b0 := eq_true c4
  have c4b1 : decide (0 ≤ a1) = true := decide_eq_true c4
  clear c4
  obtain ⟨ji5, hji5⟩ : ∃ j_ : Int, (shl .i64 1 a1) = j_ := ⟨_, rfl⟩
  replace H : ((width_town_part.f k l0 (ji5) (Go.bits .or .i64 a2 (ji5))).bind fun t572 => ((width_town_around.f k l0 t572).bind fun t573 => ((width_count.f (Go.bits .andNot .i64 (Go.bits .andNot .i64 t573 a2) (ji5))).bind fun t574 => (some t574)))) = some r := by first | (rw [hji5] at H; exact H) | (simp only [hji5] at H ⊢; exact H)
  have hji5_ : (IntKind.i64.wrap (1 * 2 ^ min a1.toNat 64)) = ji5 := hji5
  have hji5z : a1 ≤ 64 → (IntKind.i64.wrap (1 * 2 ^ a1.toNat)) = ji5 := shl_small hji5
  have hji5u : (IntKind.i64.wrap (2 ^ min a1.toNat 64)) = ji5 := by have h_ := hji5_; rw [Int.one_mul] at h_; exact h_
  have hji5v : a1 ≤ 64 → (IntKind.i64.wrap (2 ^ a1.toNat)) = ji5 := fun hle_ => by have h_ := hji5z hle_; rw [Int.one_mul] at h_; exact h_
  have hji5y : (wrap64 (1 * 2 ^ min a1.toNat 64)) = ji5 := (i64_w _).symm.trans hji5_
  have hji5x : a1 ≤ 64 → (wrap64 (1 * 2 ^ a1.toNat)) = ji5 := fun h_ => (i64_w _).symm.trans (hji5z h_)
  have c6b0 := eq_true (of_decide_eq_true (by first | (with_reducible assumption) | assumption) : 0 ≤ a1)
  replace H := Option.bind_eq_some_iff.mp H
  obtain ⟨t572, A70, H⟩ := H
  replace H : ((width_town_around.f k l0 t572).bind fun t573 => ((width_count.f (Go.bits .andNot .i64 (Go.bits .andNot .i64 t573 a2) (ji5))).bind fun t574 => (some t574))) = some r := H
  have A7 := Aside0.mk A70
  clear A70
  replace H := Option.bind_eq_some_iff.mp H
  obtain ⟨t573, A80, H⟩ := H
  replace H : ((width_count.f (Go.bits .andNot .i64 (Go.bits .andNot .i64 t573 a2) (ji5))).bind fun t574 => (some t574)) = some r := H
  have A8 := Aside0.mk A80
  clear A80
  have c9b0 := eq_true (of_decide_eq_true (by first | (with_reducible assumption) | assumption) : 0 ≤ a1)
  replace H := Option.bind_eq_some_iff.mp H
  obtain ⟨t574, A100, H⟩ := H
  replace H : (some t574) = some r := H
  have A10 := Aside0.mk A100
  clear A100
  obtain rfl := Option.some.inj H
  go_enter Tryd.func113, Tryd.ntmps113
  try go_wp2
  have n0_ := Aside0.mk (below_drew1 HB.out)
  clear HB
  have HB := n0_
  clear n0_
  refine start_ (n := 17) (S := fun w' => True) (ds := []) (Qbz 17 0) (by kernel_rfl) rfl rfl trivial (fun hHeld => ?_); refine with_tabW width_town_degree.tab1 width_town_degree.bits1 (fun HT_ HW_ => ?_)
  generalize w.drew = w11 at HB hHeld ⊢
  refine pure_ (i := 0) (N := some 7) (v := ?_) (a' := ?_) (Qbz 17 1) rfl rfl (any_of HT_.out (by kernel_rfl)) (fun _ _ _ h => h) (Or.inl ⟨by rfl, ?_⟩) ?_ ?_
  rotate_left
  ·intro w'
   go_simp
   with_reducible rfl
  rotate_left
  ·simp only [Act.put, Qp1, Qp2, Qp3, i64_w, i32_w]
   rfl
  refine pure_ (i := 1) (N := some 8) (v := ?_) (a' := ?_) (Qbz 17 3) rfl rfl (any_of HT_.out (by kernel_rfl)) (fun _ _ _ h => h) (Or.inl ⟨by rfl, ?_⟩) ?_ ?_
  rotate_left
  ·intro w'
   go_simp
   with_reducible rfl
  rotate_left
  ·simp only [Act.put, Qp1, Qp2, Qp3, i64_w, i32_w]
   rfl
  refine pure_ (i := 2) (N := some 9) (v := ?_) (a' := ?_) (Qbz 17 7) rfl rfl (any_of HT_.out (by kernel_rfl)) (fun _ _ _ h => h) (Or.inl ⟨by rfl, ?_⟩) ?_ ?_
  rotate_left
  ·intro w'
   go_simp
   with_reducible rfl
  rotate_left
  ·simp only [Act.put, Qp1, Qp2, Qp3, i64_w, i32_w]
   rfl
  refine pure_ (i := 3) (N := some 10) (v := ?_) (a' := ?_) (Qbz 17 15) rfl rfl (any_of HT_.out (by kernel_rfl)) (fun _ _ _ h => h) (Or.inl ⟨by rfl, ?_⟩) ?_ ?_
  rotate_left
  ·intro w'
   go_simp
   with_reducible rfl
  rotate_left
  ·simp only [Act.put, Qp1, Qp2, Qp3, i64_w, i32_w]
   rfl
  refine pure_ (i := 4) (N := some 11) (v := ?_) (a' := ?_) (Qbz 17 31) rfl rfl (any_of HT_.out (by kernel_rfl)) (fun _ _ _ h => h) (Or.inl ⟨by rfl, ?_⟩) ?_ ?_
  rotate_left
  ·intro w'
   go_simp
   with_reducible rfl
  rotate_left
  ·simp only [Act.put, Qp1, Qp2, Qp3, i64_w, i32_w]
   rfl
  refine pure_ (i := 5) (N := some 12) (v := ?_) (a' := ?_) (Qbz 17 63) rfl rfl (any_of HT_.out (by kernel_rfl)) (fun _ _ _ h => h) (Or.inl ⟨by rfl, ?_⟩) ?_ ?_
  rotate_left
  ·intro w'
   go_simp
   with_reducible rfl
  rotate_left
  ·simp only [Act.put, Qp1, Qp2, Qp3, i64_w, i32_w]
   rfl
  refine pure_ (i := 6) (N := some 13) (v := ?_) (a' := ?_) (Qbz 17 127) rfl rfl (any_of HT_.out (by kernel_rfl)) (fun _ _ _ h => h) (Or.inl ⟨by rfl, ?_⟩) ?_ ?_
  rotate_left
  ·intro w'
   go_simp
   with_reducible rfl
  rotate_left
  ·simp only [Act.put, Qp1, Qp2, Qp3, i64_w, i32_w]
   rfl
  refine pure_ (i := 7) (N := some 14) (v := ?_) (a' := ?_) (Qbz 17 255) rfl rfl (any_of HT_.out (by kernel_rfl)) (fun _ _ _ h => h) (Or.inl ⟨by rfl, ?_⟩) ?_ ?_
  rotate_left
  ·intro w'
   go_simp
   with_reducible rfl
  rotate_left
  ·simp only [Act.put, Qp1, Qp2, Qp3, i64_w, i32_w]
   rfl
  refine pure_ (i := 10) (N := some 17) (v := ?_) (a' := ?_) (Qbz 17 1279) rfl rfl (any_of HT_.out (by kernel_rfl)) (fun _ _ _ h => h) (Or.inl ⟨by rfl, ?_⟩) ?_ ?_
  rotate_left
  ·intro w'
   go_simp
   with_reducible rfl
  rotate_left
  ·simp only [Act.put, Qp1, Qp2, Qp3, i64_w, i32_w]
   rfl
  refine pure_ (i := 12) (N := some 19) (v := ?_) (a' := ?_) (Qbz 17 5375) rfl rfl (any_of HT_.out (by kernel_rfl)) (fun _ _ _ h => h) (Or.inl ⟨by rfl, ?_⟩) ?_ ?_
  rotate_left
  ·intro w'
   go_simp
   with_reducible rfl
  rotate_left
  ·simp only [Act.put, Qp1, Qp2, Qp3, i64_w, i32_w]
   rfl
  refine pure_ (i := 13) (N := some 20) (v := ?_) (a' := ?_) (Qbz 17 13567) rfl rfl (any_of HT_.out (by kernel_rfl)) (fun _ _ _ h => h) (Or.inl ⟨by rfl, ?_⟩) ?_ ?_
  rotate_left
  ·intro w'
   go_simp
   with_reducible rfl
  rotate_left
  ·simp only [Act.put, Qp1, Qp2, Qp3, i64_w, i32_w]
   rfl
  refine one_ (i := 8) (N := some 15) (Qbz 17 13823) rfl rfl (one_of HT_.out (by kernel_rfl)) (by decide) (fun K hK => ?_)
  refine goes_ Tryd.func101 (by kernel_rfl) rfl #[.slice A0 l0.length c0, .int .i64 ji5, .int .i64 (Go.bits .or .i64 a2 (ji5))] (by rfl) rfl rfl (by (try simp only [List.map_toArray, List.map_cons, List.map_nil]); first | done | (simp only [hji5]; rfl) | rfl | (simp only [List.length_drop, List.length_take]; rfl)) ?_
  with_reducible refine (width_town_part.calls (hGL := (Qlg)) k _ _ l0 ji5 (Go.bits .or .i64 a2 (ji5)) t572 _ ?side1 ?side2 A7.out).mono ?_
  (case side1 => exact Qsc (Kd.C_below HR0.out HB.out))
  (case side2 => exact HC0.out)
  rintro e w12 ⟨rfl, hb⟩
  refine ⟨_, rfl, ?_⟩
  have n0_ := Aside0.mk (below_step (Qaw) hb)
  clear HB
  have HB := n0_
  clear n0_
  (try clear hb)
  (try clear hb2)
  (try clear hk)
  (try clear hi)
  refine hK.out _ _ trivial (fun hHeld => ?_)
  clear hK K
  refine norm_ (a' := ?_) ?_ ?_
  rotate_left
  ·show Act.put _ (some 15) _ = _
   simp only [Act.put, Qp1, Qp2, Qp3, i64_w, i32_w]
   rfl
  refine one_ (i := 9) (N := some 16) (Qbz 17 14335) rfl rfl (one_of HT_.out (by kernel_rfl)) (by decide) (fun K hK => ?_)
  refine goes_ Tryd.func100 (by kernel_rfl) rfl #[.slice A0 l0.length c0, .int .i64 t572] (by rfl) rfl rfl (Qls) ?_
  with_reducible refine (width_town_around.calls (hGL := (Qlg)) k _ _ l0 t572 t573 _ ?side1 ?side2 A8.out).mono ?_
  (case side1 => exact Qsc (Kd.C_below HR0.out HB.out))
  (case side2 => exact HC0.out)
  rintro e w13 ⟨rfl, hb⟩
  refine ⟨_, rfl, ?_⟩
  have n0_ := Aside0.mk (below_step (Qaw) hb)
  clear HB
  have HB := n0_
  clear n0_
  (try clear hb)
  (try clear hb2)
  (try clear hk)
  (try clear hi)
  refine hK.out _ _ trivial (fun hHeld => ?_)
  clear hK K
  refine norm_ (a' := ?_) ?_ ?_
  rotate_left
  ·show Act.put _ (some 16) _ = _
   simp only [Act.put, Qp1, Qp2, Qp3, i64_w, i32_w]
   rfl
  refine pure_ (i := 11) (N := some 18) (v := ?_) (a' := ?_) (Qbz 17 16383) rfl rfl (any_of HT_.out (by kernel_rfl)) (fun _ _ _ h => h) (Or.inl ⟨by rfl, ?_⟩) ?_ ?_
  rotate_left
  ·intro w'
   go_simp
   with_reducible rfl
  rotate_left
  ·simp only [Act.put, Qp1, Qp2, Qp3, i64_w, i32_w]
   rfl
  refine pure_ (i := 14) (N := some 21) (v := ?_) (a' := ?_) (Qbz 17 32767) rfl rfl (any_of HT_.out (by kernel_rfl)) (fun _ _ _ h => h) (Or.inl ⟨by rfl, ?_⟩) ?_ ?_
  rotate_left
  ·intro w'
   go_simp
   with_reducible rfl
  rotate_left
  ·simp only [Act.put, Qp1, Qp2, Qp3, i64_w, i32_w]
   rfl
  refine one_ (i := 15) (N := some 22) (Qbz 17 65535) rfl rfl (one_of HT_.out (by kernel_rfl)) (by decide) (fun K hK => ?_)
  refine goes_ Tryd.func120 (by kernel_rfl) rfl #[.int .i64 (Go.bits .andNot .i64 (Go.bits .andNot .i64 t573 a2) (ji5))] (by rfl) rfl rfl (by (try simp only [List.map_toArray, List.map_cons, List.map_nil]); first | done | (simp only [hji5]; rfl) | rfl | (simp only [List.length_drop, List.length_take]; rfl)) ?_
  with_reducible refine (width_count.calls (Go.bits .andNot .i64 (Go.bits .andNot .i64 t573 a2) (ji5)) t574 _ A10.out).mono ?_
  rintro e w' ⟨rfl, ⟨nd, rfl⟩⟩
  refine ⟨_, rfl, ?_⟩
  refine hK.out _ _ trivial (fun hHeld => ?_)
  clear hK K
  refine norm_ (a' := ?_) ?_ ?_
  rotate_left
  ·show Act.put _ (some 22) _ = _
   simp only [Act.put, Qp1, Qp2, Qp3, i64_w, i32_w]
   rfl
  refine pure_ (i := 16) (N := some 6) (v := ?_) (a' := ?_) (Qbz 17 131071) rfl rfl (any_of HT_.out (by kernel_rfl)) (fun _ _ _ h => h) (Or.inl ⟨by rfl, ?_⟩) ?_ ?_
  rotate_left
  ·intro w'
   go_simp
   with_reducible rfl
  rotate_left
  ·simp only [Act.put, Qp1, Qp2, Qp3, i64_w, i32_w]
   rfl
  refine done_ (done_of HT_.out (by kernel_rfl)) ?_
  try go_wp2
  go_ret
  exact ⟨by first | rfl | (simp [errW_none, errW_some] <;> rfl) | (simp only [← hji5]; first | rfl | (simp [errW_none, errW_some] <;> rfl)) | (simp [*, errW_none, errW_some] <;> rfl), by repeat (first | (with_reducible first | exact HB.out | apply below_alloc | apply pw_below_drewN | apply below_drew1) | exact HB.out)⟩
 ·rw [if_neg c4] at H
  exact absurd H (by simp)
end Go.Proofs.YtjloppfdagfpmaaDoor.X
end
section
namespace Go.Proofs.YtjloppfdagfpmaaDoor.X
open Go.RowKit YtjloppfdagfpmaaDoorW.PrintWords YtjloppfdagfpmaaDoorW.PrintLast YtjloppfdagfpmaaDoorW.PrintMore
attribute [local go_sem] max2_int min2_int max_two min_two max_three min_three max_four min_four
/-! ### width_town_widths: function 97 -/
mutual
def width_town_widths.l0 : Nat → List Int → List Int → Int → Option (List Int)
 | 0, _, _, _ => none
 | k + 1, x0, x3, x4 => if x4 < (x3.length : Int) then (if 0 ≤ x4 then ((width_nodes.f k x4).bind fun t579 => (width_town_widths.l1 k x0 (x3.set (x4 : Int).toNat (x0.length : Int)) x4 t579 (t579.length : Int) 0)) else (none)) else (some x3)
def width_town_widths.l1 : Nat → List Int → List Int → Int → List Int → Int → Int → Option (List Int)
 | 0, _, _, _, _, _, _ => none
 | k + 1, x0, x3, x4, x23, x24, x25 => if x25 < x24 then (if 0 ≤ x25 then (if x25 < (x23.length : Int) then (if 0 ≤ x4 then (if x4 < (x3.length : Int) then (if 0 ≤ (rd x23 x25) then (if 0 ≤ (Go.bits .andNot .i64 x4 (shl .i64 1 (rd x23 x25))) then (if (Go.bits .andNot .i64 x4 (shl .i64 1 (rd x23 x25))) < (x3.length : Int) then ((width_town_degree.f k x0 (rd x23 x25) (Go.bits .andNot .i64 x4 (shl .i64 1 (rd x23 x25)))).bind fun t585 => (width_town_widths.l1 k x0 (x3.set (x4 : Int).toNat (mn (rd x3 x4) (mx (rd x3 (Go.bits .andNot .i64 x4 (shl .i64 1 (rd x23 x25)))) t585))) x4 x23 x24 (wrap64 (x25 + 1)))) else (none)) else (none)) else (none)) else (none)) else (none)) else (none)) else (none)) else (width_town_widths.l0 k x0 x3 (wrap64 (x4 + 1)))
end
def width_town_widths.f (k : Nat) (l0 : List Int) : Option (List Int) := if 0 ≤ (shl .i64 1 (l0.length : Int)) then (if (shl .i64 1 (l0.length : Int) : Int).toNat ≤ 35184372088832 then (width_town_widths.l0 k l0 (List.replicate (shl .i64 1 (l0.length : Int) : Int).toNat 0) 1) else (none)) else (none)
def width_town_widths.T9 : Bool × List (List Nat × List Nat) := (true, [([], []), ([], []), ([], []), ([], []), ([2, 3], [2, 3]), ([4], [4]), ([], []), ([], []), ([], []), ([8], [8]), ([7, 9], [7, 9]), ([6, 10], [6, 10]), ([11], [11]), ([], []), ([], []), ([], []), ([], []), ([16], [16]), ([15, 17], [15, 17]), ([13, 14, 18], [13, 14, 18]), ([12, 19], [12, 19]), ([5, 20], [5, 20]), ([0, 1, 0, 1, 2, 3, 4, 5, 6, 7, 8, 9, 10, 11, 12, 13, 14, 15, 16, 17, 18, 19, 20, 21], [0, 1]), ([22, 21, 19, 0, 1, 2, 3, 4, 5, 6, 7, 8, 9, 10, 11, 12, 13, 14, 15, 16, 17, 18, 19, 20, 21], [21, 22])])
def width_town_widths.B9 : List Nat := [0, 0, 0, 0, 12, 28, 0, 0, 0, 256, 896, 1984, 4032, 0, 0, 0, 0, 65536, 229376, 516096, 1048512, 2097148, 4194303, 8388607]
theorem width_town_widths.tab9 : rtab .any (opsOf Tryd.f97 9) = width_town_widths.T9 := by kernel_rfl
theorem width_town_widths.bits9 : waitsOk width_town_widths.T9.2 width_town_widths.B9 = true := by kernel_rfl
set_option maxHeartbeats 8000000 in
set_option maxRecDepth 100000 in
theorem width_town_widths.calls (k : Nat) (A0 : Option Addr) (c0 : Nat) (l0 : List Int) (r : List Int) (w : World) (hGL : GL w) (hr0 : Kd.C (Kd.int .i64) w A0 l0.length l0) (hc0 : l0.length ≤ c0) (h : width_town_widths.f k l0 = some r) :
  Calls Tryd.prog 97 #[.slice A0 l0.length c0] w fun e w' => ∃ v0_ : Value, e = .returned (v0_) ∧ Kd.R (Kd.int .i64) 3 w' w.heap.size (fun _ => True) v0_ r ∧ Below w.heap.size w w' := by
 have HGL := Aside0.mk hGL
 clear hGL
 have HR0 := Aside0.mk hr0
 have HC0 := Aside0.mk hc0
 clear hr0 hc0
 have HB := Aside0.mk (Below.refl w.heap.size w)
 have H : (if 0 ≤ (shl .i64 1 (l0.length : Int)) then (if (shl .i64 1 (l0.length : Int) : Int).toNat ≤ 35184372088832 then (width_town_widths.l0 k l0 (List.replicate (shl .i64 1 (l0.length : Int) : Int).toNat 0) 1) else (none)) else (none)) = some r := h
 clear h
 obtain ⟨ji2, hji2⟩ : ∃ j_ : Int, (shl .i64 1 (l0.length : Int)) = j_ := ⟨_, rfl⟩
 replace H : (if 0 ≤ (ji2) then (if (ji2 : Int).toNat ≤ 35184372088832 then (width_town_widths.l0 k l0 (List.replicate (ji2 : Int).toNat 0) 1) else (none)) else (none)) = some r := by first | (rw [hji2] at H; exact H) | (simp only [hji2] at H ⊢; exact H)
 have hji2_ : (IntKind.i64.wrap (1 * 2 ^ min (l0.length : Int).toNat 64)) = ji2 := hji2
 have hji2z : (l0.length : Int) ≤ 64 → (IntKind.i64.wrap (1 * 2 ^ (l0.length : Int).toNat)) = ji2 := shl_small hji2
 have hji2p : (IntKind.i64.wrap (1 * 2 ^ min l0.length 64)) = ji2 := hji2_
 have hji2q : (l0.length : Int) ≤ 64 → (IntKind.i64.wrap (1 * 2 ^ l0.length)) = ji2 := hji2z
 have hji2r : (IntKind.i64.wrap (2 ^ min l0.length 64)) = ji2 := by have h_ := hji2p; rw [Int.one_mul] at h_; exact h_
 have hji2s : (l0.length : Int) ≤ 64 → (IntKind.i64.wrap (2 ^ l0.length)) = ji2 := fun hle_ => by have h_ := hji2q hle_; rw [Int.one_mul] at h_; exact h_
 have hji2u : (IntKind.i64.wrap (2 ^ min (l0.length : Int).toNat 64)) = ji2 := by have h_ := hji2_; rw [Int.one_mul] at h_; exact h_
 have hji2v : (l0.length : Int) ≤ 64 → (IntKind.i64.wrap (2 ^ (l0.length : Int).toNat)) = ji2 := fun hle_ => by have h_ := hji2z hle_; rw [Int.one_mul] at h_; exact h_
 have hji2y : (wrap64 (1 * 2 ^ min (l0.length : Int).toNat 64)) = ji2 := (i64_w _).symm.trans hji2_
 have hji2x : (l0.length : Int) ≤ 64 → (wrap64 (1 * 2 ^ (l0.length : Int).toNat)) = ji2 := fun h_ => (i64_w _).symm.trans (hji2z h_)
 by_cases c3 : 0 ≤ (ji2)
 ·rw [if_pos c3] at H
  have c3b0 := eq_true c3
  have c3b1 : decide (0 ≤ (ji2)) = true := decide_eq_true c3
  clear c3
  by_cases c4 : (ji2 : Int).toNat ≤ 35184372088832
  ·rw [if_pos c4] at H
   have c4b0 := eq_true c4
   have c4b1 : decide ((ji2 : Int).toNat ≤ 35184372088832) = true := decide_eq_true c4
   clear c4
   obtain ⟨y575, hy575⟩ : ∃ y_ : List Int, y_ = (List.replicate (ji2 : Int).toNat 0) := ⟨_, rfl⟩
   replace H : (width_town_widths.l0 k l0 y575 1) = some r := by first | (rw [hy575]; with_reducible exact H) | (have H2_ := (Option.bind_some _ _).symm.trans H; rw [hy575]; with_reducible exact H2_) | (have H2_ := (Option.bind_some _ _).symm.trans H; with_reducible exact H2_) | with_reducible exact H | (rw [hy575]; exact H) | exact H
   have Ny575 := Aside0.mk hy575
   clear hy575
   have H' := Aside0.mk H
   clear H
   go_enter Tryd.func97, Tryd.ntmps97
   go_wp2_with (first | ((with_reducible refine gate_dst (N := 10) rfl ?_); refine Kd.R_make (Kd.int .i64) _ 3 rfl (N := 10) rfl 22 _ _ rfl ji2 rfl rfl Tryd.underlying22 (.int .i64 0) 8 info3 rfl (by decide) (by omega) 0 (ok := fun _ => True) (okp := fun _ => True) rfl (fun _ hk => hk) trivial (of_decide_eq_true (by first | (with_reducible assumption) | assumption)) (Nat.le_trans (Nat.mul_le_mul_right _ (of_decide_eq_true (by first | (with_reducible assumption) | assumption) : ji2.toNat ≤ 35184372088832)) (by omega)) (Below.refl _ _) (Nat.le_refl _) ?_; intro v576 w5 ho6 hb hg_ hnew_; clear hg_ hnew_; (first | rw [← Ny575.out] at ho6 | (simp only [Int.reduceToNat] at ho6; rw [← Ny575.out] at ho6)); have n0_ := Aside0.mk (Kd.R_lower ho6 (below_size (Qaw))); have n1_ := Aside0.mk (below_step (Qaw) hb); clear HB; have HO577 := n0_; have HB := n1_; clear n0_ n1_; clear hb ho6))
   go_loopg [4] k (fun kq v4 w' => ∃ (x3_1 : List Int) (x4_1 : Int), v4 = .int .i64 x4_1 ∧ Aside0 (width_town_widths.l0 kq l0 x3_1 x4_1 = some r) ∧ Aside0 (kq ≤ k) ∧ Aside0 (Kd.R (Kd.int .i64) 3 w' w.heap.size (fun _ => True) v576 x3_1) ∧ Aside0 (Below w.heap.size w w'))
   case atStart => exact ⟨(y575), (1), (by first | rfl | (simp; done) | (simp [*]; done)), H', ⟨Nat.le_refl _⟩, ⟨by (with_reducible repeat (first | apply Kd.R_alloc | apply Kd.R_drewN | apply Kd.R_drew)); exact HO577.out⟩, ⟨by repeat (first | (with_reducible first | exact HB.out | apply below_alloc | apply pw_below_drewN | apply below_drew1) | exact HB.out)⟩⟩
   case round =>
    clear H'
    try clear p2
    try clear c3
    try clear c3b0
    try clear c3b1
    try clear c4
    try clear c4b0
    try clear c4b1
    try clear p6
    obtain ⟨x3_1, x4_1, rfl, HA, HK1, HO_3, HB⟩ := hrel
    cases gk with
    | zero => exact absurd HA.out (by simp [width_town_widths.l0])
    | succ k1 =>
     have H := HA.out
     clear HA
     simp only [width_town_widths.l0] at H
     by_cases c7 : x4_1 < (x3_1.length : Int)
     ·rw [if_pos c7] at H
      have c7b0 : decide (x4_1 < (x3_1.length : Int)) = true := decide_eq_true c7
      clear c7
      by_cases c8 : 0 ≤ x4_1
      ·rw [if_pos c8] at H
       have c8b0 : decide (0 ≤ x4_1) = true := decide_eq_true c8
       clear c8
       obtain ⟨y578, hy578⟩ : ∃ y_ : List Int, y_ = (x3_1.set (x4_1 : Int).toNat (l0.length : Int)) := ⟨_, rfl⟩
       replace H : ((width_nodes.f k1 x4_1).bind fun t579 => (width_town_widths.l1 k1 l0 y578 x4_1 t579 (t579.length : Int) 0)) = some r := by first | (rw [hy578]; with_reducible exact H) | (have H2_ := (Option.bind_some _ _).symm.trans H; rw [hy578]; with_reducible exact H2_) | (have H2_ := (Option.bind_some _ _).symm.trans H; with_reducible exact H2_) | with_reducible exact H | (rw [hy578]; exact H) | exact H
       have Ny578 := Aside0.mk hy578
       clear hy578
       replace H := Option.bind_eq_some_iff.mp H
       obtain ⟨t579, A100, H⟩ := H
       replace H : (width_town_widths.l1 k1 l0 y578 x4_1 t579 (t579.length : Int) 0) = some r := H
       have A10 := Aside0.mk A100
       clear A100
       have H' := Aside0.mk H
       clear H
       obtain ⟨Ao11, co11, eo11⟩ := Kd.R_slice HO_3.out
       subst eo11
       have p9 : 0 ≤ (x4_1 : Int) := of_decide_eq_true (by first | (with_reducible assumption) | assumption)
       have q9 : (x4_1 : Int) < ((x3_1.length : Int) : Int) := of_decide_eq_true (by first | (with_reducible assumption) | assumption)
       obtain ⟨go9, co9, eo9, gb9, gl9, cl9, HG9⟩ := Kd.R_form HO_3.out (by omega)
       (first | cases eo9 | (injection eo9 with ea_ en_ ec_; (first | subst ea_ | (injection ea_ with ea_; subst ea_)); subst ec_; clear en_))
       have GB9 := Aside0.mk gb9
       have GG9 := Aside0.mk HG9
       clear gb9 gl9 HG9
       obtain ⟨hx9_0, hf9_0⟩ := Kd.R_celln 0 HO_3.out (x4_1 : Int) p9 q9
       replace p9 := eq_true p9
       replace q9 := eq_true q9
       have HP12 := Kd.R_putg HO_3.out (x4_1 : Int) (l0.length : Int)
       go_wp2_with (first | ((with_reducible refine gate_store (t := 3) (p := 21) rfl ?_); refine store_event (t := 3) (p := 21) (v := ?vo_w13) (w1 := (wr.setCell ⟨go9, (x4_1 : Int).toNat, none⟩ (.int .i64 (l0.length : Int)))) ?hg ?ho ?hn ?hr ?_; (case ho => rfl); (case hg => rfl); (case hn => rfl); (case hr => first | (go_simp; done) | (go_simp; rfl)); intro w13 hw; have hg : wr.grownBy w13 (some go9) := (by rw [hw]; exact HP12.2); have hp_ : Kd.R (Kd.int .i64) 3 w13 w.heap.size (fun _ => True) (.slice (some ⟨go9, 0, none⟩) x3_1.length co11) y578 := (by rw [hw, Ny578.out]; exact HP12.1); clear HP12; have n0_ := Aside0.mk (hp_); have n1_ := Aside0.mk ((by rw [hw]; exact below_set (HB.out) GB9.out : Below w.heap.size w w13)); clear HO_3; clear HB; have HO_3 := n0_; have HB := n1_; clear n0_ n1_; clear hg hw hp_) | ((with_reducible refine gate_callee (f := 104) rfl ?_); refine goesL_ (some 23) rfl rfl Tryd.func104 (by kernel_rfl) rfl #[.int .i64 x4_1] rfl (Qls) ?_; (with_reducible refine (width_nodes.calls (hGL := (Qlg)) k1 x4_1 t579 _ A10.out).mono ?_); rintro e w14 ⟨v580, rfl, ho0, hb⟩; refine ⟨_, rfl, ?_⟩; have n0_ := Aside0.mk (Kd.R_elder' (Qro HO_3.out) (Kd.R_base ho0) hb); have n1_ := Aside0.mk (Kd.R_lower (Kd.R_new' ho0 (Kd.R_lt (Qro HO_3.out))) (below_size (Qaw))); have n2_ := Aside0.mk (below_step (Qaw) hb); clear HO_3; clear HB; have HO_3 := n0_; have HO581 := n1_; have HB := n2_; clear n0_ n1_ n2_; (try clear hb); (try clear hb2); (try clear hk); (try clear hi); (try clear ho0); obtain ⟨Ao15, co15, eo15⟩ := Kd.R_slice HO581.out; subst eo15))
       go_loopg [25] k1 (fun kq v25 w' => ∃ (x3_2 : List Int) (x25_2 : Int), v25 = .int .i64 x25_2 ∧ Aside0 (width_town_widths.l1 kq l0 x3_2 x4_1 t579 (t579.length : Int) x25_2 = some r) ∧ Aside0 (kq ≤ k1) ∧ Aside0 (Kd.R (Kd.int .i64) 3 w' w.heap.size (fun k_ => some k_ ≠ ((.slice Ao15 t579.length co15) : Value).ownBlock) (.slice (some ⟨go9, 0, none⟩) x3_1.length co11) x3_2) ∧ Aside0 (Kd.R (Kd.int .i64) 3 w' w.heap.size (fun k_ => some k_ ≠ ((.slice (some ⟨go9, 0, none⟩) x3_1.length co11) : Value).ownBlock) (.slice Ao15 t579.length co15) t579) ∧ Aside0 (Below w.heap.size w w'))
       case atStart => exact ⟨(y578), (0), (by first | rfl | (simp; done) | (simp [*]; done)), H', ⟨Nat.le_refl _⟩, ⟨by (with_reducible repeat (first | apply Kd.R_alloc | apply Kd.R_drewN | apply Kd.R_drew)); exact Kd.R_mono HO_3.out (fun _ hk => hk.2)⟩, ⟨by (with_reducible repeat (first | apply Kd.R_alloc | apply Kd.R_drewN | apply Kd.R_drew)); exact Kd.R_mono HO581.out (fun _ hk => hk.2)⟩, ⟨by repeat (first | (with_reducible first | exact HB.out | apply below_alloc | apply pw_below_drewN | apply below_drew1) | exact HB.out)⟩⟩
       case round =>
        clear H'
        try clear c1
        try clear p2
        try clear c3
        try clear c3b0
        try clear c3b1
        try clear c4
        try clear c4b0
        try clear c4b1
        try clear p6
        try clear c7
        try clear c7b0
        try clear c8
        try clear c8b0
        try clear c9
        try clear p9
        try clear q9
        try clear hx9
        try clear hf9
        try clear c10
        try clear hx9_0
        try clear p2
        try clear p6
        try clear p9
        try clear q9
        obtain ⟨x3_2, x25_2, rfl, HA, HK2, HO_3, HO_23, HB⟩ := hrel
        have hl3_2 := (Kd.R_reads' HO_3.out).1
        rw [hl3_2] at HO_3
        (try simp only [hl3_2])
        (try simp only [hl3_2] at HO_23)
        cases gk with
        | zero => exact absurd HA.out (by simp [width_town_widths.l1])
        | succ k2 =>
         have H := HA.out
         clear HA
         simp only [width_town_widths.l1] at H
         by_cases c16 : x25_2 < (t579.length : Int)
         ·rw [if_pos c16] at H
          have c16b0 : decide (x25_2 < (t579.length : Int)) = true := decide_eq_true c16
          clear c16
          by_cases c17 : 0 ≤ x25_2
          ·rw [if_pos c17] at H
           have c17b0 : decide (0 ≤ x25_2) = true := decide_eq_true c17
           clear c17
           by_cases c18 : x25_2 < (t579.length : Int)
           ·rw [if_pos c18] at H
            have c18b0 : decide (x25_2 < (t579.length : Int)) = true := decide_eq_true c18
            clear c18
            by_cases c19 : 0 ≤ x4_1
            ·rw [if_pos c19] at H
             have c19b0 : decide (0 ≤ x4_1) = true := decide_eq_true c19
             clear c19
             by_cases c20 : x4_1 < (x3_2.length : Int)
             ·rw [if_pos c20] at H
              have c20b0 : decide (x4_1 < (x3_2.length : Int)) = true := decide_eq_true c20
              clear c20
              by_cases c21 : 0 ≤ (rd t579 x25_2)
              ·rw [if_pos c21] at H
               have c21b0 := eq_true c21
               have c21b1 : decide (0 ≤ (rd t579 x25_2)) = true := decide_eq_true c21
               clear c21
               obtain ⟨ji22, hji22⟩ : ∃ j_ : Int, (shl .i64 1 (rd t579 x25_2)) = j_ := ⟨_, rfl⟩
               replace H : (if 0 ≤ (Go.bits .andNot .i64 x4_1 (ji22)) then (if (Go.bits .andNot .i64 x4_1 (ji22)) < (x3_2.length : Int) then ((width_town_degree.f k2 l0 (rd t579 x25_2) (Go.bits .andNot .i64 x4_1 (ji22))).bind fun t585 => (width_town_widths.l1 k2 l0 (x3_2.set (x4_1 : Int).toNat (mn (rd x3_2 x4_1) (mx (rd x3_2 (Go.bits .andNot .i64 x4_1 (ji22))) t585))) x4_1 t579 (t579.length : Int) (wrap64 (x25_2 + 1)))) else (none)) else (none)) = some r := by first | (rw [hji22] at H; exact H) | (simp only [hji22] at H ⊢; exact H)
               have hji22_ : (IntKind.i64.wrap (1 * 2 ^ min (rd t579 x25_2).toNat 64)) = ji22 := hji22
               have hji22z : (rd t579 x25_2) ≤ 64 → (IntKind.i64.wrap (1 * 2 ^ (rd t579 x25_2).toNat)) = ji22 := shl_small hji22
               have hji22u : (IntKind.i64.wrap (2 ^ min (rd t579 x25_2).toNat 64)) = ji22 := by have h_ := hji22_; rw [Int.one_mul] at h_; exact h_
               have hji22v : (rd t579 x25_2) ≤ 64 → (IntKind.i64.wrap (2 ^ (rd t579 x25_2).toNat)) = ji22 := fun hle_ => by have h_ := hji22z hle_; rw [Int.one_mul] at h_; exact h_
               have hji22y : (wrap64 (1 * 2 ^ min (rd t579 x25_2).toNat 64)) = ji22 := (i64_w _).symm.trans hji22_
               have hji22x : (rd t579 x25_2) ≤ 64 → (wrap64 (1 * 2 ^ (rd t579 x25_2).toNat)) = ji22 := fun h_ => (i64_w _).symm.trans (hji22z h_)
               by_cases c23 : 0 ≤ (Go.bits .andNot .i64 x4_1 (ji22))
               ·rw [if_pos c23] at H
                have c23b0 : decide (0 ≤ (Go.bits .andNot .i64 x4_1 (ji22))) = true := decide_eq_true c23
                clear c23
                by_cases c24 : (Go.bits .andNot .i64 x4_1 (ji22)) < (x3_2.length : Int)
                ·rw [if_pos c24] at H
                 have c24b0 : decide ((Go.bits .andNot .i64 x4_1 (ji22)) < (x3_2.length : Int)) = true := decide_eq_true c24
                 clear c24
                 have c25b0 := eq_true (of_decide_eq_true (by first | (with_reducible assumption) | assumption) : 0 ≤ (rd t579 x25_2))
                 replace H := Option.bind_eq_some_iff.mp H
                 obtain ⟨t585, A260, H⟩ := H
                 replace H : (width_town_widths.l1 k2 l0 (x3_2.set (x4_1 : Int).toNat (mn (rd x3_2 x4_1) (mx (rd x3_2 (Go.bits .andNot .i64 x4_1 (ji22))) t585))) x4_1 t579 (t579.length : Int) (wrap64 (x25_2 + 1))) = some r := H
                 have A26 := Aside0.mk A260
                 clear A260
                 obtain ⟨ji27, hji27⟩ : ∃ j_ : Int, (mx (rd x3_2 (Go.bits .andNot .i64 x4_1 (ji22))) t585) = j_ := ⟨_, rfl⟩
                 replace H : (width_town_widths.l1 k2 l0 (x3_2.set (x4_1 : Int).toNat (mn (rd x3_2 x4_1) (ji27))) x4_1 t579 (t579.length : Int) (wrap64 (x25_2 + 1))) = some r := by first | (rw [hji27] at H; exact H) | (simp only [hji27] at H ⊢; exact H)
                 (try rw [hji27] at A26)
                 have hji27_ : (if (rd x3_2 (Go.bits .andNot .i64 x4_1 (ji22))) < t585 then t585 else (rd x3_2 (Go.bits .andNot .i64 x4_1 (ji22)))) = ji27 := hji27
                 obtain ⟨ji28, hji28⟩ : ∃ j_ : Int, (mn (rd x3_2 x4_1) (ji27)) = j_ := ⟨_, rfl⟩
                 replace H : (width_town_widths.l1 k2 l0 (x3_2.set (x4_1 : Int).toNat (ji28)) x4_1 t579 (t579.length : Int) (wrap64 (x25_2 + 1))) = some r := by first | (rw [hji28] at H; exact H) | (simp only [hji28] at H ⊢; exact H)
                 (try rw [hji28] at A26)
                 have hji28_ : (if (ji27) < (rd x3_2 x4_1) then (ji27) else (rd x3_2 x4_1)) = ji28 := hji28
                 obtain ⟨y586, hy586⟩ : ∃ y_ : List Int, y_ = (x3_2.set (x4_1 : Int).toNat (ji28)) := ⟨_, rfl⟩
                 replace H : (width_town_widths.l1 k2 l0 y586 x4_1 t579 (t579.length : Int) (wrap64 (x25_2 + 1))) = some r := by first | (rw [hy586]; with_reducible exact H) | (have H2_ := (Option.bind_some _ _).symm.trans H; rw [hy586]; with_reducible exact H2_) | (have H2_ := (Option.bind_some _ _).symm.trans H; with_reducible exact H2_) | with_reducible exact H | (rw [hy586]; exact H) | exact H
                 have Ny586 := Aside0.mk hy586
                 clear hy586
                 have H' := Aside0.mk H
                 clear H
                 have p582 : 0 ≤ (x25_2 : Int) := of_decide_eq_true (by first | (with_reducible assumption) | assumption)
                 have q582 : x25_2 < (t579.length : Int) := of_decide_eq_true (by first | (with_reducible assumption) | assumption)
                 obtain ⟨ad582, e582, hx582_0⟩ := Kd.at_int (Kd.R_reads' HO_23.out).2.2 x25_2 p582 q582
                 cases e582
                 replace p582 := eq_true p582
                 replace q582 := eq_true q582
                 try go_wp2
                 have n0_ := Aside0.mk (Kd.R_drew HO_3.out)
                 have n1_ := Aside0.mk (Kd.R_drew HO_23.out)
                 have n2_ := Aside0.mk (below_drew1 HB.out)
                 clear HO_3
                 clear HO_23
                 clear HB
                 have HO_3 := n0_
                 have HO_23 := n1_
                 have HB := n2_
                 clear n0_ n1_ n2_
                 have p583 : 0 ≤ (x4_1 : Int) := of_decide_eq_true (by first | (with_reducible assumption) | assumption)
                 have q583 : x4_1 < (x3_2.length : Int) := of_decide_eq_true (by first | (with_reducible assumption) | assumption)
                 obtain ⟨ad583, e583, hx583_0⟩ := Kd.at_int (Kd.R_reads' HO_3.out).2.2 x4_1 p583 q583
                 obtain rfl : (⟨go9, 0, none⟩ : Addr) = ad583 := (by injection e583)
                 (first | simp only [add_plain] at hx583_0 | simp only [add_at] at hx583_0 | simp only [Addr.add, Nat.zero_add] at hx583_0 | skip)
                 replace p583 := eq_true p583
                 replace q583 := eq_true q583
                 have p584 : 0 ≤ ((Go.bits .andNot .i64 x4_1 (ji22)) : Int) := of_decide_eq_true (by first | (with_reducible assumption) | assumption)
                 have q584 : (Go.bits .andNot .i64 x4_1 (ji22)) < (x3_2.length : Int) := of_decide_eq_true (by first | (with_reducible assumption) | assumption)
                 obtain ⟨ad584, e584, hx584_0⟩ := Kd.at_int (Kd.R_reads' HO_3.out).2.2 (Go.bits .andNot .i64 x4_1 (ji22)) p584 q584
                 obtain rfl : (⟨go9, 0, none⟩ : Addr) = ad584 := (by injection e584)
                 (first | simp only [add_plain] at hx584_0 | simp only [add_at] at hx584_0 | simp only [Addr.add, Nat.zero_add] at hx584_0 | skip)
                 replace p584 := eq_true p584
                 replace q584 := eq_true q584
                 refine start_ (n := 24) (S := fun w' => w'.cell? ⟨go9, (x4_1).toNat, none⟩ = some (.int .i64 (rd x3_2 x4_1)) ∧ w'.cell? ⟨go9, ((Go.bits .andNot .i64 x4_1 (ji22))).toNat, none⟩ = some (.int .i64 (rd x3_2 (Go.bits .andNot .i64 x4_1 (ji22))))) (ds := [23]) (Qbz 24 0) (by kernel_rfl) rfl rfl ⟨hx583_0, hx584_0⟩ (fun hHeld => ?_); refine with_tabW width_town_widths.tab9 width_town_widths.bits9 (fun HT_ HW_ => ?_)
                 generalize wr.drew = w30 at HO_3 HO_23 HB hx583_0 hx584_0 hHeld ⊢
                 refine pure_ (i := 0) (N := some 29) (v := ?_) (a' := ?_) (Qbz 24 1) rfl rfl (any_of HT_.out (by kernel_rfl)) (fun _ _ _ h => h) (Or.inl ⟨by rfl, ?_⟩) ?_ ?_
                 rotate_left
                 ·intro w'
                  go_simp
                  with_reducible rfl
                 rotate_left
                 ·simp only [Act.put, Qp1, Qp2, Qp3, i64_w, i32_w]
                  rfl
                 refine pure_ (i := 1) (N := some 30) (v := ?_) (a' := ?_) (Qbz 24 3) rfl rfl (any_of HT_.out (by kernel_rfl)) (fun _ _ _ h => h) (Or.inl ⟨by rfl, ?_⟩) ?_ ?_
                 rotate_left
                 ·intro w'
                  go_simp
                  with_reducible rfl
                 rotate_left
                 ·simp only [Act.put, Qp1, Qp2, Qp3, i64_w, i32_w]
                  rfl
                 refine pure_ (i := 2) (N := some 31) (v := ?_) (a' := ?_) (Qbz 24 7) rfl rfl (any_of HT_.out (by kernel_rfl)) (fun _ _ _ h => h) (Or.inl ⟨by rfl, ?_⟩) ?_ ?_
                 rotate_left
                 ·intro w'
                  go_simp
                  with_reducible rfl
                 rotate_left
                 ·simp only [Act.put, Qp1, Qp2, Qp3, i64_w, i32_w]
                  rfl
                 refine pure_ (i := 3) (N := some 32) (v := ?_) (a' := ?_) (Qbz 24 15) rfl rfl (any_of HT_.out (by kernel_rfl)) (fun _ _ _ h => h) (Or.inl ⟨by rfl, ?_⟩) ?_ ?_
                 rotate_left
                 ·intro w'
                  go_simp
                  with_reducible rfl
                 rotate_left
                 ·simp only [Act.put, Qp1, Qp2, Qp3, i64_w, i32_w]
                  rfl
                 refine pure_ (i := 4) (N := some 33) (v := ?_) (a' := ?_) (Qbz 24 31) rfl rfl (any_of HT_.out (by kernel_rfl)) (fun _ _ _ h => h) (Or.inl ⟨by rfl, ?_⟩) ?_ ?_
                 rotate_left
                 ·intro w'
                  go_simp
                  with_reducible rfl
                 rotate_left
                 ·simp only [Act.put, Qp1, Qp2, Qp3, i64_w, i32_w]
                  rfl
                 refine pure_ (i := 6) (N := some 35) (v := ?_) (a' := ?_) (Qbz 24 95) rfl rfl (any_of HT_.out (by kernel_rfl)) (fun _ _ _ h => h) (Or.inl ⟨by rfl, ?_⟩) ?_ ?_
                 rotate_left
                 ·intro w'
                  go_simp
                  with_reducible rfl
                 rotate_left
                 ·simp only [Act.put, Qp1, Qp2, Qp3, i64_w, i32_w]
                  rfl
                 refine pure_ (i := 7) (N := some 36) (v := ?_) (a' := ?_) (Qbz 24 223) rfl rfl (any_of HT_.out (by kernel_rfl)) (fun _ _ _ h => h) (Or.inl ⟨by rfl, ?_⟩) ?_ ?_
                 rotate_left
                 ·intro w'
                  go_simp
                  with_reducible rfl
                 rotate_left
                 ·simp only [Act.put, Qp1, Qp2, Qp3, i64_w, i32_w]
                  rfl
                 refine pure_ (i := 8) (N := some 37) (v := ?_) (a' := ?_) (Qbz 24 479) rfl rfl (any_of HT_.out (by kernel_rfl)) (fun _ _ _ h => h) (Or.inl ⟨by rfl, ?_⟩) ?_ ?_
                 rotate_left
                 ·intro w'
                  go_simp
                  with_reducible rfl
                 rotate_left
                 ·simp only [Act.put, Qp1, Qp2, Qp3, i64_w, i32_w]
                  rfl
                 refine pure_ (i := 9) (N := some 38) (v := ?_) (a' := ?_) (Qbz 24 991) rfl rfl (any_of HT_.out (by kernel_rfl)) (fun _ _ _ h => h) (Or.inl ⟨by rfl, ?_⟩) ?_ ?_
                 rotate_left
                 ·intro w'
                  go_simp
                  with_reducible rfl
                 rotate_left
                 ·simp only [Act.put, Qp1, Qp2, Qp3, i64_w, i32_w]
                  rfl
                 refine pure_ (i := 10) (N := some 39) (v := ?_) (a' := ?_) (Qbz 24 2015) rfl rfl (any_of HT_.out (by kernel_rfl)) (fun _ _ _ h => h) (Or.inl ⟨by rfl, ?_⟩) ?_ ?_
                 rotate_left
                 ·intro w'
                  go_simp
                  with_reducible rfl
                 rotate_left
                 ·simp only [Act.put, Qp1, Qp2, Qp3, i64_w, i32_w]
                  rfl
                 refine pure_ (i := 11) (N := some 40) (v := ?_) (a' := ?_) (Qbz 24 4063) rfl rfl (any_of HT_.out (by kernel_rfl)) (fun _ _ _ h => h) (Or.inl ⟨by rfl, ?_⟩) ?_ ?_
                 rotate_left
                 ·intro w'
                  go_simp
                  with_reducible rfl
                 rotate_left
                 ·simp only [Act.put, Qp1, Qp2, Qp3, i64_w, i32_w]
                  rfl
                 refine pure_ (i := 13) (N := some 42) (v := ?_) (a' := ?_) (Qbz 24 12255) rfl rfl (any_of HT_.out (by kernel_rfl)) (fun _ _ _ h => h) (Or.inl ⟨by rfl, ?_⟩) ?_ ?_
                 rotate_left
                 ·intro w'
                  go_simp
                  with_reducible rfl
                 rotate_left
                 ·simp only [Act.put, Qp1, Qp2, Qp3, i64_w, i32_w]
                  rfl
                 refine pure_ (i := 14) (N := some 43) (v := ?_) (a' := ?_) (Qbz 24 28639) rfl rfl (any_of HT_.out (by kernel_rfl)) (fun _ _ _ h => h) (Or.inl ⟨by rfl, ?_⟩) ?_ ?_
                 rotate_left
                 ·intro w'
                  go_simp
                  with_reducible rfl
                 rotate_left
                 ·simp only [Act.put, Qp1, Qp2, Qp3, i64_w, i32_w]
                  rfl
                 refine pure_ (i := 15) (N := some 44) (v := ?_) (a' := ?_) (Qbz 24 61407) rfl rfl (any_of HT_.out (by kernel_rfl)) (fun _ _ _ h => h) (Or.inl ⟨by rfl, ?_⟩) ?_ ?_
                 rotate_left
                 ·intro w'
                  go_simp
                  with_reducible rfl
                 rotate_left
                 ·simp only [Act.put, Qp1, Qp2, Qp3, i64_w, i32_w]
                  rfl
                 refine pure_ (i := 16) (N := some 45) (v := ?_) (a' := ?_) (Qbz 24 126943) rfl rfl (any_of HT_.out (by kernel_rfl)) (fun _ _ _ h => h) (Or.inl ⟨by rfl, ?_⟩) ?_ ?_
                 rotate_left
                 ·intro w'
                  go_simp
                  with_reducible rfl
                 rotate_left
                 ·simp only [Act.put, Qp1, Qp2, Qp3, i64_w, i32_w]
                  rfl
                 refine pure_ (i := 17) (N := some 46) (v := ?_) (a' := ?_) (Qbz 24 258015) rfl rfl (any_of HT_.out (by kernel_rfl)) (fun _ _ _ h => h) (Or.inl ⟨by rfl, ?_⟩) ?_ ?_
                 rotate_left
                 ·intro w'
                  go_simp
                  with_reducible rfl
                 rotate_left
                 ·simp only [Act.put, Qp1, Qp2, Qp3, i64_w, i32_w]
                  rfl
                 refine pure_ (i := 18) (N := some 47) (v := ?_) (a' := ?_) (Qbz 24 520159) rfl rfl (any_of HT_.out (by kernel_rfl)) (fun _ _ _ h => h) (Or.inl ⟨by rfl, ?_⟩) ?_ ?_
                 rotate_left
                 ·intro w'
                  go_simp
                  with_reducible rfl
                 rotate_left
                 ·simp only [Act.put, Qp1, Qp2, Qp3, i64_w, i32_w]
                  rfl
                 refine take_ (i := 5) (N := some 34) (v := ?_) (a' := ?_) (Qbz 24 520191) rfl rfl (take_ofW HT_.out HW_.out (by kernel_rfl)) (fun _ _ _ h => h) (Or.inl ⟨by rfl, ?_⟩) hHeld ?_ ?_
                 rotate_left
                 ·rintro w' ⟨s0, s1⟩
                  go_simp
                  with_reducible rfl
                 rotate_left
                 ·simp only [Act.put, Qp1, Qp2, Qp3, i64_w, i32_w]
                  rfl
                 refine take_ (i := 12) (N := some 41) (v := ?_) (a' := ?_) (Qbz 24 524287) rfl rfl (take_ofW HT_.out HW_.out (by kernel_rfl)) (fun _ _ _ h => h) (Or.inl ⟨by rfl, ?_⟩) hHeld ?_ ?_
                 rotate_left
                 ·rintro w' ⟨s0, s1⟩
                  go_simp
                  with_reducible rfl
                 rotate_left
                 ·simp only [Act.put, Qp1, Qp2, Qp3, i64_w, i32_w]
                  rfl
                 refine one_ (i := 19) (N := some 48) (Qbz 24 1048575) rfl rfl (one_of HT_.out (by kernel_rfl)) (by decide) (fun K hK => ?_)
                 refine goes_ Tryd.func113 (by kernel_rfl) rfl #[.slice A0 l0.length c0, .int .i64 (rd t579 x25_2), .int .i64 (Go.bits .andNot .i64 x4_1 (ji22))] (by rfl) rfl rfl (by (try simp only [List.map_toArray, List.map_cons, List.map_nil]); first | done | (simp only [hji22]; rfl) | rfl | (simp only [List.length_drop, List.length_take]; rfl)) ?_
                 with_reducible refine (width_town_degree.calls (hGL := (Qlg)) k2 _ _ l0 (rd t579 x25_2) (Go.bits .andNot .i64 x4_1 (ji22)) t585 _ ?side1 ?side2 A26.out).mono ?_
                 (case side1 => exact Qsc (Kd.C_below HR0.out HB.out))
                 (case side2 => exact HC0.out)
                 rintro e w31 ⟨rfl, hb⟩
                 have HS0_ := (hb.cell (World.block_lt_of_cell? _ _ (hHeld.1))).trans (hHeld.1)
                 have HS1_ := (hb.cell (World.block_lt_of_cell? _ _ (hHeld.2))).trans (hHeld.2)
                 refine ⟨_, rfl, ?_⟩
                 have n0_ := Aside0.mk (Kd.R_below (Qro HO_3.out) hb)
                 have n1_ := Aside0.mk (Kd.R_below (Qro HO_23.out) hb)
                 have n2_ := Aside0.mk (below_step (Qaw) hb)
                 clear HO_3
                 clear HO_23
                 clear HB
                 have HO_3 := n0_
                 have HO_23 := n1_
                 have HB := n2_
                 clear n0_ n1_ n2_
                 (try clear hb)
                 (try clear hb2)
                 (try clear hk)
                 (try clear hi)
                 have p29 : 0 ≤ (x4_1 : Int) := of_decide_eq_true (by first | (with_reducible assumption) | assumption)
                 have q29 : (x4_1 : Int) < ((x3_2.length : Int) : Int) := of_decide_eq_true (by first | (with_reducible assumption) | assumption)
                 obtain ⟨hx29_0, hf29_0⟩ := Kd.R_celln 0 HO_3.out (x4_1 : Int) p29 q29
                 replace p29 := eq_true p29
                 replace q29 := eq_true q29
                 have HP32 := Kd.R_putn HO_3.out (x4_1 : Int) ji28
                 rw [← Ny586.out] at HP32
                 have HQ32 := Aside0.mk HP32
                 clear HP32
                 refine hK.out _ _ ⟨HS0_, HS1_⟩ (fun hHeld => ?_)
                 clear hK K
                 refine norm_ (a' := ?_) ?_ ?_
                 rotate_left
                 ·show Act.put _ (some 48) _ = _
                  simp only [Act.put, Qp1, Qp2, Qp3, i64_w, i32_w]
                  rfl
                 refine pure_ (i := 20) (N := some 49) (v := ?_) (a' := ?_) (Qbz 24 2097151) rfl rfl (any_of HT_.out (by kernel_rfl)) (fun _ _ _ h => h) (Or.inl ⟨by rfl, ?_⟩) ?_ ?_
                 rotate_left
                 ·intro w'
                  go_simp
                  with_reducible rfl
                 rotate_left
                 ·simp only [Act.put, Qp1, Qp2, Qp3, i64_w, i32_w]
                  rfl
                 refine pure_ (i := 21) (N := some 50) (v := ?_) (a' := ?_) (Qbz 24 4194303) rfl rfl (any_of HT_.out (by kernel_rfl)) (fun _ _ _ h => h) (Or.inl ⟨by rfl, ?_⟩) ?_ ?_
                 rotate_left
                 ·intro w'
                  go_simp
                  with_reducible rfl
                 rotate_left
                 ·simp only [Act.put, Qp1, Qp2, Qp3, i64_w, i32_w]
                  rfl
                 refine pure_ (i := 22) (N := some 51) (v := ?_) (a' := ?_) (Qbz 24 8388607) rfl rfl (any_of HT_.out (by kernel_rfl)) (fun _ _ _ h => h) (Or.inl ⟨by rfl, ?_⟩) ?_ ?_
                 rotate_left
                 ·intro w'
                  go_simp
                  with_reducible rfl
                 rotate_left
                 ·simp only [Act.put, Qp1, Qp2, Qp3, i64_w, i32_w]
                  rfl
                 refine last_ (i := 23) (N := none) (Qbz 24 16777215) rfl rfl (one_of HT_.out (by kernel_rfl)) (by decide) (fun K hK => ?_)
                 refine skip_ (w1 := ?_) (by rfl) rfl ?_ ?_
                 rotate_left
                 ·go_simp
                  rfl
                 refine hK.out _ _ ?_
                 clear hK K
                 refine done_ (done_of HT_.out (by kernel_rfl)) ?_
                 try go_wp2
                 (try simp only [← hl3_2])
                 go_roundg k2
                 case measure => have := HK1.out; have := HK2.out; omega
                 case rel => exact ⟨(y586), (wrap64 (x25_2 + 1)), (by first | rfl | (simp; done) | (simp [*]; done)), H', ⟨by have := HK1.out; have := HK2.out; omega⟩, ⟨by (try simp only [hl3_2]); (with_reducible repeat (first | apply Kd.R_alloc | apply Kd.R_drewN | apply Kd.R_drew)); exact HQ32.out⟩, ⟨by (try simp only [hl3_2]); (with_reducible repeat (first | apply Kd.R_alloc | apply Kd.R_drewN | apply Kd.R_drew)); exact Kd.R_mono (Kd.R_far (p := ⟨go9, (x4_1 : Int).toNat, none⟩) (Kd.R_mono HO_23.out (fun k_ hk => (⟨hk, fun e_ => hk (by rw [e_]; rfl)⟩ : _ ∧ k_ ≠ go9))) (fun _ hk => hk.2) (.int .i64 ji28)) (fun _ hk => hk.1)⟩, ⟨by repeat (first | (with_reducible first | exact HB.out | apply below_alloc | apply pw_below_drewN | apply below_drew1 | refine below_set ?_ GB9.out) | exact HB.out)⟩⟩
                ·rw [if_neg c24] at H
                 exact absurd H (by simp)
               ·rw [if_neg c23] at H
                exact absurd H (by simp)
              ·rw [if_neg c21] at H
               exact absurd H (by simp)
             ·rw [if_neg c20] at H
              exact absurd H (by simp)
            ·rw [if_neg c19] at H
             exact absurd H (by simp)
           ·rw [if_neg c18] at H
            exact absurd H (by simp)
          ·rw [if_neg c17] at H
           exact absurd H (by simp)
         ·rw [if_neg c16] at H
          have c16b0 : decide (x25_2 < (t579.length : Int)) = false := decide_eq_false c16
          clear c16
          have H' := Aside0.mk H
          clear H
          go_wp2
          (try simp only [← hl3_2])
          go_roundg k2
          case measure => have := HK1.out; have := HK2.out; omega
          case rel => exact ⟨(x3_2), (wrap64 (x4_1 + 1)), (by first | rfl | (simp; done) | (simp [*]; done)), H', ⟨by have := HK1.out; have := HK2.out; omega⟩, ⟨by (try simp only [hl3_2]); (with_reducible repeat (first | apply Kd.R_alloc | apply Kd.R_drewN | apply Kd.R_drew)); exact Kd.R_mono HO_3.out (fun _ hk => trivial)⟩, ⟨by repeat (first | (with_reducible first | exact HB.out | apply below_alloc | apply pw_below_drewN | apply below_drew1) | exact HB.out)⟩⟩
      ·rw [if_neg c8] at H
       exact absurd H (by simp)
     ·rw [if_neg c7] at H
      have c7b0 : decide (x4_1 < (x3_1.length : Int)) = false := decide_eq_false c7
      clear c7
      obtain rfl := Option.some.inj H
      obtain ⟨Ao33, co33, eo33⟩ := Kd.R_slice HO_3.out
      subst eo33
      go_wp2
      go_ret
      exact ⟨_, by first | rfl | (simp [errW_none, errW_some] <;> rfl) | (simp only [← hji2]; first | rfl | (simp [errW_none, errW_some] <;> rfl)) | (simp [*, errW_none, errW_some] <;> rfl), by (with_reducible repeat (first | apply Kd.R_alloc | apply Kd.R_drewN | apply Kd.R_drew)); exact HO_3.out, by repeat (first | (with_reducible first | exact HB.out | apply below_alloc | apply pw_below_drewN | apply below_drew1) | exact HB.out)⟩
  ·rw [if_neg c4] at H
   exact absurd H (by simp)
 ·rw [if_neg c3] at H
  exact absurd H (by simp)
end Go.Proofs.YtjloppfdagfpmaaDoor.X
end
section
namespace Go.Proofs.YtjloppfdagfpmaaDoor.X
open Go.RowKit YtjloppfdagfpmaaDoorW.PrintWords YtjloppfdagfpmaaDoorW.PrintLast YtjloppfdagfpmaaDoorW.PrintMore
attribute [local go_sem] max2_int min2_int max_two min_two max_three min_three max_four min_four
/-! ### width_town_width: function 87 -/
def width_town_width.f (k : Nat) (l0 : List Int) : Option (Int) := (width_town_widths.f k l0).bind fun t587 => ((width_town_all.f l0).bind fun t590 => (if 0 ≤ t590 then (if t590 < (t587.length : Int) then (some (rd t587 t590)) else (none)) else (none)))
set_option maxHeartbeats 8000000 in
set_option maxRecDepth 100000 in
theorem width_town_width.calls (k : Nat) (A0 : Option Addr) (c0 : Nat) (l0 : List Int) (r : Int) (w : World) (hGL : GL w) (hr0 : Kd.C (Kd.int .i64) w A0 l0.length l0) (hc0 : l0.length ≤ c0) (h : width_town_width.f k l0 = some r) :
  Calls Tryd.prog 87 #[.slice A0 l0.length c0] w fun e w' => e = .returned (.int .i64 r) ∧ Below w.heap.size w w' := by
 have HGL := Aside0.mk hGL
 clear hGL
 have HR0 := Aside0.mk hr0
 have HC0 := Aside0.mk hc0
 clear hr0 hc0
 have HB := Aside0.mk (Below.refl w.heap.size w)
 have H : ((width_town_widths.f k l0).bind fun t587 => ((width_town_all.f l0).bind fun t590 => (if 0 ≤ t590 then (if t590 < (t587.length : Int) then (some (rd t587 t590)) else (none)) else (none)))) = some r := h
 clear h
 replace H := Option.bind_eq_some_iff.mp H
 obtain ⟨t587, A20, H⟩ := H
 replace H : ((width_town_all.f l0).bind fun t590 => (if 0 ≤ t590 then (if t590 < (t587.length : Int) then (some (rd t587 t590)) else (none)) else (none))) = some r := H
 have A2 := Aside0.mk A20
 clear A20
 replace H := Option.bind_eq_some_iff.mp H
 obtain ⟨t590, A30, H⟩ := H
 replace H : (if 0 ≤ t590 then (if t590 < (t587.length : Int) then (some (rd t587 t590)) else (none)) else (none)) = some r := H
 have A3 := Aside0.mk A30
 clear A30
 by_cases c4 : 0 ≤ t590
 ·rw [if_pos c4] at H
  have c4b0 : decide (0 ≤ t590) = true := decide_eq_true c4
  clear c4
  by_cases c5 : t590 < (t587.length : Int)
  ·rw [if_pos c5] at H
   have c5b0 : decide (t590 < (t587.length : Int)) = true := decide_eq_true c5
   clear c5
   obtain rfl := Option.some.inj H
   go_enter Tryd.func87, Tryd.ntmps87
   go_wp2_with (first | ((with_reducible refine gate_callee (f := 97) rfl ?_); refine goesL_ (some 4) rfl rfl Tryd.func97 (by kernel_rfl) rfl #[.slice A0 l0.length c0] rfl (Qls) ?_; (with_reducible refine (width_town_widths.calls (hGL := (Qlg)) k _ _ l0 t587 _ ?side1 ?side2 A2.out).mono ?_); (case side1 => exact Qsc HR0.out); (case side2 => exact HC0.out); rintro e w6 ⟨v588, rfl, ho0, hb⟩; refine ⟨_, rfl, ?_⟩; have n0_ := Aside0.mk (Kd.R_lower ho0 (below_size (Qaw))); have n1_ := Aside0.mk (below_step (Qaw) hb); clear HB; have HO589 := n0_; have HB := n1_; clear n0_ n1_; (try clear hb); (try clear hb2); (try clear hk); (try clear hi); (try clear ho0)) | ((with_reducible refine gate_callee (f := 98) rfl ?_); refine goesL_ (some 6) rfl rfl Tryd.func98 (by kernel_rfl) rfl #[.slice A0 l0.length c0] rfl (Qls) ?_; (with_reducible refine (width_town_all.calls _ _ l0 t590 _ ?side1 ?side2 A3.out).mono ?_); (case side1 => exact Qsc (Kd.C_below HR0.out HB.out)); (case side2 => exact HC0.out); rintro e w' ⟨rfl, ⟨nd, rfl⟩⟩; refine ⟨_, rfl, ?_⟩; obtain ⟨Ao7, co7, eo7⟩ := Kd.R_slice HO589.out; subst eo7; have p591 : 0 ≤ (t590 : Int) := of_decide_eq_true (by first | (with_reducible assumption) | assumption); have q591 : t590 < (t587.length : Int) := of_decide_eq_true (by first | (with_reducible assumption) | assumption); obtain ⟨ad591, e591, hx591_0⟩ := Kd.at_int (Kd.R_reads' HO589.out).2.2 t590 p591 q591; cases e591; replace p591 := eq_true p591; replace q591 := eq_true q591))
   go_ret
   exact ⟨by first | rfl | (simp [errW_none, errW_some] <;> rfl) | (simp [*, errW_none, errW_some] <;> rfl), by repeat (first | (with_reducible first | exact HB.out | apply below_alloc | apply pw_below_drewN | apply below_drew1) | exact HB.out)⟩
  ·rw [if_neg c5] at H
   exact absurd H (by simp)
 ·rw [if_neg c4] at H
  exact absurd H (by simp)
end Go.Proofs.YtjloppfdagfpmaaDoor.X
end
section
namespace Go.Proofs.YtjloppfdagfpmaaDoor.X
open Go.RowKit YtjloppfdagfpmaaDoorW.PrintWords YtjloppfdagfpmaaDoorW.PrintLast YtjloppfdagfpmaaDoorW.PrintMore
attribute [local go_sem] max2_int min2_int max_two min_two max_three min_three max_four min_four
/-! ### width_Width: function 51 -/
def width_Width.f (k : Nat) (l0 : List Int) : Option (Int × Int) := (width_read.f k l0).bind fun bt592 => (if bt592.2 = true then ((width_town_width.f k bt592.1).bind fun t596 => (some (t596, 0))) else (some (0, 2)))
set_option maxHeartbeats 8000000 in
set_option maxRecDepth 100000 in
theorem width_Width.calls (k : Nat) (A0 : Option Addr) (c0 : Nat) (l0 : List Int) (r1 : Int) (r2 : Int) (w : World) (hGL : GL w) (hr0 : Kd.C (Kd.int .i64) w A0 l0.length l0) (hc0 : l0.length ≤ c0) (h : width_Width.f k l0 = some (r1, r2)) :
  Calls Tryd.prog 51 #[.slice A0 l0.length c0] w fun e w' => e = .returned (.tuple #[.int .i64 r1, .int .i64 r2]) ∧ Below w.heap.size w w' := by
 have HGL := Aside0.mk hGL
 clear hGL
 have HR0 := Aside0.mk hr0
 have HC0 := Aside0.mk hc0
 clear hr0 hc0
 have HB := Aside0.mk (Below.refl w.heap.size w)
 have H : ((width_read.f k l0).bind fun bt592 => (if bt592.2 = true then ((width_town_width.f k bt592.1).bind fun t596 => (some (t596, 0))) else (some (0, 2)))) = some (r1, r2) := h
 clear h
 replace H := Option.bind_eq_some_iff.mp H
 obtain ⟨⟨t592, t595⟩, A20, H⟩ := H
 replace H : (if t595 = true then ((width_town_width.f k t592).bind fun t596 => (some (t596, 0))) else (some (0, 2))) = some (r1, r2) := H
 have A2 := Aside0.mk A20
 clear A20
 by_cases c3 : t595 = true
 ·subst c3
  have H1 : ((width_town_width.f k t592).bind fun t596 => (some (t596, 0))) = some (r1, r2) := by rw [if_pos rfl] at H; exact H
  clear H
  have H := H1
  clear H1
  replace H := Option.bind_eq_some_iff.mp H
  obtain ⟨t596, A40, H⟩ := H
  replace H : (some (t596, 0)) = some (r1, r2) := H
  have A4 := Aside0.mk A40
  clear A40
  simp only [Option.some.injEq, Prod.mk.injEq] at H
  obtain ⟨rfl, rfl⟩ := H
  go_enter Tryd.func51, Tryd.ntmps51
  go_wp2_with (first | ((with_reducible refine gate_callee (f := 86) rfl ?_); refine goesL_ (some 8) rfl rfl Tryd.func86 (by kernel_rfl) rfl #[.slice A0 l0.length c0] rfl (Qls) ?_; (with_reducible refine (width_read.calls k (fun k_ => k_ < w.heap.size) _ _ l0 t592 true _ ?side1 A2.out).mono ?_); (case side1 => exact Kd.V_mk HC0.out (Kd.F_below (Kd.C_F (Kd.heap_int .i64) HR0.out) (Qaw))); rintro e w5 ⟨v593, rfl, ho0, hb⟩; refine ⟨_, rfl, ?_⟩; have n0_ := Aside0.mk (Kd.V_lower (Kd.V_mono (ok' := fun k_ => True) ho0 (fun k_ hk_ => trivial)) (below_size (Qaw))); have n1_ := Aside0.mk (below_step (Qaw) hb); clear HB; have HO594 := n0_; have HB := n1_; clear n0_ n1_; (try clear hb); (try clear hb2); (try clear hk); (try clear hi); (try clear ho0); obtain ⟨Ao6, co6, eo6⟩ := Kd.V_slice HO594.out; subst eo6) | ((with_reducible refine gate_callee (f := 87) rfl ?_); refine goesL_ (some 14) rfl rfl Tryd.func87 (by kernel_rfl) rfl #[.slice Ao6 t592.length co6] rfl (Qls) ?_; (with_reducible refine (width_town_width.calls (hGL := (Qlg)) k _ _ t592 t596 _ ?side1 ?side2 A4.out).mono ?_); (case side1 => exact Qsc (Kd.V_reads' HO594.out).2.2); (case side2 => exact (Kd.V_reads' HO594.out).2.1); rintro e w7 ⟨rfl, hb⟩; refine ⟨_, rfl, ?_⟩; have n0_ := Aside0.mk (Kd.V_below (by (with_reducible repeat (first | apply Kd.V_alloc | apply Kd.V_drewN | apply Kd.V_drew)); exact HO594.out) hb); have n1_ := Aside0.mk (below_step (Qaw) hb); clear HO594; clear HB; have HO594 := n0_; have HB := n1_; clear n0_ n1_; (try clear hb); (try clear hb2); (try clear hk); (try clear hi)))
  go_ret2
  exact ⟨by first | rfl | (simp [errW_none, errW_some] <;> rfl) | (simp [*, errW_none, errW_some] <;> rfl), by repeat (first | (with_reducible first | exact HB.out | apply below_alloc | apply pw_below_drewN | apply below_drew1) | exact HB.out)⟩
 ·replace c3 := Bool.eq_false_iff.mpr c3
  subst c3
  have H1 : (some (0, 2)) = some (r1, r2) := by rw [if_neg (show ¬ (false = true) by decide)] at H; exact H
  clear H
  have H := H1
  clear H1
  simp only [Option.some.injEq, Prod.mk.injEq] at H
  obtain ⟨rfl, rfl⟩ := H
  go_enter Tryd.func51, Tryd.ntmps51
  go_wp2_with (first | ((with_reducible refine gate_callee (f := 86) rfl ?_); refine goesL_ (some 8) rfl rfl Tryd.func86 (by kernel_rfl) rfl #[.slice A0 l0.length c0] rfl (Qls) ?_; (with_reducible refine (width_read.calls k (fun k_ => k_ < w.heap.size) _ _ l0 t592 false _ ?side1 A2.out).mono ?_); (case side1 => exact Kd.V_mk HC0.out (Kd.F_below (Kd.C_F (Kd.heap_int .i64) HR0.out) (Qaw))); rintro e w8 ⟨v593, rfl, ho0, hb⟩; refine ⟨_, rfl, ?_⟩; have n0_ := Aside0.mk (Kd.V_lower (Kd.V_mono (ok' := fun k_ => True) ho0 (fun k_ hk_ => trivial)) (below_size (Qaw))); have n1_ := Aside0.mk (below_step (Qaw) hb); clear HB; have HO594 := n0_; have HB := n1_; clear n0_ n1_; (try clear hb); (try clear hb2); (try clear hk); (try clear hi); (try clear ho0)))
  go_ret2
  exact ⟨by first | rfl | (simp [errW_none, errW_some] <;> rfl) | (simp [*, errW_none, errW_some] <;> rfl), by repeat (first | (with_reducible first | exact HB.out | apply below_alloc | apply pw_below_drewN | apply below_drew1) | exact HB.out)⟩
end Go.Proofs.YtjloppfdagfpmaaDoor.X
end
section
namespace Go.Proofs.YtjloppfdagfpmaaDoor.X
open Go.RowKit YtjloppfdagfpmaaDoorW.PrintWords YtjloppfdagfpmaaDoorW.PrintLast YtjloppfdagfpmaaDoorW.PrintMore
attribute [local go_sem] max2_int min2_int max_two min_two max_three min_three max_four min_four
/-! ### lampblacklaw07_MinorSeries: function 14 -/
def lampblacklaw07_MinorSeries.j0 : Nat → List Int → List (S95) → Int → Bool → Option (Bool)
 | 0, _, _, _, _ => none
 | k + 1, x0, x3, x4, x69 => if x69 = true then (some false) else (if x4 = 0 then ((lampblacklaw07_Few.f x0).bind fun t690 => ((minor_CheckReduce.f t690 x3).bind fun bt693 => (if bt693.1 = true then (if bt693.2 = 0 then (if (x3.length : Int) = (x0.length : Int) then ((lampblacklaw07_awake.f k).bind fun t695 => (some t695)) else (some false)) else (some false)) else (some false)))) else ((lampblacklaw07_awake.f k).bind fun t696 => (some t696)))
def lampblacklaw07_MinorSeries.f (k : Nat) (l0 : List Int) : Option (Bool) := (lampblacklaw07_Few.f l0).bind fun t667 => ((minor_Reduce.f t667).bind fun bt670 => (if bt670.2 = 2 then ((lampblacklaw07_Few.f l0).bind fun t674 => ((minor_Greatest.f t674).bind fun bt677 => (if bt677.2 = 2 then ((lampblacklaw07_awake.f k).bind fun t679 => (some t679)) else (some false)))) else ((lampblackref07_K.f k 4).bind fun t680 => ((lampblacklaw07_has.f l0 t680).bind fun bt683 => ((lampblacklaw07_Few.f l0).bind fun t685 => ((width_Width.f k t685).bind fun bt688 => (if bt683.2 = true then (if bt688.2 = 0 then (if bt670.2 = 0 then (if ((bt670.2 == 0) == bt683.1) = true then (lampblacklaw07_MinorSeries.j0 k l0 bt670.1 bt670.2 true) else (lampblacklaw07_MinorSeries.j0 k l0 bt670.1 bt670.2 ((bt670.2 == 0) != (decide (bt688.1 ≤ 2))))) else (if bt670.2 = 4 then (if ((bt670.2 == 0) == bt683.1) = true then (lampblacklaw07_MinorSeries.j0 k l0 bt670.1 bt670.2 true) else (lampblacklaw07_MinorSeries.j0 k l0 bt670.1 bt670.2 ((bt670.2 == 0) != (decide (bt688.1 ≤ 2))))) else (lampblacklaw07_MinorSeries.j0 k l0 bt670.1 bt670.2 true))) else (lampblacklaw07_MinorSeries.j0 k l0 bt670.1 bt670.2 true)) else (lampblacklaw07_MinorSeries.j0 k l0 bt670.1 bt670.2 true))))))))
set_option maxHeartbeats 8000000 in
set_option maxRecDepth 100000 in
theorem lampblacklaw07_MinorSeries.calls (k : Nat) (A0 : Option Addr) (c0 : Nat) (l0 : List Int) (r : Bool) (w : World) (hGL : GL w) (hr0 : Kd.C (Kd.int .i64) w A0 l0.length l0) (hc0 : l0.length ≤ c0) (h : lampblacklaw07_MinorSeries.f k l0 = some r) :
  Calls Tryd.prog 14 #[.slice A0 l0.length c0] w fun e w' => e = .returned (.bool r) ∧ Below w.heap.size w w' := by
 have HGL := Aside0.mk hGL
 clear hGL
 have HR0 := Aside0.mk hr0
 have HC0 := Aside0.mk hc0
 clear hr0 hc0
 have HB := Aside0.mk (Below.refl w.heap.size w)
 have H : ((lampblacklaw07_Few.f l0).bind fun t667 => ((minor_Reduce.f t667).bind fun bt670 => (if bt670.2 = 2 then ((lampblacklaw07_Few.f l0).bind fun t674 => ((minor_Greatest.f t674).bind fun bt677 => (if bt677.2 = 2 then ((lampblacklaw07_awake.f k).bind fun t679 => (some t679)) else (some false)))) else ((lampblackref07_K.f k 4).bind fun t680 => ((lampblacklaw07_has.f l0 t680).bind fun bt683 => ((lampblacklaw07_Few.f l0).bind fun t685 => ((width_Width.f k t685).bind fun bt688 => (if bt683.2 = true then (if bt688.2 = 0 then (if bt670.2 = 0 then (if ((bt670.2 == 0) == bt683.1) = true then (lampblacklaw07_MinorSeries.j0 k l0 bt670.1 bt670.2 true) else (lampblacklaw07_MinorSeries.j0 k l0 bt670.1 bt670.2 ((bt670.2 == 0) != (decide (bt688.1 ≤ 2))))) else (if bt670.2 = 4 then (if ((bt670.2 == 0) == bt683.1) = true then (lampblacklaw07_MinorSeries.j0 k l0 bt670.1 bt670.2 true) else (lampblacklaw07_MinorSeries.j0 k l0 bt670.1 bt670.2 ((bt670.2 == 0) != (decide (bt688.1 ≤ 2))))) else (lampblacklaw07_MinorSeries.j0 k l0 bt670.1 bt670.2 true))) else (lampblacklaw07_MinorSeries.j0 k l0 bt670.1 bt670.2 true)) else (lampblacklaw07_MinorSeries.j0 k l0 bt670.1 bt670.2 true))))))))) = some r := h
 clear h
 replace H := Option.bind_eq_some_iff.mp H
 obtain ⟨t667, A20, H⟩ := H
 replace H : ((minor_Reduce.f t667).bind fun bt670 => (if bt670.2 = 2 then ((lampblacklaw07_Few.f l0).bind fun t674 => ((minor_Greatest.f t674).bind fun bt677 => (if bt677.2 = 2 then ((lampblacklaw07_awake.f k).bind fun t679 => (some t679)) else (some false)))) else ((lampblackref07_K.f k 4).bind fun t680 => ((lampblacklaw07_has.f l0 t680).bind fun bt683 => ((lampblacklaw07_Few.f l0).bind fun t685 => ((width_Width.f k t685).bind fun bt688 => (if bt683.2 = true then (if bt688.2 = 0 then (if bt670.2 = 0 then (if ((bt670.2 == 0) == bt683.1) = true then (lampblacklaw07_MinorSeries.j0 k l0 bt670.1 bt670.2 true) else (lampblacklaw07_MinorSeries.j0 k l0 bt670.1 bt670.2 ((bt670.2 == 0) != (decide (bt688.1 ≤ 2))))) else (if bt670.2 = 4 then (if ((bt670.2 == 0) == bt683.1) = true then (lampblacklaw07_MinorSeries.j0 k l0 bt670.1 bt670.2 true) else (lampblacklaw07_MinorSeries.j0 k l0 bt670.1 bt670.2 ((bt670.2 == 0) != (decide (bt688.1 ≤ 2))))) else (lampblacklaw07_MinorSeries.j0 k l0 bt670.1 bt670.2 true))) else (lampblacklaw07_MinorSeries.j0 k l0 bt670.1 bt670.2 true)) else (lampblacklaw07_MinorSeries.j0 k l0 bt670.1 bt670.2 true)))))))) = some r := H
 have A2 := Aside0.mk A20
 clear A20
 replace H := Option.bind_eq_some_iff.mp H
 obtain ⟨⟨t670, t671⟩, A30, H⟩ := H
 replace H : (if t671 = 2 then ((lampblacklaw07_Few.f l0).bind fun t674 => ((minor_Greatest.f t674).bind fun bt677 => (if bt677.2 = 2 then ((lampblacklaw07_awake.f k).bind fun t679 => (some t679)) else (some false)))) else ((lampblackref07_K.f k 4).bind fun t680 => ((lampblacklaw07_has.f l0 t680).bind fun bt683 => ((lampblacklaw07_Few.f l0).bind fun t685 => ((width_Width.f k t685).bind fun bt688 => (if bt683.2 = true then (if bt688.2 = 0 then (if t671 = 0 then (if ((t671 == 0) == bt683.1) = true then (lampblacklaw07_MinorSeries.j0 k l0 t670 t671 true) else (lampblacklaw07_MinorSeries.j0 k l0 t670 t671 ((t671 == 0) != (decide (bt688.1 ≤ 2))))) else (if t671 = 4 then (if ((t671 == 0) == bt683.1) = true then (lampblacklaw07_MinorSeries.j0 k l0 t670 t671 true) else (lampblacklaw07_MinorSeries.j0 k l0 t670 t671 ((t671 == 0) != (decide (bt688.1 ≤ 2))))) else (lampblacklaw07_MinorSeries.j0 k l0 t670 t671 true))) else (lampblacklaw07_MinorSeries.j0 k l0 t670 t671 true)) else (lampblacklaw07_MinorSeries.j0 k l0 t670 t671 true))))))) = some r := H
 have A3 := Aside0.mk A30
 clear A30
 by_cases c4 : t671 = 2
 ·rw [if_pos c4] at H
  have c4b0 : (t671 == 2) = true := beq_iff_eq.mpr c4
  have c4b1 : (t671 != 2) = false := bne_eq_false_iff_eq.mpr c4
  clear c4
  replace H := Option.bind_eq_some_iff.mp H
  obtain ⟨t674, A50, H⟩ := H
  replace H : ((minor_Greatest.f t674).bind fun bt677 => (if bt677.2 = 2 then ((lampblacklaw07_awake.f k).bind fun t679 => (some t679)) else (some false))) = some r := H
  have A5 := Aside0.mk A50
  clear A50
  replace H := Option.bind_eq_some_iff.mp H
  obtain ⟨⟨t677, t678⟩, A60, H⟩ := H
  replace H : (if t678 = 2 then ((lampblacklaw07_awake.f k).bind fun t679 => (some t679)) else (some false)) = some r := H
  have A6 := Aside0.mk A60
  clear A60
  by_cases c7 : t678 = 2
  ·rw [if_pos c7] at H
   have c7b0 : (t678 == 2) = true := beq_iff_eq.mpr c7
   have c7b1 : (t678 != 2) = false := bne_eq_false_iff_eq.mpr c7
   clear c7
   replace H := Option.bind_eq_some_iff.mp H
   obtain ⟨t679, A80, H⟩ := H
   replace H : (some t679) = some r := H
   have A8 := Aside0.mk A80
   clear A80
   obtain rfl := Option.some.inj H
   go_enter Tryd.func14, Tryd.ntmps14
   go_wp2_with (first | ((with_reducible refine gate_callee (f := 22) rfl ?_); refine goesL_ (some 14) rfl rfl Tryd.func22 (by kernel_rfl) rfl #[.slice A0 l0.length c0] rfl (Qls) ?_; (with_reducible refine (lampblacklaw07_Few.calls _ _ l0 t667 _ ?side1 ?side2 A2.out).mono ?_); (case side1 => exact Qsc HR0.out); (case side2 => exact HC0.out); rintro e w9 ⟨v668, rfl, ho0, hb⟩; refine ⟨_, rfl, ?_⟩; have n0_ := Aside0.mk (Kd.R_lower ho0 (below_size (Qaw))); have n1_ := Aside0.mk (below_step (Qaw) hb); clear HB; have HO669 := n0_; have HB := n1_; clear n0_ n1_; (try clear hb); (try clear hb2); (try clear hk); (try clear hi); (try clear ho0); obtain ⟨Ao10, co10, eo10⟩ := Kd.R_slice HO669.out; subst eo10) | ((with_reducible refine gate_callee (f := 40) rfl ?_); refine goesL_ (some 15) rfl rfl Tryd.func40 (by kernel_rfl) rfl #[.slice Ao10 t667.length co10] rfl (Qls) ?_; (with_reducible refine (minor_Reduce.calls (hGL := (Qlg)) _ _ t667 t670 t671 _ ?side1 ?side2 A3.out).mono ?_); (case side1 => exact Qsc (Kd.R_reads' HO669.out).2.2); (case side2 => exact (Kd.R_reads' HO669.out).2.1); rintro e w11 ⟨v672, rfl, ho0, hb⟩; refine ⟨_, rfl, ?_⟩; have n0_ := Aside0.mk (Kd.R_below (Qro HO669.out) hb); have n1_ := Aside0.mk (Kd.R_lower ho0 (below_size (Qaw))); have n2_ := Aside0.mk (below_step (Qaw) hb); clear HO669; clear HB; have HO669 := n0_; have HO673 := n1_; have HB := n2_; clear n0_ n1_ n2_; (try clear hb); (try clear hb2); (try clear hk); (try clear hi); (try clear ho0)) | ((with_reducible refine gate_callee (f := 22) rfl ?_); refine goesL_ (some 22) rfl rfl Tryd.func22 (by kernel_rfl) rfl #[.slice A0 l0.length c0] rfl (Qls) ?_; (with_reducible refine (lampblacklaw07_Few.calls _ _ l0 t674 _ ?side1 ?side2 A5.out).mono ?_); (case side1 => exact Qsc (Kd.C_below HR0.out HB.out)); (case side2 => exact HC0.out); rintro e w12 ⟨v675, rfl, ho0, hb⟩; refine ⟨_, rfl, ?_⟩; have n0_ := Aside0.mk (Kd.R_elder' (Qro HO669.out) (Kd.R_base ho0) hb); have n1_ := Aside0.mk (Kd.R_below (Qro HO673.out) hb); have n2_ := Aside0.mk (Kd.R_lower (Kd.R_new' ho0 (Kd.R_lt (Qro HO669.out))) (below_size (Qaw))); have n3_ := Aside0.mk (below_step (Qaw) hb); clear HO669; clear HO673; clear HB; have HO669 := n0_; have HO673 := n1_; have HO676 := n2_; have HB := n3_; clear n0_ n1_ n2_ n3_; (try clear hb); (try clear hb2); (try clear hk); (try clear hi); (try clear ho0); obtain ⟨Ao13, co13, eo13⟩ := Kd.R_slice HO676.out; subst eo13) | ((with_reducible refine gate_callee (f := 53) rfl ?_); refine goesL_ (some 23) rfl rfl Tryd.func53 (by kernel_rfl) rfl #[.slice Ao13 t674.length co13] rfl (Qls) ?_; (with_reducible refine (minor_Greatest.calls (hGL := (Qlg)) _ _ t674 t677 t678 _ ?side1 ?side2 A6.out).mono ?_); (case side1 => exact Qsc (Kd.R_reads' HO676.out).2.2); (case side2 => exact (Kd.R_reads' HO676.out).2.1); rintro e w14 ⟨rfl, hb⟩; refine ⟨_, rfl, ?_⟩; have n0_ := Aside0.mk (Kd.R_below (Qro HO669.out) hb); have n1_ := Aside0.mk (Kd.R_below (Qro HO673.out) hb); have n2_ := Aside0.mk (Kd.R_below (Qro HO676.out) hb); have n3_ := Aside0.mk (below_step (Qaw) hb); clear HO669; clear HO673; clear HO676; clear HB; have HO669 := n0_; have HO673 := n1_; have HO676 := n2_; have HB := n3_; clear n0_ n1_ n2_ n3_; (try clear hb); (try clear hb2); (try clear hk); (try clear hi)) | (go_at_call 17; (with_reducible refine (lampblacklaw07_awake.calls (hGL := (Qlg)) k  t679 _ A8.out).mono ?_); rintro e w15 ⟨rfl, hb⟩; have n0_ := Aside0.mk (Kd.R_below (Qro HO669.out) hb); have n1_ := Aside0.mk (Kd.R_below (Qro HO673.out) hb); have n2_ := Aside0.mk (Kd.R_below (Qro HO676.out) hb); have n3_ := Aside0.mk (below_step (Qaw) hb); clear HO669; clear HO673; clear HO676; clear HB; have HO669 := n0_; have HO673 := n1_; have HO676 := n2_; have HB := n3_; clear n0_ n1_ n2_ n3_; (try clear hb); (try clear hb2); (try clear hk); (try clear hi)))
   go_ret
   exact ⟨by first | rfl | (simp [errW_none, errW_some] <;> rfl) | (simp [*, errW_none, errW_some] <;> rfl), by repeat (first | (with_reducible first | exact HB.out | apply below_alloc | apply pw_below_drewN | apply below_drew1) | exact HB.out)⟩
  ·rw [if_neg c7] at H
   have c7b0 : (t678 == 2) = false := beq_eq_false_iff_ne.mpr c7
   have c7b1 : (t678 != 2) = true := bne_iff_ne.mpr c7
   obtain rfl := Option.some.inj H
   go_enter Tryd.func14, Tryd.ntmps14
   go_wp2_with (first | ((with_reducible refine gate_callee (f := 22) rfl ?_); refine goesL_ (some 14) rfl rfl Tryd.func22 (by kernel_rfl) rfl #[.slice A0 l0.length c0] rfl (Qls) ?_; (with_reducible refine (lampblacklaw07_Few.calls _ _ l0 t667 _ ?side1 ?side2 A2.out).mono ?_); (case side1 => exact Qsc HR0.out); (case side2 => exact HC0.out); rintro e w16 ⟨v668, rfl, ho0, hb⟩; refine ⟨_, rfl, ?_⟩; have n0_ := Aside0.mk (Kd.R_lower ho0 (below_size (Qaw))); have n1_ := Aside0.mk (below_step (Qaw) hb); clear HB; have HO669 := n0_; have HB := n1_; clear n0_ n1_; (try clear hb); (try clear hb2); (try clear hk); (try clear hi); (try clear ho0); obtain ⟨Ao17, co17, eo17⟩ := Kd.R_slice HO669.out; subst eo17) | ((with_reducible refine gate_callee (f := 40) rfl ?_); refine goesL_ (some 15) rfl rfl Tryd.func40 (by kernel_rfl) rfl #[.slice Ao17 t667.length co17] rfl (Qls) ?_; (with_reducible refine (minor_Reduce.calls (hGL := (Qlg)) _ _ t667 t670 t671 _ ?side1 ?side2 A3.out).mono ?_); (case side1 => exact Qsc (Kd.R_reads' HO669.out).2.2); (case side2 => exact (Kd.R_reads' HO669.out).2.1); rintro e w18 ⟨v672, rfl, ho0, hb⟩; refine ⟨_, rfl, ?_⟩; have n0_ := Aside0.mk (Kd.R_below (Qro HO669.out) hb); have n1_ := Aside0.mk (Kd.R_lower ho0 (below_size (Qaw))); have n2_ := Aside0.mk (below_step (Qaw) hb); clear HO669; clear HB; have HO669 := n0_; have HO673 := n1_; have HB := n2_; clear n0_ n1_ n2_; (try clear hb); (try clear hb2); (try clear hk); (try clear hi); (try clear ho0)) | ((with_reducible refine gate_callee (f := 22) rfl ?_); refine goesL_ (some 22) rfl rfl Tryd.func22 (by kernel_rfl) rfl #[.slice A0 l0.length c0] rfl (Qls) ?_; (with_reducible refine (lampblacklaw07_Few.calls _ _ l0 t674 _ ?side1 ?side2 A5.out).mono ?_); (case side1 => exact Qsc (Kd.C_below HR0.out HB.out)); (case side2 => exact HC0.out); rintro e w19 ⟨v675, rfl, ho0, hb⟩; refine ⟨_, rfl, ?_⟩; have n0_ := Aside0.mk (Kd.R_elder' (Qro HO669.out) (Kd.R_base ho0) hb); have n1_ := Aside0.mk (Kd.R_below (Qro HO673.out) hb); have n2_ := Aside0.mk (Kd.R_lower (Kd.R_new' ho0 (Kd.R_lt (Qro HO669.out))) (below_size (Qaw))); have n3_ := Aside0.mk (below_step (Qaw) hb); clear HO669; clear HO673; clear HB; have HO669 := n0_; have HO673 := n1_; have HO676 := n2_; have HB := n3_; clear n0_ n1_ n2_ n3_; (try clear hb); (try clear hb2); (try clear hk); (try clear hi); (try clear ho0); obtain ⟨Ao20, co20, eo20⟩ := Kd.R_slice HO676.out; subst eo20) | ((with_reducible refine gate_callee (f := 53) rfl ?_); refine goesL_ (some 23) rfl rfl Tryd.func53 (by kernel_rfl) rfl #[.slice Ao20 t674.length co20] rfl (Qls) ?_; (with_reducible refine (minor_Greatest.calls (hGL := (Qlg)) _ _ t674 t677 t678 _ ?side1 ?side2 A6.out).mono ?_); (case side1 => exact Qsc (Kd.R_reads' HO676.out).2.2); (case side2 => exact (Kd.R_reads' HO676.out).2.1); rintro e w21 ⟨rfl, hb⟩; refine ⟨_, rfl, ?_⟩; have n0_ := Aside0.mk (Kd.R_below (Qro HO669.out) hb); have n1_ := Aside0.mk (Kd.R_below (Qro HO673.out) hb); have n2_ := Aside0.mk (Kd.R_below (Qro HO676.out) hb); have n3_ := Aside0.mk (below_step (Qaw) hb); clear HO669; clear HO673; clear HO676; clear HB; have HO669 := n0_; have HO673 := n1_; have HO676 := n2_; have HB := n3_; clear n0_ n1_ n2_ n3_; (try clear hb); (try clear hb2); (try clear hk); (try clear hi)))
   go_ret
   exact ⟨by first | rfl | (simp [errW_none, errW_some] <;> rfl) | (simp [*, errW_none, errW_some] <;> rfl), by repeat (first | (with_reducible first | exact HB.out | apply below_alloc | apply pw_below_drewN | apply below_drew1) | exact HB.out)⟩
 ·rw [if_neg c4] at H
  have c4b0 : (t671 == 2) = false := beq_eq_false_iff_ne.mpr c4
  have c4b1 : (t671 != 2) = true := bne_iff_ne.mpr c4
  replace H := Option.bind_eq_some_iff.mp H
  obtain ⟨t680, A220, H⟩ := H
  replace H : ((lampblacklaw07_has.f l0 t680).bind fun bt683 => ((lampblacklaw07_Few.f l0).bind fun t685 => ((width_Width.f k t685).bind fun bt688 => (if bt683.2 = true then (if bt688.2 = 0 then (if t671 = 0 then (if ((t671 == 0) == bt683.1) = true then (lampblacklaw07_MinorSeries.j0 k l0 t670 t671 true) else (lampblacklaw07_MinorSeries.j0 k l0 t670 t671 ((t671 == 0) != (decide (bt688.1 ≤ 2))))) else (if t671 = 4 then (if ((t671 == 0) == bt683.1) = true then (lampblacklaw07_MinorSeries.j0 k l0 t670 t671 true) else (lampblacklaw07_MinorSeries.j0 k l0 t670 t671 ((t671 == 0) != (decide (bt688.1 ≤ 2))))) else (lampblacklaw07_MinorSeries.j0 k l0 t670 t671 true))) else (lampblacklaw07_MinorSeries.j0 k l0 t670 t671 true)) else (lampblacklaw07_MinorSeries.j0 k l0 t670 t671 true))))) = some r := H
  have A22 := Aside0.mk A220
  clear A220
  replace H := Option.bind_eq_some_iff.mp H
  obtain ⟨⟨t683, t684⟩, A230, H⟩ := H
  replace H : ((lampblacklaw07_Few.f l0).bind fun t685 => ((width_Width.f k t685).bind fun bt688 => (if t684 = true then (if bt688.2 = 0 then (if t671 = 0 then (if ((t671 == 0) == t683) = true then (lampblacklaw07_MinorSeries.j0 k l0 t670 t671 true) else (lampblacklaw07_MinorSeries.j0 k l0 t670 t671 ((t671 == 0) != (decide (bt688.1 ≤ 2))))) else (if t671 = 4 then (if ((t671 == 0) == t683) = true then (lampblacklaw07_MinorSeries.j0 k l0 t670 t671 true) else (lampblacklaw07_MinorSeries.j0 k l0 t670 t671 ((t671 == 0) != (decide (bt688.1 ≤ 2))))) else (lampblacklaw07_MinorSeries.j0 k l0 t670 t671 true))) else (lampblacklaw07_MinorSeries.j0 k l0 t670 t671 true)) else (lampblacklaw07_MinorSeries.j0 k l0 t670 t671 true)))) = some r := H
  have A23 := Aside0.mk A230
  clear A230
  replace H := Option.bind_eq_some_iff.mp H
  obtain ⟨t685, A240, H⟩ := H
  replace H : ((width_Width.f k t685).bind fun bt688 => (if t684 = true then (if bt688.2 = 0 then (if t671 = 0 then (if ((t671 == 0) == t683) = true then (lampblacklaw07_MinorSeries.j0 k l0 t670 t671 true) else (lampblacklaw07_MinorSeries.j0 k l0 t670 t671 ((t671 == 0) != (decide (bt688.1 ≤ 2))))) else (if t671 = 4 then (if ((t671 == 0) == t683) = true then (lampblacklaw07_MinorSeries.j0 k l0 t670 t671 true) else (lampblacklaw07_MinorSeries.j0 k l0 t670 t671 ((t671 == 0) != (decide (bt688.1 ≤ 2))))) else (lampblacklaw07_MinorSeries.j0 k l0 t670 t671 true))) else (lampblacklaw07_MinorSeries.j0 k l0 t670 t671 true)) else (lampblacklaw07_MinorSeries.j0 k l0 t670 t671 true))) = some r := H
  have A24 := Aside0.mk A240
  clear A240
  replace H := Option.bind_eq_some_iff.mp H
  obtain ⟨⟨t688, t689⟩, A250, H⟩ := H
  replace H : (if t684 = true then (if t689 = 0 then (if t671 = 0 then (if ((t671 == 0) == t683) = true then (lampblacklaw07_MinorSeries.j0 k l0 t670 t671 true) else (lampblacklaw07_MinorSeries.j0 k l0 t670 t671 ((t671 == 0) != (decide (t688 ≤ 2))))) else (if t671 = 4 then (if ((t671 == 0) == t683) = true then (lampblacklaw07_MinorSeries.j0 k l0 t670 t671 true) else (lampblacklaw07_MinorSeries.j0 k l0 t670 t671 ((t671 == 0) != (decide (t688 ≤ 2))))) else (lampblacklaw07_MinorSeries.j0 k l0 t670 t671 true))) else (lampblacklaw07_MinorSeries.j0 k l0 t670 t671 true)) else (lampblacklaw07_MinorSeries.j0 k l0 t670 t671 true)) = some r := H
  have A25 := Aside0.mk A250
  clear A250
  have HC26 := Aside0.mk H
  clear H
  go_enter Tryd.func14, Tryd.ntmps14
  go_upto_region 7 with (first | ((with_reducible refine gate_callee (f := 22) rfl ?_); refine goesL_ (some 14) rfl rfl Tryd.func22 (by kernel_rfl) rfl #[.slice A0 l0.length c0] rfl (Qls) ?_; (with_reducible refine (lampblacklaw07_Few.calls _ _ l0 t667 _ ?side1 ?side2 A2.out).mono ?_); (case side1 => exact Qsc HR0.out); (case side2 => exact HC0.out); rintro e w27 ⟨v668, rfl, ho0, hb⟩; refine ⟨_, rfl, ?_⟩; have n0_ := Aside0.mk (Kd.R_lower ho0 (below_size (Qaw))); have n1_ := Aside0.mk (below_step (Qaw) hb); clear HB; have HO669 := n0_; have HB := n1_; clear n0_ n1_; (try clear hb); (try clear hb2); (try clear hk); (try clear hi); (try clear ho0); obtain ⟨Ao28, co28, eo28⟩ := Kd.R_slice HO669.out; subst eo28) | ((with_reducible refine gate_callee (f := 40) rfl ?_); refine goesL_ (some 15) rfl rfl Tryd.func40 (by kernel_rfl) rfl #[.slice Ao28 t667.length co28] rfl (Qls) ?_; (with_reducible refine (minor_Reduce.calls (hGL := (Qlg)) _ _ t667 t670 t671 _ ?side1 ?side2 A3.out).mono ?_); (case side1 => exact Qsc (Kd.R_reads' HO669.out).2.2); (case side2 => exact (Kd.R_reads' HO669.out).2.1); rintro e w29 ⟨v672, rfl, ho0, hb⟩; refine ⟨_, rfl, ?_⟩; have n0_ := Aside0.mk (Kd.R_below (Qro HO669.out) hb); have n1_ := Aside0.mk (Kd.R_lower ho0 (below_size (Qaw))); have n2_ := Aside0.mk (below_step (Qaw) hb); clear HO669; clear HB; have HO669 := n0_; have HO673 := n1_; have HB := n2_; clear n0_ n1_ n2_; (try clear hb); (try clear hb2); (try clear hk); (try clear hi); (try clear ho0)) | ((with_reducible refine gate_callee (f := 33) rfl ?_); refine goesL_ (some 33) rfl rfl Tryd.func33 (by kernel_rfl) rfl #[.int .i64 4] rfl (Qls) ?_; (with_reducible refine (lampblackref07_K.calls k 4 t680 _ A22.out).mono ?_); rintro e w30 ⟨v681, rfl, ho0, hb⟩; refine ⟨_, rfl, ?_⟩; have n0_ := Aside0.mk (Kd.R_elder' (Qro HO669.out) (Kd.R_base ho0) hb); have n1_ := Aside0.mk (Kd.R_below (Qro HO673.out) hb); have n2_ := Aside0.mk (Kd.R_lower (Kd.R_new' ho0 (Kd.R_lt (Qro HO669.out))) (below_size (Qaw))); have n3_ := Aside0.mk (below_step (Qaw) hb); clear HO669; clear HO673; clear HB; have HO669 := n0_; have HO673 := n1_; have HO682 := n2_; have HB := n3_; clear n0_ n1_ n2_ n3_; (try clear hb); (try clear hb2); (try clear hk); (try clear hi); (try clear ho0); obtain ⟨Ao31, co31, eo31⟩ := Kd.R_slice HO682.out; subst eo31) | ((with_reducible refine gate_callee (f := 20) rfl ?_); refine goesL_ (some 34) rfl rfl Tryd.func20 (by kernel_rfl) rfl #[.slice A0 l0.length c0, .slice Ao31 t680.length co31] rfl (Qls) ?_; (with_reducible refine (lampblacklaw07_has.calls (hGL := (Qlg)) _ _ l0 _ _ t680 t683 t684 _ ?side1 ?side2 ?side3 ?side4 A23.out).mono ?_); (case side1 => exact Qsc (Kd.C_below HR0.out HB.out)); (case side2 => exact HC0.out); (case side3 => exact Qsc (Kd.R_reads' HO682.out).2.2); (case side4 => exact (Kd.R_reads' HO682.out).2.1); rintro e w32 ⟨rfl, hb⟩; refine ⟨_, rfl, ?_⟩; have n0_ := Aside0.mk (Kd.R_below (Qro HO669.out) hb); have n1_ := Aside0.mk (Kd.R_below (Qro HO673.out) hb); have n2_ := Aside0.mk (Kd.R_below (Qro HO682.out) hb); have n3_ := Aside0.mk (below_step (Qaw) hb); clear HO669; clear HO673; clear HO682; clear HB; have HO669 := n0_; have HO673 := n1_; have HO682 := n2_; have HB := n3_; clear n0_ n1_ n2_ n3_; (try clear hb); (try clear hb2); (try clear hk); (try clear hi)) | ((with_reducible refine gate_callee (f := 22) rfl ?_); refine goesL_ (some 39) rfl rfl Tryd.func22 (by kernel_rfl) rfl #[.slice A0 l0.length c0] rfl (Qls) ?_; (with_reducible refine (lampblacklaw07_Few.calls _ _ l0 t685 _ ?side1 ?side2 A24.out).mono ?_); (case side1 => exact Qsc (Kd.C_below HR0.out HB.out)); (case side2 => exact HC0.out); rintro e w33 ⟨v686, rfl, ho0, hb⟩; refine ⟨_, rfl, ?_⟩; have n0_ := Aside0.mk (Kd.R_elder' (Qro HO669.out) (Kd.R_base ho0) hb); have n1_ := Aside0.mk (Kd.R_below (Qro HO673.out) hb); have n2_ := Aside0.mk (Kd.R_elder' (Qro HO682.out) (Kd.R_base ho0) hb); have n3_ := Aside0.mk (Kd.R_lower (Kd.R_new' (Kd.R_new' ho0 (Kd.R_lt (Qro HO669.out))) (Kd.R_lt (Qro HO682.out))) (below_size (Qaw))); have n4_ := Aside0.mk (below_step (Qaw) hb); clear HO669; clear HO673; clear HO682; clear HB; have HO669 := n0_; have HO673 := n1_; have HO682 := n2_; have HO687 := n3_; have HB := n4_; clear n0_ n1_ n2_ n3_ n4_; (try clear hb); (try clear hb2); (try clear hk); (try clear hi); (try clear ho0); obtain ⟨Ao34, co34, eo34⟩ := Kd.R_slice HO687.out; subst eo34) | ((with_reducible refine gate_callee (f := 51) rfl ?_); refine goesL_ (some 40) rfl rfl Tryd.func51 (by kernel_rfl) rfl #[.slice Ao34 t685.length co34] rfl (Qls) ?_; (with_reducible refine (width_Width.calls (hGL := (Qlg)) k _ _ t685 t688 t689 _ ?side1 ?side2 A25.out).mono ?_); (case side1 => exact Qsc (Kd.R_reads' HO687.out).2.2); (case side2 => exact (Kd.R_reads' HO687.out).2.1); rintro e w35 ⟨rfl, hb⟩; refine ⟨_, rfl, ?_⟩; have n0_ := Aside0.mk (Kd.R_below (Qro HO669.out) hb); have n1_ := Aside0.mk (Kd.R_below (Qro HO673.out) hb); have n2_ := Aside0.mk (Kd.R_below (Qro HO682.out) hb); have n3_ := Aside0.mk (Kd.R_below (Qro HO687.out) hb); have n4_ := Aside0.mk (below_step (Qaw) hb); clear HO669; clear HO673; clear HO682; clear HO687; clear HB; have HO669 := n0_; have HO673 := n1_; have HO682 := n2_; have HO687 := n3_; have HB := n4_; clear n0_ n1_ n2_ n3_ n4_; (try clear hb); (try clear hb2); (try clear hk); (try clear hi)))
  (try simp only [Act.put, List.setIfInBounds_toArray, List.set_cons_zero, List.set_cons_succ])
  go_cut [69] (fun v69 wc => ∃ (kq : Nat) (x69_25 : Bool), v69 = .bool x69_25 ∧ Aside0 (lampblacklaw07_MinorSeries.j0 kq l0 t670 t671 x69_25 = some r) ∧ Aside0 (kq ≤ k) ∧ Aside0 (Kd.R k95 95 wc w.heap.size (fun _ => True) v672 t670) ∧ Aside0 (Below w.heap.size w wc))
  case first =>
   have H := HC26.out
   clear HC26
   by_cases c36 : t684 = true
   ·subst c36
    have H1 : (if t689 = 0 then (if t671 = 0 then (if ((t671 == 0) == t683) = true then (lampblacklaw07_MinorSeries.j0 k l0 t670 t671 true) else (lampblacklaw07_MinorSeries.j0 k l0 t670 t671 ((t671 == 0) != (decide (t688 ≤ 2))))) else (if t671 = 4 then (if ((t671 == 0) == t683) = true then (lampblacklaw07_MinorSeries.j0 k l0 t670 t671 true) else (lampblacklaw07_MinorSeries.j0 k l0 t670 t671 ((t671 == 0) != (decide (t688 ≤ 2))))) else (lampblacklaw07_MinorSeries.j0 k l0 t670 t671 true))) else (lampblacklaw07_MinorSeries.j0 k l0 t670 t671 true)) = some r := by rw [if_pos rfl] at H; exact H
    clear H
    have H := H1
    clear H1
    by_cases c37 : t689 = 0
    ·rw [if_pos c37] at H
     have c37b0 : (t689 == 0) = true := beq_iff_eq.mpr c37
     have c37b1 : (t689 != 0) = false := bne_eq_false_iff_eq.mpr c37
     clear c37
     (first | rw [c37b0] | (simp only [i64_w, i32_w]; rw [c37b0]) | skip)
     by_cases c38 : t671 = 0
     ·rw [if_pos c38] at H
      have c38b0 : (t671 == 0) = true := beq_iff_eq.mpr c38
      have c38b1 : (t671 != 0) = false := bne_eq_false_iff_eq.mpr c38
      clear c38
      by_cases c39 : ((t671 == 0) == t683) = true
      ·rw [if_pos c39] at H
       have c39b0 : ((t671 == 0) == t683) = true := c39
       (try (have c39b1 : decide ((t671 == 0) = t683) = true := by simpa using c39))
       (try (have c39b2 : ((t671 == 0) == t683) = true := by simpa using c39))
       cases t683 <;> (rw [c38b0] at c39b0) <;> (try (exact absurd c39b0 (by decide)))
       clear c39
       have H' := Aside0.mk H
       clear H
       go_wp2
       go_meet
       case rel => exact ⟨_, (true), (by first | rfl | (simp; done) | (simp [*]; done)), H', ⟨by first | omega | exact Nat.le_refl _⟩, ⟨by (with_reducible repeat (first | apply Kd.R_alloc | apply Kd.R_drewN | apply Kd.R_drew)); exact HO673.out⟩, ⟨by repeat (first | (with_reducible first | exact HB.out | apply below_alloc | apply pw_below_drewN | apply below_drew1) | exact HB.out)⟩⟩
      ·rw [if_neg c39] at H
       have c39b0 : ((t671 == 0) == t683) = false := by simpa using c39
       (try (have c39b1 : decide ((t671 == 0) = t683) = false := by simpa using c39))
       (try (have c39b2 : ((t671 == 0) == t683) = false := by simpa using c39))
       cases t683 <;> (rw [c38b0] at c39b0) <;> (try (exact absurd c39b0 (by decide)))
       (try (have c39b3 : ¬ ((t671 == 0) = t683) := by simpa using c39))
       clear c39
       have H' := Aside0.mk H
       clear H
       go_wp2
       go_meet
       case rel => exact ⟨_, (((t671 == 0) != (decide (t688 ≤ 2)))), (by first | rfl | (simp; done) | (simp [*]; done)), H', ⟨by first | omega | exact Nat.le_refl _⟩, ⟨by (with_reducible repeat (first | apply Kd.R_alloc | apply Kd.R_drewN | apply Kd.R_drew)); exact HO673.out⟩, ⟨by repeat (first | (with_reducible first | exact HB.out | apply below_alloc | apply pw_below_drewN | apply below_drew1) | exact HB.out)⟩⟩
     ·rw [if_neg c38] at H
      have c38b0 : (t671 == 0) = false := beq_eq_false_iff_ne.mpr c38
      have c38b1 : (t671 != 0) = true := bne_iff_ne.mpr c38
      by_cases c40 : t671 = 4
      ·rw [if_pos c40] at H
       have c40b0 : (t671 == 4) = true := beq_iff_eq.mpr c40
       have c40b1 : (t671 != 4) = false := bne_eq_false_iff_eq.mpr c40
       clear c40
       by_cases c41 : ((t671 == 0) == t683) = true
       ·rw [if_pos c41] at H
        have c41b0 : ((t671 == 0) == t683) = true := c41
        (try (have c41b1 : decide ((t671 == 0) = t683) = true := by simpa using c41))
        (try (have c41b2 : ((t671 == 0) == t683) = true := by simpa using c41))
        cases t683 <;> (rw [c38b0] at c41b0) <;> (try (exact absurd c41b0 (by decide)))
        clear c41
        have H' := Aside0.mk H
        clear H
        go_wp2
        go_meet
        case rel => exact ⟨_, (true), (by first | rfl | (simp; done) | (simp [*]; done)), H', ⟨by first | omega | exact Nat.le_refl _⟩, ⟨by (with_reducible repeat (first | apply Kd.R_alloc | apply Kd.R_drewN | apply Kd.R_drew)); exact HO673.out⟩, ⟨by repeat (first | (with_reducible first | exact HB.out | apply below_alloc | apply pw_below_drewN | apply below_drew1) | exact HB.out)⟩⟩
       ·rw [if_neg c41] at H
        have c41b0 : ((t671 == 0) == t683) = false := by simpa using c41
        (try (have c41b1 : decide ((t671 == 0) = t683) = false := by simpa using c41))
        (try (have c41b2 : ((t671 == 0) == t683) = false := by simpa using c41))
        cases t683 <;> (rw [c38b0] at c41b0) <;> (try (exact absurd c41b0 (by decide)))
        (try (have c41b3 : ¬ ((t671 == 0) = t683) := by simpa using c41))
        clear c41
        have H' := Aside0.mk H
        clear H
        go_wp2
        go_meet
        case rel => exact ⟨_, (((t671 == 0) != (decide (t688 ≤ 2)))), (by first | rfl | (simp; done) | (simp [*]; done)), H', ⟨by first | omega | exact Nat.le_refl _⟩, ⟨by (with_reducible repeat (first | apply Kd.R_alloc | apply Kd.R_drewN | apply Kd.R_drew)); exact HO673.out⟩, ⟨by repeat (first | (with_reducible first | exact HB.out | apply below_alloc | apply pw_below_drewN | apply below_drew1) | exact HB.out)⟩⟩
      ·rw [if_neg c40] at H
       have c40b0 : (t671 == 4) = false := beq_eq_false_iff_ne.mpr c40
       have c40b1 : (t671 != 4) = true := bne_iff_ne.mpr c40
       have H' := Aside0.mk H
       clear H
       go_wp2
       go_meet
       case rel => exact ⟨_, (true), (by first | rfl | (simp; done) | (simp [*]; done)), H', ⟨by first | omega | exact Nat.le_refl _⟩, ⟨by (with_reducible repeat (first | apply Kd.R_alloc | apply Kd.R_drewN | apply Kd.R_drew)); exact HO673.out⟩, ⟨by repeat (first | (with_reducible first | exact HB.out | apply below_alloc | apply pw_below_drewN | apply below_drew1) | exact HB.out)⟩⟩
    ·rw [if_neg c37] at H
     have c37b0 : (t689 == 0) = false := beq_eq_false_iff_ne.mpr c37
     have c37b1 : (t689 != 0) = true := bne_iff_ne.mpr c37
     (first | rw [c37b0] | (simp only [i64_w, i32_w]; rw [c37b0]) | skip)
     have H' := Aside0.mk H
     clear H
     go_wp2
     go_meet
     case rel => exact ⟨_, (true), (by first | rfl | (simp; done) | (simp [*]; done)), H', ⟨by first | omega | exact Nat.le_refl _⟩, ⟨by (with_reducible repeat (first | apply Kd.R_alloc | apply Kd.R_drewN | apply Kd.R_drew)); exact HO673.out⟩, ⟨by repeat (first | (with_reducible first | exact HB.out | apply below_alloc | apply pw_below_drewN | apply below_drew1) | exact HB.out)⟩⟩
   ·replace c36 := Bool.eq_false_iff.mpr c36
    subst c36
    have H1 : (lampblacklaw07_MinorSeries.j0 k l0 t670 t671 true) = some r := by rw [if_neg (show ¬ (false = true) by decide)] at H; exact H
    clear H
    have H := H1
    clear H1
    have H' := Aside0.mk H
    clear H
    go_wp2
    go_meet
    case rel => exact ⟨_, (true), (by first | rfl | (simp; done) | (simp [*]; done)), H', ⟨by first | omega | exact Nat.le_refl _⟩, ⟨by (with_reducible repeat (first | apply Kd.R_alloc | apply Kd.R_drewN | apply Kd.R_drew)); exact HO673.out⟩, ⟨by repeat (first | (with_reducible first | exact HB.out | apply below_alloc | apply pw_below_drewN | apply below_drew1) | exact HB.out)⟩⟩
  case rest =>
   clear HC26
   try clear c1
   try clear c2
   try clear p2
   try clear c3
   try clear c4
   try clear c4b0
   try clear c4b1
   try clear c5
   try clear c7
   try clear c7b0
   try clear c7b1
   try clear c14
   try clear c20
   try clear c22
   try clear c33
   try clear c36
   try clear c37
   try clear c37b0
   try clear c37b1
   try clear c38
   try clear c38b0
   try clear c38b1
   try clear c39
   try clear c39b0
   try clear c39b1
   try clear c39b2
   try clear c40
   try clear c40b0
   try clear c40b1
   try clear c41
   try clear c41b0
   try clear c41b1
   try clear c41b2
   obtain ⟨kq, x69_25, rfl, HA, HJ25, HO_3, HB⟩ := hcut
   cases kq with
   | zero => exact absurd HA.out (by simp [lampblacklaw07_MinorSeries.j0])
   | succ kj25 =>
    have H := HA.out
    clear HA
    simp only [lampblacklaw07_MinorSeries.j0] at H
    by_cases c42 : x69_25 = true
    ·subst c42
     have H1 : (some false) = some r := by rw [if_pos rfl] at H; exact H
     clear H
     have H := H1
     clear H1
     obtain rfl := Option.some.inj H
     go_wp2
     go_ret
     exact ⟨by first | rfl | (simp [errW_none, errW_some] <;> rfl) | (simp [*, errW_none, errW_some] <;> rfl), by repeat (first | (with_reducible first | exact HB.out | apply below_alloc | apply pw_below_drewN | apply below_drew1) | exact HB.out)⟩
    ·replace c42 := Bool.eq_false_iff.mpr c42
     subst c42
     have H1 : (if t671 = 0 then ((lampblacklaw07_Few.f l0).bind fun t690 => ((minor_CheckReduce.f t690 t670).bind fun bt693 => (if bt693.1 = true then (if bt693.2 = 0 then (if (t670.length : Int) = (l0.length : Int) then ((lampblacklaw07_awake.f kj25).bind fun t695 => (some t695)) else (some false)) else (some false)) else (some false)))) else ((lampblacklaw07_awake.f kj25).bind fun t696 => (some t696))) = some r := by rw [if_neg (show ¬ (false = true) by decide)] at H; exact H
     clear H
     have H := H1
     clear H1
     by_cases c43 : t671 = 0
     ·rw [if_pos c43] at H
      have c43b0 : (t671 == 0) = true := beq_iff_eq.mpr c43
      have c43b1 : (t671 != 0) = false := bne_eq_false_iff_eq.mpr c43
      clear c43
      replace H := Option.bind_eq_some_iff.mp H
      obtain ⟨t690, A440, H⟩ := H
      replace H : ((minor_CheckReduce.f t690 t670).bind fun bt693 => (if bt693.1 = true then (if bt693.2 = 0 then (if (t670.length : Int) = (l0.length : Int) then ((lampblacklaw07_awake.f kj25).bind fun t695 => (some t695)) else (some false)) else (some false)) else (some false))) = some r := H
      have A44 := Aside0.mk A440
      clear A440
      replace H := Option.bind_eq_some_iff.mp H
      obtain ⟨⟨t693, t694⟩, A450, H⟩ := H
      replace H : (if t693 = true then (if t694 = 0 then (if (t670.length : Int) = (l0.length : Int) then ((lampblacklaw07_awake.f kj25).bind fun t695 => (some t695)) else (some false)) else (some false)) else (some false)) = some r := H
      have A45 := Aside0.mk A450
      clear A450
      by_cases c46 : t693 = true
      ·subst c46
       have H1 : (if t694 = 0 then (if (t670.length : Int) = (l0.length : Int) then ((lampblacklaw07_awake.f kj25).bind fun t695 => (some t695)) else (some false)) else (some false)) = some r := by rw [if_pos rfl] at H; exact H
       clear H
       have H := H1
       clear H1
       by_cases c47 : t694 = 0
       ·rw [if_pos c47] at H
        have c47b0 : (t694 == 0) = true := beq_iff_eq.mpr c47
        have c47b1 : (t694 != 0) = false := bne_eq_false_iff_eq.mpr c47
        clear c47
        by_cases c48 : (t670.length : Int) = (l0.length : Int)
        ·rw [if_pos c48] at H
         have c48b0 : ((t670.length : Int) == (l0.length : Int)) = true := beq_iff_eq.mpr c48
         have c48b1 : ((t670.length : Int) != (l0.length : Int)) = false := bne_eq_false_iff_eq.mpr c48
         have c48b2 : (t670.length == l0.length) = true := by first | simpa using c48 | (simp at c48 ⊢; omega)
         clear c48
         replace H := Option.bind_eq_some_iff.mp H
         obtain ⟨t695, A490, H⟩ := H
         replace H : (some t695) = some r := H
         have A49 := Aside0.mk A490
         clear A490
         obtain rfl := Option.some.inj H
         go_wp2_with (first | ((with_reducible refine gate_callee (f := 22) rfl ?_); refine goesL_ (some 75) rfl rfl Tryd.func22 (by kernel_rfl) rfl #[.slice A0 l0.length c0] rfl (Qls) ?_; (with_reducible refine (lampblacklaw07_Few.calls _ _ l0 t690 _ ?side1 ?side2 A44.out).mono ?_); (case side1 => exact Qsc (Kd.C_below HR0.out HB.out)); (case side2 => exact HC0.out); rintro e w50 ⟨v691, rfl, ho0, hb⟩; refine ⟨_, rfl, ?_⟩; have n0_ := Aside0.mk (Kd.R_below (Qro HO_3.out) hb); have n1_ := Aside0.mk (Kd.R_lower ho0 (below_size (Qaw))); have n2_ := Aside0.mk (below_step (Qaw) hb); clear HO_3; clear HB; have HO_3 := n0_; have HO692 := n1_; have HB := n2_; clear n0_ n1_ n2_; (try clear hb); (try clear hb2); (try clear hk); (try clear hi); (try clear ho0); obtain ⟨Ao51, co51, eo51⟩ := Kd.R_slice HO692.out; subst eo51; obtain ⟨Ao52, co52, eo52⟩ := Kd.R_slice HO_3.out; subst eo52) | ((with_reducible refine gate_callee (f := 41) rfl ?_); refine goesL_ (some 77) rfl rfl Tryd.func41 (by kernel_rfl) rfl #[.slice Ao51 t690.length co51, .slice Ao52 t670.length co52] rfl (Qls) ?_; (with_reducible refine (minor_CheckReduce.calls (hGL := (Qlg)) _ _ t690 _ _ t670 true t694 _ ?side1 ?side2 ?side3 ?side4 A45.out).mono ?_); (case side1 => exact Qsc (Kd.R_reads' HO692.out).2.2); (case side2 => exact (Kd.R_reads' HO692.out).2.1); (case side3 => exact Qsc (Kd.R_reads' HO_3.out).2.2); (case side4 => exact (Kd.R_reads' HO_3.out).2.1); rintro e w53 ⟨rfl, hb⟩; refine ⟨_, rfl, ?_⟩; have n0_ := Aside0.mk (Kd.R_below (Qro HO_3.out) hb); have n1_ := Aside0.mk (Kd.R_below (Qro HO692.out) hb); have n2_ := Aside0.mk (below_step (Qaw) hb); clear HO_3; clear HO692; clear HB; have HO_3 := n0_; have HO692 := n1_; have HB := n2_; clear n0_ n1_ n2_; (try clear hb); (try clear hb2); (try clear hk); (try clear hi)) | (go_at_call 17; (with_reducible refine (lampblacklaw07_awake.calls (hGL := (Qlg)) kj25  t695 _ A49.out).mono ?_); rintro e w54 ⟨rfl, hb⟩; have n0_ := Aside0.mk (Kd.R_below (Qro HO_3.out) hb); have n1_ := Aside0.mk (Kd.R_below (Qro HO692.out) hb); have n2_ := Aside0.mk (below_step (Qaw) hb); clear HO_3; clear HO692; clear HB; have HO_3 := n0_; have HO692 := n1_; have HB := n2_; clear n0_ n1_ n2_; (try clear hb); (try clear hb2); (try clear hk); (try clear hi)))
         go_ret
         exact ⟨by first | rfl | (simp [errW_none, errW_some] <;> rfl) | (simp [*, errW_none, errW_some] <;> rfl), by repeat (first | (with_reducible first | exact HB.out | apply below_alloc | apply pw_below_drewN | apply below_drew1) | exact HB.out)⟩
        ·rw [if_neg c48] at H
         have c48b0 : ((t670.length : Int) == (l0.length : Int)) = false := beq_eq_false_iff_ne.mpr c48
         have c48b1 : ((t670.length : Int) != (l0.length : Int)) = true := bne_iff_ne.mpr c48
         have c48b2 : (t670.length == l0.length) = false := by first | simpa using c48 | (simp at c48 ⊢; omega)
         obtain rfl := Option.some.inj H
         go_wp2_with (first | ((with_reducible refine gate_callee (f := 22) rfl ?_); refine goesL_ (some 75) rfl rfl Tryd.func22 (by kernel_rfl) rfl #[.slice A0 l0.length c0] rfl (Qls) ?_; (with_reducible refine (lampblacklaw07_Few.calls _ _ l0 t690 _ ?side1 ?side2 A44.out).mono ?_); (case side1 => exact Qsc (Kd.C_below HR0.out HB.out)); (case side2 => exact HC0.out); rintro e w55 ⟨v691, rfl, ho0, hb⟩; refine ⟨_, rfl, ?_⟩; have n0_ := Aside0.mk (Kd.R_below (Qro HO_3.out) hb); have n1_ := Aside0.mk (Kd.R_lower ho0 (below_size (Qaw))); have n2_ := Aside0.mk (below_step (Qaw) hb); clear HO_3; clear HB; have HO_3 := n0_; have HO692 := n1_; have HB := n2_; clear n0_ n1_ n2_; (try clear hb); (try clear hb2); (try clear hk); (try clear hi); (try clear ho0); obtain ⟨Ao56, co56, eo56⟩ := Kd.R_slice HO692.out; subst eo56; obtain ⟨Ao57, co57, eo57⟩ := Kd.R_slice HO_3.out; subst eo57) | ((with_reducible refine gate_callee (f := 41) rfl ?_); refine goesL_ (some 77) rfl rfl Tryd.func41 (by kernel_rfl) rfl #[.slice Ao56 t690.length co56, .slice Ao57 t670.length co57] rfl (Qls) ?_; (with_reducible refine (minor_CheckReduce.calls (hGL := (Qlg)) _ _ t690 _ _ t670 true t694 _ ?side1 ?side2 ?side3 ?side4 A45.out).mono ?_); (case side1 => exact Qsc (Kd.R_reads' HO692.out).2.2); (case side2 => exact (Kd.R_reads' HO692.out).2.1); (case side3 => exact Qsc (Kd.R_reads' HO_3.out).2.2); (case side4 => exact (Kd.R_reads' HO_3.out).2.1); rintro e w58 ⟨rfl, hb⟩; refine ⟨_, rfl, ?_⟩; have n0_ := Aside0.mk (Kd.R_below (Qro HO_3.out) hb); have n1_ := Aside0.mk (Kd.R_below (Qro HO692.out) hb); have n2_ := Aside0.mk (below_step (Qaw) hb); clear HO_3; clear HO692; clear HB; have HO_3 := n0_; have HO692 := n1_; have HB := n2_; clear n0_ n1_ n2_; (try clear hb); (try clear hb2); (try clear hk); (try clear hi)))
         go_ret
         exact ⟨by first | rfl | (simp [errW_none, errW_some] <;> rfl) | (simp [*, errW_none, errW_some] <;> rfl), by repeat (first | (with_reducible first | exact HB.out | apply below_alloc | apply pw_below_drewN | apply below_drew1) | exact HB.out)⟩
       ·rw [if_neg c47] at H
        have c47b0 : (t694 == 0) = false := beq_eq_false_iff_ne.mpr c47
        have c47b1 : (t694 != 0) = true := bne_iff_ne.mpr c47
        obtain rfl := Option.some.inj H
        go_wp2_with (first | ((with_reducible refine gate_callee (f := 22) rfl ?_); refine goesL_ (some 75) rfl rfl Tryd.func22 (by kernel_rfl) rfl #[.slice A0 l0.length c0] rfl (Qls) ?_; (with_reducible refine (lampblacklaw07_Few.calls _ _ l0 t690 _ ?side1 ?side2 A44.out).mono ?_); (case side1 => exact Qsc (Kd.C_below HR0.out HB.out)); (case side2 => exact HC0.out); rintro e w59 ⟨v691, rfl, ho0, hb⟩; refine ⟨_, rfl, ?_⟩; have n0_ := Aside0.mk (Kd.R_below (Qro HO_3.out) hb); have n1_ := Aside0.mk (Kd.R_lower ho0 (below_size (Qaw))); have n2_ := Aside0.mk (below_step (Qaw) hb); clear HO_3; clear HB; have HO_3 := n0_; have HO692 := n1_; have HB := n2_; clear n0_ n1_ n2_; (try clear hb); (try clear hb2); (try clear hk); (try clear hi); (try clear ho0); obtain ⟨Ao60, co60, eo60⟩ := Kd.R_slice HO692.out; subst eo60; obtain ⟨Ao61, co61, eo61⟩ := Kd.R_slice HO_3.out; subst eo61) | ((with_reducible refine gate_callee (f := 41) rfl ?_); refine goesL_ (some 77) rfl rfl Tryd.func41 (by kernel_rfl) rfl #[.slice Ao60 t690.length co60, .slice Ao61 t670.length co61] rfl (Qls) ?_; (with_reducible refine (minor_CheckReduce.calls (hGL := (Qlg)) _ _ t690 _ _ t670 true t694 _ ?side1 ?side2 ?side3 ?side4 A45.out).mono ?_); (case side1 => exact Qsc (Kd.R_reads' HO692.out).2.2); (case side2 => exact (Kd.R_reads' HO692.out).2.1); (case side3 => exact Qsc (Kd.R_reads' HO_3.out).2.2); (case side4 => exact (Kd.R_reads' HO_3.out).2.1); rintro e w62 ⟨rfl, hb⟩; refine ⟨_, rfl, ?_⟩; have n0_ := Aside0.mk (Kd.R_below (Qro HO_3.out) hb); have n1_ := Aside0.mk (Kd.R_below (Qro HO692.out) hb); have n2_ := Aside0.mk (below_step (Qaw) hb); clear HO_3; clear HO692; clear HB; have HO_3 := n0_; have HO692 := n1_; have HB := n2_; clear n0_ n1_ n2_; (try clear hb); (try clear hb2); (try clear hk); (try clear hi)))
        go_ret
        exact ⟨by first | rfl | (simp [errW_none, errW_some] <;> rfl) | (simp [*, errW_none, errW_some] <;> rfl), by repeat (first | (with_reducible first | exact HB.out | apply below_alloc | apply pw_below_drewN | apply below_drew1) | exact HB.out)⟩
      ·replace c46 := Bool.eq_false_iff.mpr c46
       subst c46
       have H1 : (some false) = some r := by rw [if_neg (show ¬ (false = true) by decide)] at H; exact H
       clear H
       have H := H1
       clear H1
       obtain rfl := Option.some.inj H
       go_wp2_with (first | ((with_reducible refine gate_callee (f := 22) rfl ?_); refine goesL_ (some 75) rfl rfl Tryd.func22 (by kernel_rfl) rfl #[.slice A0 l0.length c0] rfl (Qls) ?_; (with_reducible refine (lampblacklaw07_Few.calls _ _ l0 t690 _ ?side1 ?side2 A44.out).mono ?_); (case side1 => exact Qsc (Kd.C_below HR0.out HB.out)); (case side2 => exact HC0.out); rintro e w63 ⟨v691, rfl, ho0, hb⟩; refine ⟨_, rfl, ?_⟩; have n0_ := Aside0.mk (Kd.R_below (Qro HO_3.out) hb); have n1_ := Aside0.mk (Kd.R_lower ho0 (below_size (Qaw))); have n2_ := Aside0.mk (below_step (Qaw) hb); clear HO_3; clear HB; have HO_3 := n0_; have HO692 := n1_; have HB := n2_; clear n0_ n1_ n2_; (try clear hb); (try clear hb2); (try clear hk); (try clear hi); (try clear ho0); obtain ⟨Ao64, co64, eo64⟩ := Kd.R_slice HO692.out; subst eo64; obtain ⟨Ao65, co65, eo65⟩ := Kd.R_slice HO_3.out; subst eo65) | ((with_reducible refine gate_callee (f := 41) rfl ?_); refine goesL_ (some 77) rfl rfl Tryd.func41 (by kernel_rfl) rfl #[.slice Ao64 t690.length co64, .slice Ao65 t670.length co65] rfl (Qls) ?_; (with_reducible refine (minor_CheckReduce.calls (hGL := (Qlg)) _ _ t690 _ _ t670 false t694 _ ?side1 ?side2 ?side3 ?side4 A45.out).mono ?_); (case side1 => exact Qsc (Kd.R_reads' HO692.out).2.2); (case side2 => exact (Kd.R_reads' HO692.out).2.1); (case side3 => exact Qsc (Kd.R_reads' HO_3.out).2.2); (case side4 => exact (Kd.R_reads' HO_3.out).2.1); rintro e w66 ⟨rfl, hb⟩; refine ⟨_, rfl, ?_⟩; have n0_ := Aside0.mk (Kd.R_below (Qro HO_3.out) hb); have n1_ := Aside0.mk (Kd.R_below (Qro HO692.out) hb); have n2_ := Aside0.mk (below_step (Qaw) hb); clear HO_3; clear HO692; clear HB; have HO_3 := n0_; have HO692 := n1_; have HB := n2_; clear n0_ n1_ n2_; (try clear hb); (try clear hb2); (try clear hk); (try clear hi)))
       go_ret
       exact ⟨by first | rfl | (simp [errW_none, errW_some] <;> rfl) | (simp [*, errW_none, errW_some] <;> rfl), by repeat (first | (with_reducible first | exact HB.out | apply below_alloc | apply pw_below_drewN | apply below_drew1) | exact HB.out)⟩
     ·rw [if_neg c43] at H
      have c43b0 : (t671 == 0) = false := beq_eq_false_iff_ne.mpr c43
      have c43b1 : (t671 != 0) = true := bne_iff_ne.mpr c43
      replace H := Option.bind_eq_some_iff.mp H
      obtain ⟨t696, A670, H⟩ := H
      replace H : (some t696) = some r := H
      have A67 := Aside0.mk A670
      clear A670
      obtain rfl := Option.some.inj H
      go_wp2_with (first | ((with_reducible refine gate_callee (f := 17) rfl ?_); refine goesL_ (some 72) rfl rfl Tryd.func17 (by kernel_rfl) rfl #[] rfl (Qls) ?_; (with_reducible refine (lampblacklaw07_awake.calls (hGL := (Qlg)) kj25  t696 _ A67.out).mono ?_); rintro e w68 ⟨rfl, hb⟩; refine ⟨_, rfl, ?_⟩; have n0_ := Aside0.mk (Kd.R_below (Qro HO_3.out) hb); have n1_ := Aside0.mk (below_step (Qaw) hb); clear HO_3; clear HB; have HO_3 := n0_; have HB := n1_; clear n0_ n1_; (try clear hb); (try clear hb2); (try clear hk); (try clear hi)))
      go_ret
      exact ⟨by first | rfl | (simp [errW_none, errW_some] <;> rfl) | (simp [*, errW_none, errW_some] <;> rfl), by repeat (first | (with_reducible first | exact HB.out | apply below_alloc | apply pw_below_drewN | apply below_drew1) | exact HB.out)⟩
end Go.Proofs.YtjloppfdagfpmaaDoor.X
end
section
/- (minor) Check in plain words: what it accepts are the models; a beginning of any length; a node less and two nodes made one keep a graph a graph. -/
namespace Go.Proofs.YtjloppfdagfpmaaDoor.X
open Go.RowKit YtjloppfdagfpmaaDoorW.PrintWords YtjloppfdagfpmaaDoorW.PrintLast YtjloppfdagfpmaaDoorW.PrintMore YtjloppfdagfpmaaDoor.T
/-! Graphs stay graphs. -/
theorem joinN_adj {n : Nat} {J : List Nat} (h : InN n J) {a v : Nat} (ha : a < n) (hv : v < n) (hav : a ≠ v) (x y : Nat) : Adj (joinN J a v) x y ↔ Adj J x y ∨ (x = a ∧ y = v) ∨ (x = v ∧ y = a) := by
 show bset ((joinN J a v).getD x 0) y ↔ bset (J.getD x 0) y ∨ _
 unfold joinN
 rw [getD_set3 _ _ _ _ (by rw [List.length_set, h.1]; exact hv), getD_set3 _ _ _ _ (by rw [h.1]; exact ha), getD_set3 _ _ _ _ (by rw [h.1]; exact ha), if_neg (show ¬ v = a from fun e => hav e.symm)]
 by_cases h1 : x = v
 ·subst h1
  rw [if_pos rfl, or_bset, two_pow_bit]
  constructor
  ·rintro (h | h)
   ·exact .inl h
   ·exact .inr (.inr ⟨rfl, h⟩)
  ·rintro (h | ⟨h, _⟩ | ⟨_, h⟩)
   ·exact .inl h
   ·exact absurd h.symm hav
   ·exact .inr h
 ·rw [if_neg h1]
  by_cases h2 : x = a
  ·subst h2
   rw [if_pos rfl, or_bset, two_pow_bit]
   constructor
   ·rintro (h | h)
    ·exact .inl h
    ·exact .inr (.inl ⟨rfl, h⟩)
   ·rintro (h | ⟨_, h⟩ | ⟨h, _⟩)
    ·exact .inl h
    ·exact .inr h
    ·exact absurd h hav
  ·rw [if_neg h2]
   exact ⟨.inl, fun h => h.elim id fun h => h.elim (fun h => absurd h.1 h2) fun h => absurd h.1 h1⟩
end Go.Proofs.YtjloppfdagfpmaaDoor.X
end
section
/- What read tells: a graph that is valid, or nothing. -/
namespace Go.Proofs.YtjloppfdagfpmaaDoor.X
open Go.RowKit YtjloppfdagfpmaaDoorW.PrintWords YtjloppfdagfpmaaDoorW.PrintLast YtjloppfdagfpmaaDoorW.PrintMore YtjloppfdagfpmaaDoor.T
theorem read_l1V (g : List Int) (hn : g.length ≤ 9) (i : Nat) (hi : i < g.length) (r : List Int × Bool)
  (hrest : Ev (fun k => width_read.l0 k g (g.length : Int) g (g.length : Int) ((i + 1 : Nat) : Int)) r) :
  ∀ d j, j + d = g.length → Ev (fun k => width_read.l1 k g (g.length : Int) (i : Int) (rd g (i : Int)) g (g.length : Int) (i : Int) (g.length : Int) (j : Int))
   (cond (allFrom (fun j => decide (ibit (rd g (i : Int)) j = ibit (rd g (j : Int)) i)) g.length d j) r (([] : List Int), false)) := by
 intro d
 induction d with
 | zero =>
  intro j hj
  refine Ev.step (fun k => ?_) hrest
  rw [width_read.l1, if_neg (by omega), wrap_succ i (by omega)]
 | succ d ih =>
  intro j hj
  simp only [allFrom]
  by_cases hb : ibit (rd g (i : Int)) j = ibit (rd g (j : Int)) i
  ·refine Ev.step (f := fun k => width_read.l1 k g (g.length : Int) (i : Int) (rd g (i : Int)) g (g.length : Int) (i : Int) (g.length : Int) ((j + 1 : Nat) : Int)) (fun k => ?_) ?_
   ·rw [width_read.l1, if_pos (by omega), if_pos (by omega), if_pos (by omega), if_pos (by omega), wrap_succ j (by omega)]
    exact if_pos hb
   ·have := ih (j + 1) (by omega)
    simpa [hb] using this
  ·refine Ev.step (f := fun _ => some (([] : List Int), false)) (fun k => ?_) (Ev.some (by simp [hb]))
   rw [width_read.l1, if_pos (by omega), if_pos (by omega), if_pos (by omega), if_pos (by omega)]
   exact if_neg hb
theorem read_l0V (g : List Int) (hn : g.length ≤ 9) :
  ∀ d i, i + d = g.length → Ev (fun k => width_read.l0 k g (g.length : Int) g (g.length : Int) (i : Int)) (cond (allFrom (rowOk g) g.length d i) (g, true) (([] : List Int), false)) := by
 intro d
 induction d with
 | zero =>
  intro i hi
  refine Ev.step (f := fun _ => some (g, true)) (fun k => ?_) (Ev.some (by simp [allFrom]))
  rw [width_read.l0, if_neg (by omega)]
 | succ d ih =>
  intro i hi
  have stop : ∀ k, width_read.j2 (k + 1) g (g.length : Int) (i : Int) (rd g (i : Int)) g (g.length : Int) (i : Int) true = some (([] : List Int), false) := fun k => by
   rw [width_read.j2, if_pos rfl]
  simp only [allFrom, rowOk]
  by_cases h1 : rd g (i : Int) < 0
  ·refine Ev.step (fun k => ?_) (f := fun k => width_read.j2 k g (g.length : Int) (i : Int) (rd g (i : Int)) g (g.length : Int) (i : Int) true) ?_
   ·rw [width_read.l0, if_pos (by omega), if_pos (by omega), if_pos (by omega), if_pos h1]
   ·exact Ev.step stop (Ev.some (by simp [h1]))
  ·by_cases h2 : rd g (i : Int) ≥ shl .i64 1 (g.length : Int)
   ·refine Ev.step (fun k => ?_) (f := fun k => width_read.j2 k g (g.length : Int) (i : Int) (rd g (i : Int)) g (g.length : Int) (i : Int) true) ?_
    ·rw [width_read.l0, if_pos (by omega), if_pos (by omega), if_pos (by omega), if_neg h1, if_pos (by omega), if_pos h2]
    ·exact Ev.step stop (Ev.some (by simp [h2]))
   ·refine Ev.step (fun k => ?_) (f := fun k => width_read.j2 k g (g.length : Int) (i : Int) (rd g (i : Int)) g (g.length : Int) (i : Int) (ibit (rd g (i : Int)) i == 1)) ?_
    ·rw [width_read.l0, if_pos (by omega), if_pos (by omega), if_pos (by omega), if_neg h1, if_pos (by omega), if_neg h2]
     rfl
    ·by_cases h3 : (ibit (rd g (i : Int)) i == 1) = true
     ·simp only [h3]
      exact Ev.step stop (Ev.some (by simp))
     ·refine Ev.step (fun k => by rw [width_read.j2, if_neg h3]) ?_
      have := read_l1V g hn i (by omega) _ (ih (i + 1) (by omega)) g.length 0 (by omega)
      have h3' : (ibit (rd g (i : Int)) i == 1) = false := by simpa using h3
      simp only [h1, h2, h3', decide_false, Bool.not_false, Bool.true_and]
      cases h4 : allFrom (fun j => decide (ibit (rd g (i : Int)) j = ibit (rd g (j : Int)) i)) g.length g.length 0
      ·simpa [h4] using this
      ·simpa [h4] using this
theorem read_evV (g : List Int) (hg : g.length < 2 ^ 60) : Ev (fun k => width_read.f k g) (cond (chk 9 g) (g, true) (([] : List Int), false)) := by
 have stop : ∀ k, width_read.j0 (k + 1) g (g.length : Int) true = some (([] : List Int), false) := fun k => by
  rw [width_read.j0, if_pos rfl]
 by_cases h1 : g.length < 1
 ·refine Ev.congr (f := fun k => width_read.j0 k g (g.length : Int) true) (fun k => ?_) (Ev.step stop (Ev.some ?_))
  ·rw [width_read.f, if_pos (by omega)]
  ·have : ¬ 1 ≤ g.length := by omega
   simp [chk, this]
 ·refine Ev.congr (f := fun k => width_read.j0 k g (g.length : Int) (decide ((g.length : Int) > 9))) (fun k => ?_) ?_
  ·rw [width_read.f, if_neg (by omega)]
  ·by_cases h2 : g.length ≤ 9
   ·have e : decide ((g.length : Int) > 9) = false := decide_eq_false (by omega)
    rw [e]
    refine Ev.step (fun k => by rw [width_read.j0, if_neg (by simp)]) ?_
    have := read_l0V g h2 g.length 0 (by omega)
    have h3 : decide (1 ≤ g.length) = true := decide_eq_true (by omega)
    simpa [chk, h2, h3] using this
   ·have e : decide ((g.length : Int) > 9) = true := decide_eq_true (by omega)
    rw [e]
    refine Ev.step stop (Ev.some ?_)
    simp [chk, h2]
end Go.Proofs.YtjloppfdagfpmaaDoor.X
end
section
/- nodes, count, around, part, degree: what they compute, in plain words. -/
namespace Go.Proofs.YtjloppfdagfpmaaDoor.X
open Go.RowKit YtjloppfdagfpmaaDoorW.PrintWords YtjloppfdagfpmaaDoorW.PrintLast YtjloppfdagfpmaaDoorW.PrintMore YtjloppfdagfpmaaDoor.T
theorem nodes_allV : ∀ x : Fin 512, width_nodes.f 12 (x.val : Int) = some (gi (els x.val 9)) := by decide +kernel
theorem nodes_evV (x : Nat) (hx : x < 512) : Ev (fun k => width_nodes.f k (x : Int)) (gi (els x 9)) :=
 Ev.of (width_nodes.mono _) (nodes_allV ⟨x, hx⟩)
theorem count_allV : ∀ x : Fin 512, width_count.f (x.val : Int) = some (pc x.val 9 : Int) := by decide +kernel
theorem count_eqV (x : Nat) (hx : x < 512) : width_count.f (x : Int) = some (pc x 9 : Int) := count_allV ⟨x, hx⟩
theorem smallV (G : List Nat) (h : G.length ≤ 9) {x : Nat} (hx : x < 2 ^ G.length) : x < 512 := Nat.lt_of_lt_of_le hx (show 2 ^ G.length ≤ 2 ^ 9 from Nat.pow_le_pow_right (by omega) h)
theorem bigV {x : Nat} (h : x < 512) : x < 2 ^ 62 := by omega
theorem around_l0V (G : List Nat) (hG : Gr 9 G) (L : List Nat) (hL : ∀ x ∈ L, x < G.length) (hLl : L.length ≤ 100) : ∀ d i (o : Nat), i + d = L.length → o < 2 ^ G.length →
  ∃ r : Nat, Ev (fun k => width_town_around.l0 k (gi G) (o : Int) (gi L) (L.length : Int) (i : Int)) (r : Int) ∧ r < 2 ^ G.length ∧ ∀ j, bset r j ↔ bset o j ∨ ∃ x, x ∈ L.drop i ∧ Adj G x j := by
 intro d
 induction d with
 | zero =>
  intro i o hi ho
  refine ⟨o, Ev.step (f := fun _ => some (o : Int)) (fun k => ?_) (Ev.some rfl), ho, fun j => ?_⟩
  ·rw [width_town_around.l0, if_neg (by omega)]
  ·rw [List.drop_eq_nil_of_le (by omega)]; simp
 | succ d ih =>
  intro i o hi ho
  have hi' : i < L.length := by omega
  have hm := hL _ (List.getElem_mem hi')
  have hr : rd (gi L) (i : Int) = ((L[i] : Nat) : Int) := by rw [rd_gi, List.getD_eq_getElem?_getD, List.getElem?_eq_getElem hi']; rfl
  have hrow := hG.row L[i]
  have ho2 : o ||| G.getD L[i] 0 < 2 ^ G.length := or_lt ho hrow
  obtain ⟨r, h1, h2, h3⟩ := ih (i + 1) (o ||| G.getD L[i] 0) (by omega) ho2
  refine ⟨r, Ev.step (fun k => ?_) h1, h2, fun j => ?_⟩
  ·rw [width_town_around.l0, if_pos (by omega), if_pos (by omega), if_pos (by rw [gi_length]; omega), hr, if_pos (by omega), if_pos (by rw [gi_length]; omega), rd_gi,
    b_or _ _ (bigV (smallV G hG.most ho)) (bigV (smallV G hG.most hrow)), wrap_succ i (by omega)]
  ·rw [h3, or_bset, List.drop_eq_getElem_cons hi']
   constructor
   ·rintro ((h | h) | ⟨x, hx, ha⟩)
    ·exact .inl h
    ·exact .inr ⟨_, List.mem_cons_self, h⟩
    ·exact .inr ⟨x, List.mem_cons_of_mem _ hx, ha⟩
   ·rintro (h | ⟨x, hx, ha⟩)
    ·exact .inl (.inl h)
    ·rcases List.mem_cons.1 hx with h | h
     ·subst h; exact .inl (.inr ha)
     ·exact .inr ⟨x, h, ha⟩
theorem around_evV (G : List Nat) (hG : Gr 9 G) (s : Nat) (hs : s < 2 ^ G.length) : Ev (fun k => width_town_around.f k (gi G) (s : Int)) ((Around G s : Nat) : Int) := by
 have hs5 := smallV G hG.most hs
 obtain ⟨r, h1, h2, h3⟩ := around_l0V G hG (els s 9) (fun x hx => bit_lt hs (mem_els.1 hx).2) (by rw [els_length]; have := pc_le s 9; omega) (els s 9).length 0 0 (by omega) (Nat.two_pow_pos _)
 have e : r = Around G s := eq_of_bits fun j => by
  have hh := h3 j
  rw [Around_bit hG]
  unfold bset at hh
  rw [hh]
  constructor
  ·rintro (h | ⟨x, hx, ha⟩)
   ·simp at h
   ·exact ⟨x, (mem_els.1 hx).2, ha⟩
  ·rintro ⟨x, hx, ha⟩
   exact .inr ⟨x, mem_els.2 ⟨Nat.lt_of_lt_of_le (bit_lt hs hx) hG.most, hx⟩, ha⟩
 subst e
 refine Ev.bind (nodes_evV s hs5) ?_
 rw [gi_length]
 exact h1
theorem part_l0V (G : List Nat) (hG : Gr 9 G) (s w : Nat) (hs : s < 2 ^ G.length) (hw : w < 2 ^ G.length) : ∀ d x, 2 ^ G.length - x = d → x < 2 ^ G.length → (∀ j, bset s j → bset x j) → (∀ j, bset x j → Con (Adj G) (bset w) (bset s) j) →
  Ev (fun k => width_town_part.l0 k (gi G) (x : Int) (w : Int)) ((conset G s w : Nat) : Int) := by
 intro d
 induction d using Nat.strongRecOn with
 | _ d ih =>
  intro x hd hx h1 h2
  have hA := Around_lt hG x
  have hb : Go.bits .or .i64 (x : Int) (Go.bits .and .i64 ((Around G x : Nat) : Int) (w : Int)) = ((x ||| (Around G x &&& w) : Nat) : Int) := by
   rw [b_and _ _ (bigV (smallV G hG.most hA)) (bigV (smallV G hG.most hw)), b_or _ _ (bigV (smallV G hG.most hx)) (Nat.lt_of_le_of_lt Nat.and_le_left (bigV (smallV G hG.most hA)))]
  have hy : x ||| (Around G x &&& w) < 2 ^ G.length := or_lt hx (Nat.lt_of_le_of_lt Nat.and_le_left hA)
  refine Ev.step (fun k => by rw [width_town_part.l0]) (Ev.bind (around_evV G hG x hx) ?_)
  simp only [hb]
  by_cases e : x ||| (Around G x &&& w) = x
  ·refine Ev.if_pos (by rw [e]) (Ev.some ?_)
   congr 1
   refine conset_eq hG hs hx h1 h2 fun i j hi ha hj => ?_
   rw [← e, or_bset, and_bset]
   exact .inr ⟨(Around_bit hG x j).2 ⟨i, hi, ha⟩, hj⟩
  ·refine Ev.if_neg (by omega) ?_
   have hle : x ≤ x ||| (Around G x &&& w) := Nat.left_le_or
   refine ih (2 ^ G.length - (x ||| (Around G x &&& w))) (by omega) _ rfl hy (fun j hj => (or_bset _ _ _).2 (.inl (h1 j hj))) fun j hj => ?_
   rcases (or_bset _ _ _).1 hj with h | h
   ·exact h2 j h
   ·obtain ⟨ha, hw'⟩ := (and_bset _ _ _).1 h
    obtain ⟨i, hi, hij⟩ := (Around_bit hG x j).1 ha
    exact .step (h2 i hi) hij hw'
theorem part_evV (G : List Nat) (hG : Gr 9 G) (s w : Nat) (hs : s < 2 ^ G.length) (hw : w < 2 ^ G.length) : Ev (fun k => width_town_part.f k (gi G) (s : Int) (w : Int)) ((conset G s w : Nat) : Int) :=
 part_l0V G hG s w hs hw _ s rfl hs (fun _ h => h) (fun _ h => .base h)
theorem degree_evV (G : List Nat) (hG : Gr 9 G) (gone v : Nat) (hg : gone < 2 ^ G.length) (hv : v < G.length) :
  Ev (fun k => width_town_degree.f k (gi G) (v : Int) (gone : Int)) ((pc (nbset G gone v) 9 : Nat) : Int) := by
 have hp : 2 ^ v < 2 ^ G.length := Nat.pow_lt_pow_right (by omega) hv
 have hn := hG.most
 have hc := conset_lt G (2 ^ v) (gone ||| 2 ^ v)
 have hA := Around_lt hG (conset G (2 ^ v) (gone ||| 2 ^ v))
 have hd : diff (Around G (conset G (2 ^ v) (gone ||| 2 ^ v))) gone < 2 ^ G.length := Nat.lt_of_le_of_lt (diff_le _ _) hA
 unfold width_town_degree.f
 refine Ev.if_pos (by omega) ?_
 simp only [s_one v (by omega), b_or gone (2 ^ v) (bigV (smallV G hn hg)) (bigV (smallV G hn hp))]
 refine Ev.bind (part_evV G hG _ _ hp (or_lt hg hp)) ?_
 refine Ev.bind (around_evV G hG _ hc) ?_
 simp only [b_andNot _ gone (bigV (smallV G hn hA)) (bigV (smallV G hn hg)), b_andNot _ (2 ^ v) (bigV (smallV G hn hd)) (bigV (smallV G hn hp))]
 exact Ev.bind1 (count_eqV _ (smallV G hn (nbset_lt hG gone v))) (Ev.some rfl)
theorem all_eqV (G : List Nat) (h : G.length ≤ 9) : width_town_all.f (gi G) = some ((2 ^ G.length - 1 : Nat) : Int) := by
 unfold width_town_all.f
 have h1 : 2 ^ G.length ≤ 2 ^ 9 := Nat.pow_le_pow_right (by omega) h
 have h2 := Nat.two_pow_pos G.length
 rw [gi_length, s_one _ (by omega), w64_small _ (by omega) (by omega)]
 congr 1
 omega
end Go.Proofs.YtjloppfdagfpmaaDoor.X
end
section
/- widths, width, Width: the width of a valid graph. -/
namespace Go.Proofs.YtjloppfdagfpmaaDoor.X
open Go.RowKit YtjloppfdagfpmaaDoorW.PrintWords YtjloppfdagfpmaaDoorW.PrintLast YtjloppfdagfpmaaDoorW.PrintMore YtjloppfdagfpmaaDoor.T
def PSV (G : List Nat) (S x : Nat) : Prop := ∀ k, x ≤ k ↔ ElimG G k S
theorem mx_natV (a b : Nat) : mx (a : Int) (b : Int) = ((max a b : Nat) : Int) := by unfold mx; split <;> omega
theorem mn_natV (a b : Nat) : mn (a : Int) (b : Int) = ((min a b : Nat) : Int) := by unfold mn; split <;> omega
def GoodV (G : List Nat) (r : List Int) : Prop := ∃ W : List Nat, r = gi W ∧ W.length = 2 ^ G.length ∧ ∀ S, S < 2 ^ G.length → PSV G S (W.getD S 0)
theorem getD_setV (W : List Nat) (i j x : Nat) (hi : i < W.length) : (W.set i x).getD j 0 = if j = i then x else W.getD j 0 := by
 simp only [List.getD_eq_getElem?_getD, List.getElem?_set]
 by_cases h : i = j
 ·subst h; simp [hi]
 ·rw [if_neg h, if_neg (fun e => h e.symm)]
theorem widths_l1V (G : List Nat) (hG : Gr 9 G) (S : Nat) (hS : S < 2 ^ G.length) (h0 : S ≠ 0)
  (cont : ∀ W : List Nat, W.length = 2 ^ G.length → (∀ T, T < S + 1 → PSV G T (W.getD T 0)) → ∃ r, Ev (fun k => width_town_widths.l0 k (gi G) (gi W) ((S + 1 : Nat) : Int)) r ∧ GoodV G r) :
  ∀ d i (W : List Nat), i + d = (els S 9).length → W.length = 2 ^ G.length → (∀ T, T < S → PSV G T (W.getD T 0)) →
   (∀ k, W.getD S 0 ≤ k ↔ G.length ≤ k ∨ ∃ v, v ∈ (els S 9).take i ∧ ElimG G k (diff S (2 ^ v)) ∧ pc (nbset G (diff S (2 ^ v)) v) 9 ≤ k) →
   ∃ r, Ev (fun k => width_town_widths.l1 k (gi G) (gi W) (S : Int) (gi (els S 9)) ((els S 9).length : Int) (i : Int)) r ∧ GoodV G r := by
 have hS5 := smallV G hG.most hS
 have h29 : 2 ^ G.length ≤ 2 ^ 9 := Nat.pow_le_pow_right (by omega) hG.most
 have hn := hG.most
 have hlen : (els S 9).length ≤ 9 := by rw [els_length]; exact pc_le _ _
 intro d
 induction d with
 | zero =>
  intro i W hi hW hT hc
  have hPS : PSV G S (W.getD S 0) := by
   intro k
   rw [hc k]
   by_cases hk : G.length ≤ k
   ·exact ⟨fun _ => elimG_big hG hk S hS, fun _ => .inl hk⟩
   ·rw [elimG_step hG hS h0]
    have e : (els S 9).take i = els S 9 := List.take_of_length_le (by omega)
    rw [e]
    constructor
    ·rintro (h | ⟨v, hv, h1, h2⟩)
     ·exact (hk h).elim
     ·exact ⟨v, (mem_els.1 hv).2, h1, by rwa [← pc_nine (nbset_lt hG _ _) hn]⟩
    ·rintro ⟨v, hv, h1, h2⟩
     exact .inr ⟨v, mem_els.2 ⟨Nat.lt_of_lt_of_le (bit_lt hS hv) hn, hv⟩, h1, by rwa [pc_nine (nbset_lt hG _ _) hn]⟩
  obtain ⟨r, h1, h2⟩ := cont W hW (fun T hT' => by
   by_cases e : T = S
   ·subst e; exact hPS
   ·exact hT T (by omega))
  refine ⟨r, Ev.step (fun k => ?_) h1, h2⟩
  rw [width_town_widths.l1, if_neg (by omega), wrap_succ S (by omega)]
 | succ d ih =>
  intro i W hi hW hT hc
  have hi' : i < (els S 9).length := by omega
  have hmem := List.getElem_mem hi'
  have hv := (mem_els.1 hmem).2
  have hvn := bit_lt hS hv
  have hr : rd (gi (els S 9)) (i : Int) = (((els S 9)[i] : Nat) : Int) := by rw [rd_gi, List.getD_eq_getElem?_getD, List.getElem?_eq_getElem hi']; rfl
  generalize hev : (els S 9)[i] = v at hr hv hvn hmem
  have hp : 2 ^ v < 2 ^ G.length := Nat.pow_lt_pow_right (by omega) hvn
  have hd : diff S (2 ^ v) < S := diff_lt hv
  have hdl : diff S (2 ^ v) < 2 ^ G.length := by omega
  have hdeg := degree_evV G hG (diff S (2 ^ v)) v hdl hvn
  obtain ⟨r, h1, h2⟩ := ih (i + 1) (W.set S (min (W.getD S 0) (max (W.getD (diff S (2 ^ v)) 0) (pc (nbset G (diff S (2 ^ v)) v) 9)))) (by omega) (by simpa using hW)
   (fun T hT' => by
    rw [getD_setV W _ _ _ (by omega), if_neg (by omega)]
    exact hT T hT')
   (fun k => by
    rw [getD_setV W _ _ _ (by omega), if_pos rfl]
    have hps := hT _ hd k
    have htake : (els S 9).take (i + 1) = (els S 9).take i ++ [v] := by rw [List.take_succ_eq_append_getElem hi', hev]
    rw [htake]
    constructor
    ·intro h
     by_cases hk : W.getD S 0 ≤ k
     ·rcases (hc k).1 hk with h | ⟨u, hu, h3⟩
      ·exact .inl h
      ·exact .inr ⟨u, List.mem_append_left _ hu, h3⟩
     ·refine .inr ⟨v, List.mem_append_right _ (List.mem_singleton.2 rfl), hps.1 (by omega), by omega⟩
    ·rintro (h | ⟨u, hu, h3, h4⟩)
     ·have := (hc k).2 (.inl h); omega
     ·rcases List.mem_append.1 hu with hu | hu
      ·have := (hc k).2 (.inr ⟨u, hu, h3, h4⟩); omega
      ·obtain rfl := List.mem_singleton.1 hu
       have := hps.2 h3
       omega)
  refine ⟨r, Ev.step (f := fun k => (width_town_degree.f k (gi G) (v : Int) ((diff S (2 ^ v) : Nat) : Int)).bind fun t => width_town_widths.l1 k (gi G) ((gi W).set (S : Int).toNat (mn (rd (gi W) (S : Int)) (mx (rd (gi W) ((diff S (2 ^ v) : Nat) : Int)) t))) (S : Int) (gi (els S 9)) ((els S 9).length : Int) ((i + 1 : Nat) : Int)) (fun k => ?_) (Ev.bind hdeg ?_), h2⟩
  ·rw [width_town_widths.l1, if_pos (by omega), if_pos (by omega), if_pos (by rw [gi_length]; omega), if_pos (by omega), if_pos (by rw [gi_length]; omega), hr, if_pos (by omega), s_one v (by omega),
    b_andNot S (2 ^ v) (bigV hS5) (bigV (smallV G hn hp)), if_pos (by omega), if_pos (by rw [gi_length]; omega), wrap_succ i (by omega)]
  ·simp only [rd_gi, mx_natV, mn_natV, Int.toNat_natCast, gi_set]
   exact h1
theorem widths_l0V (G : List Nat) (hG : Gr 9 G) : ∀ d S (W : List Nat), S + d = 2 ^ G.length → 0 < S → W.length = 2 ^ G.length → (∀ T, T < S → PSV G T (W.getD T 0)) →
  ∃ r, Ev (fun k => width_town_widths.l0 k (gi G) (gi W) (S : Int)) r ∧ GoodV G r := by
 have h29 : 2 ^ G.length ≤ 2 ^ 9 := Nat.pow_le_pow_right (by omega) hG.most
 intro d
 induction d with
 | zero =>
  intro S W hS h0 hW hT
  refine ⟨gi W, Ev.step (f := fun _ => some (gi W)) (fun k => ?_) (Ev.some rfl), W, rfl, hW, fun T h => hT T (by omega)⟩
  rw [width_town_widths.l0, if_neg (by rw [gi_length]; omega)]
 | succ d ih =>
  intro S W hS h0 hW hT
  have hSn : S < 2 ^ G.length := by omega
  have hS5 := smallV G hG.most hSn
  obtain ⟨r, h1, h2⟩ := widths_l1V G hG S hSn (by omega) (fun W' hW' hT' => ih (S + 1) W' (by omega) (by omega) hW' hT') (els S 9).length 0 (W.set S G.length) (by omega) (by simpa using hW)
   (fun T hT' => by
    rw [getD_setV W _ _ _ (by omega), if_neg (by omega)]
    exact hT T hT')
   (fun k => by
    rw [getD_setV W _ _ _ (by omega), if_pos rfl]
    simp)
  refine ⟨r, Ev.step (fun k => by rw [width_town_widths.l0, if_pos (by rw [gi_length]; omega), if_pos (by omega)]) (Ev.bind (nodes_evV S hS5) ?_), h2⟩
  simp only [Int.toNat_natCast, gi_length]
  have e : (gi W).set S (G.length : Int) = gi (W.set S G.length) := gi_set W S G.length
  rw [e]
  exact h1
theorem widths_evV (G : List Nat) (hG : Gr 9 G) : ∃ r, Ev (fun k => width_town_widths.f k (gi G)) r ∧ GoodV G r := by
 have h29 : 2 ^ G.length ≤ 2 ^ 9 := Nat.pow_le_pow_right (by omega) hG.most
 have h2p := Nat.two_pow_pos G.length
 have hn := hG.most
 obtain ⟨r, h1, h2⟩ := widths_l0V G hG (2 ^ G.length - 1) 1 (List.replicate (2 ^ G.length) 0) (by omega) (by omega) (by simp)
  (fun T hT k => by
   have : T = 0 := by omega
   subst this
   have e : (List.replicate (2 ^ G.length) 0).getD 0 0 = 0 := by
    rw [List.getD_eq_getElem?_getD, List.getElem?_replicate]; split <;> rfl
   rw [e]
   exact ⟨fun _ => elimG_zero G k, fun _ => Nat.zero_le k⟩)
 refine ⟨r, Ev.congr (fun k => ?_) h1, h2⟩
 unfold width_town_widths.f
 rw [gi_length, s_one _ (by omega), if_pos (by omega), Int.toNat_natCast, if_pos (by omega)]
 have e : List.replicate (2 ^ G.length) (0 : Int) = gi (List.replicate (2 ^ G.length) 0) := by simp [gi]
 rw [e]
 rfl
theorem width_evV (G : List Nat) (hG : Gr 9 G) : ∃ W : Nat, IsWidth G W ∧ Ev (fun k => width_town_width.f k (gi G)) (W : Int) := by
 have h2p := Nat.two_pow_pos G.length
 obtain ⟨r, h1, W, rfl, hW, hg⟩ := widths_evV G hG
 refine ⟨W.getD (2 ^ G.length - 1) 0, hg _ (by omega), ?_⟩
 unfold width_town_width.f
 refine Ev.bind h1 (Ev.bind1 (all_eqV G hG.most) ?_)
 refine Ev.if_pos (by omega) (Ev.if_pos (by rw [gi_length]; omega) (Ev.some ?_))
 rw [rd_gi]
theorem Width_evV (G : List Nat) (hG : Gr 9 G) : ∃ W : Nat, IsWidth G W ∧ Ev (fun k => width_Width.f k (gi G)) ((W : Int), 0) := by
 obtain ⟨W, h1, h2⟩ := width_evV G hG
 have hc : chk 9 (gi G) = true := (chk_iff 9 (by omega) _).2 ⟨G, rfl, hG⟩
 have hr := read_evV (gi G) (by rw [gi_length]; have := hG.most; omega)
 rw [hc] at hr
 refine ⟨W, h1, ?_⟩
 unfold width_Width.f
 exact Ev.bind hr (Ev.if_pos rfl (Ev.bind h2 (Ev.some rfl)))
end Go.Proofs.YtjloppfdagfpmaaDoor.X
end
section
/- MinorSeries, without Go and memory: exactly one of Reduce and a model of K(4) is there; Reduce is OK exactly if the width is at most 2, and CheckReduce accepts it. -/
namespace Go.Proofs.YtjloppfdagfpmaaDoor.Pure
open Go.RowKit YtjloppfdagfpmaaDoorW.PrintWords YtjloppfdagfpmaaDoorW.PrintLast YtjloppfdagfpmaaDoorW.PrintMore YtjloppfdagfpmaaDoor.T YtjloppfdagfpmaaDoor.X
def AL (J : List Nat) (left x y : Nat) : Prop := bset left x ∧ bset left y ∧ Adj J x y
structure RInv (n : Nat) (J : List Nat) (left : Nat) : Prop where
 inn : InN n J
 lt : left < 2 ^ n
 sym : ∀ x y, bset left x → bset left y → Adj J x y → Adj J y x
 irr : ∀ x, bset left x → ¬ Adj J x x
theorem RInv.alsym {n : Nat} {J : List Nat} {left : Nat} (h : RInv n J left) (x y : Nat) (ha : AL J left x y) : AL J left y x := ⟨ha.2.1, ha.1, h.sym x y ha.1 ha.2.1 ha.2.2⟩
theorem RInv.alirr {n : Nat} {J : List Nat} {left : Nat} (h : RInv n J left) (x : Nat) (ha : AL J left x x) : False := h.irr x ha.1 ha.2.2
theorem mem_near {n : Nat} {J : List Nat} {left : Nat} (h : RInv n J left) (hn : n ≤ 9) {v y : Nat} (hv : bset left v) : y ∈ nearL J left v ↔ AL J left v y := by
 unfold nearL
 rw [mem_els, Nat.testBit_and, Bool.and_eq_true]
 constructor
 ·rintro ⟨_, h1, h2⟩
  exact ⟨hv, h2, h1⟩
 ·rintro ⟨_, h2, h1⟩
  exact ⟨Nat.lt_of_lt_of_le (bit_lt h.lt h2) hn, h1, h2⟩
theorem near_nodup (J : List Nat) (left v : Nat) : (nearL J left v).Nodup := els_nodup _ _
theorem near_atMost {n : Nat} {J : List Nat} {left : Nat} (h : RInv n J left) (hn : n ≤ 9) {v : Nat} (hv : bset left v) : AtMost 2 (AL J left v) ↔ (nearL J left v).length ≤ 2 := by
 constructor
 ·rintro ⟨l, hl, hm⟩
  exact Nat.le_trans (nodup_le (near_nodup J left v) fun y hy => hm y ((mem_near h hn hv).1 hy)) hl
 ·intro hl
  exact ⟨_, hl, fun u hu => (mem_near h hn hv).2 hu⟩
theorem diff_bit (left v x : Nat) : bset (diff left (2 ^ v)) x ↔ bset left x ∧ x ≠ v := by
 rw [diff_bset, two_pow_bit]
theorem step_fil {n : Nat} {J : List Nat} {left : Nat} (h : RInv n J left) (hn : n ≤ 9) {v : Nat} (hv : bset left v) (h2 : (nearL J left v).length ≤ 2) :
  RInv n (nextJ J left v) (diff left (2 ^ v)) ∧ ∀ x y, AL (nextJ J left v) (diff left (2 ^ v)) x y ↔ Fil (AL J left) v x y := by
 have hlt : diff left (2 ^ v) < 2 ^ n := Nat.lt_of_le_of_lt (diff_le _ _) h.lt
 have key : ∀ (J' : List Nat), InN n J' → (∀ x y, bset left x → bset left y → x ≠ v → y ≠ v → (Adj J' x y ↔ Adj J x y ∨ (x ≠ y ∧ AL J left x v ∧ AL J left v y))) → RInv n J' (diff left (2 ^ v)) ∧ ∀ x y, AL J' (diff left (2 ^ v)) x y ↔ Fil (AL J left) v x y := by
  intro J' hi hA
  refine ⟨⟨hi, hlt, fun x y hx hy ha => ?_, fun x hx ha => ?_⟩, fun x y => ?_⟩
  ·rw [diff_bit] at hx hy
   rcases (hA x y hx.1 hy.1 hx.2 hy.2).1 ha with h1 | ⟨h1, h3, h4⟩
   ·exact (hA y x hy.1 hx.1 hy.2 hx.2).2 (.inl (h.sym x y hx.1 hy.1 h1))
   ·exact (hA y x hy.1 hx.1 hy.2 hx.2).2 (.inr ⟨fun e => h1 e.symm, h.alsym _ _ h4, h.alsym _ _ h3⟩)
  ·rw [diff_bit] at hx
   rcases (hA x x hx.1 hx.1 hx.2 hx.2).1 ha with h1 | ⟨h1, _⟩
   ·exact h.irr x hx.1 h1
   ·exact h1 rfl
  ·unfold AL Fil
   rw [diff_bit, diff_bit]
   constructor
   ·rintro ⟨hx, hy, ha⟩
    rcases (hA x y hx.1 hy.1 hx.2 hy.2).1 ha with h1 | ⟨h1, h3, h4⟩
    ·exact ⟨fun e => h.irr x hx.1 (e ▸ h1), hx.2, hy.2, .inl ⟨hx.1, hy.1, h1⟩⟩
    ·exact ⟨h1, hx.2, hy.2, .inr ⟨h3, h4⟩⟩
   ·rintro ⟨h1, hxv, hyv, ⟨hx, hy, ha⟩ | ⟨h3, h4⟩⟩
    ·exact ⟨⟨hx, hxv⟩, ⟨hy, hyv⟩, (hA x y hx hy hxv hyv).2 (.inl ha)⟩
    ·exact ⟨⟨h3.1, hxv⟩, ⟨h4.2.1, hyv⟩, (hA x y h3.1 h4.2.1 hxv hyv).2 (.inr ⟨h1, h3, h4⟩)⟩
 have hmem : ∀ y, y ∈ nearL J left v ↔ AL J left v y := fun y => mem_near h hn hv
 have hnd := near_nodup J left v
 have hin : ∀ y, y ∈ nearL J left v → y < n := fun y hy => bit_lt h.lt ((hmem y).1 hy).2.1
 unfold nextJ
 match hL : nearL J left v, h2 with
 | [], _ =>
  refine key J h.inn fun x y hx hy hxv hyv => ⟨.inl, fun hh => hh.elim id fun ⟨_, h3, h4⟩ => ?_⟩
  have := (hmem y).2 h4
  rw [hL] at this; cases this
 | [a], _ =>
  refine key J h.inn fun x y hx hy hxv hyv => ⟨.inl, fun hh => hh.elim id fun ⟨h1, h3, h4⟩ => ?_⟩
  have q1 := (hmem y).2 h4
  have q2 := (hmem x).2 (h.alsym _ _ h3)
  rw [hL] at q1 q2
  exact absurd ((List.mem_singleton.1 q2).trans (List.mem_singleton.1 q1).symm) h1
 | [a, b], _ =>
  have ha : a ∈ nearL J left v := by rw [hL]; simp
  have hb : b ∈ nearL J left v := by rw [hL]; simp
  have hab : a ≠ b := by rw [hL] at hnd; simp at hnd; exact hnd
  refine key (joinN J a b) (h.inn.join (hin a ha) (hin b hb)) fun x y hx hy hxv hyv => ?_
  rw [joinN_adj h.inn (hin a ha) (hin b hb) hab]
  constructor
  ·rintro (h1 | ⟨rfl, rfl⟩ | ⟨rfl, rfl⟩)
   ·exact .inl h1
   ·exact .inr ⟨hab, h.alsym _ _ ((hmem _).1 ha), (hmem _).1 hb⟩
   ·exact .inr ⟨fun e => hab e.symm, h.alsym _ _ ((hmem _).1 hb), (hmem _).1 ha⟩
  ·rintro (h1 | ⟨h1, h3, h4⟩)
   ·exact .inl h1
   ·have q1 := (hmem y).2 h4
    have q2 := (hmem x).2 (h.alsym _ _ h3)
    rw [hL] at q1 q2
    simp only [List.mem_cons, List.not_mem_nil, or_false] at q1 q2
    rcases q1 with rfl | rfl <;> rcases q2 with rfl | rfl
    ·exact absurd rfl h1
    ·exact .inr (.inr ⟨rfl, rfl⟩)
    ·exact .inr (.inl ⟨rfl, rfl⟩)
    ·exact absurd rfl h1
 | a :: b :: c :: r, h2 => simp at h2
theorem red_spec {n : Nat} (hn : n ≤ 9) : ∀ (k : Nat) (J : List Nat) (left : Nat) (acc : List S95), RInv n J left → pc left 9 < k →
  (∃ T, redN k J left acc = (acc ++ T, 0) ∧ ckR n T J left = true ∧ T.length = pc left 9 ∧ Elim (bset left) (AL J left) 2 (bset left)) ∨ ((redN k J left acc) = ([], 4) ∧ Mnr (bset left) (AL J left) 4 (fun i j => i ≠ j))
 | 0, J, left, acc, _, hk => by omega
 | k + 1, J, left, acc, h, hk => by
  by_cases h0 : left = 0
  ·subst h0
   refine .inl ⟨[], by simp [redN], by simp [ckR], ?_, ?_⟩
   ·show 0 = pc 0 9
    rfl
   ·refine Elim.nil.ext fun u => ?_
    simp [bset]
  ·have hr : redN (k + 1) J left acc = match pick J left with
    | none => ([], 4)
    | some v => redN k (nextJ J left v) (diff left (2 ^ v)) (acc ++ [stepS J left v]) := by
    rw [redN, if_neg h0]
    rfl
   rw [hr]
   cases hp : pick J left with
   | none =>
    refine .inr ⟨rfl, ?_⟩
    unfold pick at hp
    have hp := List.find?_eq_none.1 hp
    have hV : (fun x => x ∈ els left 9) = bset left := funext fun x => propext ⟨fun hx => (mem_els.1 hx).2, fun hx => mem_els.2 ⟨Nat.lt_of_lt_of_le (bit_lt h.lt hx) hn, hx⟩⟩
    rw [← hV]
    have hne : els left 9 ≠ [] := by
     obtain ⟨v, hv⟩ := some_bit h0
     exact List.ne_nil_of_mem (mem_els.2 ⟨Nat.lt_of_lt_of_le (bit_lt h.lt hv) hn, hv⟩)
    refine deg3_k4 _ (els left 9) (AL J left) rfl hne h.alsym (fun x hx => h.alirr x hx) (fun x y hx => mem_els.2 ⟨Nat.lt_of_lt_of_le (bit_lt h.lt hx.1) hn, hx.1⟩) fun x hx hat => ?_
    have := (near_atMost h hn (mem_els.1 hx).2).1 hat
    have h3 := hp x hx
    simp at h3
    omega
   | some v =>
    unfold pick at hp
    have h2 : (nearL J left v).length ≤ 2 := by
     have := List.find?_some (p := fun v => decide ((nearL J left v).length ≤ 2)) hp
     simpa using this
    have hvm := (mem_els.1 (List.mem_of_find?_eq_some hp)).2
    obtain ⟨hinv, hfil⟩ := step_fil h hn hvm h2
    have hv9 : v < 9 := Nat.lt_of_lt_of_le (bit_lt h.lt hvm) hn
    have hpc := diff_pc9 hvm hv9
    have hfe : AL (nextJ J left v) (diff left (2 ^ v)) = Fil (AL J left) v := funext fun x => funext fun y => propext (hfil x y)
    have hse : bset (diff left (2 ^ v)) = fun x => bset left x ∧ x ≠ v := funext fun x => propext (diff_bit left v x)
    have hat := (near_atMost h hn hvm).2 h2
    rcases red_spec hn k (nextJ J left v) (diff left (2 ^ v)) (acc ++ [stepS J left v]) hinv (by omega) with ⟨T, e1, e2, e3, e4⟩ | ⟨e1, e2⟩
    ·refine .inl ⟨stepS J left v :: T, by show redN k (nextJ J left v) (diff left (2 ^ v)) (acc ++ [stepS J left v]) = _; rw [e1]; simp, ?_, by simp; omega, ?_⟩
     ·have hvn := bit_lt h.lt hvm
      have hvb : left.testBit v = true := hvm
      simp [ckR, stepS, hvb, h2, e2, eqS, hvn]
     ·rw [hfe, hse] at e4
      refine (elim_fil (fun x hx => h.alirr x hx) hvm hat e4).ext fun u => ?_
      by_cases e : u = v
      ·subst e; exact ⟨fun _ => hvm, fun _ => .inr rfl⟩
      ·simp [e]
    ·refine .inr ⟨(show redN k (nextJ J left v) (diff left (2 ^ v)) (acc ++ [stepS J left v]) = _ from e1), ?_⟩
     rw [hfe, hse] at e2
     exact fil_mnr h.alsym (fun x hx => h.alirr x hx) hvm hat e2
theorem Reduce_eq {G : List Nat} (hG : Gr 8 G) : minor_Reduce.f (gi G) = some (redN 10 G (2 ^ G.length - 1) []) := by
 have h1 := hG.most
 unfold minor_Reduce.f
 rw [gi_length, if_pos (by omega), (chk_iff 8 (by omega) _).2 ⟨G, rfl, hG⟩, gi_toNat]
 rfl
theorem Greatest_bad2 (g : List Int) (hl : g.length < 1000) (h : chk 8 g = false) : minor_Greatest.f g = some (0, 2) := by
 unfold minor_Greatest.f
 rw [if_pos hl, h]
 rfl
theorem Reduce_bad (g : List Int) (hl : g.length < 1000) (h : chk 8 g = false) : minor_Reduce.f g = some ([], 2) := by
 unfold minor_Reduce.f
 rw [if_pos hl, h]
 rfl
theorem all_inv {G : List Nat} (hG : Gr 8 G) : RInv G.length G (2 ^ G.length - 1) := by
 have := Nat.two_pow_pos G.length
 exact ⟨gr_in hG, by omega, fun x y _ _ h => hG.adj_symm h, fun x _ h => hG.adj_irr h⟩
theorem series_law (g : List Int) (hg : g.length < 2 ^ 44) : Ev (fun k => lampblacklaw07_MinorSeries.f k g) true := by
 obtain ⟨h, e, e1, e2, e3⟩ := few_eq g hg
 unfold lampblacklaw07_MinorSeries.f
 refine Ev.bind1 e ?_
 by_cases hc : chk 8 g = true
 ·obtain ⟨G, rfl, hG⟩ := (chk_iff 8 (by omega) _).1 hc
  rw [e1 hc] at e ⊢
  have hG9 := gr_mono hG (show 8 ≤ 9 by omega)
  have hn := hG.most
  obtain ⟨W, hW, hWe⟩ := Width_evV G hG9
  have hWI := isWidth_iff.1 hW
  obtain ⟨b, hb, hbm⟩ := has_eq hG (kN_gr (n := 4) (by omega) (by omega))
  rw [mnr_k] at hbm
  have h2n := Nat.two_pow_pos G.length
  have hall : bset (2 ^ G.length - 1) = fun x => x < G.length := funext fun x => propext (all_bit G.length x)
  have hAL : AL G (2 ^ G.length - 1) = Adj G := funext fun x => funext fun y => propext ⟨fun h => h.2.2, fun h => ⟨(all_bit _ _).2 (hG.adj_lt' h), (all_bit _ _).2 (hG.adj_lt h), h⟩⟩
  have hpc : pc (2 ^ G.length - 1) 9 = G.length := by
   rw [pc_nine (show 2 ^ G.length - 1 < 2 ^ G.length by omega) (by omega)]
   have : ∀ m, m ≤ G.length → pc (2 ^ G.length - 1) m = m := by
    intro m
    induction m with
    | zero => intro _; rfl
    | succ m ih =>
     intro hm
     simp only [pc]
     have hb : (2 ^ G.length - 1).testBit m = true := (all_bit G.length m).2 (by omega)
     rw [ih (by omega), hb]
     rfl
   exact this _ (Nat.le_refl _)
  have hspec := red_spec (n := G.length) (by omega) 10 G (2 ^ G.length - 1) [] (all_inv hG) (by omega)
  rw [hall, hAL] at hspec
  rcases hspec with ⟨T, t1, t2, t3, t4⟩ | ⟨t1, t2⟩
  ·rw [List.nil_append] at t1
   have hW2 : W ≤ 2 := (hWI 2).2 t4
   have hbf : b = false := by
    cases hb' : b
    ·rfl
    ·have := clique_width t4 (hbm.1 hb')
     omega
   subst hbf
   rw [hpc] at t3
   have hck : minor_CheckReduce.f (gi G) T = some (true, 0) := by
    unfold minor_CheckReduce.f
    rw [gi_length, if_pos ⟨by omega, by omega⟩, (chk_iff 8 (by omega) _).2 ⟨G, rfl, hG⟩, gi_toNat, t2]
    rfl
   refine Ev.bind1 (by rw [Reduce_eq hG, t1]) (Ev.if_neg (by simp) (Ev.bind (refK_ev (n := 4) (by omega) (by omega)) (Ev.bind1 hb (Ev.bind1 e (Ev.bind hWe (Ev.if_pos rfl (Ev.if_pos rfl (Ev.if_pos rfl (Ev.if_neg (by simp) ?_)))))))))
   have hd : (((0 : Int) == 0) != decide ((W : Int) ≤ 2)) = false := by
    rw [decide_eq_true (by omega : (W : Int) ≤ 2)]
    rfl
   rw [hd]
   refine Ev.step (fun k => by rw [lampblacklaw07_MinorSeries.j0, if_neg (by simp), if_pos rfl, e, Option.bind_some, hck, Option.bind_some, if_pos rfl, if_pos rfl, if_pos (by rw [gi_length, t3])]) (Ev.bind awake_ev (Ev.some rfl))
  ·have hbt : b = true := hbm.2 t2
   subst hbt
   have hW3 : ¬ W ≤ 2 := fun hle => by
    have := clique_width ((hWI 2).1 hle) t2
    omega
   refine Ev.bind1 (by rw [Reduce_eq hG, t1]) (Ev.if_neg (by simp) (Ev.bind (refK_ev (n := 4) (by omega) (by omega)) (Ev.bind1 hb (Ev.bind1 e (Ev.bind hWe (Ev.if_pos rfl (Ev.if_pos rfl (Ev.if_neg (by simp) (Ev.if_pos rfl (Ev.if_neg (by simp) ?_))))))))))
   have hd : (((4 : Int) == 0) != decide ((W : Int) ≤ 2)) = false := by
    rw [decide_eq_false (by omega : ¬ (W : Int) ≤ 2)]
    rfl
   rw [hd]
   exact Ev.step (fun k => by rw [lampblacklaw07_MinorSeries.j0, if_neg (by simp), if_neg (by simp)]) (Ev.bind awake_ev (Ev.some rfl))
 ·have hc' : chk 8 g = false := by simpa using hc
  exact Ev.bind1 (Reduce_bad h (by omega) (e2 hc')) (Ev.if_pos rfl (Ev.bind1 e (Ev.bind1 (Greatest_bad2 h (by omega) (e2 hc')) (Ev.if_pos rfl (Ev.bind awake_ev (Ev.some rfl))))))
theorem MinorSeries : ∀ (l0 : List Int), l0.length ≤ maxLen → l0.length * 8 ≤ 140737488351232 → (∀ x ∈ l0, (Lit.int .i64 x).wf = true) → ∃ k, lampblacklaw07_MinorSeries.f k l0 = some true := by
 intro g _ hg _
 exact Ev.rounds (series_law g (by omega))
end Go.Proofs.YtjloppfdagfpmaaDoor.Pure
end
