/- Part 1 of what MinorGreatest rests on: contracts of the functions that it reaches, and what they compute, in plain words. -/
import Derived.Test.YtjloppfdagfpmaaDoorZMinorGreatest0
import Derived.ArgAppend
set_option linter.unusedVariables false
set_option linter.unusedSimpArgs false
section
namespace Go.Proofs.YtjloppfdagfpmaaDoor.X
open Go.RowKit YtjloppfdagfpmaaDoorW.PrintWords YtjloppfdagfpmaaDoorW.PrintLast YtjloppfdagfpmaaDoorW.PrintMore
attribute [local go_sem] max2_int min2_int max_two min_two max_three min_three max_four min_four
/-! ### minor_read: function 63 -/
mutual
def minor_read.j0 : Nat → List Int → Int → Bool → Option (List Int × Bool)
 | 0, _, _, _ => none
 | k + 1, x0, x6, x18 => if x18 = true then (some (([] : List Int), false)) else (minor_read.l0 k x0 x6 x0 (x0.length : Int) 0)
def minor_read.l0 : Nat → List Int → Int → List Int → Int → Int → Option (List Int × Bool)
 | 0, _, _, _, _, _ => none
 | k + 1, x0, x6, x19, x20, x21 => if x21 < x20 then (if 0 ≤ x21 then (if x21 < (x19.length : Int) then (if (rd x19 x21) < 0 then (minor_read.j2 k x0 x6 x21 (rd x19 x21) x19 x20 x21 true) else (if 0 ≤ x6 then (if (rd x19 x21) ≥ (shl .i64 1 x6) then (minor_read.j2 k x0 x6 x21 (rd x19 x21) x19 x20 x21 true) else (minor_read.j2 k x0 x6 x21 (rd x19 x21) x19 x20 x21 ((Go.bits .and .i64 (shr .i64 (rd x19 x21) x21) 1) == 1))) else (none))) else (none)) else (none)) else (some (x0, true))
def minor_read.j2 : Nat → List Int → Int → Int → Int → List Int → Int → Int → Bool → Option (List Int × Bool)
 | 0, _, _, _, _, _, _, _, _ => none
 | k + 1, x0, x6, x7, x8, x19, x20, x21, x40 => if x40 = true then (some (([] : List Int), false)) else (minor_read.l1 k x0 x6 x7 x8 x19 x20 x21 x6 0)
def minor_read.l1 : Nat → List Int → Int → Int → Int → List Int → Int → Int → Int → Int → Option (List Int × Bool)
 | 0, _, _, _, _, _, _, _, _, _ => none
 | k + 1, x0, x6, x7, x8, x19, x20, x21, x41, x42 => if x42 < x41 then (if 0 ≤ x42 then (if x42 < (x0.length : Int) then (if 0 ≤ x7 then (if (Go.bits .and .i64 (shr .i64 x8 x42) 1) = (Go.bits .and .i64 (shr .i64 (rd x0 x42) x7) 1) then (minor_read.l1 k x0 x6 x7 x8 x19 x20 x21 x41 (wrap64 (x42 + 1))) else (some (([] : List Int), false))) else (none)) else (none)) else (none)) else (minor_read.l0 k x0 x6 x19 x20 (wrap64 (x21 + 1)))
end
def minor_read.f (k : Nat) (l0 : List Int) (a1 : Int) : Option (List Int × Bool) := if (l0.length : Int) < 1 then (minor_read.j0 k l0 (l0.length : Int) true) else (minor_read.j0 k l0 (l0.length : Int) (decide ((l0.length : Int) > a1)))
set_option maxHeartbeats 8000000 in
set_option maxRecDepth 100000 in
theorem minor_read.calls (k : Nat) (P0_ : Nat → Prop) (A0 : Option Addr) (c0 : Nat) (l0 : List Int) (a1 : Int) (r1 : List Int) (r2 : Bool) (w : World) (hs0 : Kd.V (Kd.int .i64) 3 w w.heap.size (fun k_ => P0_ k_) (.slice A0 l0.length c0) l0) (h : minor_read.f k l0 a1 = some (r1, r2)) :
  Calls Tryd.prog 63 #[.slice A0 l0.length c0, .int .i64 a1] w fun e w' => ∃ v0_ : Value, e = .returned (.tuple #[v0_, .bool r2]) ∧ Kd.V (Kd.int .i64) 3 w' w.heap.size (fun k_ => (P0_ k_ ∨ w.heap.size ≤ k_)) v0_ r1 ∧ Below w.heap.size w w' := by
 have HO0 := Aside0.mk (show Kd.V (Kd.int .i64) 3 w w.heap.size (fun k_ => (P0_ k_ ∨ w.heap.size ≤ k_)) (.slice A0 l0.length c0) l0 from Kd.V_mono hs0 (fun k_ hk => .inl hk))
 have HB := Aside0.mk (Below.refl w.heap.size w)
 have H : (if (l0.length : Int) < 1 then (minor_read.j0 k l0 (l0.length : Int) true) else (minor_read.j0 k l0 (l0.length : Int) (decide ((l0.length : Int) > a1)))) = some (r1, r2) := h
 clear h
 have HC3 := Aside0.mk H
 clear H
 go_enter Tryd.func63, Tryd.ntmps63
 go_upto_region 2 with (fail)
 repeat (go_quiet (fail); go_upto_region 2 with (fail))
 go_cut [18] (fun v18 wc => ∃ (kq : Nat) (x18_2 : Bool), v18 = .bool x18_2 ∧ Aside0 (minor_read.j0 kq l0 (l0.length : Int) x18_2 = some (r1, r2)) ∧ Aside0 (kq ≤ k) ∧ Aside0 (Kd.V (Kd.int .i64) 3 wc w.heap.size (fun k_ => (P0_ k_ ∨ w.heap.size ≤ k_)) (.slice A0 l0.length c0) l0) ∧ Aside0 (Below w.heap.size w wc))
 case first =>
  have H := HC3.out
  clear HC3
  by_cases c4 : (l0.length : Int) < 1
  ·rw [if_pos c4] at H
   have c4b0 : decide ((l0.length : Int) < 1) = true := decide_eq_true c4
   have c4b1 : decide (l0.length < 1) = true := decide_eq_true (by omega)
   clear c4
   (first | rw [c4b0] | (simp only [i64_w, i32_w]; rw [c4b0]) | skip)
   have H' := Aside0.mk H
   clear H
   go_wp2
   repeat (go_quiet (fail); try go_wp2)
   go_meet
   case rel => exact ⟨_, (true), (by first | rfl | (simp; done) | (simp [*]; done)), H', ⟨by first | omega | exact Nat.le_refl _⟩, ⟨by (with_reducible repeat (first | apply Kd.V_alloc | apply Kd.V_drewN | apply Kd.V_drew)); exact HO0.out⟩, ⟨by repeat (first | (with_reducible first | exact HB.out | apply below_alloc | apply pw_below_drewN | apply below_drew1) | exact HB.out)⟩⟩
  ·rw [if_neg c4] at H
   have c4b0 : decide ((l0.length : Int) < 1) = false := decide_eq_false c4
   have c4b1 : decide (l0.length < 1) = false := decide_eq_false (by omega)
   clear c4
   (first | rw [c4b0] | (simp only [i64_w, i32_w]; rw [c4b0]) | skip)
   have H' := Aside0.mk H
   clear H
   go_wp2
   repeat (go_quiet (fail); try go_wp2)
   go_meet
   case rel => exact ⟨_, (decide ((l0.length : Int) > a1)), (by first | rfl | (simp; done) | (simp [*]; done)), H', ⟨by first | omega | exact Nat.le_refl _⟩, ⟨by (with_reducible repeat (first | apply Kd.V_alloc | apply Kd.V_drewN | apply Kd.V_drew)); exact HO0.out⟩, ⟨by repeat (first | (with_reducible first | exact HB.out | apply below_alloc | apply pw_below_drewN | apply below_drew1) | exact HB.out)⟩⟩
 case rest =>
  clear HC3
  try clear p2
  try clear c4
  try clear c4b0
  try clear c4b1
  obtain ⟨kq, x18_2, rfl, HA, HJ2, HO_0, HB⟩ := hcut
  cases kq with
  | zero => exact absurd HA.out (by simp [minor_read.j0])
  | succ kj2 =>
   have H := HA.out
   clear HA
   simp only [minor_read.j0] at H
   by_cases c5 : x18_2 = true
   ·subst c5
    have H1 : (some (([] : List Int), false)) = some (r1, r2) := by rw [if_pos rfl] at H; exact H
    clear H
    have H := H1
    clear H1
    simp only [Option.some.injEq, Prod.mk.injEq] at H
    obtain ⟨rfl, rfl⟩ := H
    go_wp2
    repeat (go_quiet (fail); try go_wp2)
    go_ret2
    exact ⟨_, by first | rfl | (simp [errW_none, errW_some] <;> rfl) | (simp [*, errW_none, errW_some] <;> rfl), Kd.V_nil _ _ _ _ _, by repeat (first | (with_reducible first | exact HB.out | apply below_alloc | apply pw_below_drewN | apply below_drew1) | exact HB.out)⟩
   ·replace c5 := Bool.eq_false_iff.mpr c5
    subst c5
    have H1 : (minor_read.l0 kj2 l0 (l0.length : Int) l0 (l0.length : Int) 0) = some (r1, r2) := by rw [if_neg (show ¬ (false = true) by decide)] at H; exact H
    clear H
    have H := H1
    clear H1
    have H' := Aside0.mk H
    clear H
    go_wp2
    repeat (go_quiet (fail); try go_wp2)
    go_loopg [21] kj2 (fun kq v21 w' => ∃ (x21_2 : Int), v21 = .int .i64 x21_2 ∧ Aside0 (minor_read.l0 kq l0 (l0.length : Int) l0 (l0.length : Int) x21_2 = some (r1, r2)) ∧ Aside0 (kq ≤ kj2) ∧ Aside0 (Kd.V (Kd.int .i64) 3 w' w.heap.size (fun k_ => (P0_ k_ ∨ w.heap.size ≤ k_)) (.slice A0 l0.length c0) l0) ∧ Aside0 (Kd.V (Kd.int .i64) 3 w' w.heap.size (fun k_ => (P0_ k_ ∨ w.heap.size ≤ k_)) (.slice A0 l0.length c0) l0) ∧ Aside0 (Below w.heap.size w w'))
    case atStart => exact ⟨(0), (by first | rfl | (simp; done) | (simp [*]; done)), H', ⟨Nat.le_refl _⟩, ⟨by (with_reducible repeat (first | apply Kd.V_alloc | apply Kd.V_drewN | apply Kd.V_drew)); exact HO_0.out⟩, ⟨by (with_reducible repeat (first | apply Kd.V_alloc | apply Kd.V_drewN | apply Kd.V_drew)); exact HO_0.out⟩, ⟨by repeat (first | (with_reducible first | exact HB.out | apply below_alloc | apply pw_below_drewN | apply below_drew1) | exact HB.out)⟩⟩
    case round =>
     clear H'
     try clear p2
     try clear c4
     try clear c4b0
     try clear c4b1
     try clear c5
     try clear p2
     obtain ⟨x21_2, rfl, HA, HK2, HO_0, HO_19, HB⟩ := hrel
     cases gk with
     | zero => exact absurd HA.out (by simp [minor_read.l0])
     | succ k2 =>
      have H := HA.out
      clear HA
      simp only [minor_read.l0] at H
      by_cases c6 : x21_2 < (l0.length : Int)
      ·rw [if_pos c6] at H
       have c6b0 : decide (x21_2 < (l0.length : Int)) = true := decide_eq_true c6
       clear c6
       by_cases c7 : 0 ≤ x21_2
       ·rw [if_pos c7] at H
        have c7b0 : decide (0 ≤ x21_2) = true := decide_eq_true c7
        clear c7
        by_cases c8 : x21_2 < (l0.length : Int)
        ·rw [if_pos c8] at H
         have c8b0 : decide (x21_2 < (l0.length : Int)) = true := decide_eq_true c8
         clear c8
         have HC9 := Aside0.mk H
         clear H
         have p104 : 0 ≤ (x21_2 : Int) := of_decide_eq_true (by first | (with_reducible assumption) | assumption)
         have q104 : x21_2 < (l0.length : Int) := of_decide_eq_true (by first | (with_reducible assumption) | assumption)
         obtain ⟨ad104, e104, hx104_0⟩ := Kd.at_int (Kd.V_reads' HO_19.out).2.2 x21_2 p104 q104
         cases e104
         replace p104 := eq_true p104
         replace q104 := eq_true q104
         go_upto_region 7 with (fail)
         repeat (go_quiet (fail); go_upto_region 7 with (fail))
         go_cut [40] (fun v40 wc => ∃ (kq : Nat) (x40_8 : Bool), v40 = .bool x40_8 ∧ Aside0 (minor_read.j2 kq l0 (l0.length : Int) x21_2 (rd l0 x21_2) l0 (l0.length : Int) x21_2 x40_8 = some (r1, r2)) ∧ Aside0 (kq ≤ k2) ∧ Aside0 (Kd.V (Kd.int .i64) 3 wc w.heap.size (fun k_ => (P0_ k_ ∨ w.heap.size ≤ k_)) (.slice (some ad104) l0.length c0) l0) ∧ Aside0 (Kd.V (Kd.int .i64) 3 wc w.heap.size (fun k_ => (P0_ k_ ∨ w.heap.size ≤ k_)) (.slice (some ad104) l0.length c0) l0) ∧ Aside0 (Below w.heap.size w wc))
         case first =>
          have H := HC9.out
          clear HC9
          by_cases c10 : (rd l0 x21_2) < 0
          ·rw [if_pos c10] at H
           have c10b0 : decide ((rd l0 x21_2) < 0) = true := decide_eq_true c10
           clear c10
           (first | rw [c10b0] | (simp only [i64_w, i32_w]; rw [c10b0]) | skip)
           have H' := Aside0.mk H
           clear H
           go_wp2
           repeat (go_quiet (fail); try go_wp2)
           go_meet
           case rel => exact ⟨_, (true), (by first | rfl | (simp; done) | (simp [*]; done)), H', ⟨by have := HJ2.out; have := HK2.out; first | omega | exact Nat.le_refl _⟩, ⟨by (with_reducible repeat (first | apply Kd.V_alloc | apply Kd.V_drewN | apply Kd.V_drew)); exact HO_0.out⟩, ⟨by (with_reducible repeat (first | apply Kd.V_alloc | apply Kd.V_drewN | apply Kd.V_drew)); exact HO_19.out⟩, ⟨by repeat (first | (with_reducible first | exact HB.out | apply below_alloc | apply pw_below_drewN | apply below_drew1) | exact HB.out)⟩⟩
          ·rw [if_neg c10] at H
           have c10b0 : decide ((rd l0 x21_2) < 0) = false := decide_eq_false c10
           clear c10
           (first | rw [c10b0] | (simp only [i64_w, i32_w]; rw [c10b0]) | skip)
           by_cases c11 : 0 ≤ (l0.length : Int)
           ·rw [if_pos c11] at H
            have c11b0 := eq_true c11
            have c11b1 : decide (0 ≤ (l0.length : Int)) = true := decide_eq_true c11
            clear c11
            obtain ⟨ji12, hji12⟩ : ∃ j_ : Int, (shl .i64 1 (l0.length : Int)) = j_ := ⟨_, rfl⟩
            replace H : (if (rd l0 x21_2) ≥ (ji12) then (minor_read.j2 k2 l0 (l0.length : Int) x21_2 (rd l0 x21_2) l0 (l0.length : Int) x21_2 true) else (minor_read.j2 k2 l0 (l0.length : Int) x21_2 (rd l0 x21_2) l0 (l0.length : Int) x21_2 ((Go.bits .and .i64 (shr .i64 (rd l0 x21_2) x21_2) 1) == 1))) = some (r1, r2) := by first | (rw [hji12] at H; exact H) | (simp only [hji12] at H ⊢; exact H)
            have hji12_ : (IntKind.i64.wrap (1 * 2 ^ min (l0.length : Int).toNat 64)) = ji12 := hji12
            have hji12z : (l0.length : Int) ≤ 64 → (IntKind.i64.wrap (1 * 2 ^ (l0.length : Int).toNat)) = ji12 := shl_small hji12
            have hji12p : (IntKind.i64.wrap (1 * 2 ^ min l0.length 64)) = ji12 := hji12_
            have hji12q : (l0.length : Int) ≤ 64 → (IntKind.i64.wrap (1 * 2 ^ l0.length)) = ji12 := hji12z
            have hji12r : (IntKind.i64.wrap (2 ^ min l0.length 64)) = ji12 := by have h_ := hji12p; rw [Int.one_mul] at h_; exact h_
            have hji12s : (l0.length : Int) ≤ 64 → (IntKind.i64.wrap (2 ^ l0.length)) = ji12 := fun hle_ => by have h_ := hji12q hle_; rw [Int.one_mul] at h_; exact h_
            have hji12u : (IntKind.i64.wrap (2 ^ min (l0.length : Int).toNat 64)) = ji12 := by have h_ := hji12_; rw [Int.one_mul] at h_; exact h_
            have hji12v : (l0.length : Int) ≤ 64 → (IntKind.i64.wrap (2 ^ (l0.length : Int).toNat)) = ji12 := fun hle_ => by have h_ := hji12z hle_; rw [Int.one_mul] at h_; exact h_
            have hji12y : (wrap64 (1 * 2 ^ min (l0.length : Int).toNat 64)) = ji12 := (i64_w _).symm.trans hji12_
            have hji12x : (l0.length : Int) ≤ 64 → (wrap64 (1 * 2 ^ (l0.length : Int).toNat)) = ji12 := fun h_ => (i64_w _).symm.trans (hji12z h_)
            by_cases c13 : (rd l0 x21_2) ≥ (ji12)
            ·rw [if_pos c13] at H
             have c13b0 : decide ((ji12) ≤ (rd l0 x21_2)) = true := decide_eq_true c13
             clear c13
             have H' := Aside0.mk H
             clear H
             go_wp2
             repeat (go_quiet (fail); try go_wp2)
             go_meet
             case rel => exact ⟨_, (true), (by first | rfl | (simp; done) | (simp [*]; done)), H', ⟨by have := HJ2.out; have := HK2.out; first | omega | exact Nat.le_refl _⟩, ⟨by (with_reducible repeat (first | apply Kd.V_alloc | apply Kd.V_drewN | apply Kd.V_drew)); exact HO_0.out⟩, ⟨by (with_reducible repeat (first | apply Kd.V_alloc | apply Kd.V_drewN | apply Kd.V_drew)); exact HO_19.out⟩, ⟨by repeat (first | (with_reducible first | exact HB.out | apply below_alloc | apply pw_below_drewN | apply below_drew1) | exact HB.out)⟩⟩
            ·rw [if_neg c13] at H
             have c13b0 : decide ((ji12) ≤ (rd l0 x21_2)) = false := decide_eq_false c13
             clear c13
             have c14b0 := eq_true (of_decide_eq_true (by first | (with_reducible assumption) | assumption) : 0 ≤ x21_2)
             obtain ⟨ji15, hji15⟩ : ∃ j_ : Int, (shr .i64 (rd l0 x21_2) x21_2) = j_ := ⟨_, rfl⟩
             replace H : (minor_read.j2 k2 l0 (l0.length : Int) x21_2 (rd l0 x21_2) l0 (l0.length : Int) x21_2 ((Go.bits .and .i64 (ji15) 1) == 1)) = some (r1, r2) := by first | (rw [hji15] at H; exact H) | (simp only [hji15] at H ⊢; exact H)
             have hji15_ : ((rd l0 x21_2) / 2 ^ min x21_2.toNat 64) = ji15 := hji15
             have hji15z : x21_2 ≤ 64 → ((rd l0 x21_2) / 2 ^ x21_2.toNat) = ji15 := shr_small hji15
             have H' := Aside0.mk H
             clear H
             go_wp2
             repeat (go_quiet (fail); try go_wp2)
             go_meet
             case rel => exact ⟨_, (((Go.bits .and .i64 (ji15) 1) == 1)), (by first | rfl | (simp; done) | (simp only [← hji15] <;> (first | rfl | simp)) | (simp [*]; done)), H', ⟨by have := HJ2.out; have := HK2.out; first | omega | exact Nat.le_refl _⟩, ⟨by (with_reducible repeat (first | apply Kd.V_alloc | apply Kd.V_drewN | apply Kd.V_drew)); exact HO_0.out⟩, ⟨by (with_reducible repeat (first | apply Kd.V_alloc | apply Kd.V_drewN | apply Kd.V_drew)); exact HO_19.out⟩, ⟨by repeat (first | (with_reducible first | exact HB.out | apply below_alloc | apply pw_below_drewN | apply below_drew1) | exact HB.out)⟩⟩
           ·rw [if_neg c11] at H
            exact absurd H (by simp)
         case rest =>
          clear HC9
          try clear c1
          try clear p1
          try clear q1
          try clear hx1
          try clear p2
          try clear c4
          try clear c4b0
          try clear c4b1
          try clear c5
          try clear c6
          try clear c6b0
          try clear p6
          try clear c7
          try clear c7b0
          try clear c8
          try clear c8b0
          try clear c10
          try clear c10b0
          try clear p10
          try clear q10
          try clear hx10
          try clear c11
          try clear c11b0
          try clear c11b1
          try clear c13
          try clear c13b0
          try clear c14
          try clear c14b0
          try clear hx104_0
          try clear p104
          try clear p2
          try clear q104
          obtain ⟨kq, x40_8, rfl, HA, HJ8, HO_0, HO_19, HB⟩ := hcut
          cases kq with
          | zero => exact absurd HA.out (by simp [minor_read.j2])
          | succ kj8 =>
           have H := HA.out
           clear HA
           simp only [minor_read.j2] at H
           by_cases c16 : x40_8 = true
           ·subst c16
            have H1 : (some (([] : List Int), false)) = some (r1, r2) := by rw [if_pos rfl] at H; exact H
            clear H
            have H := H1
            clear H1
            simp only [Option.some.injEq, Prod.mk.injEq] at H
            obtain ⟨rfl, rfl⟩ := H
            go_wp2
            repeat (go_quiet (fail); try go_wp2)
            go_ret2
            exact ⟨_, by first | rfl | (simp [errW_none, errW_some] <;> rfl) | (simp [*, errW_none, errW_some] <;> rfl), Kd.V_nil _ _ _ _ _, by repeat (first | (with_reducible first | exact HB.out | apply below_alloc | apply pw_below_drewN | apply below_drew1) | exact HB.out)⟩
           ·replace c16 := Bool.eq_false_iff.mpr c16
            subst c16
            have H1 : (minor_read.l1 kj8 l0 (l0.length : Int) x21_2 (rd l0 x21_2) l0 (l0.length : Int) x21_2 (l0.length : Int) 0) = some (r1, r2) := by rw [if_neg (show ¬ (false = true) by decide)] at H; exact H
            clear H
            have H := H1
            clear H1
            have H' := Aside0.mk H
            clear H
            go_wp2
            repeat (go_quiet (fail); try go_wp2)
            go_loopg [42] kj8 (fun kq v42 w' => ∃ (x42_4 : Int), v42 = .int .i64 x42_4 ∧ Aside0 (minor_read.l1 kq l0 (l0.length : Int) x21_2 (rd l0 x21_2) l0 (l0.length : Int) x21_2 (l0.length : Int) x42_4 = some (r1, r2)) ∧ Aside0 (kq ≤ kj8) ∧ Aside0 (Kd.V (Kd.int .i64) 3 w' w.heap.size (fun k_ => (P0_ k_ ∨ w.heap.size ≤ k_)) (.slice (some ad104) l0.length c0) l0) ∧ Aside0 (Kd.V (Kd.int .i64) 3 w' w.heap.size (fun k_ => (P0_ k_ ∨ w.heap.size ≤ k_)) (.slice (some ad104) l0.length c0) l0) ∧ Aside0 (Below w.heap.size w w'))
            case atStart => exact ⟨(0), (by first | rfl | (simp; done) | (simp [*]; done)), H', ⟨Nat.le_refl _⟩, ⟨by (with_reducible repeat (first | apply Kd.V_alloc | apply Kd.V_drewN | apply Kd.V_drew)); exact HO_0.out⟩, ⟨by (with_reducible repeat (first | apply Kd.V_alloc | apply Kd.V_drewN | apply Kd.V_drew)); exact HO_19.out⟩, ⟨by repeat (first | (with_reducible first | exact HB.out | apply below_alloc | apply pw_below_drewN | apply below_drew1) | exact HB.out)⟩⟩
            case round =>
             clear H'
             try clear c1
             try clear p1
             try clear q1
             try clear hx1
             try clear p2
             try clear c4
             try clear c4b0
             try clear c4b1
             try clear c5
             try clear c6
             try clear c6b0
             try clear p6
             try clear c7
             try clear c7b0
             try clear c8
             try clear c8b0
             try clear c10
             try clear c10b0
             try clear p10
             try clear q10
             try clear hx10
             try clear c11
             try clear c11b0
             try clear c11b1
             try clear c13
             try clear c13b0
             try clear c14
             try clear c14b0
             try clear c16
             try clear hx104_0
             try clear p1
             try clear p10
             try clear p104
             try clear p2
             try clear p6
             try clear q1
             try clear q10
             try clear q104
             obtain ⟨x42_4, rfl, HA, HK4, HO_0, HO_19, HB⟩ := hrel
             cases gk with
             | zero => exact absurd HA.out (by simp [minor_read.l1])
             | succ k4 =>
              have H := HA.out
              clear HA
              simp only [minor_read.l1] at H
              by_cases c17 : x42_4 < (l0.length : Int)
              ·rw [if_pos c17] at H
               have c17b0 : decide (x42_4 < (l0.length : Int)) = true := decide_eq_true c17
               clear c17
               by_cases c18 : 0 ≤ x42_4
               ·rw [if_pos c18] at H
                have c18b0 := eq_true c18
                have c18b1 : decide (0 ≤ x42_4) = true := decide_eq_true c18
                clear c18
                obtain ⟨ji19, hji19⟩ : ∃ j_ : Int, (shr .i64 (rd l0 x21_2) x42_4) = j_ := ⟨_, rfl⟩
                replace H : (if x42_4 < (l0.length : Int) then (if 0 ≤ x21_2 then (if (Go.bits .and .i64 (ji19) 1) = (Go.bits .and .i64 (shr .i64 (rd l0 x42_4) x21_2) 1) then (minor_read.l1 k4 l0 (l0.length : Int) x21_2 (rd l0 x21_2) l0 (l0.length : Int) x21_2 (l0.length : Int) (wrap64 (x42_4 + 1))) else (some (([] : List Int), false))) else (none)) else (none)) = some (r1, r2) := by first | (rw [hji19] at H; exact H) | (simp only [hji19] at H ⊢; exact H)
                have hji19_ : ((rd l0 x21_2) / 2 ^ min x42_4.toNat 64) = ji19 := hji19
                have hji19z : x42_4 ≤ 64 → ((rd l0 x21_2) / 2 ^ x42_4.toNat) = ji19 := shr_small hji19
                by_cases c20 : x42_4 < (l0.length : Int)
                ·rw [if_pos c20] at H
                 have c20b0 : decide (x42_4 < (l0.length : Int)) = true := decide_eq_true c20
                 clear c20
                 by_cases c21 : 0 ≤ x21_2
                 ·rw [if_pos c21] at H
                  have c21b0 := eq_true c21
                  have c21b1 : decide (0 ≤ x21_2) = true := decide_eq_true c21
                  clear c21
                  obtain ⟨ji22, hji22⟩ : ∃ j_ : Int, (shr .i64 (rd l0 x42_4) x21_2) = j_ := ⟨_, rfl⟩
                  replace H : (if (Go.bits .and .i64 (ji19) 1) = (Go.bits .and .i64 (ji22) 1) then (minor_read.l1 k4 l0 (l0.length : Int) x21_2 (rd l0 x21_2) l0 (l0.length : Int) x21_2 (l0.length : Int) (wrap64 (x42_4 + 1))) else (some (([] : List Int), false))) = some (r1, r2) := by first | (rw [hji22] at H; exact H) | (simp only [hji22] at H ⊢; exact H)
                  have hji22_ : ((rd l0 x42_4) / 2 ^ min x21_2.toNat 64) = ji22 := hji22
                  have hji22z : x21_2 ≤ 64 → ((rd l0 x42_4) / 2 ^ x21_2.toNat) = ji22 := shr_small hji22
                  by_cases c23 : (Go.bits .and .i64 (ji19) 1) = (Go.bits .and .i64 (ji22) 1)
                  ·rw [if_pos c23] at H
                   have c23b0 : ((Go.bits .and .i64 (ji19) 1) == (Go.bits .and .i64 (ji22) 1)) = true := beq_iff_eq.mpr c23
                   have c23b1 : ((Go.bits .and .i64 (ji19) 1) != (Go.bits .and .i64 (ji22) 1)) = false := bne_eq_false_iff_eq.mpr c23
                   clear c23
                   have H' := Aside0.mk H
                   clear H
                   have p105 : 0 ≤ (x42_4 : Int) := of_decide_eq_true (by first | (with_reducible assumption) | assumption)
                   have q105 : x42_4 < (l0.length : Int) := of_decide_eq_true (by first | (with_reducible assumption) | assumption)
                   obtain ⟨ad105, e105, hx105_0⟩ := Kd.at_int (Kd.V_reads' HO_0.out).2.2 x42_4 p105 q105
                   obtain rfl : ad104 = ad105 := (by injection e105)
                   replace p105 := eq_true p105
                   replace q105 := eq_true q105
                   go_wp2
                   repeat (go_quiet (fail); try go_wp2)
                   go_roundg k4
                   case measure => have := HJ2.out; have := HK2.out; have := HJ8.out; have := HK4.out; omega
                   case rel => exact ⟨(wrap64 (x42_4 + 1)), (by first | rfl | (simp; done) | (simp [*]; done)), H', ⟨by have := HJ2.out; have := HK2.out; have := HJ8.out; have := HK4.out; omega⟩, ⟨by (with_reducible repeat (first | apply Kd.V_alloc | apply Kd.V_drewN | apply Kd.V_drew)); exact HO_0.out⟩, ⟨by (with_reducible repeat (first | apply Kd.V_alloc | apply Kd.V_drewN | apply Kd.V_drew)); exact HO_19.out⟩, ⟨by repeat (first | (with_reducible first | exact HB.out | apply below_alloc | apply pw_below_drewN | apply below_drew1) | exact HB.out)⟩⟩
                  ·rw [if_neg c23] at H
                   have c23b0 : ((Go.bits .and .i64 (ji19) 1) == (Go.bits .and .i64 (ji22) 1)) = false := beq_eq_false_iff_ne.mpr c23
                   have c23b1 : ((Go.bits .and .i64 (ji19) 1) != (Go.bits .and .i64 (ji22) 1)) = true := bne_iff_ne.mpr c23
                   simp only [Option.some.injEq, Prod.mk.injEq] at H
                   obtain ⟨rfl, rfl⟩ := H
                   have p105 : 0 ≤ (x42_4 : Int) := of_decide_eq_true (by first | (with_reducible assumption) | assumption)
                   have q105 : x42_4 < (l0.length : Int) := of_decide_eq_true (by first | (with_reducible assumption) | assumption)
                   obtain ⟨ad105, e105, hx105_0⟩ := Kd.at_int (Kd.V_reads' HO_0.out).2.2 x42_4 p105 q105
                   obtain rfl : ad104 = ad105 := (by injection e105)
                   replace p105 := eq_true p105
                   replace q105 := eq_true q105
                   go_wp2
                   repeat (go_quiet (fail); try go_wp2)
                   go_ret2
                   exact ⟨_, by first | rfl | (simp [errW_none, errW_some] <;> rfl) | (simp only [← hji19, ← hji22]; first | rfl | (simp [errW_none, errW_some] <;> rfl)) | (simp [*, errW_none, errW_some] <;> rfl), Kd.V_nil _ _ _ _ _, by repeat (first | (with_reducible first | exact HB.out | apply below_alloc | apply pw_below_drewN | apply below_drew1) | exact HB.out)⟩
                 ·rw [if_neg c21] at H
                  exact absurd H (by simp)
                ·rw [if_neg c20] at H
                 exact absurd H (by simp)
               ·rw [if_neg c18] at H
                exact absurd H (by simp)
              ·rw [if_neg c17] at H
               have c17b0 : decide (x42_4 < (l0.length : Int)) = false := decide_eq_false c17
               clear c17
               have H' := Aside0.mk H
               clear H
               go_wp2
               repeat (go_quiet (fail); try go_wp2)
               go_roundg k4
               case measure => have := HJ2.out; have := HK2.out; have := HJ8.out; have := HK4.out; omega
               case rel => exact ⟨(wrap64 (x21_2 + 1)), (by first | rfl | (simp; done) | (simp [*]; done)), H', ⟨by have := HJ2.out; have := HK2.out; have := HJ8.out; have := HK4.out; omega⟩, ⟨by (with_reducible repeat (first | apply Kd.V_alloc | apply Kd.V_drewN | apply Kd.V_drew)); exact HO_0.out⟩, ⟨by (with_reducible repeat (first | apply Kd.V_alloc | apply Kd.V_drewN | apply Kd.V_drew)); exact HO_19.out⟩, ⟨by repeat (first | (with_reducible first | exact HB.out | apply below_alloc | apply pw_below_drewN | apply below_drew1) | exact HB.out)⟩⟩
        ·rw [if_neg c8] at H
         exact absurd H (by simp)
       ·rw [if_neg c7] at H
        exact absurd H (by simp)
      ·rw [if_neg c6] at H
       have c6b0 : decide (x21_2 < (l0.length : Int)) = false := decide_eq_false c6
       clear c6
       simp only [Option.some.injEq, Prod.mk.injEq] at H
       obtain ⟨rfl, rfl⟩ := H
       go_wp2
       repeat (go_quiet (fail); try go_wp2)
       go_ret2
       exact ⟨_, by first | rfl | (simp [errW_none, errW_some] <;> rfl) | (simp [*, errW_none, errW_some] <;> rfl), by (with_reducible repeat (first | apply Kd.V_alloc | apply Kd.V_drewN | apply Kd.V_drew)); exact HO_0.out, by repeat (first | (with_reducible first | exact HB.out | apply below_alloc | apply pw_below_drewN | apply below_drew1) | exact HB.out)⟩
end Go.Proofs.YtjloppfdagfpmaaDoor.X
end
section
/- (minor) What read tells: a graph that is valid, or nothing. -/
namespace Go.Proofs.YtjloppfdagfpmaaDoor.X
open Go.RowKit YtjloppfdagfpmaaDoorW.PrintWords YtjloppfdagfpmaaDoorW.PrintLast YtjloppfdagfpmaaDoorW.PrintMore YtjloppfdagfpmaaDoor.T
theorem read_l1 (g : List Int) (hn : g.length ≤ 9) (i : Nat) (hi : i < g.length) (r : List Int × Bool)
  (hrest : Ev (fun k => minor_read.l0 k g (g.length : Int) g (g.length : Int) ((i + 1 : Nat) : Int)) r) :
  ∀ d j, j + d = g.length → Ev (fun k => minor_read.l1 k g (g.length : Int) (i : Int) (rd g (i : Int)) g (g.length : Int) (i : Int) (g.length : Int) (j : Int))
   (cond (allFrom (fun j => decide (ibit (rd g (i : Int)) j = ibit (rd g (j : Int)) i)) g.length d j) r (([] : List Int), false)) := by
 intro d
 induction d with
 | zero =>
  intro j hj
  refine Ev.step (fun k => ?_) hrest
  rw [minor_read.l1, if_neg (by omega), wrap_succ i (by omega)]
 | succ d ih =>
  intro j hj
  simp only [allFrom]
  by_cases hb : ibit (rd g (i : Int)) j = ibit (rd g (j : Int)) i
  ·refine Ev.step (f := fun k => minor_read.l1 k g (g.length : Int) (i : Int) (rd g (i : Int)) g (g.length : Int) (i : Int) (g.length : Int) ((j + 1 : Nat) : Int)) (fun k => ?_) ?_
   ·rw [minor_read.l1, if_pos (by omega), if_pos (by omega), if_pos (by omega), if_pos (by omega), wrap_succ j (by omega)]
    exact if_pos hb
   ·have := ih (j + 1) (by omega)
    simpa [hb] using this
  ·refine Ev.step (f := fun _ => some (([] : List Int), false)) (fun k => ?_) (Ev.some (by simp [hb]))
   rw [minor_read.l1, if_pos (by omega), if_pos (by omega), if_pos (by omega), if_pos (by omega)]
   exact if_neg hb
theorem read_l0 (g : List Int) (hn : g.length ≤ 9) :
  ∀ d i, i + d = g.length → Ev (fun k => minor_read.l0 k g (g.length : Int) g (g.length : Int) (i : Int)) (cond (allFrom (rowOk g) g.length d i) (g, true) (([] : List Int), false)) := by
 intro d
 induction d with
 | zero =>
  intro i hi
  refine Ev.step (f := fun _ => some (g, true)) (fun k => ?_) (Ev.some (by simp [allFrom]))
  rw [minor_read.l0, if_neg (by omega)]
 | succ d ih =>
  intro i hi
  have stop : ∀ k, minor_read.j2 (k + 1) g (g.length : Int) (i : Int) (rd g (i : Int)) g (g.length : Int) (i : Int) true = some (([] : List Int), false) := fun k => by
   rw [minor_read.j2, if_pos rfl]
  simp only [allFrom, rowOk]
  by_cases h1 : rd g (i : Int) < 0
  ·refine Ev.step (fun k => ?_) (f := fun k => minor_read.j2 k g (g.length : Int) (i : Int) (rd g (i : Int)) g (g.length : Int) (i : Int) true) ?_
   ·rw [minor_read.l0, if_pos (by omega), if_pos (by omega), if_pos (by omega), if_pos h1]
   ·exact Ev.step stop (Ev.some (by simp [h1]))
  ·by_cases h2 : rd g (i : Int) ≥ shl .i64 1 (g.length : Int)
   ·refine Ev.step (fun k => ?_) (f := fun k => minor_read.j2 k g (g.length : Int) (i : Int) (rd g (i : Int)) g (g.length : Int) (i : Int) true) ?_
    ·rw [minor_read.l0, if_pos (by omega), if_pos (by omega), if_pos (by omega), if_neg h1, if_pos (by omega), if_pos h2]
    ·exact Ev.step stop (Ev.some (by simp [h2]))
   ·refine Ev.step (fun k => ?_) (f := fun k => minor_read.j2 k g (g.length : Int) (i : Int) (rd g (i : Int)) g (g.length : Int) (i : Int) (ibit (rd g (i : Int)) i == 1)) ?_
    ·rw [minor_read.l0, if_pos (by omega), if_pos (by omega), if_pos (by omega), if_neg h1, if_pos (by omega), if_neg h2]
     rfl
    ·by_cases h3 : (ibit (rd g (i : Int)) i == 1) = true
     ·simp only [h3]
      exact Ev.step stop (Ev.some (by simp))
     ·refine Ev.step (fun k => by rw [minor_read.j2, if_neg h3]) ?_
      have := read_l1 g hn i (by omega) _ (ih (i + 1) (by omega)) g.length 0 (by omega)
      have h3' : (ibit (rd g (i : Int)) i == 1) = false := by simpa using h3
      simp only [h1, h2, h3', decide_false, Bool.not_false, Bool.true_and]
      cases h4 : allFrom (fun j => decide (ibit (rd g (i : Int)) j = ibit (rd g (j : Int)) i)) g.length g.length 0
      ·simpa [h4] using this
      ·simpa [h4] using this
theorem read_ev (m : Nat) (hm : m ≤ 9) (g : List Int) (hg : g.length < 2 ^ 60) : Ev (fun k => minor_read.f k g (m : Int)) (cond (chk m g) (g, true) (([] : List Int), false)) := by
 have stop : ∀ k, minor_read.j0 (k + 1) g (g.length : Int) true = some (([] : List Int), false) := fun k => by
  rw [minor_read.j0, if_pos rfl]
 by_cases h1 : g.length < 1
 ·refine Ev.congr (f := fun k => minor_read.j0 k g (g.length : Int) true) (fun k => ?_) (Ev.step stop (Ev.some ?_))
  ·rw [minor_read.f, if_pos (by omega)]
  ·have : ¬ 1 ≤ g.length := by omega
   simp [chk, this]
 ·refine Ev.congr (f := fun k => minor_read.j0 k g (g.length : Int) (decide ((g.length : Int) > (m : Int)))) (fun k => ?_) ?_
  ·rw [minor_read.f, if_neg (by omega)]
  ·by_cases h2 : g.length ≤ m
   ·have e : decide ((g.length : Int) > (m : Int)) = false := decide_eq_false (by omega)
    rw [e]
    refine Ev.step (fun k => by rw [minor_read.j0, if_neg (by simp)]) ?_
    have := read_l0 g (by omega) g.length 0 (by omega)
    have h3 : decide (1 ≤ g.length) = true := decide_eq_true (by omega)
    simpa [chk, h2, h3] using this
   ·have e : decide ((g.length : Int) > (m : Int)) = true := decide_eq_true (by omega)
    rw [e]
    refine Ev.step stop (Ev.some ?_)
    simp [chk, h2]
end Go.Proofs.YtjloppfdagfpmaaDoor.X
end
section
/- minor.Model, by hand: what read tells, and the search. -/
namespace Go.Proofs.YtjloppfdagfpmaaDoor.X
open Go.RowKit YtjloppfdagfpmaaDoorW.PrintWords YtjloppfdagfpmaaDoorW.PrintLast YtjloppfdagfpmaaDoorW.PrintMore YtjloppfdagfpmaaDoor.T
theorem gi_toNat (G : List Nat) : (gi G).map Int.toNat = G := by
 unfold gi
 rw [List.map_map]
 exact (List.map_congr_left (fun x _ => Int.toNat_natCast x)).trans (List.map_id _)
theorem read_yes (m : Nat) (hm : m ≤ 9) {G : List Nat} (hG : Gr m G) (A0 : Option Addr) (c0 : Nat) (w : World) (hr0 : Kd.C (Kd.int .i64) w A0 (gi G).length (gi G)) (hc0 : G.length ≤ c0) :
  Calls Tryd.prog 63 #[.slice A0 G.length c0, .int .i64 (m : Int)] w fun e w' => ∃ A1 c1, e = .returned (.tuple #[.slice A1 G.length c1, .bool true]) ∧ G.length ≤ c1 ∧ Kd.C (Kd.int .i64) w' A1 (gi G).length (gi G) ∧ Below w.heap.size w w' := by
 obtain ⟨K, hK⟩ := read_ev m hm (gi G) (by rw [gi_length]; have := hG.most; omega)
 have hk := hK K (Nat.le_refl _)
 rw [(chk_iff m (by omega) _).2 ⟨G, rfl, hG⟩] at hk
 have hl := gi_length G
 have := minor_read.calls K (fun k_ => k_ < w.heap.size) A0 c0 (gi G) (m : Int) (gi G) true w (Kd.V_mk (by rw [hl]; exact hc0) (Kd.F_below (Kd.C_F (Kd.heap_int .i64) hr0) (Below.refl _ _))) hk
 rw [hl] at this
 refine this.mono ?_
 rintro e w' ⟨v, rfl, hv, hb⟩
 obtain ⟨A1, c1, rfl⟩ := Kd.V_slice hv
 have h2 := Kd.V_reads' hv
 rw [hl] at *
 exact ⟨A1, c1, rfl, h2.2.1, h2.2.2, hb⟩
theorem read_no (m : Nat) (hm : m ≤ 9) {g : List Int} (hl : g.length < 2 ^ 60) (hg : chk m g = false) (A0 : Option Addr) (c0 : Nat) (w : World) (hr0 : Kd.C (Kd.int .i64) w A0 g.length g) (hc0 : g.length ≤ c0) :
  Calls Tryd.prog 63 #[.slice A0 g.length c0, .int .i64 (m : Int)] w fun e w' => ∃ v, e = .returned (.tuple #[v, .bool false]) ∧ Below w.heap.size w w' := by
 obtain ⟨K, hK⟩ := read_ev m hm g hl
 have hk := hK K (Nat.le_refl _)
 rw [hg] at hk
 refine (minor_read.calls K (fun k_ => k_ < w.heap.size) A0 c0 g (m : Int) [] false w (Kd.V_mk hc0 (Kd.F_below (Kd.C_F (Kd.heap_int .i64) hr0) (Below.refl _ _))) hk).mono ?_
 rintro e w' ⟨v, rfl, hv, hb⟩
 exact ⟨v, rfl, hb⟩
theorem read_any (m : Nat) (hm : m ≤ 9) {g : List Int} (hl : g.length < 2 ^ 60) (A0 : Option Addr) (c0 : Nat) (w : World) (hr0 : Kd.C (Kd.int .i64) w A0 g.length g) (hc0 : g.length ≤ c0) :
  Calls Tryd.prog 63 #[.slice A0 g.length c0, .int .i64 (m : Int)] w fun e w' => ∃ v, e = .returned (.tuple #[v, .bool (chk m g)]) ∧ (chk m g = true → ∃ A1 c1, v = .slice A1 g.length c1 ∧ g.length ≤ c1 ∧ Kd.C (Kd.int .i64) w' A1 g.length g) ∧ Below w.heap.size w w' := by
 cases h : chk m g
 ·refine (read_no m hm hl h A0 c0 w hr0 hc0).mono ?_
  rintro e w' ⟨v, rfl, hb⟩
  exact ⟨v, rfl, (fun h => by cases h), hb⟩
 ·obtain ⟨G, rfl, hG⟩ := (chk_iff m (by omega) _).1 h
  have := read_yes m hm hG A0 c0 w hr0 (by rw [gi_length] at hc0; exact hc0)
  rw [gi_length] at *
  refine this.mono ?_
  rintro e w' ⟨A1, c1, rfl, h1, h2, hb⟩
  exact ⟨_, rfl, fun _ => ⟨A1, c1, rfl, h1, h2⟩, hb⟩
def minor_Model.f (g p : List Int) : Option (List Int × Int) :=
 if g.length < 1000 ∧ p.length < 1000 then some (if (chk 8 g && chk 6 p) = true then ((findN (g.map Int.toNat) (p.map Int.toNat)).elim ([], 4) fun M => (gi M, 0)) else ([], 2)) else none
set_option maxHeartbeats 4000000 in
set_option maxRecDepth 100000 in
theorem minor_Model.calls (A0 : Option Addr) (c0 : Nat) (l0 : List Int) (A1 : Option Addr) (c1 : Nat) (l1 : List Int) (r1 : List Int) (r2 : Int) (w : World) (hGL : GL w) (hr0 : Kd.C (Kd.int .i64) w A0 l0.length l0) (hc0 : l0.length ≤ c0) (hr1 : Kd.C (Kd.int .i64) w A1 l1.length l1) (hc1 : l1.length ≤ c1) (h : minor_Model.f l0 l1 = some (r1, r2)) :
  Calls Tryd.prog 21 #[.slice A0 l0.length c0, .slice A1 l1.length c1] w fun e w' => ∃ v, e = .returned (.tuple #[v, .int .i64 r2]) ∧ Kd.R (Kd.int .i64) 3 w' w.heap.size (fun _ => True) v r1 ∧ Below w.heap.size w w' := by
 unfold minor_Model.f at h
 by_cases hlen : l0.length < 1000 ∧ l1.length < 1000
 ·rw [if_pos hlen] at h
  have h := Option.some.inj h
  have HC1 : Aside0 (∀ W, Below w.heap.size w W → Calls Tryd.prog 63 #[.slice A0 l0.length c0, .int .i64 8] W fun e w' => ∃ v, e = .returned (.tuple #[v, .bool (chk 8 l0)]) ∧ (chk 8 l0 = true → ∃ A1 c1, v = .slice A1 l0.length c1 ∧ l0.length ≤ c1 ∧ Kd.C (Kd.int .i64) w' A1 l0.length l0) ∧ Below W.heap.size W w') := ⟨fun W hW => read_any 8 (by omega) (by omega) A0 c0 W (Kd.C_below hr0 hW) hc0⟩
  have HC2 : Aside0 (∀ W, Below w.heap.size w W → Calls Tryd.prog 63 #[.slice A1 l1.length c1, .int .i64 6] W fun e w' => ∃ v, e = .returned (.tuple #[v, .bool (chk 6 l1)]) ∧ (chk 6 l1 = true → ∃ A c, v = .slice A l1.length c ∧ l1.length ≤ c ∧ Kd.C (Kd.int .i64) w' A l1.length l1) ∧ Below W.heap.size W w') := ⟨fun W hW => read_any 6 (by omega) (by omega) A1 c1 W (Kd.C_below hr1 hW) hc1⟩
  have HGL := Aside0.mk hGL
  cases hg : chk 8 l0
  ·rw [hg] at h HC1
   injection h with h1 h2
   subst h1 h2
   clear hg hr0 hr1
   go_enter Tryd.func21, Tryd.ntmps21
   go_wp2_with (first
    | (go_at_call 63; refine (HC2.out _ HB1.out).mono ?_; rintro e w2 ⟨v2, rfl, _, hb2⟩; have HB2 := Aside0.mk (below_step HB1.out hb2); clear hb2)
    | (go_at_call 63; refine (HC1.out _ (Below.refl _ _)).mono ?_; rintro e w1 ⟨v1, rfl, _, hb1⟩; have HB1 := Aside0.mk hb1; clear hb1))
   go_ret2
   exact ⟨_, rfl, Kd.R_nil _ _ _ _ _, HB2.out⟩
  ·cases hp : chk 6 l1
   ·rw [hg, hp] at h
    rw [hg] at HC1
    rw [hp] at HC2
    injection h with h1 h2
    subst h1 h2
    clear hg hp hr0 hr1
    go_enter Tryd.func21, Tryd.ntmps21
    go_wp2_with (first
     | (go_at_call 63; refine (HC2.out _ HB1.out).mono ?_; rintro e w2 ⟨v2, rfl, _, hb2⟩; have HB2 := Aside0.mk (below_step HB1.out hb2); clear hb2)
     | (go_at_call 63; refine (HC1.out _ (Below.refl _ _)).mono ?_; rintro e w1 ⟨v1, rfl, _, hb1⟩; have HB1 := Aside0.mk hb1; clear hb1))
    go_ret2
    exact ⟨_, rfl, Kd.R_nil _ _ _ _ _, HB2.out⟩
   ·rw [hg, hp] at h
    rw [hg] at HC1
    rw [hp] at HC2
    obtain ⟨G, rfl, hG⟩ := (chk_iff 8 (by omega) _).1 hg
    obtain ⟨P, rfl, hP⟩ := (chk_iff 6 (by omega) _).1 hp
    rw [gi_toNat, gi_toNat] at h
    simp only [gi_length] at HC1 HC2 hr0 hr1 hc0 hc1 ⊢
    have hn := hG.most
    have hpn := hP.most
    have HFD : Aside0 (∀ W A c A' c', Below w.heap.size w W → G.length ≤ c → Kd.C (Kd.int .i64) W A G.length (gi G) → Kd.C (Kd.int .i64) W A' P.length (gi P) → Calls Tryd.prog 64 #[.slice A G.length c, .slice A' P.length c'] W fun e w' => ∃ v, e = .returned v ∧ Kd.R (Kd.int .i64) 3 w' W.heap.size (fun _ => True) v ((findN G P).elim [] gi) ∧ ((findN G P = none ∧ v = .slice none 0 0) ∨ ((findN G P).isSome = true ∧ ∃ a n c, v = .slice (some a) n c)) ∧ Below W.heap.size W w') := ⟨fun W A c A' c' hW hc hA hA' =>
     find_calls A c G (gr_mono hG (by omega)) hc A' c' P hP.pos (by omega) (fun x hx => small P (by omega) (by
      obtain ⟨i, hi, e⟩ := List.getElem_of_mem hx
      have := hP.row i
      rw [List.getD_eq_getElem?_getD, List.getElem?_eq_getElem hi] at this
      rw [← e]
      exact this)) W (GL_below HGL.out hW) (by rw [gi_length]; exact hA) (by rw [gi_length]; exact hA')⟩
    clear hg hp hr0 hr1 hG hP hGL
    cases hf : findN G P with
    | none =>
     rw [hf] at HFD h
     injection h with h1 h2
     subst h1 h2
     clear hf
     have heq_ := fun (w : World) (a : Option Addr) (n c : Nat) => Lib.run_eql_slice_nil (P := Tryd.prog) w 22 3 a n c 0 0 Tryd.underlying22
     go_enter Tryd.func21, Tryd.ntmps21
     go_wp2_with (first
      | (go_at_call 63; refine (HC2.out _ HB1.out).mono ?_; rintro e w2 ⟨v2, rfl, hv2, hb2⟩; obtain ⟨A6, c6, rfl, hc6, hC6⟩ := hv2 trivial; have HB2 := Aside0.mk (below_step HB1.out hb2); have HB12 := Aside0.mk hb2; have HC6 := Aside0.mk hC6; clear hb2 hv2 hC6)
      | (go_at_call 63; refine (HC1.out _ (Below.refl _ _)).mono ?_; rintro e w1 ⟨v1, rfl, hv1, hb1⟩; obtain ⟨A5, c5, rfl, hc5, hC5⟩ := hv1 trivial; have HB1 := Aside0.mk hb1; have HC5 := Aside0.mk hC5; clear hb1 hv1 hC5)
      | (go_at_call 64; refine (HFD.out _ _ _ _ _ HB2.out hc5 (Kd.C_below HC5.out HB12.out) HC6.out).mono ?_; rintro e w3 ⟨v3, rfl, _, hv3, hb3⟩; have hv4 : v3 = .slice none 0 0 := hv3.elim (fun h => h.2) (fun h => by cases h.1); subst hv4; have HB3 := Aside0.mk (below_step HB2.out hb3); clear hb3))
     go_ret2
     exact ⟨_, rfl, Kd.R_nil _ _ _ _ _, HB3.out⟩
    | some M =>
     rw [hf] at HFD h
     injection h with h1 h2
     subst h1 h2
     clear hf
     have heq_ := fun (w : World) (a : Option Addr) (n c : Nat) => Lib.run_eql_slice_nil (P := Tryd.prog) w 22 3 a n c 0 0 Tryd.underlying22
     go_enter Tryd.func21, Tryd.ntmps21
     go_wp2_with (first
      | (go_at_call 63; refine (HC2.out _ HB1.out).mono ?_; rintro e w2 ⟨v2, rfl, hv2, hb2⟩; obtain ⟨A6, c6, rfl, hc6, hC6⟩ := hv2 trivial; have HB2 := Aside0.mk (below_step HB1.out hb2); have HB12 := Aside0.mk hb2; have HC6 := Aside0.mk hC6; clear hb2 hv2 hC6)
      | (go_at_call 63; refine (HC1.out _ (Below.refl _ _)).mono ?_; rintro e w1 ⟨v1, rfl, hv1, hb1⟩; obtain ⟨A5, c5, rfl, hc5, hC5⟩ := hv1 trivial; have HB1 := Aside0.mk hb1; have HC5 := Aside0.mk hC5; clear hb1 hv1 hC5)
      | (go_at_call 64; refine (HFD.out _ _ _ _ _ HB2.out hc5 (Kd.C_below HC5.out HB12.out) HC6.out).mono ?_; rintro e w3 ⟨v3, rfl, hR3, hv3, hb3⟩; obtain ⟨a3, n3, c3, rfl⟩ : ∃ a n c, v3 = .slice (some a) n c := hv3.elim (fun h => by cases h.1) (fun h => h.2); have HB3 := Aside0.mk (below_step HB2.out hb3); have HR3 := Aside0.mk hR3; clear hb3 hR3))
     go_ret2
     exact ⟨_, rfl, Kd.R_lower HR3.out HB2.out.size, HB3.out⟩
 ·rw [if_neg hlen] at h
  cases h
end Go.Proofs.YtjloppfdagfpmaaDoor.X
end
section
namespace Go.Proofs.YtjloppfdagfpmaaDoor.X
open Go.RowKit YtjloppfdagfpmaaDoorW.PrintWords YtjloppfdagfpmaaDoorW.PrintLast YtjloppfdagfpmaaDoorW.PrintMore
attribute [local go_sem] max2_int min2_int max_two min_two max_three min_three max_four min_four
/-! ### slices_Equal_int_int: function 27 -/
def slices_Equal_int_int.l0 : Nat → List Int → List Int → Int → Int → Option (Bool)
 | 0, _, _, _, _ => none
 | k + 1, x0, x1, x12, x13 => if x13 < x12 then (if 0 ≤ x13 then (if x13 < (x0.length : Int) then (if x13 < (x1.length : Int) then (if (rd x0 x13) = (rd x1 x13) then (slices_Equal_int_int.l0 k x0 x1 x12 (wrap64 (x13 + 1))) else (some false)) else (none)) else (none)) else (none)) else (some true)
def slices_Equal_int_int.f (k : Nat) (l0 : List Int) (l1 : List Int) : Option (Bool) := if (l0.length : Int) = (l1.length : Int) then (slices_Equal_int_int.l0 k l0 l1 (l0.length : Int) 0) else (some false)
theorem slices_Equal_int_int.mono_l : ∀ k, (∀ y0 y1 y2 y3, LeO (slices_Equal_int_int.l0 k y0 y1 y2 y3) (slices_Equal_int_int.l0 (k + 1) y0 y1 y2 y3))
 | 0 => fun _ _ _ _ r h => by simp [slices_Equal_int_int.l0] at h
 | k + 1 => by
  have ih0 := slices_Equal_int_int.mono_l k
  ·intro y0 y1 y2 y3
   unfold slices_Equal_int_int.l0
   repeat' first
   | (with_reducible exact ih0 _ _ _ _)
   | (with_reducible exact LeO.refl _)
   | (with_reducible exact LeO.none _)
   | (with_reducible refine LeO.ite ?_ ?_)
   | (with_reducible refine LeO.bind ?_ (fun _ => ?_))
   | exact ih0 _ _ _ _
   | exact LeO.none _
   | refine LeO.ite ?_ ?_
   | refine LeO.bind ?_ (fun _ => ?_)
theorem slices_Equal_int_int.mono : ∀ a0 a1 k, LeO (slices_Equal_int_int.f k a0 a1) (slices_Equal_int_int.f (k + 1) a0 a1) := by
 intro a0 a1 k
 have ih0 := slices_Equal_int_int.mono_l k
 unfold slices_Equal_int_int.f
 repeat' first
   | (with_reducible exact ih0 _ _ _ _)
   | (with_reducible exact LeO.refl _)
   | (with_reducible exact LeO.none _)
   | (with_reducible refine LeO.ite ?_ ?_)
   | (with_reducible refine LeO.bind ?_ (fun _ => ?_))
   | exact ih0 _ _ _ _
   | exact LeO.none _
   | refine LeO.ite ?_ ?_
   | refine LeO.bind ?_ (fun _ => ?_)
set_option maxHeartbeats 8000000 in
set_option maxRecDepth 100000 in
theorem slices_Equal_int_int.calls (k : Nat) (A0 : Option Addr) (c0 : Nat) (l0 : List Int) (A1 : Option Addr) (c1 : Nat) (l1 : List Int) (r : Bool) (w : World) (hr0 : Kd.C (Kd.int .i64) w A0 l0.length l0) (hc0 : l0.length ≤ c0) (hr1 : Kd.C (Kd.int .i64) w A1 l1.length l1) (hc1 : l1.length ≤ c1) (h : slices_Equal_int_int.f k l0 l1 = some r) :
  Calls Tryd.prog 27 #[.slice A0 l0.length c0, .slice A1 l1.length c1] w fun e w' => e = .returned (.bool r) ∧ Drawn0 w w' := by
 have HR0 := Aside0.mk hr0
 have HC0 := Aside0.mk hc0
 clear hr0 hc0
 have HR1 := Aside0.mk hr1
 have HC1 := Aside0.mk hc1
 clear hr1 hc1
 have H : (if (l0.length : Int) = (l1.length : Int) then (slices_Equal_int_int.l0 k l0 l1 (l0.length : Int) 0) else (some false)) = some r := h
 clear h
 by_cases c3 : (l0.length : Int) = (l1.length : Int)
 ·rw [if_pos c3] at H
  have c3b0 : ((l0.length : Int) == (l1.length : Int)) = true := beq_iff_eq.mpr c3
  have c3b1 : ((l0.length : Int) != (l1.length : Int)) = false := bne_eq_false_iff_eq.mpr c3
  have c3b2 : (l0.length == l1.length) = true := by first | simpa using c3 | (simp at c3 ⊢; omega)
  clear c3
  have H' := Aside0.mk H
  clear H
  go_enter Tryd.func27, Tryd.ntmps27
  go_wp2
  repeat (go_quiet (fail); try go_wp2)
  go_loopg [13] k (fun kq v13 w' => ∃ (x13_1 : Int), v13 = .int .i64 x13_1 ∧ Aside0 (slices_Equal_int_int.l0 kq l0 l1 (l0.length : Int) x13_1 = some r) ∧ Aside0 (kq ≤ k) ∧ Drawn0 w w')
  case atStart => exact ⟨(0), (by first | rfl | (simp; done) | (simp [*]; done)), H', ⟨Nat.le_refl _⟩, by repeat (first | exact Drawn0.refl _ | apply Drawn0.step)⟩
  case round =>
   clear H'
   try clear c1
   try clear c2
   try clear p2
   try clear c3
   try clear c3b0
   try clear c3b1
   try clear c3b2
   obtain ⟨x13_1, rfl, HA, HK1, ⟨m1, rfl⟩⟩ := hrel
   cases gk with
   | zero => exact absurd HA.out (by simp [slices_Equal_int_int.l0])
   | succ k1 =>
    have H := HA.out
    clear HA
    simp only [slices_Equal_int_int.l0] at H
    by_cases c4 : x13_1 < (l0.length : Int)
    ·rw [if_pos c4] at H
     have c4b0 : decide (x13_1 < (l0.length : Int)) = true := decide_eq_true c4
     clear c4
     by_cases c5 : 0 ≤ x13_1
     ·rw [if_pos c5] at H
      have c5b0 : decide (0 ≤ x13_1) = true := decide_eq_true c5
      clear c5
      by_cases c6 : x13_1 < (l0.length : Int)
      ·rw [if_pos c6] at H
       have c6b0 : decide (x13_1 < (l0.length : Int)) = true := decide_eq_true c6
       clear c6
       by_cases c7 : x13_1 < (l1.length : Int)
       ·rw [if_pos c7] at H
        have c7b0 : decide (x13_1 < (l1.length : Int)) = true := decide_eq_true c7
        clear c7
        by_cases c8 : (rd l0 x13_1) = (rd l1 x13_1)
        ·rw [if_pos c8] at H
         have c8b0 : ((rd l0 x13_1) == (rd l1 x13_1)) = true := beq_iff_eq.mpr c8
         have c8b1 : ((rd l0 x13_1) != (rd l1 x13_1)) = false := bne_eq_false_iff_eq.mpr c8
         clear c8
         have H' := Aside0.mk H
         clear H
         have p127 : 0 ≤ (x13_1 : Int) := of_decide_eq_true (by first | (with_reducible assumption) | assumption)
         have q127 : x13_1 < (l0.length : Int) := of_decide_eq_true (by first | (with_reducible assumption) | assumption)
         obtain ⟨ad127, e127, hx127_0⟩ := Kd.at_int HR0.out x13_1 p127 q127
         cases e127
         replace p127 := eq_true p127
         replace q127 := eq_true q127
         have p128 : 0 ≤ (x13_1 : Int) := of_decide_eq_true (by first | (with_reducible assumption) | assumption)
         have q128 : x13_1 < (l1.length : Int) := of_decide_eq_true (by first | (with_reducible assumption) | assumption)
         obtain ⟨ad128, e128, hx128_0⟩ := Kd.at_int HR1.out x13_1 p128 q128
         cases e128
         replace p128 := eq_true p128
         replace q128 := eq_true q128
         go_wp2
         repeat (go_quiet (fail); try go_wp2)
         go_roundg k1
         case measure => have := HK1.out; omega
         case rel => exact ⟨(wrap64 (x13_1 + 1)), (by first | rfl | (simp; done) | (simp [*]; done)), H', ⟨by have := HK1.out; omega⟩, by repeat (first | exact Drawn0.refl _ | apply Drawn0.step)⟩
        ·rw [if_neg c8] at H
         have c8b0 : ((rd l0 x13_1) == (rd l1 x13_1)) = false := beq_eq_false_iff_ne.mpr c8
         have c8b1 : ((rd l0 x13_1) != (rd l1 x13_1)) = true := bne_iff_ne.mpr c8
         obtain rfl := Option.some.inj H
         have p127 : 0 ≤ (x13_1 : Int) := of_decide_eq_true (by first | (with_reducible assumption) | assumption)
         have q127 : x13_1 < (l0.length : Int) := of_decide_eq_true (by first | (with_reducible assumption) | assumption)
         obtain ⟨ad127, e127, hx127_0⟩ := Kd.at_int HR0.out x13_1 p127 q127
         cases e127
         replace p127 := eq_true p127
         replace q127 := eq_true q127
         have p128 : 0 ≤ (x13_1 : Int) := of_decide_eq_true (by first | (with_reducible assumption) | assumption)
         have q128 : x13_1 < (l1.length : Int) := of_decide_eq_true (by first | (with_reducible assumption) | assumption)
         obtain ⟨ad128, e128, hx128_0⟩ := Kd.at_int HR1.out x13_1 p128 q128
         cases e128
         replace p128 := eq_true p128
         replace q128 := eq_true q128
         go_wp2
         repeat (go_quiet (fail); try go_wp2)
         go_ret
         exact ⟨by first | rfl | (simp; done) | (simp [*]; done), by repeat (first | exact Drawn0.refl _ | apply Drawn0.step)⟩
       ·rw [if_neg c7] at H
        exact absurd H (by simp)
      ·rw [if_neg c6] at H
       exact absurd H (by simp)
     ·rw [if_neg c5] at H
      exact absurd H (by simp)
    ·rw [if_neg c4] at H
     have c4b0 : decide (x13_1 < (l0.length : Int)) = false := decide_eq_false c4
     clear c4
     obtain rfl := Option.some.inj H
     go_wp2
     repeat (go_quiet (fail); try go_wp2)
     go_ret
     exact ⟨by first | rfl | (simp; done) | (simp [*]; done), by repeat (first | exact Drawn0.refl _ | apply Drawn0.step)⟩
 ·rw [if_neg c3] at H
  have c3b0 : ((l0.length : Int) == (l1.length : Int)) = false := beq_eq_false_iff_ne.mpr c3
  have c3b1 : ((l0.length : Int) != (l1.length : Int)) = true := bne_iff_ne.mpr c3
  have c3b2 : (l0.length == l1.length) = false := by first | simpa using c3 | (simp at c3 ⊢; omega)
  obtain rfl := Option.some.inj H
  go_enter Tryd.func27, Tryd.ntmps27
  go_wp2
  repeat (go_quiet (fail); try go_wp2)
  go_ret
  exact ⟨by first | rfl | (simp; done) | (simp [*]; done), by repeat (first | exact Drawn0.refl _ | apply Drawn0.step)⟩
end Go.Proofs.YtjloppfdagfpmaaDoor.X
end
section
namespace Go.Proofs.YtjloppfdagfpmaaDoor.X
open Go.RowKit YtjloppfdagfpmaaDoorW.PrintWords YtjloppfdagfpmaaDoorW.PrintLast YtjloppfdagfpmaaDoorW.PrintMore
attribute [local go_sem] max2_int min2_int max_two min_two max_three min_three max_four min_four
/-! ### lampblacklaw07_awake: function 17 -/
def lampblacklaw07_awake.f (k : Nat)  : Option (Bool) := (minor_Model.f (([2, 1] : List Int)) (([2, 1] : List Int))).bind fun bt135 => (if bt135.2 = 0 then ((slices_Equal_int_int.f k bt135.1 (([1, 2] : List Int))).bind fun t142 => (some t142)) else (some false))
theorem lampblacklaw07_awake.mono : ∀ k, LeO (lampblacklaw07_awake.f k ) (lampblacklaw07_awake.f (k + 1) ) := by
 intro  k
 unfold lampblacklaw07_awake.f
 repeat' first
   | (with_reducible exact slices_Equal_int_int.mono _ _ _)
   | (with_reducible exact LeO.refl _)
   | (with_reducible exact LeO.none _)
   | (with_reducible refine LeO.ite ?_ ?_)
   | (with_reducible refine LeO.bind ?_ (fun _ => ?_))
   | exact slices_Equal_int_int.mono _ _ _
   | exact LeO.none _
   | refine LeO.ite ?_ ?_
   | refine LeO.bind ?_ (fun _ => ?_)
set_option maxHeartbeats 8000000 in
set_option maxRecDepth 100000 in
theorem lampblacklaw07_awake.calls (k : Nat)  (r : Bool) (w : World) (hGL : GL w) (h : lampblacklaw07_awake.f k  = some r) :
  Calls Tryd.prog 17 #[] w fun e w' => e = .returned (.bool r) ∧ Below w.heap.size w w' := by
 have HGL := Aside0.mk hGL
 clear hGL
 have HB := Aside0.mk (Below.refl w.heap.size w)
 have H : ((minor_Model.f (([2, 1] : List Int)) (([2, 1] : List Int))).bind fun bt135 => (if bt135.2 = 0 then ((slices_Equal_int_int.f k bt135.1 (([1, 2] : List Int))).bind fun t142 => (some t142)) else (some false))) = some r := h
 clear h
 obtain ⟨y129, hy129⟩ : ∃ y_ : List Int, y_ = (([2, 1] : List Int)) := ⟨_, rfl⟩
 replace H : ((minor_Model.f y129 (([2, 1] : List Int))).bind fun bt135 => (if bt135.2 = 0 then ((slices_Equal_int_int.f k bt135.1 (([1, 2] : List Int))).bind fun t142 => (some t142)) else (some false))) = some r := by first | (rw [hy129]; with_reducible exact H) | (have H2_ := (Option.bind_some _ _).symm.trans H; rw [hy129]; with_reducible exact H2_) | (have H2_ := (Option.bind_some _ _).symm.trans H; with_reducible exact H2_) | with_reducible exact H | (rw [hy129]; exact H) | exact H
 have Ny129 := Aside0.mk hy129
 clear hy129
 obtain ⟨y132, hy132⟩ : ∃ y_ : List Int, y_ = (([2, 1] : List Int)) := ⟨_, rfl⟩
 replace H : ((minor_Model.f y129 y132).bind fun bt135 => (if bt135.2 = 0 then ((slices_Equal_int_int.f k bt135.1 (([1, 2] : List Int))).bind fun t142 => (some t142)) else (some false))) = some r := by first | (rw [hy132]; with_reducible exact H) | (have H2_ := (Option.bind_some _ _).symm.trans H; rw [hy132]; with_reducible exact H2_) | (have H2_ := (Option.bind_some _ _).symm.trans H; with_reducible exact H2_) | with_reducible exact H | (rw [hy132]; exact H) | exact H
 have Ny132 := Aside0.mk hy132
 clear hy132
 replace H := Option.bind_eq_some_iff.mp H
 obtain ⟨⟨t135, t136⟩, A10, H⟩ := H
 replace H : (if t136 = 0 then ((slices_Equal_int_int.f k t135 (([1, 2] : List Int))).bind fun t142 => (some t142)) else (some false)) = some r := H
 have A1 := Aside0.mk A10
 clear A10
 by_cases c2 : t136 = 0
 ·rw [if_pos c2] at H
  have c2b0 : (t136 == 0) = true := beq_iff_eq.mpr c2
  have c2b1 : (t136 != 0) = false := bne_eq_false_iff_eq.mpr c2
  clear c2
  obtain ⟨y139, hy139⟩ : ∃ y_ : List Int, y_ = (([1, 2] : List Int)) := ⟨_, rfl⟩
  replace H : ((slices_Equal_int_int.f k t135 y139).bind fun t142 => (some t142)) = some r := by first | (rw [hy139]; with_reducible exact H) | (have H2_ := (Option.bind_some _ _).symm.trans H; rw [hy139]; with_reducible exact H2_) | (have H2_ := (Option.bind_some _ _).symm.trans H; with_reducible exact H2_) | with_reducible exact H | (rw [hy139]; exact H) | exact H
  have Ny139 := Aside0.mk hy139
  clear hy139
  replace H := Option.bind_eq_some_iff.mp H
  obtain ⟨t142, A30, H⟩ := H
  replace H : (some t142) = some r := H
  have A3 := Aside0.mk A30
  clear A30
  obtain rfl := Option.some.inj H
  go_enter Tryd.func17, Tryd.ntmps17
  go_wp2_with (first | ((with_reducible refine gate_dst (N := 4) rfl ?_); (try (refine gate_guard (by rfl) ?_; dsimp only)); refine Kd.R_lit (Kd.int .i64) _ 3 ?hg (N := 4) ?hd (xs := ([2, 1] : List Int)) (inner := [.int .i64 2, .int .i64 1]) (ok := fun _ => True) (okp := fun _ => True) ?hr ?hp (fun _ hk => hk) trivial (Below.refl _ _) (Nat.le_refl _) (by simp) ?_; (case hd => rfl); (case hg => rfl); (case hr => first | (go_simp; done) | (go_simp; rfl)); (case hp => exact (Reps.one (show Kd.M (Kd.int .i64) _ _ _ 2 [.int .i64 2] from rfl) (Reps.one (show Kd.M (Kd.int .i64) _ _ _ 1 [.int .i64 1] from rfl) (Reps.none _ _)))); intro v130 w4 ho5 hb hg_ hnew_; clear hg_ hnew_; (first | rw [← Ny129.out] at ho5 | (simp only [Int.reduceToNat] at ho5; rw [← Ny129.out] at ho5)); have n0_ := Aside0.mk (Kd.R_lower ho5 (below_size (Qaw))); have n1_ := Aside0.mk (below_step (Qaw) hb); clear HB; have HO131 := n0_; have HB := n1_; clear n0_ n1_; clear hb ho5) | ((with_reducible refine gate_dst (N := 5) rfl ?_); (try (refine gate_guard (by rfl) ?_; dsimp only)); refine Kd.R_lit (Kd.int .i64) _ 3 ?hg (N := 5) ?hd (xs := ([2, 1] : List Int)) (inner := [.int .i64 2, .int .i64 1]) (ok := fun _ => True) (okp := fun _ => True) ?hr ?hp (fun _ hk => hk) trivial (Below.refl _ _) (Nat.le_refl _) (by simp) ?_; (case hd => rfl); (case hg => rfl); (case hr => first | (go_simp; done) | (go_simp; rfl)); (case hp => exact (Reps.one (show Kd.M (Kd.int .i64) _ _ _ 2 [.int .i64 2] from rfl) (Reps.one (show Kd.M (Kd.int .i64) _ _ _ 1 [.int .i64 1] from rfl) (Reps.none _ _)))); intro v133 w6 ho7 hb hg_ hnew_; clear hg_ hnew_; (first | rw [← Ny132.out] at ho7 | (simp only [Int.reduceToNat] at ho7; rw [← Ny132.out] at ho7)); have n0_ := Aside0.mk (Kd.R_elder' (Qro HO131.out) (Kd.R_base ho7) hb); have n1_ := Aside0.mk (Kd.R_lower (Kd.R_new' ho7 (Kd.R_lt (Qro HO131.out))) (below_size (Qaw))); have n2_ := Aside0.mk (below_step (Qaw) hb); clear HO131; clear HB; have HO131 := n0_; have HO134 := n1_; have HB := n2_; clear n0_ n1_ n2_; clear hb ho7; obtain ⟨Ao8, co8, eo8⟩ := Kd.R_slice HO131.out; subst eo8; obtain ⟨Ao9, co9, eo9⟩ := Kd.R_slice HO134.out; subst eo9) | ((with_reducible refine gate_callee (f := 21) rfl ?_); refine goesL_ (some 6) rfl rfl Tryd.func21 (by kernel_rfl) rfl #[.slice Ao8 y129.length co8, .slice Ao9 y132.length co9] rfl (Qls) ?_; (with_reducible refine (minor_Model.calls (hGL := (Qlg)) _ _ y129 _ _ y132 t135 t136 _ ?side1 ?side2 ?side3 ?side4 A1.out).mono ?_); (case side1 => exact Qsc (Kd.R_reads' HO131.out).2.2); (case side2 => exact (Kd.R_reads' HO131.out).2.1); (case side3 => exact Qsc (Kd.R_reads' HO134.out).2.2); (case side4 => exact (Kd.R_reads' HO134.out).2.1); rintro e w10 ⟨v137, rfl, ho0, hb⟩; refine ⟨_, rfl, ?_⟩; have n0_ := Aside0.mk (Kd.R_elder' (Qro HO131.out) (Kd.R_base ho0) hb); have n1_ := Aside0.mk (Kd.R_elder' (Qro HO134.out) (Kd.R_base ho0) hb); have n2_ := Aside0.mk (Kd.R_lower (Kd.R_new' (Kd.R_new' ho0 (Kd.R_lt (Qro HO131.out))) (Kd.R_lt (Qro HO134.out))) (below_size (Qaw))); have n3_ := Aside0.mk (below_step (Qaw) hb); clear HO131; clear HO134; clear HB; have HO131 := n0_; have HO134 := n1_; have HO138 := n2_; have HB := n3_; clear n0_ n1_ n2_ n3_; (try clear hb); (try clear hb2); (try clear hk); (try clear hi); (try clear ho0)) | ((with_reducible refine gate_dst (N := 13) rfl ?_); (try (refine gate_guard (by rfl) ?_; dsimp only)); refine Kd.R_lit (Kd.int .i64) _ 3 ?hg (N := 13) ?hd (xs := ([1, 2] : List Int)) (inner := [.int .i64 1, .int .i64 2]) (ok := fun _ => True) (okp := fun _ => True) ?hr ?hp (fun _ hk => hk) trivial (Below.refl _ _) (Nat.le_refl _) (by simp) ?_; (case hd => rfl); (case hg => rfl); (case hr => first | (go_simp; done) | (go_simp; rfl)); (case hp => exact (Reps.one (show Kd.M (Kd.int .i64) _ _ _ 1 [.int .i64 1] from rfl) (Reps.one (show Kd.M (Kd.int .i64) _ _ _ 2 [.int .i64 2] from rfl) (Reps.none _ _)))); intro v140 w11 ho12 hb hg_ hnew_; clear hg_ hnew_; (first | rw [← Ny139.out] at ho12 | (simp only [Int.reduceToNat] at ho12; rw [← Ny139.out] at ho12)); have n0_ := Aside0.mk (Kd.R_elder' (Qro HO131.out) (Kd.R_base ho12) hb); have n1_ := Aside0.mk (Kd.R_elder' (Qro HO134.out) (Kd.R_base ho12) hb); have n2_ := Aside0.mk (Kd.R_elder' (Qro HO138.out) (Kd.R_base ho12) hb); have n3_ := Aside0.mk (Kd.R_lower (Kd.R_new' (Kd.R_new' (Kd.R_new' ho12 (Kd.R_lt (Qro HO131.out))) (Kd.R_lt (Qro HO134.out))) (Kd.R_lt (Qro HO138.out))) (below_size (Qaw))); have n4_ := Aside0.mk (below_step (Qaw) hb); clear HO131; clear HO134; clear HO138; clear HB; have HO131 := n0_; have HO134 := n1_; have HO138 := n2_; have HO141 := n3_; have HB := n4_; clear n0_ n1_ n2_ n3_ n4_; clear hb ho12; obtain ⟨Ao13, co13, eo13⟩ := Kd.R_slice HO138.out; subst eo13; obtain ⟨Ao14, co14, eo14⟩ := Kd.R_slice HO141.out; subst eo14) | (go_at_call 27; (with_reducible refine (slices_Equal_int_int.calls k _ _ t135 _ _ y139 t142 _ ?side1 ?side2 ?side3 ?side4 A3.out).mono ?_); (case side1 => exact Qsc (Kd.R_reads' HO138.out).2.2); (case side2 => exact (Kd.R_reads' HO138.out).2.1); (case side3 => exact Qsc (Kd.R_reads' HO141.out).2.2); (case side4 => exact (Kd.R_reads' HO141.out).2.1); rintro e w' ⟨rfl, ⟨nd, rfl⟩⟩))
  go_ret
  exact ⟨by first | rfl | (simp [errW_none, errW_some] <;> rfl) | (simp [*, errW_none, errW_some] <;> rfl), by repeat (first | (with_reducible first | exact HB.out | apply below_alloc | apply pw_below_drewN | apply below_drew1) | exact HB.out)⟩
 ·rw [if_neg c2] at H
  have c2b0 : (t136 == 0) = false := beq_eq_false_iff_ne.mpr c2
  have c2b1 : (t136 != 0) = true := bne_iff_ne.mpr c2
  obtain rfl := Option.some.inj H
  go_enter Tryd.func17, Tryd.ntmps17
  go_wp2_with (first | ((with_reducible refine gate_dst (N := 4) rfl ?_); (try (refine gate_guard (by rfl) ?_; dsimp only)); refine Kd.R_lit (Kd.int .i64) _ 3 ?hg (N := 4) ?hd (xs := ([2, 1] : List Int)) (inner := [.int .i64 2, .int .i64 1]) (ok := fun _ => True) (okp := fun _ => True) ?hr ?hp (fun _ hk => hk) trivial (Below.refl _ _) (Nat.le_refl _) (by simp) ?_; (case hd => rfl); (case hg => rfl); (case hr => first | (go_simp; done) | (go_simp; rfl)); (case hp => exact (Reps.one (show Kd.M (Kd.int .i64) _ _ _ 2 [.int .i64 2] from rfl) (Reps.one (show Kd.M (Kd.int .i64) _ _ _ 1 [.int .i64 1] from rfl) (Reps.none _ _)))); intro v130 w15 ho16 hb hg_ hnew_; clear hg_ hnew_; (first | rw [← Ny129.out] at ho16 | (simp only [Int.reduceToNat] at ho16; rw [← Ny129.out] at ho16)); have n0_ := Aside0.mk (Kd.R_lower ho16 (below_size (Qaw))); have n1_ := Aside0.mk (below_step (Qaw) hb); clear HB; have HO131 := n0_; have HB := n1_; clear n0_ n1_; clear hb ho16) | ((with_reducible refine gate_dst (N := 5) rfl ?_); (try (refine gate_guard (by rfl) ?_; dsimp only)); refine Kd.R_lit (Kd.int .i64) _ 3 ?hg (N := 5) ?hd (xs := ([2, 1] : List Int)) (inner := [.int .i64 2, .int .i64 1]) (ok := fun _ => True) (okp := fun _ => True) ?hr ?hp (fun _ hk => hk) trivial (Below.refl _ _) (Nat.le_refl _) (by simp) ?_; (case hd => rfl); (case hg => rfl); (case hr => first | (go_simp; done) | (go_simp; rfl)); (case hp => exact (Reps.one (show Kd.M (Kd.int .i64) _ _ _ 2 [.int .i64 2] from rfl) (Reps.one (show Kd.M (Kd.int .i64) _ _ _ 1 [.int .i64 1] from rfl) (Reps.none _ _)))); intro v133 w17 ho18 hb hg_ hnew_; clear hg_ hnew_; (first | rw [← Ny132.out] at ho18 | (simp only [Int.reduceToNat] at ho18; rw [← Ny132.out] at ho18)); have n0_ := Aside0.mk (Kd.R_elder' (Qro HO131.out) (Kd.R_base ho18) hb); have n1_ := Aside0.mk (Kd.R_lower (Kd.R_new' ho18 (Kd.R_lt (Qro HO131.out))) (below_size (Qaw))); have n2_ := Aside0.mk (below_step (Qaw) hb); clear HO131; clear HB; have HO131 := n0_; have HO134 := n1_; have HB := n2_; clear n0_ n1_ n2_; clear hb ho18; obtain ⟨Ao19, co19, eo19⟩ := Kd.R_slice HO131.out; subst eo19; obtain ⟨Ao20, co20, eo20⟩ := Kd.R_slice HO134.out; subst eo20) | ((with_reducible refine gate_callee (f := 21) rfl ?_); refine goesL_ (some 6) rfl rfl Tryd.func21 (by kernel_rfl) rfl #[.slice Ao19 y129.length co19, .slice Ao20 y132.length co20] rfl (Qls) ?_; (with_reducible refine (minor_Model.calls (hGL := (Qlg)) _ _ y129 _ _ y132 t135 t136 _ ?side1 ?side2 ?side3 ?side4 A1.out).mono ?_); (case side1 => exact Qsc (Kd.R_reads' HO131.out).2.2); (case side2 => exact (Kd.R_reads' HO131.out).2.1); (case side3 => exact Qsc (Kd.R_reads' HO134.out).2.2); (case side4 => exact (Kd.R_reads' HO134.out).2.1); rintro e w21 ⟨v137, rfl, ho0, hb⟩; refine ⟨_, rfl, ?_⟩; have n0_ := Aside0.mk (Kd.R_elder' (Qro HO131.out) (Kd.R_base ho0) hb); have n1_ := Aside0.mk (Kd.R_elder' (Qro HO134.out) (Kd.R_base ho0) hb); have n2_ := Aside0.mk (Kd.R_lower (Kd.R_new' (Kd.R_new' ho0 (Kd.R_lt (Qro HO131.out))) (Kd.R_lt (Qro HO134.out))) (below_size (Qaw))); have n3_ := Aside0.mk (below_step (Qaw) hb); clear HO131; clear HO134; clear HB; have HO131 := n0_; have HO134 := n1_; have HO138 := n2_; have HB := n3_; clear n0_ n1_ n2_ n3_; (try clear hb); (try clear hb2); (try clear hk); (try clear hi); (try clear ho0)))
  go_ret
  exact ⟨by first | rfl | (simp [errW_none, errW_some] <;> rfl) | (simp [*, errW_none, errW_some] <;> rfl), by repeat (first | (with_reducible first | exact HB.out | apply below_alloc | apply pw_below_drewN | apply below_drew1) | exact HB.out)⟩
end Go.Proofs.YtjloppfdagfpmaaDoor.X
end
section
namespace Go.Proofs.YtjloppfdagfpmaaDoor.X
open Go.RowKit YtjloppfdagfpmaaDoorW.PrintWords YtjloppfdagfpmaaDoorW.PrintLast YtjloppfdagfpmaaDoorW.PrintMore
attribute [local go_sem] max2_int min2_int max_two min_two max_three min_three max_four min_four
/-! ### api_Graph_int_30: function 30 -/
def api_Graph_int_30.l0 : Nat → List Int → List Int → Int → Int → Option (Bool)
 | 0, _, _, _, _ => none
 | k + 1, x0, x1, x12, x13 => if x13 < x12 then (if 0 ≤ x13 then (if x13 < (x0.length : Int) then (if x13 < (x1.length : Int) then (if (rd x0 x13) = (rd x1 x13) then (api_Graph_int_30.l0 k x0 x1 x12 (wrap64 (x13 + 1))) else (some false)) else (none)) else (none)) else (none)) else (some true)
end Go.Proofs.YtjloppfdagfpmaaDoor.X
end
section
/- (minor) What the laws share: connected sets, valid graphs, patterns, beginnings, equal slices, an edge is a minor of itself. -/
namespace Go.Proofs.YtjloppfdagfpmaaDoor.X
open Go.RowKit YtjloppfdagfpmaaDoorW.PrintWords YtjloppfdagfpmaaDoorW.PrintLast YtjloppfdagfpmaaDoorW.PrintMore YtjloppfdagfpmaaDoor.T
theorem mn_nat (a b : Nat) : mn (a : Int) (b : Int) = ((min a b : Nat) : Int) := by unfold mn; split <;> omega
def low (a : Nat) : Nat := (els a 9).headD 0
theorem low_bits : ∀ x : Fin 512, 0 < x.val → x.val.testBit (low x.val) = true ∧ ∀ i : Fin 9, i.val < low x.val → x.val.testBit i.val = false := by decide +kernel
theorem size_all : ∀ x : Fin 512, lampblackref02_Size.f 12 (x.val : Int) = some (pc x.val 9 : Int) := by decide +kernel
theorem size_ev (x : Nat) (hx : x < 512) : Ev (fun k => lampblackref02_Size.f k (x : Int)) ((pc x 9 : Nat) : Int) := Ev.of (lampblackref02_Size.mono _) (size_all ⟨x, hx⟩)
noncomputable def conn (G : List Nat) (a : Int) : Bool := decide (0 < a) && decide (a < ((2 ^ G.length : Nat) : Int)) && decide (conset G (2 ^ low a.toNat) a.toNat = a.toNat)
theorem low_lt {G : List Nat} {a : Nat} (h0 : 0 < a) (h : a < 2 ^ G.length) (hn : G.length ≤ 9) : low a < G.length := bit_lt h (low_bits ⟨a, small G hn h⟩ h0).1
theorem refConn_l0 (G : List Nat) (hG : Gr 9 G) (a : Nat) (h0 : 0 < a) (ha : a < 2 ^ G.length) : ∀ d i, i + d = low a → Ev (fun k => lampblackref02_Connected.l0 k (gi G) (a : Int) (i : Int)) (decide (conset G (2 ^ low a) a = a)) := by
 have hn := hG.most
 have hl := low_lt (G := G) h0 ha hn
 have hb := low_bits ⟨a, small G hn ha⟩ h0
 have hbig := big (small G hn ha)
 intro d
 induction d with
 | zero =>
  intro i hi
  obtain rfl : i = low a := by omega
  refine Ev.step (fun k => by rw [lampblackref02_Connected.l0, if_pos (by omega), if_neg (fun h => by have := (bit_zero a _ hbig (by omega)).1 h; rw [hb.1] at this; cases this)]) ?_
  refine Ev.bind (reached_ev 9 G hG (by omega) a (low a) ha hl) (Ev.some ?_)
  by_cases e : conset G (2 ^ low a) a = a
  ·rw [e]; simp
  ·rw [decide_eq_false e, beq_eq_false_iff_ne]; omega
 | succ d ih =>
  intro i hi
  refine Ev.step (fun k => ?_) (ih (i + 1) (by omega))
  rw [lampblackref02_Connected.l0, if_pos (by omega), if_pos ((bit_zero a i hbig (by omega)).2 (hb.2 ⟨i, by omega⟩ (by simp only []; omega))), wrap_succ i (by omega)]
theorem refConn (G : List Nat) (hG : Gr 9 G) (a : Int) : Ev (fun k => lampblackref02_Connected.f k (gi G) a) (conn G a) := by
 have hn := hG.most
 have h9 : 2 ^ G.length ≤ 2 ^ 9 := Nat.pow_le_pow_right (by omega) hn
 have stop : ∀ k, lampblackref02_Connected.j0 (k + 1) (gi G) a true = some false := fun k => by rw [lampblackref02_Connected.j0, if_pos rfl]
 unfold lampblackref02_Connected.f
 by_cases h0 : a ≤ 0
 ·refine Ev.if_pos h0 (Ev.step stop (Ev.some ?_))
  unfold conn
  rw [decide_eq_false (by omega)]; rfl
 ·refine Ev.if_neg h0 ?_
  rw [gi_length, s_one _ (by omega)]
  by_cases h1 : a ≥ ((2 ^ G.length : Nat) : Int)
  ·rw [decide_eq_true h1]
   refine Ev.step stop (Ev.some ?_)
   unfold conn
   rw [decide_eq_false (show ¬ a < ((2 ^ G.length : Nat) : Int) by omega)]; simp
  ·rw [decide_eq_false h1]
   refine Ev.step (fun k => by rw [lampblackref02_Connected.j0, if_neg (by simp)]) ?_
   obtain ⟨b, rfl⟩ := Int.eq_ofNat_of_zero_le (show 0 ≤ a by omega)
   have := refConn_l0 G hG b (by omega) (by omega) (low b) 0 (by omega)
   unfold conn
   rw [decide_eq_true (show (0 : Int) < (b : Int) by omega), decide_eq_true (show (b : Int) < ((2 ^ G.length : Nat) : Int) by omega), Int.toNat_natCast]
   exact this
theorem refAround_l0 (G : List Nat) (hG : Gr 9 G) (s : Nat) (hs : s < 2 ^ G.length) : ∀ d i, i + d = G.length →
  Ev (fun k => lampblackref02_Around.l0 k (gi G) (s : Int) ((around G s i : Nat) : Int) (G.length : Int) (i : Int)) ((Around G s : Nat) : Int) := by
 have hn := hG.most
 have hbig := big (small G hn hs)
 have hlt : ∀ i, around G s i < 2 ^ G.length := fun i => lt_of_bits fun j hj => by
  obtain ⟨x, _, _, h⟩ := (around_bit G s i j).1 hj; exact hG.adj_lt h
 intro d
 induction d with
 | zero =>
  intro i hi
  obtain rfl : i = G.length := by omega
  exact Ev.step (f := fun _ => some ((around G s G.length : Nat) : Int)) (fun k => by rw [lampblackref02_Around.l0, if_neg (by omega)]) (Ev.some rfl)
 | succ d ih =>
  intro i hi
  refine Ev.step (fun k => ?_) (ih (i + 1) (by omega))
  by_cases hb : s.testBit i = true
  ·rw [lampblackref02_Around.l0, if_pos (by omega), if_pos (by omega), if_pos ((bit_one s i hbig (by omega)).2 hb), if_pos (by rw [gi_length]; omega), rd_gi,
    b_or _ _ (big (small G hn (hlt i))) (big (small G hn (hG.row i))), wrap_succ i (by omega)]
   simp only [around, hb, if_true]
  ·rw [lampblackref02_Around.l0, if_pos (by omega), if_pos (by omega), if_neg (fun h => hb ((bit_one s i hbig (by omega)).1 h)), wrap_succ i (by omega)]
   simp only [around, hb]
   simp
theorem refAround (G : List Nat) (hG : Gr 9 G) (s : Nat) (hs : s < 2 ^ G.length) : Ev (fun k => lampblackref02_Around.f k (gi G) (s : Int)) ((Around G s : Nat) : Int) := by
 have := refAround_l0 G hG s hs G.length 0 (by omega)
 unfold lampblackref02_Around.f
 rw [gi_length]
 exact this
theorem valid_ev (g : List Int) (hg : g.length < 2 ^ 60) : Ev (fun k => lampblackref07_Valid.f k g) (chk 8 g) := by
 unfold lampblackref07_Valid.f
 exact Ev.bind (isGraph_ev 8 (by omega) g hg) (Ev.some rfl)
theorem few_eq (g : List Int) (hg : g.length < 2 ^ 44) : ∃ h, lampblacklaw07_Few.f g = some h ∧ (chk 8 g = true → h = g) ∧ (chk 8 g = false → chk 8 h = false) ∧ h.length ≤ 12 := by
 have hm : mn (g.length : Int) 12 = ((min g.length 12 : Nat) : Int) := mn_nat g.length 12
 refine ⟨g.take (min g.length 12), ?_, ?_, ?_, ?_⟩
 ·unfold lampblacklaw07_Few.f slices_Clone_Graph.f
  simp only [hm, Int.toNat_natCast]
  rw [if_pos (by omega), if_pos (by omega)]
  simp only [Option.bind_some, List.length_nil, List.nil_append]
  rw [if_pos (by rw [List.length_take]; omega)]
  rfl
 ·intro h
  simp only [chk, Bool.and_eq_true, decide_eq_true_eq] at h
  exact List.take_of_length_le (by omega)
 ·intro h
  by_cases hl : g.length ≤ 12
  ·rw [List.take_of_length_le (by omega)]; exact h
  ·unfold chk
   have : ¬ (List.take (min g.length 12) g).length ≤ 8 := by rw [List.length_take]; omega
   rw [decide_eq_false this, Bool.and_false, Bool.false_and]
 ·rw [List.length_take]; omega
theorem low_lowb : ∀ x : Fin 512, 0 < x.val → low x.val = lowb x.val := by decide +kernel
theorem conn_conB {G : List Nat} (hG : Gr 9 G) (a : Nat) (h : a < 2 ^ G.length) : conn G (a : Int) = conB G a := by
 unfold conn conB
 rw [decide_eq_true (show (a : Int) < ((2 ^ G.length : Nat) : Int) by omega), Int.toNat_natCast, Bool.and_true]
 by_cases h0 : a = 0
 ·subst h0; rfl
 ·rw [decide_eq_true (show (0 : Int) < (a : Int) by omega), decide_eq_true h0, Bool.true_and, Bool.true_and, low_lowb ⟨a, small G hG.most h⟩ (by simp; omega)]
  have hl := lowb_bit hG (by omega) h h0
  have hp : 2 ^ lowb a < 2 ^ G.length := Nat.pow_lt_pow_right (by omega) hl.2
  rw [conset_eq hG hp (clo_lt hG 9 _ hp) (clo_sub G a 9 _) (clo_in hG a 9 _) (fun i j hi hA hj => clo_closed hG 9 _ hp (by have := hG.most; omega) i j hi hA hj)]
theorem awake_ev : Ev (fun k => lampblacklaw07_awake.f k) true := Ev.of (lampblacklaw07_awake.mono) (k := 40) (by decide +kernel)
end Go.Proofs.YtjloppfdagfpmaaDoor.X
end
section
/- An order of elimination gives a small cover of what touches pairwise; a complete minor has at most one node more than the width. -/
namespace Go.Proofs.YtjloppfdagfpmaaDoor.T
open Go.RowKit YtjloppfdagfpmaaDoorW.PrintWords YtjloppfdagfpmaaDoorW.PrintLast YtjloppfdagfpmaaDoorW.PrintMore
theorem cover_len {M : Nat → Nat → Prop} {l : List Nat} : ∀ k, (∀ i j x, i < k → j < k → M i x → M j x → i = j) → (∀ i, i < k → ∃ x, x ∈ l ∧ M i x) → k ≤ l.length := by
 intro k hd hc
 have hch : ∀ i, ∃ x, i < k → x ∈ l ∧ M i x := fun i => by
  by_cases h : i < k
  ·obtain ⟨x, hx⟩ := hc i h
   exact ⟨x, fun _ => hx⟩
  ·exact ⟨0, fun h' => (h h').elim⟩
 obtain ⟨f, hf⟩ := Classical.axiomOfChoice hch
 have := nodup_le (l := (List.range k).map f) (m := l) ?_ ?_
 ·simpa using this
 ·rw [List.nodup_iff_pairwise_ne, List.pairwise_map]
  have hr := List.nodup_range (n := k)
  rw [List.nodup_iff_pairwise_ne] at hr
  refine List.Pairwise.imp_of_mem ?_ hr
  intro a b ha hb hab e
  have ha := List.mem_range.1 ha
  have hb := List.mem_range.1 hb
  exact hab (hd a b (f a) ha hb (hf a ha).2 (by rw [e]; exact (hf b hb).2))
 ·intro x hx
  obtain ⟨i, hi, rfl⟩ := List.mem_map.1 hx
  exact (hf i (List.mem_range.1 hi)).1
end Go.Proofs.YtjloppfdagfpmaaDoor.T
end
section
/- A node less, an edge less, two neighbours made one: what becomes of a graph, and of its width. -/
namespace Go.Proofs.YtjloppfdagfpmaaDoor.T
open Go.RowKit YtjloppfdagfpmaaDoorW.PrintWords YtjloppfdagfpmaaDoorW.PrintLast YtjloppfdagfpmaaDoorW.PrintMore
def up (v u : Nat) : Nat := if u < v then u else u + 1
def down (v u : Nat) : Nat := if u < v then u else u - 1
theorem down_up (v u : Nat) : down v (up v u) = u := by
 unfold down up
 by_cases h : u < v
 ·rw [if_pos h, if_pos h]
 ·rw [if_neg h, if_neg (by omega)]; omega
theorem up_ne (v u : Nat) : up v u ≠ v := by unfold up; split <;> omega
theorem up_inj (v a b : Nat) (h : up v a = up v b) : a = b := by rw [← down_up v a, h, down_up]
theorem up_onto {v u : Nat} (h : u ≠ v) : up v (down v u) = u := by
 unfold up down
 by_cases h1 : u < v
 ·rw [if_pos h1, if_pos h1]
 ·rw [if_neg h1, if_neg (by omega)]; omega
theorem up_lt {v u n : Nat} (hv : v < n) : up v u < n ↔ u < n - 1 := by unfold up; split <;> omega
def delbits (v s : Nat) : Nat := (s &&& (2 ^ v - 1)) ||| (s / 2 ^ (v + 1) * 2 ^ v)
theorem delbits_bit (v s j : Nat) : (delbits v s).testBit j = s.testBit (up v j) := by
 unfold delbits up
 rw [Nat.testBit_or, Nat.testBit_and, Nat.testBit_two_pow_sub_one, Nat.testBit_mul_two_pow, Nat.testBit_div_two_pow]
 by_cases h : j < v
 ·rw [if_pos h, decide_eq_true h, decide_eq_false (show ¬ v ≤ j by omega)]; simp
 ·rw [if_neg h, decide_eq_false h, decide_eq_true (show v ≤ j by omega), show j - v + (v + 1) = j + 1 by omega]; simp
def delTo (G : List Nat) (v : Nat) : Nat → List Nat
 | 0 => []
 | i + 1 => if i = v then delTo G v i else delTo G v i ++ [delbits v (G.getD i 0)]
def del (G : List Nat) (v : Nat) : List Nat := delTo G v G.length
theorem delTo_length (G : List Nat) (v : Nat) : ∀ i, (delTo G v i).length = if i ≤ v then i else i - 1
 | 0 => by simp [delTo]
 | i + 1 => by
  have ih := delTo_length G v i
  unfold delTo
  by_cases h : i = v
  ·subst h; rw [if_pos rfl, ih]; simp
  ·rw [if_neg h, List.length_append, ih]; simp; split <;> split <;> omega
theorem delTo_get (G : List Nat) (v : Nat) : ∀ i u, u < (delTo G v i).length → (delTo G v i).getD u 0 = delbits v (G.getD (up v u) 0)
 | 0, u, h => by simp [delTo] at h
 | i + 1, u, h => by
  have hl := delTo_length G v i
  have ih := delTo_get G v i u
  unfold delTo at h ⊢
  by_cases e : i = v
  ·rw [if_pos e] at h ⊢; exact ih h
  ·rw [if_neg e] at h ⊢
   by_cases hu : u < (delTo G v i).length
   ·rw [← ih hu]
    simp only [List.getD_eq_getElem?_getD]
    rw [List.getElem?_append_left hu]
   ·have hu2 : u = (delTo G v i).length := by simp at h; omega
    simp only [List.getD_eq_getElem?_getD]
    rw [List.getElem?_append_right (by omega), hu2]
    have : up v (delTo G v i).length = i := by
     rw [hl]; unfold up
     by_cases h1 : i ≤ v
     ·rw [if_pos h1, if_pos (by omega)]
     ·rw [if_neg h1, if_neg (by omega)]; omega
    rw [this]
    simp
theorem del_length {G : List Nat} {v : Nat} (hv : v < G.length) : (del G v).length = G.length - 1 := by
 unfold del; rw [delTo_length, if_neg (by omega)]
theorem del_adj {G : List Nat} {v : Nat} (hv : v < G.length) (u w : Nat) : Adj (del G v) u w ↔ u < G.length - 1 ∧ Adj G (up v u) (up v w) := by
 unfold Adj
 by_cases hu : u < G.length - 1
 ·have h := delTo_get G v G.length u (by have := del_length hv; unfold del at this; omega)
  have h' : (del G v).getD u 0 = delbits v (G.getD (up v u) 0) := h
  rw [h', delbits_bit]
  exact ⟨fun h => ⟨hu, h⟩, fun h => h.2⟩
 ·rw [getD_out (del G v) u (by rw [del_length hv]; omega)]
  simp [hu]
theorem gr_of {m : Nat} {H : List Nat} (h1 : 1 ≤ H.length) (h2 : H.length ≤ m) (h3 : ∀ u w, Adj H u w → w < H.length ∧ Adj H w u ∧ u ≠ w) : Gr m H where
 pos := h1
 most := h2
 lt := fun i hi => lt_of_bits fun j hj => (h3 i j hj).1
 irr := fun i hi => by
  cases hb : (H.getD i 0).testBit i
  ·rfl
  ·exact ((h3 i i hb).2.2 rfl).elim
 symm := fun i j hi hj => by
  have a := h3 i j
  have b := h3 j i
  unfold Adj at a b
  cases ha : (H.getD i 0).testBit j <;> cases hb : (H.getD j 0).testBit i <;> simp_all
theorem del_gr {m : Nat} {G : List Nat} (hG : Gr m G) {v : Nat} (hv : v < G.length) (hn : 2 ≤ G.length) : Gr m (del G v) := by
 have hl := del_length hv
 refine gr_of (by omega) (by have := hG.most; omega) fun u w h => ?_
 obtain ⟨hu, ha⟩ := (del_adj hv u w).1 h
 have hw := (up_lt hv).1 (hG.adj_lt ha)
 refine ⟨by omega, (del_adj hv w u).2 ⟨hw, hG.adj_symm ha⟩, fun e => ?_⟩
 subst e
 exact hG.adj_irr ha
end Go.Proofs.YtjloppfdagfpmaaDoor.T
end
section
/- Minors of a graph with a node less, or with two neighbours made one; of complete patterns with a node less. -/
namespace Go.Proofs.YtjloppfdagfpmaaDoor.T
open Go.RowKit YtjloppfdagfpmaaDoorW.PrintWords YtjloppfdagfpmaaDoorW.PrintLast YtjloppfdagfpmaaDoorW.PrintMore
theorem mnr_pe {V : Nat → Prop} {adj : Nat → Nat → Prop} {k : Nat} {pe pe' : Nat → Nat → Prop} (hp : ∀ i j, i < k → j < k → pe' i j → pe i j) (h : Mnr V adj k pe) : Mnr V adj k pe' := by
 obtain ⟨M, h1, h2, h3⟩ := h
 exact ⟨M, h1, h2, fun i j hi hj hij => h3 i j hi hj (hp i j hi hj hij)⟩
theorem mnr_len {n : Nat} {adj : Nat → Nat → Prop} {k : Nat} {pe : Nat → Nat → Prop} (h : Mnr (fun x => x < n) adj k pe) : k ≤ n := by
 obtain ⟨M, h1, h2, h3⟩ := h
 have := cover_len (M := M) (l := List.range n) k h2 fun i hi => by
  obtain ⟨x, hx⟩ := (h1 i hi).1.1
  exact ⟨x, List.mem_range.2 ((h1 i hi).2 x hx), hx⟩
 simpa using this
end Go.Proofs.YtjloppfdagfpmaaDoor.T
end
section
/- No triangle as a minor: width 1, fewer edges than nodes in each part; no K(4): width 2. -/
namespace Go.Proofs.YtjloppfdagfpmaaDoor.T
open Go.RowKit YtjloppfdagfpmaaDoorW.PrintWords YtjloppfdagfpmaaDoorW.PrintLast YtjloppfdagfpmaaDoorW.PrintMore
/-! Edges within a set. -/
theorem diff_tb (X v j : Nat) : (diff X (2 ^ v)).testBit j = (X.testBit j && !decide (j = v)) := by
 rw [Bool.eq_iff_iff, Bool.and_eq_true, Bool.not_eq_true', decide_eq_false_iff_not]
 have h := diff_bset X (2 ^ v) j
 rw [two_pow_bit] at h
 exact h
theorem pc_split {X v : Nat} (h : bset X v) : ∀ n, pc X n = pc (diff X (2 ^ v)) n + (if v < n then 1 else 0)
 | 0 => rfl
 | n + 1 => by
  have ih := pc_split h n
  simp only [pc]
  rw [diff_tb, ih]
  by_cases e : n = v
  ·subst e
   have : X.testBit n = true := h
   simp [this]
  ·by_cases h3 : v < n
   ·simp [e, h3, show v < n + 1 by omega]; omega
   ·simp [e, h3, show ¬ v < n + 1 by omega]
theorem diff_pc {X v n : Nat} (hv : bset X v) (hvn : v < n) : pc X n = pc (diff X (2 ^ v)) n + 1 := by rw [pc_split hv n, if_pos hvn]
end Go.Proofs.YtjloppfdagfpmaaDoor.T
end
section
namespace Go.Proofs.YtjloppfdagfpmaaDoor.X
open Go.RowKit YtjloppfdagfpmaaDoorW.PrintWords YtjloppfdagfpmaaDoorW.PrintLast YtjloppfdagfpmaaDoorW.PrintMore
attribute [local go_sem] max2_int min2_int max_two min_two max_three min_three max_four min_four
/-! ### lampblackref07_join: function 75 -/
def lampblackref07_join.f (l0 : List Int) (a1 : Int) (a2 : Int) : Option (List Int) := if 0 ≤ a1 then (if a1 < (l0.length : Int) then (if 0 ≤ a2 then ((some (l0.set (a1 : Int).toNat (Go.bits .or .i64 (rd l0 a1) (shl .i64 1 a2)) : List Int)).bind fun y250 => (if a2 < (l0.length : Int) then (some (y250.set (a2 : Int).toNat (Go.bits .or .i64 (rd y250 a2) (shl .i64 1 a1)))) else (none))) else (none)) else (none)) else (none)
def lampblackref07_join.T0 : Bool × List (List Nat × List Nat) := (true, [([], []), ([], []), ([0, 1], [0, 1]), ([2], [2]), ([], []), ([4], [4]), ([3, 5], [3, 5]), ([0, 1, 0, 1, 2, 3, 4, 5, 6], [0, 1]), ([7, 6, 0, 1, 2, 3, 4, 5, 6], [6, 7])])
def lampblackref07_join.B0 : List Nat := [0, 0, 3, 7, 0, 16, 63, 127, 255]
theorem lampblackref07_join.tab0 : rtab .any (opsOf Tryd.f75 0) = lampblackref07_join.T0 := by kernel_rfl
theorem lampblackref07_join.bits0 : waitsOk lampblackref07_join.T0.2 lampblackref07_join.B0 = true := by kernel_rfl
def lampblackref07_join.T1 : Bool × List (List Nat × List Nat) := (true, [([], []), ([], []), ([0, 1], [0, 1]), ([2], [2]), ([], []), ([4], [4]), ([3, 5], [3, 5]), ([0, 1, 0, 1, 2, 3, 4, 5, 6], [0, 1]), ([7, 6, 0, 1, 2, 3, 4, 5, 6], [6, 7])])
def lampblackref07_join.B1 : List Nat := [0, 0, 3, 7, 0, 16, 63, 127, 255]
theorem lampblackref07_join.tab1 : rtab .any (opsOf Tryd.f75 1) = lampblackref07_join.T1 := by kernel_rfl
theorem lampblackref07_join.bits1 : waitsOk lampblackref07_join.T1.2 lampblackref07_join.B1 = true := by kernel_rfl
set_option maxHeartbeats 8000000 in
set_option maxRecDepth 100000 in
theorem lampblackref07_join.calls (P0_ : Nat → Prop) (u9000_ : Value) (l0 : List Int) (a1 : Int) (a2 : Int) (r : List Int) (w0 w : World) (hB : Below w0.heap.size w0 w) (ho0 : Kd.R (Kd.int .i64) 3 w w0.heap.size P0_ u9000_ l0) (h : lampblackref07_join.f l0 a1 a2 = some r) :
  Calls Tryd.prog 75 #[u9000_, .int .i64 a1, .int .i64 a2] w fun e w' => e = .returned (.tuple #[]) ∧ Kd.R (Kd.int .i64) 3 w' w0.heap.size (fun k_ => (P0_ k_ ∨ w.heap.size ≤ k_)) u9000_ r ∧ Below w0.heap.size w0 w' ∧ Kept w w' (fun k_ => P0_ k_) := by
 have HO0 := Aside0.mk (show Kd.R (Kd.int .i64) 3 w w0.heap.size (fun k_ => (P0_ k_ ∨ w.heap.size ≤ k_)) u9000_ l0 from Kd.R_mono ho0 (fun k_ hk => (.inl hk)))
 have HK := Aside0.mk (Kept.refl w (fun k_ => P0_ k_))
 have HW0 := Aside0.mk hB.size
 have HB := Aside0.mk hB
 clear hB
 have H : (if 0 ≤ a1 then (if a1 < (l0.length : Int) then (if 0 ≤ a2 then ((some (l0.set (a1 : Int).toNat (Go.bits .or .i64 (rd l0 a1) (shl .i64 1 a2)) : List Int)).bind fun y250 => (if a2 < (l0.length : Int) then (some (y250.set (a2 : Int).toNat (Go.bits .or .i64 (rd y250 a2) (shl .i64 1 a1)))) else (none))) else (none)) else (none)) else (none)) = some r := h
 clear h
 by_cases c4 : 0 ≤ a1
 ·rw [if_pos c4] at H
  have c4b0 : decide (0 ≤ a1) = true := decide_eq_true c4
  clear c4
  by_cases c5 : a1 < (l0.length : Int)
  ·rw [if_pos c5] at H
   have c5b0 : decide (a1 < (l0.length : Int)) = true := decide_eq_true c5
   clear c5
   by_cases c6 : 0 ≤ a2
   ·rw [if_pos c6] at H
    have c6b0 := eq_true c6
    have c6b1 : decide (0 ≤ a2) = true := decide_eq_true c6
    clear c6
    obtain ⟨ji7, hji7⟩ : ∃ j_ : Int, (shl .i64 1 a2) = j_ := ⟨_, rfl⟩
    replace H : ((some (l0.set (a1 : Int).toNat (Go.bits .or .i64 (rd l0 a1) (ji7)) : List Int)).bind fun y250 => (if a2 < (l0.length : Int) then (some (y250.set (a2 : Int).toNat (Go.bits .or .i64 (rd y250 a2) (shl .i64 1 a1)))) else (none))) = some r := by first | (rw [hji7] at H; exact H) | (simp only [hji7] at H ⊢; exact H)
    have hji7_ : (IntKind.i64.wrap (1 * 2 ^ min a2.toNat 64)) = ji7 := hji7
    have hji7z : a2 ≤ 64 → (IntKind.i64.wrap (1 * 2 ^ a2.toNat)) = ji7 := shl_small hji7
    have hji7u : (IntKind.i64.wrap (2 ^ min a2.toNat 64)) = ji7 := by have h_ := hji7_; rw [Int.one_mul] at h_; exact h_
    have hji7v : a2 ≤ 64 → (IntKind.i64.wrap (2 ^ a2.toNat)) = ji7 := fun hle_ => by have h_ := hji7z hle_; rw [Int.one_mul] at h_; exact h_
    have hji7y : (wrap64 (1 * 2 ^ min a2.toNat 64)) = ji7 := (i64_w _).symm.trans hji7_
    have hji7x : a2 ≤ 64 → (wrap64 (1 * 2 ^ a2.toNat)) = ji7 := fun h_ => (i64_w _).symm.trans (hji7z h_)
    obtain ⟨y250, hy250⟩ : ∃ y_ : List Int, y_ = (l0.set (a1 : Int).toNat (Go.bits .or .i64 (rd l0 a1) (ji7))) := ⟨_, rfl⟩
    replace H : (if a2 < (l0.length : Int) then (some (y250.set (a2 : Int).toNat (Go.bits .or .i64 (rd y250 a2) (shl .i64 1 a1)))) else (none)) = some r := by first | (rw [hy250]; with_reducible exact H) | (have H2_ := (Option.bind_some _ _).symm.trans H; rw [hy250]; with_reducible exact H2_) | (have H2_ := (Option.bind_some _ _).symm.trans H; with_reducible exact H2_) | with_reducible exact H | (rw [hy250]; exact H) | exact H
    have Ny250 := Aside0.mk hy250
    clear hy250
    by_cases c9 : a2 < (l0.length : Int)
    ·rw [if_pos c9] at H
     have c9b0 : decide (a2 < (l0.length : Int)) = true := decide_eq_true c9
     clear c9
     have c10b0 := eq_true (of_decide_eq_true (by first | (with_reducible assumption) | assumption) : 0 ≤ a1)
     obtain ⟨ji11, hji11⟩ : ∃ j_ : Int, (shl .i64 1 a1) = j_ := ⟨_, rfl⟩
     replace H : (some (y250.set (a2 : Int).toNat (Go.bits .or .i64 (rd y250 a2) (ji11)))) = some r := by first | (rw [hji11] at H; exact H) | (simp only [hji11] at H ⊢; exact H)
     have hji11_ : (IntKind.i64.wrap (1 * 2 ^ min a1.toNat 64)) = ji11 := hji11
     have hji11z : a1 ≤ 64 → (IntKind.i64.wrap (1 * 2 ^ a1.toNat)) = ji11 := shl_small hji11
     have hji11u : (IntKind.i64.wrap (2 ^ min a1.toNat 64)) = ji11 := by have h_ := hji11_; rw [Int.one_mul] at h_; exact h_
     have hji11v : a1 ≤ 64 → (IntKind.i64.wrap (2 ^ a1.toNat)) = ji11 := fun hle_ => by have h_ := hji11z hle_; rw [Int.one_mul] at h_; exact h_
     have hji11y : (wrap64 (1 * 2 ^ min a1.toNat 64)) = ji11 := (i64_w _).symm.trans hji11_
     have hji11x : a1 ≤ 64 → (wrap64 (1 * 2 ^ a1.toNat)) = ji11 := fun h_ => (i64_w _).symm.trans (hji11z h_)
     obtain ⟨y252, hy252⟩ : ∃ y_ : List Int, y_ = (y250.set (a2 : Int).toNat (Go.bits .or .i64 (rd y250 a2) (ji11))) := ⟨_, rfl⟩
     replace H : (some y252) = some r := by first | (rw [hy252]; with_reducible exact H) | (have H2_ := (Option.bind_some _ _).symm.trans H; rw [hy252]; with_reducible exact H2_) | (have H2_ := (Option.bind_some _ _).symm.trans H; with_reducible exact H2_) | with_reducible exact H | (rw [hy252]; exact H) | exact H
     have Ny252 := Aside0.mk hy252
     clear hy252
     obtain rfl := Option.some.inj H
     go_enter Tryd.func75, Tryd.ntmps75
     try go_wp2
     have n0_ := Aside0.mk (Kd.R_drew HO0.out)
     have n1_ := Aside0.mk (Kept.drew HK.out)
     have n2_ := Aside0.mk (below_drew1 HB.out)
     clear HO0
     clear HK
     clear HB
     have HO0 := n0_
     have HK := n1_
     have HB := n2_
     clear n0_ n1_ n2_
     obtain ⟨Ao14, co14, eo14⟩ := Kd.R_slice HO0.out
     (first | subst eo14 | (injection eo14 with f1_ f2_ f3_; have f4_ := f1_.symm; have f5_ := f3_.symm; clear f1_ f2_ f3_; subst f4_; subst f5_))
     have p249 : 0 ≤ (a1 : Int) := of_decide_eq_true (by first | (with_reducible assumption) | assumption)
     have q249 : a1 < (l0.length : Int) := of_decide_eq_true (by first | (with_reducible assumption) | assumption)
     obtain ⟨ad249, e249, hx249_0⟩ := Kd.at_int (Kd.R_reads' HO0.out).2.2 a1 p249 q249
     cases e249
     replace p249 := eq_true p249
     replace q249 := eq_true q249
     have p8 : 0 ≤ (a1 : Int) := of_decide_eq_true (by first | (with_reducible assumption) | assumption)
     have q8 : (a1 : Int) < ((l0.length : Int) : Int) := of_decide_eq_true (by first | (with_reducible assumption) | assumption)
     obtain ⟨go8, co8, eo8, gb8, gl8, cl8, HG8⟩ := Kd.R_form HO0.out (by omega)
     (first | cases eo8 | (injection eo8 with ea_ en_ ec_; (first | subst ea_ | (injection ea_ with ea_; subst ea_)); subst ec_; clear en_))
     have GB8 := Aside0.mk gb8
     have GG8 := Aside0.mk HG8
     clear gb8 gl8 HG8
     have HMgo8 := Aside0.mk (show (P0_ go8 ∨ w.heap.size ≤ go8) from (HO0.out.1 _ rfl))
     (first | simp only [add_plain] at hx249_0 | skip)
     obtain ⟨hx8_0, hf8_0⟩ := Kd.R_celln 0 HO0.out (a1 : Int) p8 q8
     replace p8 := eq_true p8
     replace q8 := eq_true q8
     have HP15 := Kd.R_putn HO0.out (a1 : Int) (Go.bits .or .i64 (rd l0 a1) (ji7))
     rw [← Ny250.out] at HP15
     have HQ15 := Aside0.mk HP15
     clear HP15
     refine start_ (n := 9) (S := fun w' => w'.cell? ⟨go8, (a1).toNat, none⟩ = some (.int .i64 (rd l0 a1))) (ds := [8]) (Qbz 9 0) (by kernel_rfl) rfl rfl (hx249_0) (fun hHeld => ?_); refine with_tabW lampblackref07_join.tab0 lampblackref07_join.bits0 (fun HT_ HW_ => ?_)
     generalize w.drew = w13 at HO0 HK HB GG8 HQ15 hf8_0 hx249_0 hx8_0 hHeld ⊢
     refine pure_ (i := 0) (N := some 6) (v := ?_) (a' := ?_) (Qbz 9 1) rfl rfl (any_of HT_.out (by kernel_rfl)) (fun _ _ _ h => h) (Or.inl ⟨by rfl, ?_⟩) ?_ ?_
     rotate_left
     ·intro w'
      go_simp
      with_reducible rfl
     rotate_left
     ·simp only [Act.put, Qp1, Qp2, Qp3, i64_w, i32_w]
      rfl
     refine pure_ (i := 1) (N := some 7) (v := ?_) (a' := ?_) (Qbz 9 3) rfl rfl (any_of HT_.out (by kernel_rfl)) (fun _ _ _ h => h) (Or.inl ⟨by rfl, ?_⟩) ?_ ?_
     rotate_left
     ·intro w'
      go_simp
      with_reducible rfl
     rotate_left
     ·simp only [Act.put, Qp1, Qp2, Qp3, i64_w, i32_w]
      rfl
     refine pure_ (i := 2) (N := some 8) (v := ?_) (a' := ?_) (Qbz 9 7) rfl rfl (any_of HT_.out (by kernel_rfl)) (fun _ _ _ h => h) (Or.inl ⟨by rfl, ?_⟩) ?_ ?_
     rotate_left
     ·intro w'
      go_simp
      with_reducible rfl
     rotate_left
     ·simp only [Act.put, Qp1, Qp2, Qp3, i64_w, i32_w]
      rfl
     refine pure_ (i := 4) (N := some 10) (v := ?_) (a' := ?_) (Qbz 9 23) rfl rfl (any_of HT_.out (by kernel_rfl)) (fun _ _ _ h => h) (Or.inl ⟨by rfl, ?_⟩) ?_ ?_
     rotate_left
     ·intro w'
      go_simp
      with_reducible rfl
     rotate_left
     ·simp only [Act.put, Qp1, Qp2, Qp3, i64_w, i32_w]
      rfl
     refine pure_ (i := 5) (N := some 11) (v := ?_) (a' := ?_) (Qbz 9 55) rfl rfl (any_of HT_.out (by kernel_rfl)) (fun _ _ _ h => h) (Or.inl ⟨by rfl, ?_⟩) ?_ ?_
     rotate_left
     ·intro w'
      go_simp
      with_reducible rfl
     rotate_left
     ·simp only [Act.put, Qp1, Qp2, Qp3, i64_w, i32_w]
      rfl
     refine take_ (i := 3) (N := some 9) (v := ?_) (a' := ?_) (Qbz 9 63) rfl rfl (take_ofW HT_.out HW_.out (by kernel_rfl)) (fun _ _ _ h => h) (Or.inl ⟨by rfl, ?_⟩) hHeld ?_ ?_
     rotate_left
     ·intro w' s0
      go_simp
      with_reducible rfl
     rotate_left
     ·simp only [Act.put, Qp1, Qp2, Qp3, i64_w, i32_w]
      rfl
     refine pure_ (i := 6) (N := some 12) (v := ?_) (a' := ?_) (Qbz 9 127) rfl rfl (any_of HT_.out (by kernel_rfl)) (fun _ _ _ h => h) (Or.inl ⟨by rfl, ?_⟩) ?_ ?_
     rotate_left
     ·intro w'
      go_simp
      with_reducible rfl
     rotate_left
     ·simp only [Act.put, Qp1, Qp2, Qp3, i64_w, i32_w]
      rfl
     refine pure_ (i := 7) (N := some 13) (v := ?_) (a' := ?_) (Qbz 9 255) rfl rfl (any_of HT_.out (by kernel_rfl)) (fun _ _ _ h => h) (Or.inl ⟨by rfl, ?_⟩) ?_ ?_
     rotate_left
     ·intro w'
      go_simp
      with_reducible rfl
     rotate_left
     ·simp only [Act.put, Qp1, Qp2, Qp3, i64_w, i32_w]
      rfl
     refine last_ (i := 8) (N := none) (Qbz 9 511) rfl rfl (one_of HT_.out (by kernel_rfl)) (by decide) (fun K hK => ?_)
     refine skip_ (w1 := ?_) (by rfl) rfl ?_ ?_
     rotate_left
     ·go_simp
      rfl
     refine hK.out _ _ ?_
     clear hK K
     refine done_ (done_of HT_.out (by kernel_rfl)) ?_
     try go_wp2
     have n0_ : Aside0 (Kd.R (Kd.int .i64) 3 (w13.setCell ⟨go8, (a1 : Int).toNat, none⟩ (.int .i64 (Go.bits .or .i64 (rd l0 a1) (ji7)))) w0.heap.size (fun k_ => (P0_ k_ ∨ w.heap.size ≤ k_)) (.slice (some ⟨go8, 0, none⟩) l0.length co14) y250) := ⟨by (with_reducible repeat (first | apply Kd.R_alloc | apply Kd.R_drewN | apply Kd.R_drew)); exact HQ15.out⟩
     have n1_ : Aside0 (Kept w (w13.setCell ⟨go8, (a1 : Int).toNat, none⟩ (.int .i64 (Go.bits .or .i64 (rd l0 a1) (ji7)))) (fun k_ => P0_ k_)) := ⟨by repeat (first | (with_reducible first | exact HK.out | apply Kept.alloc | apply Kept.drewN | apply Kept.drew | refine Kept.setCell ?_ HMgo8.out _) | exact HK.out)⟩
     have n2_ : Aside0 (Below w0.heap.size w0 (w13.setCell ⟨go8, (a1 : Int).toNat, none⟩ (.int .i64 (Go.bits .or .i64 (rd l0 a1) (ji7))))) := ⟨by repeat (first | (with_reducible first | exact HB.out | apply below_alloc | apply pw_below_drewN | apply below_drew1 | refine below_set ?_ GB8.out) | exact HB.out)⟩
     (try clear HO0)
     (try clear HK)
     (try clear HB)
     generalize (w13.setCell ⟨go8, (a1 : Int).toNat, none⟩ (.int .i64 (Go.bits .or .i64 (rd l0 a1) (ji7)))) = w16 at n0_ n1_ n2_ ⊢
     have HO0 := n0_
     have HK := n1_
     have HB := n2_
     clear n0_ n1_ n2_
     have n0_ := Aside0.mk (Kd.R_drew HO0.out)
     have n1_ := Aside0.mk (Kept.drew HK.out)
     have n2_ := Aside0.mk (below_drew1 HB.out)
     clear HO0
     clear HK
     clear HB
     have HO0 := n0_
     have HK := n1_
     have HB := n2_
     clear n0_ n1_ n2_
     have p251 : 0 ≤ (a2 : Int) := of_decide_eq_true (by first | (with_reducible assumption) | assumption)
     have q251 : a2 < (y250.length : Int) := (by have h_ : (a2 : Int) < ((l0.length : Int) : Int) := of_decide_eq_true (by first | (with_reducible assumption) | assumption); first | (have e_ := (Kd.R_reads' HO0.out).1; omega) | simpa only [Ny250.out, List.length_set] using h_)
     have ql251 : ((a2 : Int) < ((l0.length : Int) : Int)) = True := eq_true (of_decide_eq_true (by first | (with_reducible assumption) | assumption))
     obtain ⟨ad251, e251, hx251_0⟩ := Kd.at_int (Kd.R_reads' HO0.out).2.2 a2 p251 q251
     obtain rfl : (⟨go8, 0, none⟩ : Addr) = ad251 := (by injection e251)
     (first | simp only [add_plain] at hx251_0 | simp only [add_at] at hx251_0 | simp only [Addr.add, Nat.zero_add] at hx251_0 | skip)
     replace p251 := eq_true p251
     replace q251 := eq_true q251
     have p12 : 0 ≤ (a2 : Int) := of_decide_eq_true (by first | (with_reducible assumption) | assumption)
     have q12 : (a2 : Int) < ((l0.length : Int) : Int) := of_decide_eq_true (by first | (with_reducible assumption) | assumption)
     obtain ⟨hx12_0, hf12_0⟩ := Kd.R_celln 0 HO0.out (a2 : Int) p12 q12
     replace p12 := eq_true p12
     replace q12 := eq_true q12
     have HP18 := Kd.R_putn HO0.out (a2 : Int) (Go.bits .or .i64 (rd y250 a2) (ji11))
     rw [← Ny252.out] at HP18
     have HQ18 := Aside0.mk HP18
     clear HP18
     refine start_ (n := 9) (S := fun w' => w'.cell? ⟨go8, (a2).toNat, none⟩ = some (.int .i64 (rd y250 a2))) (ds := [8]) (Qbz 9 0) (by kernel_rfl) rfl rfl (hx251_0) (fun hHeld => ?_); refine with_tabW lampblackref07_join.tab1 lampblackref07_join.bits1 (fun HT_ HW_ => ?_)
     generalize w16.drew = w17 at HO0 HK HB HQ15 HQ18 hf12_0 hx12_0 hx251_0 hHeld ⊢
     refine pure_ (i := 0) (N := some 14) (v := ?_) (a' := ?_) (Qbz 9 1) rfl rfl (any_of HT_.out (by kernel_rfl)) (fun _ _ _ h => h) (Or.inl ⟨by rfl, ?_⟩) ?_ ?_
     rotate_left
     ·intro w'
      go_simp
      with_reducible rfl
     rotate_left
     ·simp only [Act.put, Qp1, Qp2, Qp3, i64_w, i32_w]
      rfl
     refine pure_ (i := 1) (N := some 15) (v := ?_) (a' := ?_) (Qbz 9 3) rfl rfl (any_of HT_.out (by kernel_rfl)) (fun _ _ _ h => h) (Or.inl ⟨by rfl, ?_⟩) ?_ ?_
     rotate_left
     ·intro w'
      go_simp
      with_reducible rfl
     rotate_left
     ·simp only [Act.put, Qp1, Qp2, Qp3, i64_w, i32_w]
      rfl
     refine pure_ (i := 2) (N := some 16) (v := ?_) (a' := ?_) (Qbz 9 7) rfl rfl (any_of HT_.out (by kernel_rfl)) (fun _ _ _ h => h) (Or.inl ⟨by rfl, ?_⟩) ?_ ?_
     rotate_left
     ·intro w'
      go_simp
      with_reducible rfl
     rotate_left
     ·simp only [Act.put, Qp1, Qp2, Qp3, i64_w, i32_w]
      rfl
     refine pure_ (i := 4) (N := some 18) (v := ?_) (a' := ?_) (Qbz 9 23) rfl rfl (any_of HT_.out (by kernel_rfl)) (fun _ _ _ h => h) (Or.inl ⟨by rfl, ?_⟩) ?_ ?_
     rotate_left
     ·intro w'
      go_simp
      with_reducible rfl
     rotate_left
     ·simp only [Act.put, Qp1, Qp2, Qp3, i64_w, i32_w]
      rfl
     refine pure_ (i := 5) (N := some 19) (v := ?_) (a' := ?_) (Qbz 9 55) rfl rfl (any_of HT_.out (by kernel_rfl)) (fun _ _ _ h => h) (Or.inl ⟨by rfl, ?_⟩) ?_ ?_
     rotate_left
     ·intro w'
      go_simp
      with_reducible rfl
     rotate_left
     ·simp only [Act.put, Qp1, Qp2, Qp3, i64_w, i32_w]
      rfl
     refine take_ (i := 3) (N := some 17) (v := ?_) (a' := ?_) (Qbz 9 63) rfl rfl (take_ofW HT_.out HW_.out (by kernel_rfl)) (fun _ _ _ h => h) (Or.inl ⟨by rfl, ?_⟩) hHeld ?_ ?_
     rotate_left
     ·intro w' s0
      go_simp
      with_reducible rfl
     rotate_left
     ·simp only [Act.put, Qp1, Qp2, Qp3, i64_w, i32_w]
      rfl
     refine pure_ (i := 6) (N := some 20) (v := ?_) (a' := ?_) (Qbz 9 127) rfl rfl (any_of HT_.out (by kernel_rfl)) (fun _ _ _ h => h) (Or.inl ⟨by rfl, ?_⟩) ?_ ?_
     rotate_left
     ·intro w'
      go_simp
      with_reducible rfl
     rotate_left
     ·simp only [Act.put, Qp1, Qp2, Qp3, i64_w, i32_w]
      rfl
     refine pure_ (i := 7) (N := some 21) (v := ?_) (a' := ?_) (Qbz 9 255) rfl rfl (any_of HT_.out (by kernel_rfl)) (fun _ _ _ h => h) (Or.inl ⟨by rfl, ?_⟩) ?_ ?_
     rotate_left
     ·intro w'
      go_simp
      with_reducible rfl
     rotate_left
     ·simp only [Act.put, Qp1, Qp2, Qp3, i64_w, i32_w]
      rfl
     refine last_ (i := 8) (N := none) (Qbz 9 511) rfl rfl (one_of HT_.out (by kernel_rfl)) (by decide) (fun K hK => ?_)
     refine skip_ (w1 := ?_) (by rfl) rfl ?_ ?_
     rotate_left
     ·go_simp
      rfl
     refine hK.out _ _ ?_
     clear hK K
     refine done_ (done_of HT_.out (by kernel_rfl)) ?_
     try go_wp2
     first | go_end0 | ((try simp only [Exit.inBlock, Exit.then]); refine bodyPost_ret (results_none rfl _ _ _) rfl ?_)
     exact ⟨by first | rfl | (simp [errW_none, errW_some] <;> rfl) | (simp only [← hji7, ← hji11]; first | rfl | (simp [errW_none, errW_some] <;> rfl)) | (simp [*, errW_none, errW_some] <;> rfl), by (with_reducible repeat (first | apply Kd.R_alloc | apply Kd.R_drewN | apply Kd.R_drew)); exact HQ18.out, by repeat (first | (with_reducible first | exact HB.out | apply below_alloc | apply pw_below_drewN | apply below_drew1 | refine below_set ?_ GB8.out) | exact HB.out), by repeat (first | (with_reducible first | exact HK.out | apply Kept.alloc | apply Kept.drewN | apply Kept.drew | refine Kept.setCell ?_ HMgo8.out _) | exact HK.out)⟩
    ·rw [if_neg c9] at H
     exact absurd H (by simp)
   ·rw [if_neg c6] at H
    exact absurd H (by simp)
  ·rw [if_neg c5] at H
   exact absurd H (by simp)
 ·rw [if_neg c4] at H
  exact absurd H (by simp)
end Go.Proofs.YtjloppfdagfpmaaDoor.X
end
section
namespace Go.Proofs.YtjloppfdagfpmaaDoor.X
open Go.RowKit YtjloppfdagfpmaaDoorW.PrintWords YtjloppfdagfpmaaDoorW.PrintLast YtjloppfdagfpmaaDoorW.PrintMore
attribute [local go_sem] max2_int min2_int max_two min_two max_three min_three max_four min_four
/-! ### lampblackref07_K: function 33 -/
mutual
def lampblackref07_K.l0 : Nat → List Int → Int → Int → Option (List Int)
 | 0, _, _, _ => none
 | k + 1, x3, x8, x9 => if x9 < x8 then (lampblackref07_K.l1 k x3 x9 x8 x9 x9 0) else (some x3)
def lampblackref07_K.l1 : Nat → List Int → Int → Int → Int → Int → Int → Option (List Int)
 | 0, _, _, _, _, _, _ => none
 | k + 1, x3, x4, x8, x9, x12, x13 => if x13 < x12 then ((lampblackref07_join.f x3 x4 x13).bind fun t261 => (lampblackref07_K.l1 k t261 x4 x8 x9 x12 (wrap64 (x13 + 1)))) else (lampblackref07_K.l0 k x3 x8 (wrap64 (x9 + 1)))
end
def lampblackref07_K.f (k : Nat) (a0 : Int) : Option (List Int) := if 0 ≤ a0 then (if (a0 : Int).toNat ≤ 35184372088832 then (lampblackref07_K.l0 k (List.replicate (a0 : Int).toNat 0) a0 0) else (none)) else (none)
theorem lampblackref07_K.mono_l : ∀ k, (∀ y0 y1 y2, LeO (lampblackref07_K.l0 k y0 y1 y2) (lampblackref07_K.l0 (k + 1) y0 y1 y2)) ∧ (∀ y0 y1 y2 y3 y4 y5, LeO (lampblackref07_K.l1 k y0 y1 y2 y3 y4 y5) (lampblackref07_K.l1 (k + 1) y0 y1 y2 y3 y4 y5))
 | 0 => ⟨fun _ _ _ r h => by simp [lampblackref07_K.l0] at h, fun _ _ _ _ _ _ r h => by simp [lampblackref07_K.l1] at h⟩
 | k + 1 => by
  obtain ⟨ih0, ih1⟩ := lampblackref07_K.mono_l k
  refine ⟨?_, ?_⟩
  ·intro y0 y1 y2
   unfold lampblackref07_K.l0
   repeat' first
   | (with_reducible exact ih0 _ _ _)
   | (with_reducible exact ih1 _ _ _ _ _ _)
   | (with_reducible exact LeO.refl _)
   | (with_reducible exact LeO.none _)
   | (with_reducible refine LeO.ite ?_ ?_)
   | (with_reducible refine LeO.bind ?_ (fun _ => ?_))
   | exact ih0 _ _ _
   | exact ih1 _ _ _ _ _ _
   | exact LeO.none _
   | refine LeO.ite ?_ ?_
   | refine LeO.bind ?_ (fun _ => ?_)
  ·intro y0 y1 y2 y3 y4 y5
   unfold lampblackref07_K.l1
   repeat' first
   | (with_reducible exact ih0 _ _ _)
   | (with_reducible exact ih1 _ _ _ _ _ _)
   | (with_reducible exact LeO.refl _)
   | (with_reducible exact LeO.none _)
   | (with_reducible refine LeO.ite ?_ ?_)
   | (with_reducible refine LeO.bind ?_ (fun _ => ?_))
   | exact ih0 _ _ _
   | exact ih1 _ _ _ _ _ _
   | exact LeO.none _
   | refine LeO.ite ?_ ?_
   | refine LeO.bind ?_ (fun _ => ?_)
theorem lampblackref07_K.mono : ∀ a0 k, LeO (lampblackref07_K.f k a0) (lampblackref07_K.f (k + 1) a0) := by
 intro a0 k
 obtain ⟨ih0, ih1⟩ := lampblackref07_K.mono_l k
 unfold lampblackref07_K.f
 repeat' first
   | (with_reducible exact ih0 _ _ _)
   | (with_reducible exact ih1 _ _ _ _ _ _)
   | (with_reducible exact LeO.refl _)
   | (with_reducible exact LeO.none _)
   | (with_reducible refine LeO.ite ?_ ?_)
   | (with_reducible refine LeO.bind ?_ (fun _ => ?_))
   | exact ih0 _ _ _
   | exact ih1 _ _ _ _ _ _
   | exact LeO.none _
   | refine LeO.ite ?_ ?_
   | refine LeO.bind ?_ (fun _ => ?_)
set_option maxHeartbeats 8000000 in
set_option maxRecDepth 100000 in
theorem lampblackref07_K.calls (k : Nat) (a0 : Int) (r : List Int) (w : World) (h : lampblackref07_K.f k a0 = some r) :
  Calls Tryd.prog 33 #[.int .i64 a0] w fun e w' => ∃ v0_ : Value, e = .returned (v0_) ∧ Kd.R (Kd.int .i64) 3 w' w.heap.size (fun _ => True) v0_ r ∧ Below w.heap.size w w' := by
 have HB := Aside0.mk (Below.refl w.heap.size w)
 have H : (if 0 ≤ a0 then (if (a0 : Int).toNat ≤ 35184372088832 then (lampblackref07_K.l0 k (List.replicate (a0 : Int).toNat 0) a0 0) else (none)) else (none)) = some r := h
 clear h
 by_cases c2 : 0 ≤ a0
 ·rw [if_pos c2] at H
  have c2b0 := eq_true c2
  have c2b1 : decide (0 ≤ a0) = true := decide_eq_true c2
  clear c2
  by_cases c3 : (a0 : Int).toNat ≤ 35184372088832
  ·rw [if_pos c3] at H
   have c3b0 := eq_true c3
   have c3b1 : decide ((a0 : Int).toNat ≤ 35184372088832) = true := decide_eq_true c3
   clear c3
   obtain ⟨y258, hy258⟩ : ∃ y_ : List Int, y_ = (List.replicate (a0 : Int).toNat 0) := ⟨_, rfl⟩
   replace H : (lampblackref07_K.l0 k y258 a0 0) = some r := by first | (rw [hy258]; with_reducible exact H) | (have H2_ := (Option.bind_some _ _).symm.trans H; rw [hy258]; with_reducible exact H2_) | (have H2_ := (Option.bind_some _ _).symm.trans H; with_reducible exact H2_) | with_reducible exact H | (rw [hy258]; exact H) | exact H
   have Ny258 := Aside0.mk hy258
   clear hy258
   have H' := Aside0.mk H
   clear H
   go_enter Tryd.func33, Tryd.ntmps33
   go_wp2_with (first | ((with_reducible refine gate_dst (N := 7) rfl ?_); refine Kd.R_make (Kd.int .i64) _ 3 rfl (N := 7) rfl 23 _ _ rfl a0 rfl rfl Tryd.underlying23 (.int .i64 0) 8 info3 rfl (by decide) (by omega) 0 (ok := fun _ => True) (okp := fun _ => True) rfl (fun _ hk => hk) trivial (of_decide_eq_true (by first | (with_reducible assumption) | assumption)) (Nat.le_trans (Nat.mul_le_mul_right _ (of_decide_eq_true (by first | (with_reducible assumption) | assumption) : a0.toNat ≤ 35184372088832)) (by omega)) (Below.refl _ _) (Nat.le_refl _) ?_; intro v259 w4 ho5 hb hg_ hnew_; clear hg_ hnew_; (first | rw [← Ny258.out] at ho5 | (simp only [Int.reduceToNat] at ho5; rw [← Ny258.out] at ho5)); have n0_ := Aside0.mk (Kd.R_lower ho5 (below_size (Qaw))); have n1_ := Aside0.mk (below_step (Qaw) hb); clear HB; have HO260 := n0_; have HB := n1_; clear n0_ n1_; clear hb ho5))
   go_loopg [9] k (fun kq v9 w' => ∃ (x3_1 : List Int) (x9_1 : Int), v9 = .int .i64 x9_1 ∧ Aside0 (lampblackref07_K.l0 kq x3_1 a0 x9_1 = some r) ∧ Aside0 (kq ≤ k) ∧ Aside0 (Kd.R (Kd.int .i64) 3 w' w.heap.size (fun _ => True) v259 x3_1) ∧ Aside0 (Below w.heap.size w w'))
   case atStart => exact ⟨(y258), (0), (by first | rfl | (simp; done) | (simp [*]; done)), H', ⟨Nat.le_refl _⟩, ⟨by (with_reducible repeat (first | apply Kd.R_alloc | apply Kd.R_drewN | apply Kd.R_drew)); exact HO260.out⟩, ⟨by repeat (first | (with_reducible first | exact HB.out | apply below_alloc | apply pw_below_drewN | apply below_drew1) | exact HB.out)⟩⟩
   case round =>
    clear H'
    try clear c2
    try clear c2b0
    try clear c2b1
    try clear p2
    try clear c3
    try clear c3b0
    try clear c3b1
    obtain ⟨x3_1, x9_1, rfl, HA, HK1, HO_3, HB⟩ := hrel
    cases gk with
    | zero => exact absurd HA.out (by simp [lampblackref07_K.l0])
    | succ k1 =>
     have H := HA.out
     clear HA
     simp only [lampblackref07_K.l0] at H
     by_cases c6 : x9_1 < a0
     ·rw [if_pos c6] at H
      have c6b0 : decide (x9_1 < a0) = true := decide_eq_true c6
      clear c6
      have H' := Aside0.mk H
      clear H
      go_wp2
      go_loopg [13] k1 (fun kq v13 w' => ∃ (x3_2 : List Int) (x13_2 : Int), v13 = .int .i64 x13_2 ∧ Aside0 (lampblackref07_K.l1 kq x3_2 x9_1 a0 x9_1 x9_1 x13_2 = some r) ∧ Aside0 (kq ≤ k1) ∧ Aside0 (Kd.R (Kd.int .i64) 3 w' w.heap.size (fun _ => True) v259 x3_2) ∧ Aside0 (Below w.heap.size w w'))
      case atStart => exact ⟨(x3_1), (0), (by first | rfl | (simp; done) | (simp [*]; done)), H', ⟨Nat.le_refl _⟩, ⟨by (with_reducible repeat (first | apply Kd.R_alloc | apply Kd.R_drewN | apply Kd.R_drew)); exact HO_3.out⟩, ⟨by repeat (first | (with_reducible first | exact HB.out | apply below_alloc | apply pw_below_drewN | apply below_drew1) | exact HB.out)⟩⟩
      case round =>
       clear H'
       try clear c2
       try clear c2b0
       try clear c2b1
       try clear p2
       try clear c3
       try clear c3b0
       try clear c3b1
       try clear c6
       try clear c6b0
       try clear p2
       obtain ⟨x3_2, x13_2, rfl, HA, HK2, HO_3, HB⟩ := hrel
       cases gk with
       | zero => exact absurd HA.out (by simp [lampblackref07_K.l1])
       | succ k2 =>
        have H := HA.out
        clear HA
        simp only [lampblackref07_K.l1] at H
        by_cases c7 : x13_2 < x9_1
        ·rw [if_pos c7] at H
         have c7b0 : decide (x13_2 < x9_1) = true := decide_eq_true c7
         clear c7
         replace H := Option.bind_eq_some_iff.mp H
         obtain ⟨t261, A80, H⟩ := H
         replace H : (lampblackref07_K.l1 k2 t261 x9_1 a0 x9_1 x9_1 (wrap64 (x13_2 + 1))) = some r := H
         have A8 := Aside0.mk A80
         clear A80
         have H' := Aside0.mk H
         clear H
         obtain ⟨Ao9, co9, eo9⟩ := Kd.R_slice HO_3.out
         subst eo9
         go_wp2_with (first | ((with_reducible refine gate_callee (f := 75) rfl ?_); refine goesL_ (some 19) rfl rfl Tryd.func75 (by kernel_rfl) rfl #[.slice Ao9 x3_2.length co9, .int .i64 x9_1, .int .i64 x13_2] rfl (Qls) ?_; (with_reducible refine (lampblackref07_join.calls (fun k_ => some k_ = (.slice Ao9 x3_2.length co9 : Value).ownBlock) (.slice Ao9 x3_2.length co9) x3_2 x9_1 x13_2 t261 w _ ?side1 ?side2 A8.out).mono ?_); (case side1 => repeat (first | (with_reducible first | exact HB.out | apply below_alloc | apply pw_below_drewN | apply below_drew1) | exact HB.out)); (case side2 => exact Kd.R_tight rfl HO_3.out); rintro e w10 ⟨rfl, hy0, hb, hkp⟩; refine ⟨_, rfl, ?_⟩; have n0_ := Aside0.mk (Kd.R_reok rfl hy0 (fun k_ e_ => HO_3.out.1 k_ e_)); have n1_ := Aside0.mk (hb); clear HO_3; clear HB; have HO_3 := n0_; have HB := n1_; clear n0_ n1_; (try clear hb); (try clear hkp); (try clear hy0)))
         go_roundg k2
         case measure => have := HK1.out; have := HK2.out; omega
         case rel => exact ⟨(t261), (wrap64 (x13_2 + 1)), (by first | rfl | (simp; done) | (simp [*]; done)), H', ⟨by have := HK1.out; have := HK2.out; omega⟩, ⟨by (with_reducible repeat (first | apply Kd.R_alloc | apply Kd.R_drewN | apply Kd.R_drew)); exact HO_3.out⟩, ⟨by repeat (first | (with_reducible first | exact HB.out | apply below_alloc | apply pw_below_drewN | apply below_drew1) | exact HB.out)⟩⟩
        ·rw [if_neg c7] at H
         have c7b0 : decide (x13_2 < x9_1) = false := decide_eq_false c7
         clear c7
         have H' := Aside0.mk H
         clear H
         go_wp2
         go_roundg k2
         case measure => have := HK1.out; have := HK2.out; omega
         case rel => exact ⟨(x3_2), (wrap64 (x9_1 + 1)), (by first | rfl | (simp; done) | (simp [*]; done)), H', ⟨by have := HK1.out; have := HK2.out; omega⟩, ⟨by (with_reducible repeat (first | apply Kd.R_alloc | apply Kd.R_drewN | apply Kd.R_drew)); exact HO_3.out⟩, ⟨by repeat (first | (with_reducible first | exact HB.out | apply below_alloc | apply pw_below_drewN | apply below_drew1) | exact HB.out)⟩⟩
     ·rw [if_neg c6] at H
      have c6b0 : decide (x9_1 < a0) = false := decide_eq_false c6
      clear c6
      obtain rfl := Option.some.inj H
      go_wp2
      go_ret
      exact ⟨_, by first | rfl | (simp [errW_none, errW_some] <;> rfl) | (simp [*, errW_none, errW_some] <;> rfl), by (with_reducible repeat (first | apply Kd.R_alloc | apply Kd.R_drewN | apply Kd.R_drew)); exact HO_3.out, by repeat (first | (with_reducible first | exact HB.out | apply below_alloc | apply pw_below_drewN | apply below_drew1) | exact HB.out)⟩
  ·rw [if_neg c3] at H
   exact absurd H (by simp)
 ·rw [if_neg c2] at H
  exact absurd H (by simp)
end Go.Proofs.YtjloppfdagfpmaaDoor.X
end
section
/- (minor) Model and has in plain words; complete graphs as patterns. -/
namespace Go.Proofs.YtjloppfdagfpmaaDoor.X
open Go.RowKit YtjloppfdagfpmaaDoorW.PrintWords YtjloppfdagfpmaaDoorW.PrintLast YtjloppfdagfpmaaDoorW.PrintMore YtjloppfdagfpmaaDoor.T
theorem gi_inj {A B : List Nat} (h : gi A = gi B) : A = B := by rw [← gi_toNat A, h, gi_toNat]
theorem gr_of_chk {m : Nat} (hm : m ≤ 13) {G : List Nat} (h : chk m (gi G) = true) : Gr m G := by
 obtain ⟨G', e, hG⟩ := (chk_iff m (by omega) _).1 h
 rw [gi_inj e]; exact hG
def IsMnr (G P : List Nat) : Prop := Mnr (fun x => x < G.length) (Adj G) P.length (Adj P)
theorem find_mnr {m m' : Nat} {G P : List Nat} (hG : Gr m G) (hm : m ≤ 9) (hP : Gr m' P) (hm' : m' ≤ 9) : (findN G P).isSome = true ↔ IsMnr G P := by
 unfold IsMnr
 rw [← mod_iff hG hm hP hm']
 have hn := Nat.le_trans hG.most hm
 cases h : findN G P with
 | none => exact ⟨fun h => (by cases h), fun ⟨M, hM⟩ => (find_none hn hP.pos h M hM).elim⟩
 | some R => exact ⟨fun _ => ⟨R, (find_some hn hP.pos h).1⟩, fun _ => rfl⟩
def kN (n : Nat) : List Nat := (List.range n).map fun i => diff (2 ^ n - 1) (2 ^ i)
theorem kN_length (n : Nat) : (kN n).length = n := by unfold kN; simp
theorem kN_chk : ∀ i : Fin 6, chk 6 (gi (kN (i.val + 1))) = true := by decide +kernel
theorem kN_gr {n : Nat} (h1 : 1 ≤ n) (h6 : n ≤ 6) : Gr 6 (kN n) := by
 have := kN_chk ⟨n - 1, by omega⟩
 rw [show (n - 1 + 1) = n by omega] at this
 exact gr_of_chk (by omega) this
theorem kN_adj {n i j : Nat} (hi : i < n) (hj : j < n) : Adj (kN n) i j ↔ i ≠ j := by
 show ((kN n).getD i 0).testBit j = true ↔ _
 unfold kN
 rw [List.getD_eq_getElem?_getD, List.getElem?_map, List.getElem?_range hi, Option.map_some, Option.getD_some, diff_testBit, Bool.and_eq_true]
 constructor
 ·rintro ⟨_, h⟩ rfl
  simp at h
 ·intro h
  refine ⟨(all_bit n j).2 hj, ?_⟩
  have : ¬ bset (2 ^ i) j := fun h2 => h ((two_pow_bit i j).1 h2).symm
  simpa [bset] using this
theorem mnr_k {G : List Nat} {n : Nat} : IsMnr G (kN n) ↔ Mnr (fun x => x < G.length) (Adj G) n (fun i j => i ≠ j) := by
 unfold IsMnr
 rw [kN_length]
 exact ⟨mnr_pe fun i j hi hj h => (kN_adj hi hj).2 h, mnr_pe fun i j hi hj h => (kN_adj hi hj).1 h⟩
theorem refK_all : ∀ i : Fin 6, lampblackref07_K.f 60 ((i.val : Int) + 1) = some (gi (kN (i.val + 1))) := by decide +kernel
theorem refK_ev {n : Nat} (h1 : 1 ≤ n) (h6 : n ≤ 6) : Ev (fun k => lampblackref07_K.f k (n : Int)) (gi (kN n)) := by
 have := refK_all ⟨n - 1, by omega⟩
 rw [show (((⟨n - 1, by omega⟩ : Fin 6).val : Int) + 1) = (n : Int) by simp; omega, show ((⟨n - 1, by omega⟩ : Fin 6).val + 1) = n by simp; omega] at this
 exact Ev.of (lampblackref07_K.mono _) this
end Go.Proofs.YtjloppfdagfpmaaDoor.X
end
section
namespace Go.Proofs.YtjloppfdagfpmaaDoor.X
open Go.RowKit YtjloppfdagfpmaaDoorW.PrintWords YtjloppfdagfpmaaDoorW.PrintLast YtjloppfdagfpmaaDoorW.PrintMore
attribute [local go_sem] max2_int min2_int max_two min_two max_three min_three max_four min_four
/-! ### minor_town_join: function 62 -/
def minor_town_join.f (l0 : List Int) (a1 : Int) (a2 : Int) : Option (List Int) := if 0 ≤ a1 then (if a1 < (l0.length : Int) then (if 0 ≤ a2 then ((some (l0.set (a1 : Int).toNat (Go.bits .or .i64 (rd l0 a1) (shl .i64 1 a2)) : List Int)).bind fun y146 => (if a2 < (l0.length : Int) then (some (y146.set (a2 : Int).toNat (Go.bits .or .i64 (rd y146 a2) (shl .i64 1 a1)))) else (none))) else (none)) else (none)) else (none)
def minor_town_join.T0 : Bool × List (List Nat × List Nat) := (true, [([], []), ([], []), ([0, 1], [0, 1]), ([2], [2]), ([], []), ([4], [4]), ([3, 5], [3, 5]), ([0, 1, 0, 1, 2, 3, 4, 5, 6], [0, 1]), ([7, 6, 0, 1, 2, 3, 4, 5, 6], [6, 7])])
def minor_town_join.B0 : List Nat := [0, 0, 3, 7, 0, 16, 63, 127, 255]
theorem minor_town_join.tab0 : rtab .any (opsOf Tryd.f62 0) = minor_town_join.T0 := by kernel_rfl
theorem minor_town_join.bits0 : waitsOk minor_town_join.T0.2 minor_town_join.B0 = true := by kernel_rfl
def minor_town_join.T1 : Bool × List (List Nat × List Nat) := (true, [([], []), ([], []), ([0, 1], [0, 1]), ([2], [2]), ([], []), ([4], [4]), ([3, 5], [3, 5]), ([0, 1, 0, 1, 2, 3, 4, 5, 6], [0, 1]), ([7, 6, 0, 1, 2, 3, 4, 5, 6], [6, 7])])
def minor_town_join.B1 : List Nat := [0, 0, 3, 7, 0, 16, 63, 127, 255]
theorem minor_town_join.tab1 : rtab .any (opsOf Tryd.f62 1) = minor_town_join.T1 := by kernel_rfl
theorem minor_town_join.bits1 : waitsOk minor_town_join.T1.2 minor_town_join.B1 = true := by kernel_rfl
set_option maxHeartbeats 8000000 in
set_option maxRecDepth 100000 in
theorem minor_town_join.calls (P0_ : Nat → Prop) (u9000_ : Value) (l0 : List Int) (a1 : Int) (a2 : Int) (r : List Int) (w0 w : World) (hB : Below w0.heap.size w0 w) (ho0 : Kd.R (Kd.int .i64) 3 w w0.heap.size P0_ u9000_ l0) (h : minor_town_join.f l0 a1 a2 = some r) :
  Calls Tryd.prog 62 #[u9000_, .int .i64 a1, .int .i64 a2] w fun e w' => e = .returned (.tuple #[]) ∧ Kd.R (Kd.int .i64) 3 w' w0.heap.size (fun k_ => (P0_ k_ ∨ w.heap.size ≤ k_)) u9000_ r ∧ Below w0.heap.size w0 w' ∧ Kept w w' (fun k_ => P0_ k_) := by
 have HO0 := Aside0.mk (show Kd.R (Kd.int .i64) 3 w w0.heap.size (fun k_ => (P0_ k_ ∨ w.heap.size ≤ k_)) u9000_ l0 from Kd.R_mono ho0 (fun k_ hk => (.inl hk)))
 have HK := Aside0.mk (Kept.refl w (fun k_ => P0_ k_))
 have HW0 := Aside0.mk hB.size
 have HB := Aside0.mk hB
 clear hB
 have H : (if 0 ≤ a1 then (if a1 < (l0.length : Int) then (if 0 ≤ a2 then ((some (l0.set (a1 : Int).toNat (Go.bits .or .i64 (rd l0 a1) (shl .i64 1 a2)) : List Int)).bind fun y146 => (if a2 < (l0.length : Int) then (some (y146.set (a2 : Int).toNat (Go.bits .or .i64 (rd y146 a2) (shl .i64 1 a1)))) else (none))) else (none)) else (none)) else (none)) = some r := h
 clear h
 by_cases c4 : 0 ≤ a1
 ·rw [if_pos c4] at H
  have c4b0 : decide (0 ≤ a1) = true := decide_eq_true c4
  clear c4
  by_cases c5 : a1 < (l0.length : Int)
  ·rw [if_pos c5] at H
   have c5b0 : decide (a1 < (l0.length : Int)) = true := decide_eq_true c5
   clear c5
   by_cases c6 : 0 ≤ a2
   ·rw [if_pos c6] at H
    have c6b0 := eq_true c6
    have c6b1 : decide (0 ≤ a2) = true := decide_eq_true c6
    clear c6
    obtain ⟨ji7, hji7⟩ : ∃ j_ : Int, (shl .i64 1 a2) = j_ := ⟨_, rfl⟩
    replace H : ((some (l0.set (a1 : Int).toNat (Go.bits .or .i64 (rd l0 a1) (ji7)) : List Int)).bind fun y146 => (if a2 < (l0.length : Int) then (some (y146.set (a2 : Int).toNat (Go.bits .or .i64 (rd y146 a2) (shl .i64 1 a1)))) else (none))) = some r := by first | (rw [hji7] at H; exact H) | (simp only [hji7] at H ⊢; exact H)
    have hji7_ : (IntKind.i64.wrap (1 * 2 ^ min a2.toNat 64)) = ji7 := hji7
    have hji7z : a2 ≤ 64 → (IntKind.i64.wrap (1 * 2 ^ a2.toNat)) = ji7 := shl_small hji7
    have hji7u : (IntKind.i64.wrap (2 ^ min a2.toNat 64)) = ji7 := by have h_ := hji7_; rw [Int.one_mul] at h_; exact h_
    have hji7v : a2 ≤ 64 → (IntKind.i64.wrap (2 ^ a2.toNat)) = ji7 := fun hle_ => by have h_ := hji7z hle_; rw [Int.one_mul] at h_; exact h_
    have hji7y : (wrap64 (1 * 2 ^ min a2.toNat 64)) = ji7 := (i64_w _).symm.trans hji7_
    have hji7x : a2 ≤ 64 → (wrap64 (1 * 2 ^ a2.toNat)) = ji7 := fun h_ => (i64_w _).symm.trans (hji7z h_)
    obtain ⟨y146, hy146⟩ : ∃ y_ : List Int, y_ = (l0.set (a1 : Int).toNat (Go.bits .or .i64 (rd l0 a1) (ji7))) := ⟨_, rfl⟩
    replace H : (if a2 < (l0.length : Int) then (some (y146.set (a2 : Int).toNat (Go.bits .or .i64 (rd y146 a2) (shl .i64 1 a1)))) else (none)) = some r := by first | (rw [hy146]; with_reducible exact H) | (have H2_ := (Option.bind_some _ _).symm.trans H; rw [hy146]; with_reducible exact H2_) | (have H2_ := (Option.bind_some _ _).symm.trans H; with_reducible exact H2_) | with_reducible exact H | (rw [hy146]; exact H) | exact H
    have Ny146 := Aside0.mk hy146
    clear hy146
    by_cases c9 : a2 < (l0.length : Int)
    ·rw [if_pos c9] at H
     have c9b0 : decide (a2 < (l0.length : Int)) = true := decide_eq_true c9
     clear c9
     have c10b0 := eq_true (of_decide_eq_true (by first | (with_reducible assumption) | assumption) : 0 ≤ a1)
     obtain ⟨ji11, hji11⟩ : ∃ j_ : Int, (shl .i64 1 a1) = j_ := ⟨_, rfl⟩
     replace H : (some (y146.set (a2 : Int).toNat (Go.bits .or .i64 (rd y146 a2) (ji11)))) = some r := by first | (rw [hji11] at H; exact H) | (simp only [hji11] at H ⊢; exact H)
     have hji11_ : (IntKind.i64.wrap (1 * 2 ^ min a1.toNat 64)) = ji11 := hji11
     have hji11z : a1 ≤ 64 → (IntKind.i64.wrap (1 * 2 ^ a1.toNat)) = ji11 := shl_small hji11
     have hji11u : (IntKind.i64.wrap (2 ^ min a1.toNat 64)) = ji11 := by have h_ := hji11_; rw [Int.one_mul] at h_; exact h_
     have hji11v : a1 ≤ 64 → (IntKind.i64.wrap (2 ^ a1.toNat)) = ji11 := fun hle_ => by have h_ := hji11z hle_; rw [Int.one_mul] at h_; exact h_
     have hji11y : (wrap64 (1 * 2 ^ min a1.toNat 64)) = ji11 := (i64_w _).symm.trans hji11_
     have hji11x : a1 ≤ 64 → (wrap64 (1 * 2 ^ a1.toNat)) = ji11 := fun h_ => (i64_w _).symm.trans (hji11z h_)
     obtain ⟨y148, hy148⟩ : ∃ y_ : List Int, y_ = (y146.set (a2 : Int).toNat (Go.bits .or .i64 (rd y146 a2) (ji11))) := ⟨_, rfl⟩
     replace H : (some y148) = some r := by first | (rw [hy148]; with_reducible exact H) | (have H2_ := (Option.bind_some _ _).symm.trans H; rw [hy148]; with_reducible exact H2_) | (have H2_ := (Option.bind_some _ _).symm.trans H; with_reducible exact H2_) | with_reducible exact H | (rw [hy148]; exact H) | exact H
     have Ny148 := Aside0.mk hy148
     clear hy148
     obtain rfl := Option.some.inj H
     go_enter Tryd.func62, Tryd.ntmps62
     try go_wp2
     have n0_ := Aside0.mk (Kd.R_drew HO0.out)
     have n1_ := Aside0.mk (Kept.drew HK.out)
     have n2_ := Aside0.mk (below_drew1 HB.out)
     clear HO0
     clear HK
     clear HB
     have HO0 := n0_
     have HK := n1_
     have HB := n2_
     clear n0_ n1_ n2_
     obtain ⟨Ao14, co14, eo14⟩ := Kd.R_slice HO0.out
     (first | subst eo14 | (injection eo14 with f1_ f2_ f3_; have f4_ := f1_.symm; have f5_ := f3_.symm; clear f1_ f2_ f3_; subst f4_; subst f5_))
     have p145 : 0 ≤ (a1 : Int) := of_decide_eq_true (by first | (with_reducible assumption) | assumption)
     have q145 : a1 < (l0.length : Int) := of_decide_eq_true (by first | (with_reducible assumption) | assumption)
     obtain ⟨ad145, e145, hx145_0⟩ := Kd.at_int (Kd.R_reads' HO0.out).2.2 a1 p145 q145
     cases e145
     replace p145 := eq_true p145
     replace q145 := eq_true q145
     have p8 : 0 ≤ (a1 : Int) := of_decide_eq_true (by first | (with_reducible assumption) | assumption)
     have q8 : (a1 : Int) < ((l0.length : Int) : Int) := of_decide_eq_true (by first | (with_reducible assumption) | assumption)
     obtain ⟨go8, co8, eo8, gb8, gl8, cl8, HG8⟩ := Kd.R_form HO0.out (by omega)
     (first | cases eo8 | (injection eo8 with ea_ en_ ec_; (first | subst ea_ | (injection ea_ with ea_; subst ea_)); subst ec_; clear en_))
     have GB8 := Aside0.mk gb8
     have GG8 := Aside0.mk HG8
     clear gb8 gl8 HG8
     have HMgo8 := Aside0.mk (show (P0_ go8 ∨ w.heap.size ≤ go8) from (HO0.out.1 _ rfl))
     (first | simp only [add_plain] at hx145_0 | skip)
     obtain ⟨hx8_0, hf8_0⟩ := Kd.R_celln 0 HO0.out (a1 : Int) p8 q8
     replace p8 := eq_true p8
     replace q8 := eq_true q8
     have HP15 := Kd.R_putn HO0.out (a1 : Int) (Go.bits .or .i64 (rd l0 a1) (ji7))
     rw [← Ny146.out] at HP15
     have HQ15 := Aside0.mk HP15
     clear HP15
     refine start_ (n := 9) (S := fun w' => w'.cell? ⟨go8, (a1).toNat, none⟩ = some (.int .i64 (rd l0 a1))) (ds := [8]) (Qbz 9 0) (by kernel_rfl) rfl rfl (hx145_0) (fun hHeld => ?_); refine with_tabW minor_town_join.tab0 minor_town_join.bits0 (fun HT_ HW_ => ?_)
     generalize w.drew = w13 at HO0 HK HB GG8 HQ15 hf8_0 hx145_0 hx8_0 hHeld ⊢
     refine pure_ (i := 0) (N := some 6) (v := ?_) (a' := ?_) (Qbz 9 1) rfl rfl (any_of HT_.out (by kernel_rfl)) (fun _ _ _ h => h) (Or.inl ⟨by rfl, ?_⟩) ?_ ?_
     rotate_left
     ·intro w'
      go_simp
      with_reducible rfl
     rotate_left
     ·simp only [Act.put, Qp1, Qp2, Qp3, i64_w, i32_w]
      rfl
     refine pure_ (i := 1) (N := some 7) (v := ?_) (a' := ?_) (Qbz 9 3) rfl rfl (any_of HT_.out (by kernel_rfl)) (fun _ _ _ h => h) (Or.inl ⟨by rfl, ?_⟩) ?_ ?_
     rotate_left
     ·intro w'
      go_simp
      with_reducible rfl
     rotate_left
     ·simp only [Act.put, Qp1, Qp2, Qp3, i64_w, i32_w]
      rfl
     refine pure_ (i := 2) (N := some 8) (v := ?_) (a' := ?_) (Qbz 9 7) rfl rfl (any_of HT_.out (by kernel_rfl)) (fun _ _ _ h => h) (Or.inl ⟨by rfl, ?_⟩) ?_ ?_
     rotate_left
     ·intro w'
      go_simp
      with_reducible rfl
     rotate_left
     ·simp only [Act.put, Qp1, Qp2, Qp3, i64_w, i32_w]
      rfl
     refine pure_ (i := 4) (N := some 10) (v := ?_) (a' := ?_) (Qbz 9 23) rfl rfl (any_of HT_.out (by kernel_rfl)) (fun _ _ _ h => h) (Or.inl ⟨by rfl, ?_⟩) ?_ ?_
     rotate_left
     ·intro w'
      go_simp
      with_reducible rfl
     rotate_left
     ·simp only [Act.put, Qp1, Qp2, Qp3, i64_w, i32_w]
      rfl
     refine pure_ (i := 5) (N := some 11) (v := ?_) (a' := ?_) (Qbz 9 55) rfl rfl (any_of HT_.out (by kernel_rfl)) (fun _ _ _ h => h) (Or.inl ⟨by rfl, ?_⟩) ?_ ?_
     rotate_left
     ·intro w'
      go_simp
      with_reducible rfl
     rotate_left
     ·simp only [Act.put, Qp1, Qp2, Qp3, i64_w, i32_w]
      rfl
     refine take_ (i := 3) (N := some 9) (v := ?_) (a' := ?_) (Qbz 9 63) rfl rfl (take_ofW HT_.out HW_.out (by kernel_rfl)) (fun _ _ _ h => h) (Or.inl ⟨by rfl, ?_⟩) hHeld ?_ ?_
     rotate_left
     ·intro w' s0
      go_simp
      with_reducible rfl
     rotate_left
     ·simp only [Act.put, Qp1, Qp2, Qp3, i64_w, i32_w]
      rfl
     refine pure_ (i := 6) (N := some 12) (v := ?_) (a' := ?_) (Qbz 9 127) rfl rfl (any_of HT_.out (by kernel_rfl)) (fun _ _ _ h => h) (Or.inl ⟨by rfl, ?_⟩) ?_ ?_
     rotate_left
     ·intro w'
      go_simp
      with_reducible rfl
     rotate_left
     ·simp only [Act.put, Qp1, Qp2, Qp3, i64_w, i32_w]
      rfl
     refine pure_ (i := 7) (N := some 13) (v := ?_) (a' := ?_) (Qbz 9 255) rfl rfl (any_of HT_.out (by kernel_rfl)) (fun _ _ _ h => h) (Or.inl ⟨by rfl, ?_⟩) ?_ ?_
     rotate_left
     ·intro w'
      go_simp
      with_reducible rfl
     rotate_left
     ·simp only [Act.put, Qp1, Qp2, Qp3, i64_w, i32_w]
      rfl
     refine last_ (i := 8) (N := none) (Qbz 9 511) rfl rfl (one_of HT_.out (by kernel_rfl)) (by decide) (fun K hK => ?_)
     refine skip_ (w1 := ?_) (by rfl) rfl ?_ ?_
     rotate_left
     ·go_simp
      rfl
     refine hK.out _ _ ?_
     clear hK K
     refine done_ (done_of HT_.out (by kernel_rfl)) ?_
     try go_wp2
     have n0_ : Aside0 (Kd.R (Kd.int .i64) 3 (w13.setCell ⟨go8, (a1 : Int).toNat, none⟩ (.int .i64 (Go.bits .or .i64 (rd l0 a1) (ji7)))) w0.heap.size (fun k_ => (P0_ k_ ∨ w.heap.size ≤ k_)) (.slice (some ⟨go8, 0, none⟩) l0.length co14) y146) := ⟨by (with_reducible repeat (first | apply Kd.R_alloc | apply Kd.R_drewN | apply Kd.R_drew)); exact HQ15.out⟩
     have n1_ : Aside0 (Kept w (w13.setCell ⟨go8, (a1 : Int).toNat, none⟩ (.int .i64 (Go.bits .or .i64 (rd l0 a1) (ji7)))) (fun k_ => P0_ k_)) := ⟨by repeat (first | (with_reducible first | exact HK.out | apply Kept.alloc | apply Kept.drewN | apply Kept.drew | refine Kept.setCell ?_ HMgo8.out _) | exact HK.out)⟩
     have n2_ : Aside0 (Below w0.heap.size w0 (w13.setCell ⟨go8, (a1 : Int).toNat, none⟩ (.int .i64 (Go.bits .or .i64 (rd l0 a1) (ji7))))) := ⟨by repeat (first | (with_reducible first | exact HB.out | apply below_alloc | apply pw_below_drewN | apply below_drew1 | refine below_set ?_ GB8.out) | exact HB.out)⟩
     (try clear HO0)
     (try clear HK)
     (try clear HB)
     generalize (w13.setCell ⟨go8, (a1 : Int).toNat, none⟩ (.int .i64 (Go.bits .or .i64 (rd l0 a1) (ji7)))) = w16 at n0_ n1_ n2_ ⊢
     have HO0 := n0_
     have HK := n1_
     have HB := n2_
     clear n0_ n1_ n2_
     have n0_ := Aside0.mk (Kd.R_drew HO0.out)
     have n1_ := Aside0.mk (Kept.drew HK.out)
     have n2_ := Aside0.mk (below_drew1 HB.out)
     clear HO0
     clear HK
     clear HB
     have HO0 := n0_
     have HK := n1_
     have HB := n2_
     clear n0_ n1_ n2_
     have p147 : 0 ≤ (a2 : Int) := of_decide_eq_true (by first | (with_reducible assumption) | assumption)
     have q147 : a2 < (y146.length : Int) := (by have h_ : (a2 : Int) < ((l0.length : Int) : Int) := of_decide_eq_true (by first | (with_reducible assumption) | assumption); first | (have e_ := (Kd.R_reads' HO0.out).1; omega) | simpa only [Ny146.out, List.length_set] using h_)
     have ql147 : ((a2 : Int) < ((l0.length : Int) : Int)) = True := eq_true (of_decide_eq_true (by first | (with_reducible assumption) | assumption))
     obtain ⟨ad147, e147, hx147_0⟩ := Kd.at_int (Kd.R_reads' HO0.out).2.2 a2 p147 q147
     obtain rfl : (⟨go8, 0, none⟩ : Addr) = ad147 := (by injection e147)
     (first | simp only [add_plain] at hx147_0 | simp only [add_at] at hx147_0 | simp only [Addr.add, Nat.zero_add] at hx147_0 | skip)
     replace p147 := eq_true p147
     replace q147 := eq_true q147
     have p12 : 0 ≤ (a2 : Int) := of_decide_eq_true (by first | (with_reducible assumption) | assumption)
     have q12 : (a2 : Int) < ((l0.length : Int) : Int) := of_decide_eq_true (by first | (with_reducible assumption) | assumption)
     obtain ⟨hx12_0, hf12_0⟩ := Kd.R_celln 0 HO0.out (a2 : Int) p12 q12
     replace p12 := eq_true p12
     replace q12 := eq_true q12
     have HP18 := Kd.R_putn HO0.out (a2 : Int) (Go.bits .or .i64 (rd y146 a2) (ji11))
     rw [← Ny148.out] at HP18
     have HQ18 := Aside0.mk HP18
     clear HP18
     refine start_ (n := 9) (S := fun w' => w'.cell? ⟨go8, (a2).toNat, none⟩ = some (.int .i64 (rd y146 a2))) (ds := [8]) (Qbz 9 0) (by kernel_rfl) rfl rfl (hx147_0) (fun hHeld => ?_); refine with_tabW minor_town_join.tab1 minor_town_join.bits1 (fun HT_ HW_ => ?_)
     generalize w16.drew = w17 at HO0 HK HB HQ15 HQ18 hf12_0 hx12_0 hx147_0 hHeld ⊢
     refine pure_ (i := 0) (N := some 14) (v := ?_) (a' := ?_) (Qbz 9 1) rfl rfl (any_of HT_.out (by kernel_rfl)) (fun _ _ _ h => h) (Or.inl ⟨by rfl, ?_⟩) ?_ ?_
     rotate_left
     ·intro w'
      go_simp
      with_reducible rfl
     rotate_left
     ·simp only [Act.put, Qp1, Qp2, Qp3, i64_w, i32_w]
      rfl
     refine pure_ (i := 1) (N := some 15) (v := ?_) (a' := ?_) (Qbz 9 3) rfl rfl (any_of HT_.out (by kernel_rfl)) (fun _ _ _ h => h) (Or.inl ⟨by rfl, ?_⟩) ?_ ?_
     rotate_left
     ·intro w'
      go_simp
      with_reducible rfl
     rotate_left
     ·simp only [Act.put, Qp1, Qp2, Qp3, i64_w, i32_w]
      rfl
     refine pure_ (i := 2) (N := some 16) (v := ?_) (a' := ?_) (Qbz 9 7) rfl rfl (any_of HT_.out (by kernel_rfl)) (fun _ _ _ h => h) (Or.inl ⟨by rfl, ?_⟩) ?_ ?_
     rotate_left
     ·intro w'
      go_simp
      with_reducible rfl
     rotate_left
     ·simp only [Act.put, Qp1, Qp2, Qp3, i64_w, i32_w]
      rfl
     refine pure_ (i := 4) (N := some 18) (v := ?_) (a' := ?_) (Qbz 9 23) rfl rfl (any_of HT_.out (by kernel_rfl)) (fun _ _ _ h => h) (Or.inl ⟨by rfl, ?_⟩) ?_ ?_
     rotate_left
     ·intro w'
      go_simp
      with_reducible rfl
     rotate_left
     ·simp only [Act.put, Qp1, Qp2, Qp3, i64_w, i32_w]
      rfl
     refine pure_ (i := 5) (N := some 19) (v := ?_) (a' := ?_) (Qbz 9 55) rfl rfl (any_of HT_.out (by kernel_rfl)) (fun _ _ _ h => h) (Or.inl ⟨by rfl, ?_⟩) ?_ ?_
     rotate_left
     ·intro w'
      go_simp
      with_reducible rfl
     rotate_left
     ·simp only [Act.put, Qp1, Qp2, Qp3, i64_w, i32_w]
      rfl
     refine take_ (i := 3) (N := some 17) (v := ?_) (a' := ?_) (Qbz 9 63) rfl rfl (take_ofW HT_.out HW_.out (by kernel_rfl)) (fun _ _ _ h => h) (Or.inl ⟨by rfl, ?_⟩) hHeld ?_ ?_
     rotate_left
     ·intro w' s0
      go_simp
      with_reducible rfl
     rotate_left
     ·simp only [Act.put, Qp1, Qp2, Qp3, i64_w, i32_w]
      rfl
     refine pure_ (i := 6) (N := some 20) (v := ?_) (a' := ?_) (Qbz 9 127) rfl rfl (any_of HT_.out (by kernel_rfl)) (fun _ _ _ h => h) (Or.inl ⟨by rfl, ?_⟩) ?_ ?_
     rotate_left
     ·intro w'
      go_simp
      with_reducible rfl
     rotate_left
     ·simp only [Act.put, Qp1, Qp2, Qp3, i64_w, i32_w]
      rfl
     refine pure_ (i := 7) (N := some 21) (v := ?_) (a' := ?_) (Qbz 9 255) rfl rfl (any_of HT_.out (by kernel_rfl)) (fun _ _ _ h => h) (Or.inl ⟨by rfl, ?_⟩) ?_ ?_
     rotate_left
     ·intro w'
      go_simp
      with_reducible rfl
     rotate_left
     ·simp only [Act.put, Qp1, Qp2, Qp3, i64_w, i32_w]
      rfl
     refine last_ (i := 8) (N := none) (Qbz 9 511) rfl rfl (one_of HT_.out (by kernel_rfl)) (by decide) (fun K hK => ?_)
     refine skip_ (w1 := ?_) (by rfl) rfl ?_ ?_
     rotate_left
     ·go_simp
      rfl
     refine hK.out _ _ ?_
     clear hK K
     refine done_ (done_of HT_.out (by kernel_rfl)) ?_
     try go_wp2
     first | go_end0 | ((try simp only [Exit.inBlock, Exit.then]); refine bodyPost_ret (results_none rfl _ _ _) rfl ?_)
     exact ⟨by first | rfl | (simp [errW_none, errW_some] <;> rfl) | (simp only [← hji7, ← hji11]; first | rfl | (simp [errW_none, errW_some] <;> rfl)) | (simp [*, errW_none, errW_some] <;> rfl), by (with_reducible repeat (first | apply Kd.R_alloc | apply Kd.R_drewN | apply Kd.R_drew)); exact HQ18.out, by repeat (first | (with_reducible first | exact HB.out | apply below_alloc | apply pw_below_drewN | apply below_drew1 | refine below_set ?_ GB8.out) | exact HB.out), by repeat (first | (with_reducible first | exact HK.out | apply Kept.alloc | apply Kept.drewN | apply Kept.drew | refine Kept.setCell ?_ HMgo8.out _) | exact HK.out)⟩
    ·rw [if_neg c9] at H
     exact absurd H (by simp)
   ·rw [if_neg c6] at H
    exact absurd H (by simp)
  ·rw [if_neg c5] at H
   exact absurd H (by simp)
 ·rw [if_neg c4] at H
  exact absurd H (by simp)
end Go.Proofs.YtjloppfdagfpmaaDoor.X
end
section
namespace Go.Proofs.YtjloppfdagfpmaaDoor.X
open Go.RowKit YtjloppfdagfpmaaDoorW.PrintWords YtjloppfdagfpmaaDoorW.PrintLast YtjloppfdagfpmaaDoorW.PrintMore
attribute [local go_sem] max2_int min2_int max_two min_two max_three min_three max_four min_four
/-! ### minor_clique: function 74 -/
mutual
def minor_clique.l0 : Nat → List Int → Int → Int → Option (List Int)
 | 0, _, _, _ => none
 | k + 1, x3, x8, x9 => if x9 < x8 then (minor_clique.l1 k x3 x9 x8 x9 x9 0) else (some x3)
def minor_clique.l1 : Nat → List Int → Int → Int → Int → Int → Int → Option (List Int)
 | 0, _, _, _, _, _, _ => none
 | k + 1, x3, x4, x8, x9, x12, x13 => if x13 < x12 then ((minor_town_join.f x3 x4 x13).bind fun t239 => (minor_clique.l1 k t239 x4 x8 x9 x12 (wrap64 (x13 + 1)))) else (minor_clique.l0 k x3 x8 (wrap64 (x9 + 1)))
end
def minor_clique.f (k : Nat) (a0 : Int) : Option (List Int) := if 0 ≤ a0 then (if (a0 : Int).toNat ≤ 35184372088832 then (minor_clique.l0 k (List.replicate (a0 : Int).toNat 0) a0 0) else (none)) else (none)
set_option maxHeartbeats 8000000 in
set_option maxRecDepth 100000 in
theorem minor_clique.calls (k : Nat) (a0 : Int) (r : List Int) (w : World) (h : minor_clique.f k a0 = some r) :
  Calls Tryd.prog 74 #[.int .i64 a0] w fun e w' => ∃ v0_ : Value, e = .returned (v0_) ∧ Kd.R (Kd.int .i64) 3 w' w.heap.size (fun _ => True) v0_ r ∧ Below w.heap.size w w' := by
 have HB := Aside0.mk (Below.refl w.heap.size w)
 have H : (if 0 ≤ a0 then (if (a0 : Int).toNat ≤ 35184372088832 then (minor_clique.l0 k (List.replicate (a0 : Int).toNat 0) a0 0) else (none)) else (none)) = some r := h
 clear h
 by_cases c2 : 0 ≤ a0
 ·rw [if_pos c2] at H
  have c2b0 := eq_true c2
  have c2b1 : decide (0 ≤ a0) = true := decide_eq_true c2
  clear c2
  by_cases c3 : (a0 : Int).toNat ≤ 35184372088832
  ·rw [if_pos c3] at H
   have c3b0 := eq_true c3
   have c3b1 : decide ((a0 : Int).toNat ≤ 35184372088832) = true := decide_eq_true c3
   clear c3
   obtain ⟨y236, hy236⟩ : ∃ y_ : List Int, y_ = (List.replicate (a0 : Int).toNat 0) := ⟨_, rfl⟩
   replace H : (minor_clique.l0 k y236 a0 0) = some r := by first | (rw [hy236]; with_reducible exact H) | (have H2_ := (Option.bind_some _ _).symm.trans H; rw [hy236]; with_reducible exact H2_) | (have H2_ := (Option.bind_some _ _).symm.trans H; with_reducible exact H2_) | with_reducible exact H | (rw [hy236]; exact H) | exact H
   have Ny236 := Aside0.mk hy236
   clear hy236
   have H' := Aside0.mk H
   clear H
   go_enter Tryd.func74, Tryd.ntmps74
   go_wp2_with (first | ((with_reducible refine gate_dst (N := 7) rfl ?_); refine Kd.R_make (Kd.int .i64) _ 3 rfl (N := 7) rfl 79 _ _ rfl a0 rfl rfl Tryd.underlying79 (.int .i64 0) 8 info3 rfl (by decide) (by omega) 0 (ok := fun _ => True) (okp := fun _ => True) rfl (fun _ hk => hk) trivial (of_decide_eq_true (by first | (with_reducible assumption) | assumption)) (Nat.le_trans (Nat.mul_le_mul_right _ (of_decide_eq_true (by first | (with_reducible assumption) | assumption) : a0.toNat ≤ 35184372088832)) (by omega)) (Below.refl _ _) (Nat.le_refl _) ?_; intro v237 w4 ho5 hb hg_ hnew_; clear hg_ hnew_; (first | rw [← Ny236.out] at ho5 | (simp only [Int.reduceToNat] at ho5; rw [← Ny236.out] at ho5)); have n0_ := Aside0.mk (Kd.R_lower ho5 (below_size (Qaw))); have n1_ := Aside0.mk (below_step (Qaw) hb); clear HB; have HO238 := n0_; have HB := n1_; clear n0_ n1_; clear hb ho5))
   go_loopg [9] k (fun kq v9 w' => ∃ (x3_1 : List Int) (x9_1 : Int), v9 = .int .i64 x9_1 ∧ Aside0 (minor_clique.l0 kq x3_1 a0 x9_1 = some r) ∧ Aside0 (kq ≤ k) ∧ Aside0 (Kd.R (Kd.int .i64) 3 w' w.heap.size (fun _ => True) v237 x3_1) ∧ Aside0 (Below w.heap.size w w'))
   case atStart => exact ⟨(y236), (0), (by first | rfl | (simp; done) | (simp [*]; done)), H', ⟨Nat.le_refl _⟩, ⟨by (with_reducible repeat (first | apply Kd.R_alloc | apply Kd.R_drewN | apply Kd.R_drew)); exact HO238.out⟩, ⟨by repeat (first | (with_reducible first | exact HB.out | apply below_alloc | apply pw_below_drewN | apply below_drew1) | exact HB.out)⟩⟩
   case round =>
    clear H'
    try clear c2
    try clear c2b0
    try clear c2b1
    try clear p2
    try clear c3
    try clear c3b0
    try clear c3b1
    obtain ⟨x3_1, x9_1, rfl, HA, HK1, HO_3, HB⟩ := hrel
    cases gk with
    | zero => exact absurd HA.out (by simp [minor_clique.l0])
    | succ k1 =>
     have H := HA.out
     clear HA
     simp only [minor_clique.l0] at H
     by_cases c6 : x9_1 < a0
     ·rw [if_pos c6] at H
      have c6b0 : decide (x9_1 < a0) = true := decide_eq_true c6
      clear c6
      have H' := Aside0.mk H
      clear H
      go_wp2
      go_loopg [13] k1 (fun kq v13 w' => ∃ (x3_2 : List Int) (x13_2 : Int), v13 = .int .i64 x13_2 ∧ Aside0 (minor_clique.l1 kq x3_2 x9_1 a0 x9_1 x9_1 x13_2 = some r) ∧ Aside0 (kq ≤ k1) ∧ Aside0 (Kd.R (Kd.int .i64) 3 w' w.heap.size (fun _ => True) v237 x3_2) ∧ Aside0 (Below w.heap.size w w'))
      case atStart => exact ⟨(x3_1), (0), (by first | rfl | (simp; done) | (simp [*]; done)), H', ⟨Nat.le_refl _⟩, ⟨by (with_reducible repeat (first | apply Kd.R_alloc | apply Kd.R_drewN | apply Kd.R_drew)); exact HO_3.out⟩, ⟨by repeat (first | (with_reducible first | exact HB.out | apply below_alloc | apply pw_below_drewN | apply below_drew1) | exact HB.out)⟩⟩
      case round =>
       clear H'
       try clear c2
       try clear c2b0
       try clear c2b1
       try clear p2
       try clear c3
       try clear c3b0
       try clear c3b1
       try clear c6
       try clear c6b0
       try clear p2
       obtain ⟨x3_2, x13_2, rfl, HA, HK2, HO_3, HB⟩ := hrel
       cases gk with
       | zero => exact absurd HA.out (by simp [minor_clique.l1])
       | succ k2 =>
        have H := HA.out
        clear HA
        simp only [minor_clique.l1] at H
        by_cases c7 : x13_2 < x9_1
        ·rw [if_pos c7] at H
         have c7b0 : decide (x13_2 < x9_1) = true := decide_eq_true c7
         clear c7
         replace H := Option.bind_eq_some_iff.mp H
         obtain ⟨t239, A80, H⟩ := H
         replace H : (minor_clique.l1 k2 t239 x9_1 a0 x9_1 x9_1 (wrap64 (x13_2 + 1))) = some r := H
         have A8 := Aside0.mk A80
         clear A80
         have H' := Aside0.mk H
         clear H
         obtain ⟨Ao9, co9, eo9⟩ := Kd.R_slice HO_3.out
         subst eo9
         go_wp2_with (first | ((with_reducible refine gate_callee (f := 62) rfl ?_); refine goesL_ (some 19) rfl rfl Tryd.func62 (by kernel_rfl) rfl #[.slice Ao9 x3_2.length co9, .int .i64 x9_1, .int .i64 x13_2] rfl (Qls) ?_; (with_reducible refine (minor_town_join.calls (fun k_ => some k_ = (.slice Ao9 x3_2.length co9 : Value).ownBlock) (.slice Ao9 x3_2.length co9) x3_2 x9_1 x13_2 t239 w _ ?side1 ?side2 A8.out).mono ?_); (case side1 => repeat (first | (with_reducible first | exact HB.out | apply below_alloc | apply pw_below_drewN | apply below_drew1) | exact HB.out)); (case side2 => exact Kd.R_tight rfl HO_3.out); rintro e w10 ⟨rfl, hy0, hb, hkp⟩; refine ⟨_, rfl, ?_⟩; have n0_ := Aside0.mk (Kd.R_reok rfl hy0 (fun k_ e_ => HO_3.out.1 k_ e_)); have n1_ := Aside0.mk (hb); clear HO_3; clear HB; have HO_3 := n0_; have HB := n1_; clear n0_ n1_; (try clear hb); (try clear hkp); (try clear hy0)))
         go_roundg k2
         case measure => have := HK1.out; have := HK2.out; omega
         case rel => exact ⟨(t239), (wrap64 (x13_2 + 1)), (by first | rfl | (simp; done) | (simp [*]; done)), H', ⟨by have := HK1.out; have := HK2.out; omega⟩, ⟨by (with_reducible repeat (first | apply Kd.R_alloc | apply Kd.R_drewN | apply Kd.R_drew)); exact HO_3.out⟩, ⟨by repeat (first | (with_reducible first | exact HB.out | apply below_alloc | apply pw_below_drewN | apply below_drew1) | exact HB.out)⟩⟩
        ·rw [if_neg c7] at H
         have c7b0 : decide (x13_2 < x9_1) = false := decide_eq_false c7
         clear c7
         have H' := Aside0.mk H
         clear H
         go_wp2
         go_roundg k2
         case measure => have := HK1.out; have := HK2.out; omega
         case rel => exact ⟨(x3_2), (wrap64 (x9_1 + 1)), (by first | rfl | (simp; done) | (simp [*]; done)), H', ⟨by have := HK1.out; have := HK2.out; omega⟩, ⟨by (with_reducible repeat (first | apply Kd.R_alloc | apply Kd.R_drewN | apply Kd.R_drew)); exact HO_3.out⟩, ⟨by repeat (first | (with_reducible first | exact HB.out | apply below_alloc | apply pw_below_drewN | apply below_drew1) | exact HB.out)⟩⟩
     ·rw [if_neg c6] at H
      have c6b0 : decide (x9_1 < a0) = false := decide_eq_false c6
      clear c6
      obtain rfl := Option.some.inj H
      go_wp2
      go_ret
      exact ⟨_, by first | rfl | (simp [errW_none, errW_some] <;> rfl) | (simp [*, errW_none, errW_some] <;> rfl), by (with_reducible repeat (first | apply Kd.R_alloc | apply Kd.R_drewN | apply Kd.R_drew)); exact HO_3.out, by repeat (first | (with_reducible first | exact HB.out | apply below_alloc | apply pw_below_drewN | apply below_drew1) | exact HB.out)⟩
  ·rw [if_neg c3] at H
   exact absurd H (by simp)
 ·rw [if_neg c2] at H
  exact absurd H (by simp)
end Go.Proofs.YtjloppfdagfpmaaDoor.X
end
section
/- minor.Greatest, by hand. -/
namespace Go.Proofs.YtjloppfdagfpmaaDoor.X
open Go.RowKit YtjloppfdagfpmaaDoorW.PrintWords YtjloppfdagfpmaaDoorW.PrintLast YtjloppfdagfpmaaDoorW.PrintMore YtjloppfdagfpmaaDoor.T
def greatN (G : List Nat) : Nat → Nat
 | 0 => 0
 | n + 1 => if (findN G (kN (n + 1))).isSome then n + 1 else greatN G n
def minor_Greatest.f (g : List Int) : Option (Int × Int) :=
 if g.length < 1000 then some (if chk 8 g = true then ((greatN (g.map Int.toNat) (min 6 g.length) : Int), 0) else (0, 2)) else none
theorem find_one {G : List Nat} (hG : Gr 8 G) : (findN G (kN 1)).isSome = true := by
 rw [find_mnr hG (by omega) (kN_gr (n := 1) (by omega) (by omega)) (by omega), mnr_k]
 exact ⟨fun _ x => x = 0, fun i _ => ⟨conn_one _ 0, fun x hx => by rw [hx]; exact hG.pos⟩, fun i j x hi hj _ _ => by omega, fun i j hi hj h => by omega⟩
theorem clique_all : ∀ i : Fin 6, minor_clique.f 60 ((i.val : Int) + 1) = some (gi (kN (i.val + 1))) := by decide +kernel
theorem clique_f {n : Nat} (h1 : 1 ≤ n) (h6 : n ≤ 6) : minor_clique.f 60 (n : Int) = some (gi (kN n)) := by
 have := clique_all ⟨n - 1, by omega⟩
 rw [show (((⟨n - 1, by omega⟩ : Fin 6).val : Int) + 1) = (n : Int) by simp; omega, show ((⟨n - 1, by omega⟩ : Fin 6).val + 1) = n by simp; omega] at this
 exact this
theorem kN_small {n : Nat} (h1 : 1 ≤ n) (h6 : n ≤ 6) : ∀ x ∈ kN n, x < 512 := fun x hx => by
 have hg := kN_gr h1 h6
 obtain ⟨i, hi, e⟩ := List.getElem_of_mem hx
 have := hg.row i
 rw [List.getD_eq_getElem?_getD, List.getElem?_eq_getElem hi] at this
 rw [← e]
 exact small _ (by rw [kN_length]; omega) this
set_option maxHeartbeats 4000000 in
set_option maxRecDepth 100000 in
theorem minor_Greatest.calls (A0 : Option Addr) (c0 : Nat) (l0 : List Int) (r1 : Int) (r2 : Int) (w : World) (hGL : GL w) (hr0 : Kd.C (Kd.int .i64) w A0 l0.length l0) (hc0 : l0.length ≤ c0) (h : minor_Greatest.f l0 = some (r1, r2)) :
  Calls Tryd.prog 53 #[.slice A0 l0.length c0] w fun e w' => e = .returned (.tuple #[.int .i64 r1, .int .i64 r2]) ∧ Below w.heap.size w w' := by
 unfold minor_Greatest.f at h
 by_cases hlen : l0.length < 1000
 ·rw [if_pos hlen] at h
  have h := Option.some.inj h
  have HC1 : Aside0 (∀ W, Below w.heap.size w W → Calls Tryd.prog 63 #[.slice A0 l0.length c0, .int .i64 8] W fun e w' => ∃ v, e = .returned (.tuple #[v, .bool (chk 8 l0)]) ∧ (chk 8 l0 = true → ∃ A1 c1, v = .slice A1 l0.length c1 ∧ l0.length ≤ c1 ∧ Kd.C (Kd.int .i64) w' A1 l0.length l0) ∧ Below W.heap.size W w') := ⟨fun W hW => read_any 8 (by omega) (by omega) A0 c0 W (Kd.C_below hr0 hW) hc0⟩
  have HGL := Aside0.mk hGL
  cases hg : chk 8 l0
  ·rw [hg] at h HC1
   injection h with h1 h2
   subst h1 h2
   clear hg hr0
   go_enter Tryd.func53, Tryd.ntmps53
   go_wp2_with (go_at_call 63; refine (HC1.out _ (Below.refl _ _)).mono ?_; rintro e w1 ⟨v1, rfl, _, hb1⟩; have HB1 := Aside0.mk hb1; clear hb1)
   go_ret2
   exact ⟨rfl, HB1.out⟩
  ·rw [hg] at h HC1
   obtain ⟨G, rfl, hG⟩ := (chk_iff 8 (by omega) _).1 hg
   rw [gi_toNat] at h
   simp only [gi_length] at HC1 hr0 hc0 h ⊢
   have hn := hG.most
   have hn1 := hG.pos
   have HG := Aside0.mk hG
   obtain ⟨z, hz⟩ : ∃ z, min 6 G.length = z := ⟨_, rfl⟩
   rw [hz] at h
   injection h with h1 h2
   subst h2
   have hz6 : z ≤ 6 := by omega
   have hz1 : 1 ≤ z := by omega
   have hmn : (if (6 : Int) ≤ (G.length : Int) then (6 : Int) else (G.length : Int)) = (z : Int) := by split <;> omega
   have hmn2 : min (6 : Int) (G.length : Int) = (z : Int) := by omega
   have hmn3 : (if (G.length : Int) < (6 : Int) then (G.length : Int) else (6 : Int)) = (z : Int) := by split <;> omega
   have HR : Aside0 (((greatN G z : Nat) : Int) = r1) := ⟨h1⟩
   clear hg hr0 hG hGL hz h1
   have HONE := Aside0.mk (find_one HG.out)
   have heq_ := fun (w : World) (a : Option Addr) (n c : Nat) => Lib.run_eql_slice_nil (P := Tryd.prog) w 22 3 a n c 0 0 Tryd.underlying22
   go_enter Tryd.func53, Tryd.ntmps53
   go_wp2_with (go_at_call 63; refine (HC1.out _ (Below.refl _ _)).mono ?_; rintro e w1 ⟨v1, rfl, hv1, hb1⟩; obtain ⟨A5, c5, rfl, hc5, hC5⟩ := hv1 trivial; have HB1 := Aside0.mk hb1; have HC5 := Aside0.mk hC5; clear hb1 hv1 hC5)
   go_loopg [6] z (fun kq v6 w' => v6 = .int .i64 (kq : Int) ∧ 1 ≤ kq ∧ kq ≤ 6 ∧ Aside0 (((greatN G kq : Nat) : Int) = r1) ∧ Aside0 (Below w1.heap.size w1 w'))
   case atStart => exact ⟨by first | rfl | (simp; omega), hz1, hz6, HR, ⟨Below.refl _ _⟩⟩
   case round =>
    clear HR
    obtain ⟨rfl, hk1, hk6, HA, HBW⟩ := hrel
    have HCL : Aside0 (∀ W, Below w1.heap.size w1 W → Calls Tryd.prog 74 #[.int .i64 (gk : Int)] W fun e w' => ∃ A c, e = .returned (.slice A gk c) ∧ gk ≤ c ∧ Kd.C (Kd.int .i64) w' A (gi (kN gk)).length (gi (kN gk)) ∧ Below W.heap.size W w') := ⟨fun W hW => by
     refine (minor_clique.calls 60 (gk : Int) (gi (kN gk)) W (clique_f hk1 hk6)).mono ?_
     rintro e w' ⟨v, rfl, hv, hb⟩
     obtain ⟨A, c, ev, hc, hC⟩ := Kd.R_reads hv
     rw [gi_length, kN_length] at ev hc
     exact ⟨A, c, by rw [ev], hc, hC, hb⟩⟩
    have HFD : Aside0 (∀ W A c, Below w1.heap.size w1 W → Kd.C (Kd.int .i64) W A (gi (kN gk)).length (gi (kN gk)) → Calls Tryd.prog 64 #[.slice A5 G.length c5, .slice A gk c] W fun e w' => ∃ v, e = .returned v ∧ ((findN G (kN gk) = none ∧ v = .slice none 0 0) ∨ ((findN G (kN gk)).isSome = true ∧ ∃ a n c, v = .slice (some a) n c)) ∧ Below W.heap.size W w') := ⟨fun W A c hW hA => by
     have hCG : Kd.C (Kd.int .i64) W A5 (gi G).length (gi G) := by rw [gi_length]; exact Kd.C_below HC5.out hW
     have := find_calls A5 c5 G (gr_mono HG.out (by omega)) hc5 A c (kN gk) (by rw [kN_length]; exact hk1) (by rw [kN_length]; omega) (kN_small hk1 hk6) W (GL_below HGL.out (below_step HB1.out hW)) hCG hA
     rw [kN_length] at this
     refine this.mono ?_
     rintro e w' ⟨v, e1, _, e2, e3⟩
     exact ⟨v, e1, e2, e3⟩⟩
    cases hf : findN G (kN gk) with
    | none =>
     rw [hf] at HFD
     have h2 : 2 ≤ gk := by
      apply Classical.byContradiction
      intro h
      obtain rfl : gk = 1 := by omega
      have := HONE.out
      rw [hf] at this; cases this
     obtain ⟨g1, rfl⟩ : ∃ g1, gk = g1 + 1 := ⟨gk - 1, by omega⟩
     have HA2 : Aside0 (((greatN G g1 : Nat) : Int) = r1) := ⟨by
      have := HA.out
      rw [greatN, hf] at this
      exact this⟩
     clear hf HA
     go_wp2_with (first
      | (go_at_call 74; refine (HCL.out _ HBW.out).mono ?_; rintro e w3 ⟨A6, c6, rfl, hc6, hC6, hb3⟩; have HB3 := Aside0.mk (below_step HBW.out hb3); have HC6 := Aside0.mk hC6; clear hb3 hC6)
      | (go_at_call 64; refine (HFD.out _ _ _ HB3.out HC6.out).mono ?_; rintro e w4 ⟨v4, rfl, hv4, hb4⟩; have hv5 : v4 = .slice none 0 0 := hv4.elim (fun h => h.2) (fun h => by cases h.1); subst hv5; have HB4 := Aside0.mk (below_step HB3.out hb4); clear hb4 hv4))
     go_roundg g1
     case measure => omega
     case rel => exact ⟨by go_num, by omega, by omega, HA2, HB4⟩
    | some M =>
     rw [hf] at HFD
     have hr : ((gk : Nat) : Int) = r1 := by
      have := HA.out
      obtain ⟨g1, rfl⟩ : ∃ g1, gk = g1 + 1 := ⟨gk - 1, by omega⟩
      rw [greatN, hf] at this
      exact this
     subst hr
     clear hf HA
     go_wp2_with (first
      | (go_at_call 74; refine (HCL.out _ HBW.out).mono ?_; rintro e w3 ⟨A6, c6, rfl, hc6, hC6, hb3⟩; have HB3 := Aside0.mk (below_step HBW.out hb3); have HC6 := Aside0.mk hC6; clear hb3 hC6)
      | (go_at_call 64; refine (HFD.out _ _ _ HB3.out HC6.out).mono ?_; rintro e w4 ⟨v4, rfl, hv4, hb4⟩; obtain ⟨a4, n4, c4, rfl⟩ : ∃ a n c, v4 = .slice (some a) n c := hv4.elim (fun h => by cases h.1) (fun h => h.2); have HB4 := Aside0.mk (below_step HB3.out hb4); clear hb4 hv4))
     go_ret2
     exact ⟨rfl, below_step HB1.out HB4.out⟩
 ·rw [if_neg hlen] at h
  cases h
end Go.Proofs.YtjloppfdagfpmaaDoor.X
end
section
namespace Go.Proofs.YtjloppfdagfpmaaDoor.X
open Go.RowKit YtjloppfdagfpmaaDoorW.PrintWords YtjloppfdagfpmaaDoorW.PrintLast YtjloppfdagfpmaaDoorW.PrintMore
attribute [local go_sem] max2_int min2_int max_two min_two max_three min_three max_four min_four
/-! ### lampblackref07_Delete: function 37 -/
def lampblackref07_Delete.l0 : Nat → Int → List Int → List Int → Int → Int → Option (List Int)
 | 0, _, _, _, _, _ => none
 | k + 1, x1, x5, x8, x9, x10 => if x10 < x9 then (if 0 ≤ x10 then (if x10 < (x8.length : Int) then (if x10 = x1 then (lampblackref07_Delete.l0 k x1 x5 x8 x9 (wrap64 (x10 + 1))) else (if 0 ≤ x1 then (if 0 ≤ (wrap64 (x1 + 1)) then (if x5.length < 17592186044416 then (lampblackref07_Delete.l0 k x1 (x5 ++ [Go.bits .or .i64 (Go.bits .and .i64 (rd x8 x10) (wrap64 ((shl .i64 1 x1) - 1))) (shl .i64 (shr .i64 (rd x8 x10) (wrap64 (x1 + 1))) x1)]) x8 x9 (wrap64 (x10 + 1))) else (none)) else (none)) else (none))) else (none)) else (none)) else (some x5)
def lampblackref07_Delete.f (k : Nat) (l0 : List Int) (a1 : Int) : Option (List Int) := lampblackref07_Delete.l0 k a1 ([] : List Int) l0 (l0.length : Int) 0
def lampblackref07_Delete.T6 : Bool × List (List Nat × List Nat) := (true, [([], []), ([], []), ([], []), ([2], [2]), ([3], [3]), ([1, 4], [1, 4]), ([], []), ([], []), ([7], [7]), ([6, 8], [6, 8]), ([], []), ([9, 10], [9, 10]), ([5, 11], [5, 11]), ([12], [12]), ([0, 13], [0, 13]), ([14, 14, 0, 1, 2, 3, 4, 5, 6, 7, 8, 9, 10, 11, 12, 13, 14], [0, 14])])
def lampblackref07_Delete.B6 : List Nat := [0, 0, 0, 4, 12, 30, 0, 0, 128, 448, 0, 1984, 4094, 8190, 16383, 32767]
theorem lampblackref07_Delete.tab6 : rtab .any (opsOf Tryd.f37 6) = lampblackref07_Delete.T6 := by kernel_rfl
theorem lampblackref07_Delete.bits6 : waitsOk lampblackref07_Delete.T6.2 lampblackref07_Delete.B6 = true := by kernel_rfl
set_option maxHeartbeats 8000000 in
set_option maxRecDepth 100000 in
theorem lampblackref07_Delete.calls (k : Nat) (A0 : Option Addr) (c0 : Nat) (l0 : List Int) (a1 : Int) (r : List Int) (w : World) (hr0 : Kd.C (Kd.int .i64) w A0 l0.length l0) (hc0 : l0.length ≤ c0) (h : lampblackref07_Delete.f k l0 a1 = some r) :
  Calls Tryd.prog 37 #[.slice A0 l0.length c0, .int .i64 a1] w fun e w' => ∃ v0_ : Value, e = .returned (v0_) ∧ Kd.R (Kd.int .i64) 3 w' w.heap.size (fun _ => True) v0_ r ∧ Below w.heap.size w w' := by
 have HR0 := Aside0.mk hr0
 have HC0 := Aside0.mk hc0
 clear hr0 hc0
 have HB := Aside0.mk (Below.refl w.heap.size w)
 have H : (lampblackref07_Delete.l0 k a1 ([] : List Int) l0 (l0.length : Int) 0) = some r := h
 clear h
 have H' := Aside0.mk H
 clear H
 go_enter Tryd.func37, Tryd.ntmps37
 go_wp2
 go_loopg [5, 10] k (fun kq v5 v10 w' => ∃ (x5_1 : List Int) (x10_1 : Int), v10 = .int .i64 x10_1 ∧ Aside0 (lampblackref07_Delete.l0 kq a1 x5_1 l0 (l0.length : Int) x10_1 = some r) ∧ Aside0 (kq ≤ k) ∧ Aside0 (Kd.R (Kd.int .i64) 3 w' w.heap.size (fun _ => True) v5 x5_1) ∧ Aside0 (Below w.heap.size w w'))
 case atStart => exact ⟨(([] : List Int)), (0), (by first | rfl | (simp; done) | (simp [*]; done)), H', ⟨Nat.le_refl _⟩, ⟨by first | exact Kd.R_nil _ _ _ _ _ | exact Kd.N_nil _ _ _ _ _ | exact Kd.V_nil _ _ _ _ _ | exact Kd.Q_nil _ _ _ _ _ | exact Kd.S_nil _ _ _ _ _⟩, ⟨by repeat (first | (with_reducible first | exact HB.out | apply below_alloc | apply pw_below_drewN | apply below_drew1) | exact HB.out)⟩⟩
 case round =>
  clear H'
  try clear p2
  obtain ⟨x5_1, x10_1, rfl, HA, HK1, HO_5, HB⟩ := hrel
  cases gk with
  | zero => exact absurd HA.out (by simp [lampblackref07_Delete.l0])
  | succ k1 =>
   have H := HA.out
   clear HA
   simp only [lampblackref07_Delete.l0] at H
   by_cases c3 : x10_1 < (l0.length : Int)
   ·rw [if_pos c3] at H
    have c3b0 : decide (x10_1 < (l0.length : Int)) = true := decide_eq_true c3
    clear c3
    by_cases c4 : 0 ≤ x10_1
    ·rw [if_pos c4] at H
     have c4b0 : decide (0 ≤ x10_1) = true := decide_eq_true c4
     clear c4
     by_cases c5 : x10_1 < (l0.length : Int)
     ·rw [if_pos c5] at H
      have c5b0 : decide (x10_1 < (l0.length : Int)) = true := decide_eq_true c5
      clear c5
      by_cases c6 : x10_1 = a1
      ·rw [if_pos c6] at H
       have c6b0 : (x10_1 == a1) = true := beq_iff_eq.mpr c6
       have c6b1 : (x10_1 != a1) = false := bne_eq_false_iff_eq.mpr c6
       clear c6
       have H' := Aside0.mk H
       clear H
       have p325 : 0 ≤ (x10_1 : Int) := of_decide_eq_true (by first | (with_reducible assumption) | assumption)
       have q325 : x10_1 < (l0.length : Int) := of_decide_eq_true (by first | (with_reducible assumption) | assumption)
       obtain ⟨ad325, e325, hx325_0⟩ := Kd.at_int HR0.out x10_1 p325 q325
       cases e325
       replace hx325_0 := (HB.out.cell (World.block_lt_of_cell? w _ hx325_0)).trans hx325_0
       replace p325 := eq_true p325
       replace q325 := eq_true q325
       go_wp2
       go_roundg k1
       case measure => have := HK1.out; omega
       case rel => exact ⟨(x5_1), (wrap64 (x10_1 + 1)), (by first | rfl | (simp; done) | (simp [*]; done)), H', ⟨by have := HK1.out; omega⟩, ⟨by (with_reducible repeat (first | apply Kd.R_alloc | apply Kd.R_drewN | apply Kd.R_drew)); exact HO_5.out⟩, ⟨by repeat (first | (with_reducible first | exact HB.out | apply below_alloc | apply pw_below_drewN | apply below_drew1) | exact HB.out)⟩⟩
      ·rw [if_neg c6] at H
       have c6b0 : (x10_1 == a1) = false := beq_eq_false_iff_ne.mpr c6
       have c6b1 : (x10_1 != a1) = true := bne_iff_ne.mpr c6
       by_cases c7 : 0 ≤ a1
       ·rw [if_pos c7] at H
        have c7b0 := eq_true c7
        have c7b1 : decide (0 ≤ a1) = true := decide_eq_true c7
        clear c7
        obtain ⟨ji8, hji8⟩ : ∃ j_ : Int, (shl .i64 1 a1) = j_ := ⟨_, rfl⟩
        replace H : (if 0 ≤ (wrap64 (a1 + 1)) then (if x5_1.length < 17592186044416 then (lampblackref07_Delete.l0 k1 a1 (x5_1 ++ [Go.bits .or .i64 (Go.bits .and .i64 (rd l0 x10_1) (wrap64 ((ji8) - 1))) (shl .i64 (shr .i64 (rd l0 x10_1) (wrap64 (a1 + 1))) a1)]) l0 (l0.length : Int) (wrap64 (x10_1 + 1))) else (none)) else (none)) = some r := by first | (rw [hji8] at H; exact H) | (simp only [hji8] at H ⊢; exact H)
        have hji8_ : (IntKind.i64.wrap (1 * 2 ^ min a1.toNat 64)) = ji8 := hji8
        have hji8z : a1 ≤ 64 → (IntKind.i64.wrap (1 * 2 ^ a1.toNat)) = ji8 := shl_small hji8
        have hji8u : (IntKind.i64.wrap (2 ^ min a1.toNat 64)) = ji8 := by have h_ := hji8_; rw [Int.one_mul] at h_; exact h_
        have hji8v : a1 ≤ 64 → (IntKind.i64.wrap (2 ^ a1.toNat)) = ji8 := fun hle_ => by have h_ := hji8z hle_; rw [Int.one_mul] at h_; exact h_
        have hji8y : (wrap64 (1 * 2 ^ min a1.toNat 64)) = ji8 := (i64_w _).symm.trans hji8_
        have hji8x : a1 ≤ 64 → (wrap64 (1 * 2 ^ a1.toNat)) = ji8 := fun h_ => (i64_w _).symm.trans (hji8z h_)
        obtain ⟨ji9, hji9⟩ : ∃ j_ : Int, (wrap64 (a1 + 1)) = j_ := ⟨_, rfl⟩
        replace H : (if 0 ≤ (ji9) then (if x5_1.length < 17592186044416 then (lampblackref07_Delete.l0 k1 a1 (x5_1 ++ [Go.bits .or .i64 (Go.bits .and .i64 (rd l0 x10_1) (wrap64 ((ji8) - 1))) (shl .i64 (shr .i64 (rd l0 x10_1) (ji9)) a1)]) l0 (l0.length : Int) (wrap64 (x10_1 + 1))) else (none)) else (none)) = some r := by first | (rw [hji9] at H; exact H) | (simp only [hji9] at H ⊢; exact H)
        have hji9w : (IntKind.i64.wrap (a1 + 1)) = ji9 := (i64_w _).trans hji9
        by_cases c10 : 0 ≤ (ji9)
        ·rw [if_pos c10] at H
         have c10b0 := eq_true c10
         have c10b1 : decide (0 ≤ (ji9)) = true := decide_eq_true c10
         clear c10
         obtain ⟨ji11, hji11⟩ : ∃ j_ : Int, (shr .i64 (rd l0 x10_1) (ji9)) = j_ := ⟨_, rfl⟩
         replace H : (if x5_1.length < 17592186044416 then (lampblackref07_Delete.l0 k1 a1 (x5_1 ++ [Go.bits .or .i64 (Go.bits .and .i64 (rd l0 x10_1) (wrap64 ((ji8) - 1))) (shl .i64 (ji11) a1)]) l0 (l0.length : Int) (wrap64 (x10_1 + 1))) else (none)) = some r := by first | (rw [hji11] at H; exact H) | (simp only [hji11] at H ⊢; exact H)
         have hji11_ : ((rd l0 x10_1) / 2 ^ min (ji9).toNat 64) = ji11 := hji11
         have hji11z : (ji9) ≤ 64 → ((rd l0 x10_1) / 2 ^ (ji9).toNat) = ji11 := shr_small hji11
         have c12b0 := eq_true (of_decide_eq_true (by first | (with_reducible assumption) | assumption) : 0 ≤ a1)
         obtain ⟨ji13, hji13⟩ : ∃ j_ : Int, (shl .i64 (ji11) a1) = j_ := ⟨_, rfl⟩
         replace H : (if x5_1.length < 17592186044416 then (lampblackref07_Delete.l0 k1 a1 (x5_1 ++ [Go.bits .or .i64 (Go.bits .and .i64 (rd l0 x10_1) (wrap64 ((ji8) - 1))) (ji13)]) l0 (l0.length : Int) (wrap64 (x10_1 + 1))) else (none)) = some r := by first | (rw [hji13] at H; exact H) | (simp only [hji13] at H ⊢; exact H)
         have hji13_ : (IntKind.i64.wrap ((ji11) * 2 ^ min a1.toNat 64)) = ji13 := hji13
         have hji13z : a1 ≤ 64 → (IntKind.i64.wrap ((ji11) * 2 ^ a1.toNat)) = ji13 := shl_small hji13
         have hji13y : (wrap64 ((ji11) * 2 ^ min a1.toNat 64)) = ji13 := (i64_w _).symm.trans hji13_
         have hji13x : a1 ≤ 64 → (wrap64 ((ji11) * 2 ^ a1.toNat)) = ji13 := fun h_ => (i64_w _).symm.trans (hji13z h_)
         by_cases c14 : x5_1.length < 17592186044416
         ·rw [if_pos c14] at H
          have LMc14 := Aside0.mk c14
          clear c14
          obtain ⟨y326, hy326⟩ : ∃ y_ : List Int, y_ = (x5_1 ++ [Go.bits .or .i64 (Go.bits .and .i64 (rd l0 x10_1) (wrap64 ((ji8) - 1))) (ji13)]) := ⟨_, rfl⟩
          replace H : (lampblackref07_Delete.l0 k1 a1 y326 l0 (l0.length : Int) (wrap64 (x10_1 + 1))) = some r := by first | (rw [hy326]; with_reducible exact H) | (have H2_ := (Option.bind_some _ _).symm.trans H; rw [hy326]; with_reducible exact H2_) | (have H2_ := (Option.bind_some _ _).symm.trans H; with_reducible exact H2_) | with_reducible exact H | (rw [hy326]; exact H) | exact H
          have Ny326 := Aside0.mk hy326
          clear hy326
          have H' := Aside0.mk H
          clear H
          have p325 : 0 ≤ (x10_1 : Int) := of_decide_eq_true (by first | (with_reducible assumption) | assumption)
          have q325 : x10_1 < (l0.length : Int) := of_decide_eq_true (by first | (with_reducible assumption) | assumption)
          obtain ⟨ad325, e325, hx325_0⟩ := Kd.at_int HR0.out x10_1 p325 q325
          cases e325
          replace hx325_0 := (HB.out.cell (World.block_lt_of_cell? w _ hx325_0)).trans hx325_0
          replace p325 := eq_true p325
          replace q325 := eq_true q325
          try go_wp2
          have n0_ := Aside0.mk (Kd.R_drew HO_5.out)
          have n1_ := Aside0.mk (below_drew1 HB.out)
          clear HO_5
          clear HB
          have HO_5 := n0_
          have HB := n1_
          clear n0_ n1_
          refine start_ (n := 16) (S := fun w' => True) (ds := []) (Qbz 16 0) (by kernel_rfl) rfl rfl trivial (fun hHeld => ?_); refine with_tabW lampblackref07_Delete.tab6 lampblackref07_Delete.bits6 (fun HT_ HW_ => ?_)
          generalize wr.drew = w15 at HO_5 HB hHeld ⊢
          refine pure_ (i := 0) (N := some 18) (v := ?_) (a' := ?_) (Qbz 16 1) rfl rfl (any_of HT_.out (by kernel_rfl)) (fun _ _ _ h => h) (Or.inl ⟨by rfl, ?_⟩) ?_ ?_
          rotate_left
          ·intro w'
           go_simp
           with_reducible rfl
          rotate_left
          ·simp only [Act.put, Qp1, Qp2, Qp3, i64_w, i32_w]
           rfl
          refine pure_ (i := 1) (N := some 19) (v := ?_) (a' := ?_) (Qbz 16 3) rfl rfl (any_of HT_.out (by kernel_rfl)) (fun _ _ _ h => h) (Or.inl ⟨by rfl, ?_⟩) ?_ ?_
          rotate_left
          ·intro w'
           go_simp
           with_reducible rfl
          rotate_left
          ·simp only [Act.put, Qp1, Qp2, Qp3, i64_w, i32_w]
           rfl
          refine pure_ (i := 2) (N := some 20) (v := ?_) (a' := ?_) (Qbz 16 7) rfl rfl (any_of HT_.out (by kernel_rfl)) (fun _ _ _ h => h) (Or.inl ⟨by rfl, ?_⟩) ?_ ?_
          rotate_left
          ·intro w'
           go_simp
           with_reducible rfl
          rotate_left
          ·simp only [Act.put, Qp1, Qp2, Qp3, i64_w, i32_w]
           rfl
          refine pure_ (i := 3) (N := some 21) (v := ?_) (a' := ?_) (Qbz 16 15) rfl rfl (any_of HT_.out (by kernel_rfl)) (fun _ _ _ h => h) (Or.inl ⟨by rfl, ?_⟩) ?_ ?_
          rotate_left
          ·intro w'
           go_simp
           with_reducible rfl
          rotate_left
          ·simp only [Act.put, Qp1, Qp2, Qp3, i64_w, i32_w]
           rfl
          refine pure_ (i := 4) (N := some 22) (v := ?_) (a' := ?_) (Qbz 16 31) rfl rfl (any_of HT_.out (by kernel_rfl)) (fun _ _ _ h => h) (Or.inl ⟨by rfl, ?_⟩) ?_ ?_
          rotate_left
          ·intro w'
           go_simp
           with_reducible rfl
          rotate_left
          ·simp only [Act.put, Qp1, Qp2, Qp3, i64_w, i32_w]
           rfl
          refine pure_ (i := 5) (N := some 23) (v := ?_) (a' := ?_) (Qbz 16 63) rfl rfl (any_of HT_.out (by kernel_rfl)) (fun _ _ _ h => h) (Or.inl ⟨by rfl, ?_⟩) ?_ ?_
          rotate_left
          ·intro w'
           go_simp
           with_reducible rfl
          rotate_left
          ·simp only [Act.put, Qp1, Qp2, Qp3, i64_w, i32_w]
           rfl
          refine pure_ (i := 6) (N := some 24) (v := ?_) (a' := ?_) (Qbz 16 127) rfl rfl (any_of HT_.out (by kernel_rfl)) (fun _ _ _ h => h) (Or.inl ⟨by rfl, ?_⟩) ?_ ?_
          rotate_left
          ·intro w'
           go_simp
           with_reducible rfl
          rotate_left
          ·simp only [Act.put, Qp1, Qp2, Qp3, i64_w, i32_w]
           rfl
          refine pure_ (i := 7) (N := some 25) (v := ?_) (a' := ?_) (Qbz 16 255) rfl rfl (any_of HT_.out (by kernel_rfl)) (fun _ _ _ h => h) (Or.inl ⟨by rfl, ?_⟩) ?_ ?_
          rotate_left
          ·intro w'
           go_simp
           with_reducible rfl
          rotate_left
          ·simp only [Act.put, Qp1, Qp2, Qp3, i64_w, i32_w]
           rfl
          refine pure_ (i := 8) (N := some 26) (v := ?_) (a' := ?_) (Qbz 16 511) rfl rfl (any_of HT_.out (by kernel_rfl)) (fun _ _ _ h => h) (Or.inl ⟨by rfl, ?_⟩) ?_ ?_
          rotate_left
          ·intro w'
           go_simp
           with_reducible rfl
          rotate_left
          ·simp only [Act.put, Qp1, Qp2, Qp3, i64_w, i32_w]
           rfl
          refine pure_ (i := 9) (N := some 27) (v := ?_) (a' := ?_) (Qbz 16 1023) rfl rfl (any_of HT_.out (by kernel_rfl)) (fun _ _ _ h => h) (Or.inl ⟨by rfl, ?_⟩) ?_ ?_
          rotate_left
          ·intro w'
           go_simp
           with_reducible rfl
          rotate_left
          ·simp only [Act.put, Qp1, Qp2, Qp3, i64_w, i32_w]
           rfl
          refine pure_ (i := 10) (N := some 28) (v := ?_) (a' := ?_) (Qbz 16 2047) rfl rfl (any_of HT_.out (by kernel_rfl)) (fun _ _ _ h => h) (Or.inl ⟨by rfl, ?_⟩) ?_ ?_
          rotate_left
          ·intro w'
           go_simp
           with_reducible rfl
          rotate_left
          ·simp only [Act.put, Qp1, Qp2, Qp3, i64_w, i32_w]
           rfl
          refine pure_ (i := 11) (N := some 29) (v := ?_) (a' := ?_) (Qbz 16 4095) rfl rfl (any_of HT_.out (by kernel_rfl)) (fun _ _ _ h => h) (Or.inl ⟨by rfl, ?_⟩) ?_ ?_
          rotate_left
          ·intro w'
           go_simp
           with_reducible rfl
          rotate_left
          ·simp only [Act.put, Qp1, Qp2, Qp3, i64_w, i32_w]
           rfl
          refine pure_ (i := 12) (N := some 30) (v := ?_) (a' := ?_) (Qbz 16 8191) rfl rfl (any_of HT_.out (by kernel_rfl)) (fun _ _ _ h => h) (Or.inl ⟨by rfl, ?_⟩) ?_ ?_
          rotate_left
          ·intro w'
           go_simp
           with_reducible rfl
          rotate_left
          ·simp only [Act.put, Qp1, Qp2, Qp3, i64_w, i32_w]
           rfl
          refine one_ (i := 13) (N := some 31) (Qbz 16 16383) rfl rfl (one_of HT_.out (by kernel_rfl)) (by decide) (fun K hK => ?_)
          refine value_ (w1 := ?_) (v := ?_) (by rfl) rfl ?_ ?_
          rotate_left 2
          ·go_simp
           constructor
           ·rfl
           ·rfl
          refine hK.out _ _ trivial (fun hHeld => ?_)
          clear hK K
          refine norm_ (a' := ?_) ?_ ?_
          rotate_left
          ·show Act.put _ (some 31) _ = _
           simp only [Act.put, Qp1, Qp2, Qp3, i64_w, i32_w]
           rfl
          refine one_ (i := 14) (N := some 32) (Qbz 16 32767) rfl rfl (one_of HT_.out (by kernel_rfl)) (by decide) (fun K hK => ?_)
          refine Kd.R_append_step (Kd.int .i64) (w0 := w) w.heap.size (by rfl) (.tmp 18) (.tmp 31) 23 3 (.int .i64 0) 8 rfl Tryd.underlying23 info3 rfl (by decide) (by omega) u5 x5_1 (Go.bits .or .i64 (Go.bits .and .i64 (rd l0 x10_1) (wrap64 ((ji8) - 1))) (ji13)) [.int .i64 (Go.bits .or .i64 (Go.bits .and .i64 (rd l0 x10_1) (wrap64 ((ji8) - 1))) (ji13))] (fun _ => True) (fun _ => False) rfl rfl ?aP (fun _ hk => hk.elim) ?aF ?aO ?aB ?aS ?aL ?_
          (case aP => exact rfl)
          (case aB => exact (Qaw))
          (case aF => exact (fun _ _ => trivial))
          (case aO => exact (Qro HO_5.out))
          (case aS => exact (below_size (Qaw)))
          (case aL => have := LMc14.out; omega)
          intro v327 w16 ho hb hg hat
          rw [← Ny326.out] at ho
          have n0_ := Aside0.mk (hb)
          have n1_ := Aside0.mk (ho)
          clear HB
          clear HO_5
          have HB := n0_
          have HO328 := n1_
          clear n0_ n1_
          clear ho hb hg hat
          refine hK.out _ _ trivial (fun hHeld => ?_)
          clear hK K
          refine norm_ (a' := ?_) ?_ ?_
          rotate_left
          ·show Act.put _ (some 32) _ = _
           simp only [Act.put, Qp1, Qp2, Qp3, i64_w, i32_w]
           rfl
          refine pure_ (i := 15) (N := some 5) (v := ?_) (a' := ?_) (Qbz 16 65535) rfl rfl (any_of HT_.out (by kernel_rfl)) (fun _ _ _ h => h) (Or.inl ⟨by rfl, ?_⟩) ?_ ?_
          rotate_left
          ·intro w'
           go_simp
           with_reducible rfl
          rotate_left
          ·simp only [Act.put, Qp1, Qp2, Qp3, i64_w, i32_w]
           rfl
          refine done_ (done_of HT_.out (by kernel_rfl)) ?_
          try go_wp2
          go_roundg k1
          case measure => have := HK1.out; omega
          case rel => exact ⟨(y326), (wrap64 (x10_1 + 1)), (by first | rfl | (simp; done) | (simp [*]; done)), H', ⟨by have := HK1.out; omega⟩, ⟨by (with_reducible repeat (first | apply Kd.R_alloc | apply Kd.R_drewN | apply Kd.R_drew)); exact HO328.out⟩, ⟨by repeat (first | (with_reducible first | exact HB.out | apply below_alloc | apply pw_below_drewN | apply below_drew1) | exact HB.out)⟩⟩
         ·rw [if_neg c14] at H
          exact absurd H (by simp)
        ·rw [if_neg c10] at H
         exact absurd H (by simp)
       ·rw [if_neg c7] at H
        exact absurd H (by simp)
     ·rw [if_neg c5] at H
      exact absurd H (by simp)
    ·rw [if_neg c4] at H
     exact absurd H (by simp)
   ·rw [if_neg c3] at H
    have c3b0 : decide (x10_1 < (l0.length : Int)) = false := decide_eq_false c3
    clear c3
    obtain rfl := Option.some.inj H
    go_wp2
    go_ret
    exact ⟨_, by first | rfl | (simp [errW_none, errW_some] <;> rfl) | (simp [*, errW_none, errW_some] <;> rfl), by (with_reducible repeat (first | apply Kd.R_alloc | apply Kd.R_drewN | apply Kd.R_drew)); exact HO_5.out, by repeat (first | (with_reducible first | exact HB.out | apply below_alloc | apply pw_below_drewN | apply below_drew1) | exact HB.out)⟩
end Go.Proofs.YtjloppfdagfpmaaDoor.X
end
section
namespace Go.Proofs.YtjloppfdagfpmaaDoor.X
open Go.RowKit YtjloppfdagfpmaaDoorW.PrintWords YtjloppfdagfpmaaDoorW.PrintLast YtjloppfdagfpmaaDoorW.PrintMore
attribute [local go_sem] max2_int min2_int max_two min_two max_three min_three max_four min_four
/-! ### minor_town_crosses: function 83 -/
mutual
def minor_town_crosses.l0 : Nat → List Int → List Int → Int → List Int → Int → Int → Option (Bool)
 | 0, _, _, _, _, _, _ => none
 | k + 1, x0, x1, x5, x15, x16, x17 => if x17 < x16 then (if 0 ≤ x17 then (if x17 < (x15.length : Int) then (if 0 ≤ (rd x15 x17) then (if (rd x15 x17) < (x0.length : Int) then (if 0 ≤ x5 then (if x5 < (x1.length : Int) then (if 0 ≤ (rd x1 x5) then (if (Go.bits .and .i64 (shr .i64 (rd x0 (rd x15 x17)) (rd x1 x5)) 1) = 0 then (minor_town_crosses.l0 k x0 x1 x5 x15 x16 (wrap64 (x17 + 1))) else (minor_town_crosses.l1 k x0 x1 x5 x17 x15 x16 x17 x17 0)) else (none)) else (none)) else (none)) else (none)) else (none)) else (none)) else (none)) else (some false)
def minor_town_crosses.l1 : Nat → List Int → List Int → Int → Int → List Int → Int → Int → Int → Int → Option (Bool)
 | 0, _, _, _, _, _, _, _, _, _ => none
 | k + 1, x0, x1, x5, x6, x15, x16, x17, x33, x34 => if x34 < x33 then (minor_town_crosses.l2 k x0 x1 x5 x6 x34 (wrap64 (x6 + 1)) x15 x16 x17 x33 x34) else (minor_town_crosses.l0 k x0 x1 x5 x15 x16 (wrap64 (x17 + 1)))
def minor_town_crosses.l2 : Nat → List Int → List Int → Int → Int → Int → Int → List Int → Int → Int → Int → Int → Option (Bool)
 | 0, _, _, _, _, _, _, _, _, _, _, _ => none
 | k + 1, x0, x1, x5, x6, x8, x9, x15, x16, x17, x33, x34 => if x9 < x5 then (if 0 ≤ x8 then (if x8 < (x1.length : Int) then (if 0 ≤ (rd x1 x8) then (if (rd x1 x8) < (x0.length : Int) then (if 0 ≤ x9 then (if x9 < (x1.length : Int) then (if 0 ≤ (rd x1 x9) then (if (Go.bits .and .i64 (shr .i64 (rd x0 (rd x1 x8)) (rd x1 x9)) 1) = 1 then (some true) else (minor_town_crosses.l2 k x0 x1 x5 x6 x8 (wrap64 (x9 + 1)) x15 x16 x17 x33 x34)) else (none)) else (none)) else (none)) else (none)) else (none)) else (none)) else (none)) else (minor_town_crosses.l1 k x0 x1 x5 x6 x15 x16 x17 x33 (wrap64 (x34 + 1)))
end
def minor_town_crosses.f (k : Nat) (l0 : List Int) (l1 : List Int) : Option (Bool) := if 0 ≤ (wrap64 ((l1.length : Int) - 1)) then (if (wrap64 ((l1.length : Int) - 1)) ≤ (l1.length : Int) then (minor_town_crosses.l0 k l0 l1 (wrap64 ((l1.length : Int) - 1)) (l1.take ((wrap64 ((l1.length : Int) - 1)) : Int).toNat) ((l1.take ((wrap64 ((l1.length : Int) - 1)) : Int).toNat).length : Int) 0) else (none)) else (none)
set_option maxHeartbeats 8000000 in
set_option maxRecDepth 100000 in
theorem minor_town_crosses.calls (k : Nat) (A0 : Option Addr) (c0 : Nat) (l0 : List Int) (A1 : Option Addr) (c1 : Nat) (l1 : List Int) (r : Bool) (w : World) (hr0 : Kd.C (Kd.int .i64) w A0 l0.length l0) (hc0 : l0.length ≤ c0) (hr1 : Kd.C (Kd.int .i64) w A1 l1.length l1) (hc1 : l1.length ≤ c1) (h : minor_town_crosses.f k l0 l1 = some r) :
  Calls Tryd.prog 83 #[.slice A0 l0.length c0, .slice A1 l1.length c1] w fun e w' => e = .returned (.bool r) ∧ Drawn0 w w' := by
 have HR0 := Aside0.mk hr0
 have HC0 := Aside0.mk hc0
 clear hr0 hc0
 have HR1 := Aside0.mk hr1
 have HC1 := Aside0.mk hc1
 clear hr1 hc1
 have H : (if 0 ≤ (wrap64 ((l1.length : Int) - 1)) then (if (wrap64 ((l1.length : Int) - 1)) ≤ (l1.length : Int) then (minor_town_crosses.l0 k l0 l1 (wrap64 ((l1.length : Int) - 1)) (l1.take ((wrap64 ((l1.length : Int) - 1)) : Int).toNat) ((l1.take ((wrap64 ((l1.length : Int) - 1)) : Int).toNat).length : Int) 0) else (none)) else (none)) = some r := h
 clear h
 obtain ⟨ji3, hji3⟩ : ∃ j_ : Int, (wrap64 ((l1.length : Int) - 1)) = j_ := ⟨_, rfl⟩
 replace H : (if 0 ≤ (ji3) then (if (ji3) ≤ (l1.length : Int) then (minor_town_crosses.l0 k l0 l1 ji3 (l1.take ((ji3) : Int).toNat) ((l1.take ((ji3) : Int).toNat).length : Int) 0) else (none)) else (none)) = some r := by first | (rw [hji3] at H; exact H) | (simp only [hji3] at H ⊢; exact H)
 have hji3w : (IntKind.i64.wrap ((l1.length : Int) - 1)) = ji3 := (i64_w _).trans hji3
 by_cases c4 : 0 ≤ (ji3)
 ·rw [if_pos c4] at H
  have c4b0 := eq_true c4
  have c4b1 : decide (0 ≤ (ji3)) = true := decide_eq_true c4
  clear c4
  by_cases c5 : (ji3) ≤ (l1.length : Int)
  ·rw [if_pos c5] at H
   have c5b0 := eq_true c5
   have c5b1 : decide ((ji3) ≤ (l1.length : Int)) = true := decide_eq_true c5
   clear c5
   have H' := Aside0.mk H
   clear H
   obtain ⟨i06, hi06, _, hsz6, _⟩ := info_parts info3
   obtain ⟨hcut6, hA6, hC6⟩ := print_take_of (P := Tryd.prog) (Value.int .i64) 0 22 3 .i64 Tryd.underlying22 hi06 hsz6 A1 c1 l1 (ji3) (of_decide_eq_true (by first | (with_reducible assumption) | assumption)) (of_decide_eq_true (by first | (with_reducible assumption) | assumption)) HC1.out
   have HR521 := Aside0.mk (Kd.C_of_reads (h1 := fun _ => rfl) (hA6 _ (Kd.reads_of_C HR1.out)))
   have HC521 := Aside0.mk hC6
   clear hA6 hC6 hi06 hsz6
   generalize l1.take ((ji3) : Int).toNat = yc6 at *
   go_enter Tryd.func83, Tryd.ntmps83
   go_wp2
   repeat (go_quiet (fail); try go_wp2)
   go_loopg [17] k (fun kq v17 w' => ∃ (x17_1 : Int), v17 = .int .i64 x17_1 ∧ Aside0 (minor_town_crosses.l0 kq l0 l1 ji3 yc6 (yc6.length : Int) x17_1 = some r) ∧ Aside0 (kq ≤ k) ∧ Drawn0 w w')
   case atStart => exact ⟨(0), (by first | rfl | (simp; done) | (simp [*]; done)), H', ⟨Nat.le_refl _⟩, by repeat (first | exact Drawn0.refl _ | apply Drawn0.step)⟩
   case round =>
    clear H'
    try clear c1
    try clear p2
    try clear c4
    try clear c4b0
    try clear c4b1
    try clear c5
    try clear c5b0
    try clear c5b1
    try clear p6
    obtain ⟨x17_1, rfl, HA, HK1, ⟨m1, rfl⟩⟩ := hrel
    cases gk with
    | zero => exact absurd HA.out (by simp [minor_town_crosses.l0])
    | succ k1 =>
     have H := HA.out
     clear HA
     simp only [minor_town_crosses.l0] at H
     by_cases c7 : x17_1 < (yc6.length : Int)
     ·rw [if_pos c7] at H
      have c7b0 : decide (x17_1 < (yc6.length : Int)) = true := decide_eq_true c7
      clear c7
      by_cases c8 : 0 ≤ x17_1
      ·rw [if_pos c8] at H
       have c8b0 : decide (0 ≤ x17_1) = true := decide_eq_true c8
       clear c8
       by_cases c9 : x17_1 < (yc6.length : Int)
       ·rw [if_pos c9] at H
        have c9b0 : decide (x17_1 < (yc6.length : Int)) = true := decide_eq_true c9
        clear c9
        by_cases c10 : 0 ≤ (rd yc6 x17_1)
        ·rw [if_pos c10] at H
         have c10b0 : decide (0 ≤ (rd yc6 x17_1)) = true := decide_eq_true c10
         clear c10
         by_cases c11 : (rd yc6 x17_1) < (l0.length : Int)
         ·rw [if_pos c11] at H
          have c11b0 : decide ((rd yc6 x17_1) < (l0.length : Int)) = true := decide_eq_true c11
          clear c11
          by_cases c12 : 0 ≤ ji3
          ·rw [if_pos c12] at H
           have c12b0 : decide (0 ≤ ji3) = true := decide_eq_true c12
           clear c12
           by_cases c13 : ji3 < (l1.length : Int)
           ·rw [if_pos c13] at H
            have c13b0 : decide (ji3 < (l1.length : Int)) = true := decide_eq_true c13
            clear c13
            by_cases c14 : 0 ≤ (rd l1 ji3)
            ·rw [if_pos c14] at H
             have c14b0 := eq_true c14
             have c14b1 : decide (0 ≤ (rd l1 ji3)) = true := decide_eq_true c14
             clear c14
             obtain ⟨ji15, hji15⟩ : ∃ j_ : Int, (shr .i64 (rd l0 (rd yc6 x17_1)) (rd l1 ji3)) = j_ := ⟨_, rfl⟩
             replace H : (if (Go.bits .and .i64 (ji15) 1) = 0 then (minor_town_crosses.l0 k1 l0 l1 ji3 yc6 (yc6.length : Int) (wrap64 (x17_1 + 1))) else (minor_town_crosses.l1 k1 l0 l1 ji3 x17_1 yc6 (yc6.length : Int) x17_1 x17_1 0)) = some r := by first | (rw [hji15] at H; exact H) | (simp only [hji15] at H ⊢; exact H)
             have hji15_ : ((rd l0 (rd yc6 x17_1)) / 2 ^ min (rd l1 ji3).toNat 64) = ji15 := hji15
             have hji15z : (rd l1 ji3) ≤ 64 → ((rd l0 (rd yc6 x17_1)) / 2 ^ (rd l1 ji3).toNat) = ji15 := shr_small hji15
             by_cases c16 : (Go.bits .and .i64 (ji15) 1) = 0
             ·rw [if_pos c16] at H
              have c16b0 : ((Go.bits .and .i64 (ji15) 1) == 0) = true := beq_iff_eq.mpr c16
              have c16b1 : ((Go.bits .and .i64 (ji15) 1) != 0) = false := bne_eq_false_iff_eq.mpr c16
              clear c16
              have H' := Aside0.mk H
              clear H
              have p522 : 0 ≤ (x17_1 : Int) := of_decide_eq_true (by first | (with_reducible assumption) | assumption)
              have q522 : x17_1 < (yc6.length : Int) := of_decide_eq_true (by first | (with_reducible assumption) | assumption)
              obtain ⟨ad522, e522, hx522_0⟩ := Kd.at_int HR521.out x17_1 p522 q522
              cases e522
              replace p522 := eq_true p522
              replace q522 := eq_true q522
              have p523 : 0 ≤ ((rd yc6 x17_1) : Int) := of_decide_eq_true (by first | (with_reducible assumption) | assumption)
              have q523 : (rd yc6 x17_1) < (l0.length : Int) := of_decide_eq_true (by first | (with_reducible assumption) | assumption)
              obtain ⟨ad523, e523, hx523_0⟩ := Kd.at_int HR0.out (rd yc6 x17_1) p523 q523
              cases e523
              replace p523 := eq_true p523
              replace q523 := eq_true q523
              have p524 : 0 ≤ (ji3 : Int) := of_decide_eq_true (by first | (with_reducible assumption) | assumption)
              have q524 : ji3 < (l1.length : Int) := of_decide_eq_true (by first | (with_reducible assumption) | assumption)
              obtain ⟨ad524, e524, hx524_0⟩ := Kd.at_int HR1.out ji3 p524 q524
              obtain rfl : ad522 = ad524 := (by injection e524)
              replace p524 := eq_true p524
              replace q524 := eq_true q524
              go_wp2
              repeat (go_quiet (fail); try go_wp2)
              go_roundg k1
              case measure => have := HK1.out; omega
              case rel => exact ⟨(wrap64 (x17_1 + 1)), (by first | rfl | (simp; done) | (simp [*]; done)), H', ⟨by have := HK1.out; omega⟩, by repeat (first | exact Drawn0.refl _ | apply Drawn0.step)⟩
             ·rw [if_neg c16] at H
              have c16b0 : ((Go.bits .and .i64 (ji15) 1) == 0) = false := beq_eq_false_iff_ne.mpr c16
              have c16b1 : ((Go.bits .and .i64 (ji15) 1) != 0) = true := bne_iff_ne.mpr c16
              have H' := Aside0.mk H
              clear H
              have p522 : 0 ≤ (x17_1 : Int) := of_decide_eq_true (by first | (with_reducible assumption) | assumption)
              have q522 : x17_1 < (yc6.length : Int) := of_decide_eq_true (by first | (with_reducible assumption) | assumption)
              obtain ⟨ad522, e522, hx522_0⟩ := Kd.at_int HR521.out x17_1 p522 q522
              cases e522
              replace p522 := eq_true p522
              replace q522 := eq_true q522
              have p523 : 0 ≤ ((rd yc6 x17_1) : Int) := of_decide_eq_true (by first | (with_reducible assumption) | assumption)
              have q523 : (rd yc6 x17_1) < (l0.length : Int) := of_decide_eq_true (by first | (with_reducible assumption) | assumption)
              obtain ⟨ad523, e523, hx523_0⟩ := Kd.at_int HR0.out (rd yc6 x17_1) p523 q523
              cases e523
              replace p523 := eq_true p523
              replace q523 := eq_true q523
              have p524 : 0 ≤ (ji3 : Int) := of_decide_eq_true (by first | (with_reducible assumption) | assumption)
              have q524 : ji3 < (l1.length : Int) := of_decide_eq_true (by first | (with_reducible assumption) | assumption)
              obtain ⟨ad524, e524, hx524_0⟩ := Kd.at_int HR1.out ji3 p524 q524
              obtain rfl : ad522 = ad524 := (by injection e524)
              replace p524 := eq_true p524
              replace q524 := eq_true q524
              go_wp2
              repeat (go_quiet (fail); try go_wp2)
              go_loopg [34] k1 (fun kq v34 w' => ∃ (x34_2 : Int), v34 = .int .i64 x34_2 ∧ Aside0 (minor_town_crosses.l1 kq l0 l1 ji3 x17_1 yc6 (yc6.length : Int) x17_1 x17_1 x34_2 = some r) ∧ Aside0 (kq ≤ k1) ∧ Drawn0 w w')
              case atStart => exact ⟨(0), (by first | rfl | (simp; done) | (simp [*]; done)), H', ⟨Nat.le_refl _⟩, by repeat (first | exact Drawn0.refl _ | apply Drawn0.step)⟩
              case round =>
               clear H'
               try clear c1
               try clear p2
               try clear c4
               try clear c4b0
               try clear c4b1
               try clear c5
               try clear c5b0
               try clear c5b1
               try clear p5
               try clear q5
               try clear hx5
               try clear p6
               try clear c7
               try clear c7b0
               try clear c8
               try clear c8b0
               try clear c9
               try clear c9b0
               try clear c10
               try clear c10b0
               try clear c11
               try clear c11b0
               try clear c12
               try clear c12b0
               try clear c13
               try clear c13b0
               try clear c14
               try clear c14b0
               try clear c14b1
               try clear c16
               try clear c16b0
               try clear c16b1
               try clear hx522_0
               try clear hx523_0
               try clear hx524_0
               try clear p2
               try clear p522
               try clear p523
               try clear p524
               try clear p6
               try clear q522
               try clear q523
               try clear q524
               obtain ⟨x34_2, rfl, HA, HK2, ⟨m2, rfl⟩⟩ := hrel
               cases gk with
               | zero => exact absurd HA.out (by simp [minor_town_crosses.l1])
               | succ k2 =>
                have H := HA.out
                clear HA
                simp only [minor_town_crosses.l1] at H
                by_cases c17 : x34_2 < x17_1
                ·rw [if_pos c17] at H
                 have c17b0 : decide (x34_2 < x17_1) = true := decide_eq_true c17
                 clear c17
                 have H' := Aside0.mk H
                 clear H
                 go_wp2
                 repeat (go_quiet (fail); try go_wp2)
                 go_loopg [9] k2 (fun kq v9 w' => ∃ (x9_3 : Int), v9 = .int .i64 x9_3 ∧ Aside0 (minor_town_crosses.l2 kq l0 l1 ji3 x17_1 x34_2 x9_3 yc6 (yc6.length : Int) x17_1 x17_1 x34_2 = some r) ∧ Aside0 (kq ≤ k2) ∧ Drawn0 w w')
                 case atStart => exact ⟨(wrap64 (x17_1 + 1)), (by first | rfl | (simp; done) | (simp [*]; done)), H', ⟨Nat.le_refl _⟩, by repeat (first | exact Drawn0.refl _ | apply Drawn0.step)⟩
                 case round =>
                  clear H'
                  try clear c1
                  try clear p2
                  try clear c4
                  try clear c4b0
                  try clear c4b1
                  try clear c5
                  try clear c5b0
                  try clear c5b1
                  try clear p5
                  try clear q5
                  try clear hx5
                  try clear p6
                  try clear c7
                  try clear c7b0
                  try clear c8
                  try clear c8b0
                  try clear c9
                  try clear c9b0
                  try clear c10
                  try clear c10b0
                  try clear c11
                  try clear c11b0
                  try clear c12
                  try clear c12b0
                  try clear c13
                  try clear c13b0
                  try clear c14
                  try clear c14b0
                  try clear c14b1
                  try clear c16
                  try clear c16b0
                  try clear c16b1
                  try clear c17
                  try clear c17b0
                  try clear hx522_0
                  try clear hx523_0
                  try clear hx524_0
                  try clear p2
                  try clear p5
                  try clear p522
                  try clear p523
                  try clear p524
                  try clear p6
                  try clear q5
                  try clear q522
                  try clear q523
                  try clear q524
                  obtain ⟨x9_3, rfl, HA, HK3, ⟨m3, rfl⟩⟩ := hrel
                  cases gk with
                  | zero => exact absurd HA.out (by simp [minor_town_crosses.l2])
                  | succ k3 =>
                   have H := HA.out
                   clear HA
                   simp only [minor_town_crosses.l2] at H
                   by_cases c18 : x9_3 < ji3
                   ·rw [if_pos c18] at H
                    have c18b0 : decide (x9_3 < ji3) = true := decide_eq_true c18
                    clear c18
                    by_cases c19 : 0 ≤ x34_2
                    ·rw [if_pos c19] at H
                     have c19b0 : decide (0 ≤ x34_2) = true := decide_eq_true c19
                     clear c19
                     by_cases c20 : x34_2 < (l1.length : Int)
                     ·rw [if_pos c20] at H
                      have c20b0 : decide (x34_2 < (l1.length : Int)) = true := decide_eq_true c20
                      clear c20
                      by_cases c21 : 0 ≤ (rd l1 x34_2)
                      ·rw [if_pos c21] at H
                       have c21b0 : decide (0 ≤ (rd l1 x34_2)) = true := decide_eq_true c21
                       clear c21
                       by_cases c22 : (rd l1 x34_2) < (l0.length : Int)
                       ·rw [if_pos c22] at H
                        have c22b0 : decide ((rd l1 x34_2) < (l0.length : Int)) = true := decide_eq_true c22
                        clear c22
                        by_cases c23 : 0 ≤ x9_3
                        ·rw [if_pos c23] at H
                         have c23b0 : decide (0 ≤ x9_3) = true := decide_eq_true c23
                         clear c23
                         by_cases c24 : x9_3 < (l1.length : Int)
                         ·rw [if_pos c24] at H
                          have c24b0 : decide (x9_3 < (l1.length : Int)) = true := decide_eq_true c24
                          clear c24
                          by_cases c25 : 0 ≤ (rd l1 x9_3)
                          ·rw [if_pos c25] at H
                           have c25b0 := eq_true c25
                           have c25b1 : decide (0 ≤ (rd l1 x9_3)) = true := decide_eq_true c25
                           clear c25
                           obtain ⟨ji26, hji26⟩ : ∃ j_ : Int, (shr .i64 (rd l0 (rd l1 x34_2)) (rd l1 x9_3)) = j_ := ⟨_, rfl⟩
                           replace H : (if (Go.bits .and .i64 (ji26) 1) = 1 then (some true) else (minor_town_crosses.l2 k3 l0 l1 ji3 x17_1 x34_2 (wrap64 (x9_3 + 1)) yc6 (yc6.length : Int) x17_1 x17_1 x34_2)) = some r := by first | (rw [hji26] at H; exact H) | (simp only [hji26] at H ⊢; exact H)
                           have hji26_ : ((rd l0 (rd l1 x34_2)) / 2 ^ min (rd l1 x9_3).toNat 64) = ji26 := hji26
                           have hji26z : (rd l1 x9_3) ≤ 64 → ((rd l0 (rd l1 x34_2)) / 2 ^ (rd l1 x9_3).toNat) = ji26 := shr_small hji26
                           by_cases c27 : (Go.bits .and .i64 (ji26) 1) = 1
                           ·rw [if_pos c27] at H
                            have c27b0 : ((Go.bits .and .i64 (ji26) 1) == 1) = true := beq_iff_eq.mpr c27
                            have c27b1 : ((Go.bits .and .i64 (ji26) 1) != 1) = false := bne_eq_false_iff_eq.mpr c27
                            clear c27
                            obtain rfl := Option.some.inj H
                            have p525 : 0 ≤ (x34_2 : Int) := of_decide_eq_true (by first | (with_reducible assumption) | assumption)
                            have q525 : x34_2 < (l1.length : Int) := of_decide_eq_true (by first | (with_reducible assumption) | assumption)
                            obtain ⟨ad525, e525, hx525_0⟩ := Kd.at_int HR1.out x34_2 p525 q525
                            obtain rfl : ad522 = ad525 := (by injection e525)
                            replace p525 := eq_true p525
                            replace q525 := eq_true q525
                            have p526 : 0 ≤ ((rd l1 x34_2) : Int) := of_decide_eq_true (by first | (with_reducible assumption) | assumption)
                            have q526 : (rd l1 x34_2) < (l0.length : Int) := of_decide_eq_true (by first | (with_reducible assumption) | assumption)
                            obtain ⟨ad526, e526, hx526_0⟩ := Kd.at_int HR0.out (rd l1 x34_2) p526 q526
                            obtain rfl : ad523 = ad526 := (by injection e526)
                            replace p526 := eq_true p526
                            replace q526 := eq_true q526
                            have p527 : 0 ≤ (x9_3 : Int) := of_decide_eq_true (by first | (with_reducible assumption) | assumption)
                            have q527 : x9_3 < (l1.length : Int) := of_decide_eq_true (by first | (with_reducible assumption) | assumption)
                            obtain ⟨ad527, e527, hx527_0⟩ := Kd.at_int HR1.out x9_3 p527 q527
                            obtain rfl : ad522 = ad527 := (by injection e527)
                            replace p527 := eq_true p527
                            replace q527 := eq_true q527
                            go_wp2
                            repeat (go_quiet (fail); try go_wp2)
                            go_ret
                            exact ⟨by first | rfl | (simp; done) | (simp only [← hji3, ← hji15, ← hji26] <;> (first | rfl | simp)) | (simp [*]; done), by repeat (first | exact Drawn0.refl _ | apply Drawn0.step)⟩
                           ·rw [if_neg c27] at H
                            have c27b0 : ((Go.bits .and .i64 (ji26) 1) == 1) = false := beq_eq_false_iff_ne.mpr c27
                            have c27b1 : ((Go.bits .and .i64 (ji26) 1) != 1) = true := bne_iff_ne.mpr c27
                            have H' := Aside0.mk H
                            clear H
                            have p525 : 0 ≤ (x34_2 : Int) := of_decide_eq_true (by first | (with_reducible assumption) | assumption)
                            have q525 : x34_2 < (l1.length : Int) := of_decide_eq_true (by first | (with_reducible assumption) | assumption)
                            obtain ⟨ad525, e525, hx525_0⟩ := Kd.at_int HR1.out x34_2 p525 q525
                            obtain rfl : ad522 = ad525 := (by injection e525)
                            replace p525 := eq_true p525
                            replace q525 := eq_true q525
                            have p526 : 0 ≤ ((rd l1 x34_2) : Int) := of_decide_eq_true (by first | (with_reducible assumption) | assumption)
                            have q526 : (rd l1 x34_2) < (l0.length : Int) := of_decide_eq_true (by first | (with_reducible assumption) | assumption)
                            obtain ⟨ad526, e526, hx526_0⟩ := Kd.at_int HR0.out (rd l1 x34_2) p526 q526
                            obtain rfl : ad523 = ad526 := (by injection e526)
                            replace p526 := eq_true p526
                            replace q526 := eq_true q526
                            have p527 : 0 ≤ (x9_3 : Int) := of_decide_eq_true (by first | (with_reducible assumption) | assumption)
                            have q527 : x9_3 < (l1.length : Int) := of_decide_eq_true (by first | (with_reducible assumption) | assumption)
                            obtain ⟨ad527, e527, hx527_0⟩ := Kd.at_int HR1.out x9_3 p527 q527
                            obtain rfl : ad522 = ad527 := (by injection e527)
                            replace p527 := eq_true p527
                            replace q527 := eq_true q527
                            go_wp2
                            repeat (go_quiet (fail); try go_wp2)
                            go_roundg k3
                            case measure => have := HK1.out; have := HK2.out; have := HK3.out; omega
                            case rel => exact ⟨(wrap64 (x9_3 + 1)), (by first | rfl | (simp; done) | (simp [*]; done)), H', ⟨by have := HK1.out; have := HK2.out; have := HK3.out; omega⟩, by repeat (first | exact Drawn0.refl _ | apply Drawn0.step)⟩
                          ·rw [if_neg c25] at H
                           exact absurd H (by simp)
                         ·rw [if_neg c24] at H
                          exact absurd H (by simp)
                        ·rw [if_neg c23] at H
                         exact absurd H (by simp)
                       ·rw [if_neg c22] at H
                        exact absurd H (by simp)
                      ·rw [if_neg c21] at H
                       exact absurd H (by simp)
                     ·rw [if_neg c20] at H
                      exact absurd H (by simp)
                    ·rw [if_neg c19] at H
                     exact absurd H (by simp)
                   ·rw [if_neg c18] at H
                    have c18b0 : decide (x9_3 < ji3) = false := decide_eq_false c18
                    clear c18
                    have H' := Aside0.mk H
                    clear H
                    go_wp2
                    repeat (go_quiet (fail); try go_wp2)
                    go_roundg k3
                    case measure => have := HK1.out; have := HK2.out; have := HK3.out; omega
                    case rel => exact ⟨(wrap64 (x34_2 + 1)), (by first | rfl | (simp; done) | (simp [*]; done)), H', ⟨by have := HK1.out; have := HK2.out; have := HK3.out; omega⟩, by repeat (first | exact Drawn0.refl _ | apply Drawn0.step)⟩
                ·rw [if_neg c17] at H
                 have c17b0 : decide (x34_2 < x17_1) = false := decide_eq_false c17
                 clear c17
                 have H' := Aside0.mk H
                 clear H
                 go_wp2
                 repeat (go_quiet (fail); try go_wp2)
                 go_roundg k2
                 case measure => have := HK1.out; have := HK2.out; omega
                 case rel => exact ⟨(wrap64 (x17_1 + 1)), (by first | rfl | (simp; done) | (simp [*]; done)), H', ⟨by have := HK1.out; have := HK2.out; omega⟩, by repeat (first | exact Drawn0.refl _ | apply Drawn0.step)⟩
            ·rw [if_neg c14] at H
             exact absurd H (by simp)
           ·rw [if_neg c13] at H
            exact absurd H (by simp)
          ·rw [if_neg c12] at H
           exact absurd H (by simp)
         ·rw [if_neg c11] at H
          exact absurd H (by simp)
        ·rw [if_neg c10] at H
         exact absurd H (by simp)
       ·rw [if_neg c9] at H
        exact absurd H (by simp)
      ·rw [if_neg c8] at H
       exact absurd H (by simp)
     ·rw [if_neg c7] at H
      have c7b0 : decide (x17_1 < (yc6.length : Int)) = false := decide_eq_false c7
      clear c7
      obtain rfl := Option.some.inj H
      go_wp2
      repeat (go_quiet (fail); try go_wp2)
      go_ret
      exact ⟨by first | rfl | (simp; done) | (simp only [← hji3] <;> (first | rfl | simp)) | (simp [*]; done), by repeat (first | exact Drawn0.refl _ | apply Drawn0.step)⟩
  ·rw [if_neg c5] at H
   exact absurd H (by simp)
 ·rw [if_neg c4] at H
  exact absurd H (by simp)
end Go.Proofs.YtjloppfdagfpmaaDoor.X
end
section
namespace Go.Proofs.YtjloppfdagfpmaaDoor.X
open Go.RowKit YtjloppfdagfpmaaDoorW.PrintWords YtjloppfdagfpmaaDoorW.PrintLast YtjloppfdagfpmaaDoorW.PrintMore
attribute [local go_sem] max2_int min2_int max_two min_two max_three min_three max_four min_four
/-! ### lampblackref02_IsOrder: function 85 -/
def lampblackref02_IsOrder.l0 : Nat → List Int → Int → Int → List Int → Int → Int → Option (Bool)
 | 0, _, _, _, _, _, _ => none
 | k + 1, x0, x1, x5, x8, x9, x10 => if x10 < x9 then (if 0 ≤ x10 then (if x10 < (x8.length : Int) then (if (rd x8 x10) < 0 then (some false) else (if (rd x8 x10) ≥ x1 then (some false) else (if 0 ≤ (rd x8 x10) then (if (Go.bits .and .i64 (shr .i64 x5 (rd x8 x10)) 1) = 1 then (some false) else (lampblackref02_IsOrder.l0 k x0 x1 (Go.bits .or .i64 x5 (shl .i64 1 (rd x8 x10))) x8 x9 (wrap64 (x10 + 1)))) else (none)))) else (none)) else (none)) else (some ((x0.length : Int) == x1))
end Go.Proofs.YtjloppfdagfpmaaDoor.X
end
section
namespace Go.Proofs.YtjloppfdagfpmaaDoor.X
open Go.RowKit YtjloppfdagfpmaaDoorW.PrintWords YtjloppfdagfpmaaDoorW.PrintLast YtjloppfdagfpmaaDoorW.PrintMore
attribute [local go_sem] max2_int min2_int max_two min_two max_three min_three max_four min_four
/-! ### lampblackref07_IsOuter: function 50 -/
mutual
def lampblackref07_IsOuter.l0 : Nat → List Int → List Int → Int → Int → Option (Bool)
 | 0, _, _, _, _ => none
 | k + 1, x0, x1, x15, x16 => if x16 < x15 then (lampblackref07_IsOuter.l1 k x0 x1 x16 x15 x16 x16 0) else (some true)
def lampblackref07_IsOuter.l1 : Nat → List Int → List Int → Int → Int → Int → Int → Int → Option (Bool)
 | 0, _, _, _, _, _, _, _ => none
 | k + 1, x0, x1, x5, x15, x16, x19, x20 => if x20 < x19 then (lampblackref07_IsOuter.l2 k x0 x1 x5 x20 x15 x16 x19 x20 x20 0) else (lampblackref07_IsOuter.l0 k x0 x1 x15 (wrap64 (x16 + 1)))
def lampblackref07_IsOuter.l2 : Nat → List Int → List Int → Int → Int → Int → Int → Int → Int → Int → Int → Option (Bool)
 | 0, _, _, _, _, _, _, _, _, _, _ => none
 | k + 1, x0, x1, x5, x6, x15, x16, x19, x20, x23, x24 => if x24 < x23 then (lampblackref07_IsOuter.l3 k x0 x1 x5 x6 x24 x15 x16 x19 x20 x23 x24 x24 0) else (lampblackref07_IsOuter.l1 k x0 x1 x5 x15 x16 x19 (wrap64 (x20 + 1)))
def lampblackref07_IsOuter.l3 : Nat → List Int → List Int → Int → Int → Int → Int → Int → Int → Int → Int → Int → Int → Int → Option (Bool)
 | 0, _, _, _, _, _, _, _, _, _, _, _, _, _ => none
 | k + 1, x0, x1, x5, x6, x7, x15, x16, x19, x20, x23, x24, x27, x28 => if x28 < x27 then (if 0 ≤ x28 then (if x28 < (x1.length : Int) then (if 0 ≤ (rd x1 x28) then (if (rd x1 x28) < (x0.length : Int) then (if 0 ≤ x6 then (if x6 < (x1.length : Int) then (if 0 ≤ (rd x1 x6) then (if (Go.bits .and .i64 (shr .i64 (rd x0 (rd x1 x28)) (rd x1 x6)) 1) = 1 then (if 0 ≤ x7 then (if x7 < (x1.length : Int) then (if 0 ≤ (rd x1 x7) then (if (rd x1 x7) < (x0.length : Int) then (if 0 ≤ x5 then (if x5 < (x1.length : Int) then (if 0 ≤ (rd x1 x5) then (if (Go.bits .and .i64 (shr .i64 (rd x0 (rd x1 x7)) (rd x1 x5)) 1) = 1 then (some false) else (lampblackref07_IsOuter.l3 k x0 x1 x5 x6 x7 x15 x16 x19 x20 x23 x24 x27 (wrap64 (x28 + 1)))) else (none)) else (none)) else (none)) else (none)) else (none)) else (none)) else (none)) else (lampblackref07_IsOuter.l3 k x0 x1 x5 x6 x7 x15 x16 x19 x20 x23 x24 x27 (wrap64 (x28 + 1)))) else (none)) else (none)) else (none)) else (none)) else (none)) else (none)) else (none)) else (lampblackref07_IsOuter.l2 k x0 x1 x5 x6 x15 x16 x19 x20 x23 (wrap64 (x24 + 1)))
end
end Go.Proofs.YtjloppfdagfpmaaDoor.X
end
section
/- (minor) Outer orders: crosses, CheckOuter's rounds, the reference's IsOuter. -/
namespace Go.Proofs.YtjloppfdagfpmaaDoor.X
open Go.RowKit YtjloppfdagfpmaaDoorW.PrintWords YtjloppfdagfpmaaDoorW.PrintLast YtjloppfdagfpmaaDoorW.PrintMore YtjloppfdagfpmaaDoor.T
def cr (G l : List Nat) (i j : Nat) : Bool := (G.getD (l.getD i 0) 0).testBit (l.getD j 0)
def CrossAt (G l : List Nat) (m : Nat) : Prop := ∃ i j k, i < j ∧ j < k ∧ k < m ∧ cr G l i k = true ∧ cr G l j m = true
def crossB (G l : List Nat) : Bool := (List.range (l.length - 1)).any fun k => (List.range k).any fun j => (List.range j).any fun i => cr G l i k && cr G l j (l.length - 1)
theorem crossB_iff (G l : List Nat) : crossB G l = true ↔ CrossAt G l (l.length - 1) := by
 unfold crossB
 simp only [List.any_eq_true, List.mem_range, Bool.and_eq_true]
 exact ⟨fun ⟨k, h1, j, h2, i, h3, h4, h5⟩ => ⟨i, j, k, h3, h2, h1, h4, h5⟩, fun ⟨i, j, k, h3, h2, h1, h4, h5⟩ => ⟨k, h1, j, h2, i, h3, h4, h5⟩⟩
theorem getD_in {l : List Nat} {n i : Nat} (h : ∀ x ∈ l, x < n) (hi : i < l.length) : l.getD i 0 < n := by
 rw [List.getD_eq_getElem?_getD, List.getElem?_eq_getElem hi]
 exact h _ (List.getElem_mem hi)
theorem cr_int {G l : List Nat} (hn : G.length ≤ 9) (hG : ∀ x ∈ G, x < 512) (hl : ∀ x ∈ l, x < G.length) {i j : Nat} (hi : i < l.length) (hj : j < l.length) :
  (Go.bits .and .i64 (shr .i64 (rd (gi G) (rd (gi l) (i : Int))) (rd (gi l) (j : Int))) 1 = 1 ↔ cr G l i j = true) ∧ (Go.bits .and .i64 (shr .i64 (rd (gi G) (rd (gi l) (i : Int))) (rd (gi l) (j : Int))) 1 = 0 ↔ cr G l i j = false) := by
 have h1 := getD_in hl hi
 have h2 := getD_in hl hj
 have h3 := getD_in hG h1
 rw [rd_gi l i, rd_gi l j, rd_gi G]
 exact ⟨bit_one _ _ (by omega) (by omega), bit_zero _ _ (by omega) (by omega)⟩
theorem rd_in {G l : List Nat} (hl : ∀ x ∈ l, x < G.length) {i : Nat} (hi : i < l.length) : 0 ≤ rd (gi l) (i : Int) ∧ rd (gi l) (i : Int) < ((gi G).length : Int) := by
 have h1 := getD_in hl hi
 rw [rd_gi, gi_length]
 omega
section
variable {G l : List Nat} (hn : G.length ≤ 9) (hG : ∀ x ∈ G, x < 512) (hl : ∀ x ∈ l, x < G.length) (hll : l.length ≤ 1000)
include hn hG hl hll
theorem cross_l2 (m : Nat) (hm : m < l.length) (i j : Nat) (hij : i < j) (hjm : j < m) (l15 : List Int) (x16 x17 x33 : Int) (X : Bool)
  (hyes : (∃ k, j < k ∧ k < m ∧ cr G l i k = true) → X = true)
  (hno : (∀ k, j < k → k < m → cr G l i k = false) → Ev (fun n => minor_town_crosses.l1 n (gi G) (gi l) (m : Int) (j : Int) l15 x16 x17 x33 ((i + 1 : Nat) : Int)) X) :
  ∀ d k, k + d = m → j < k → (∀ k', j < k' → k' < k → cr G l i k' = false) → Ev (fun n => minor_town_crosses.l2 n (gi G) (gi l) (m : Int) (j : Int) (i : Int) (k : Int) l15 x16 x17 x33 (i : Int)) X := by
 intro d
 induction d with
 | zero =>
  intro k hk hjk hbe
  refine Ev.step (fun n => by rw [minor_town_crosses.l2, if_neg (by omega), wrap_succ i (by omega)]) (hno fun k' h1 h2 => hbe k' h1 (by omega))
 | succ d ih =>
  intro k hk hjk hbe
  have hi1 := rd_in hl (show i < l.length by omega)
  have hk1 := rd_in hl (show k < l.length by omega)
  have hb := cr_int hn hG hl (show i < l.length by omega) (show k < l.length by omega)
  have hgl := gi_length l
  by_cases h : cr G l i k = true
  ·rw [hyes ⟨k, hjk, by omega, h⟩]
   refine Ev.step (f := fun _ => some true) (fun n => ?_) (Ev.some rfl)
   rw [minor_town_crosses.l2, if_pos (by omega), if_pos (by omega), if_pos (by omega), if_pos hi1.1, if_pos hi1.2, if_pos (by omega), if_pos (by omega), if_pos hk1.1, if_pos (hb.1.2 h)]
  ·refine Ev.step (fun n => ?_) (ih (k + 1) (by omega) (by omega) fun k' h1 h2 => ?_)
   ·rw [minor_town_crosses.l2, if_pos (by omega), if_pos (by omega), if_pos (by omega), if_pos hi1.1, if_pos hi1.2, if_pos (by omega), if_pos (by omega), if_pos hk1.1, if_neg (fun e => h (hb.1.1 e)), wrap_succ k (by omega)]
   ·by_cases e : k' = k
    ·subst e; simpa using h
    ·exact hbe k' h1 (by omega)
theorem cross_l1 (m : Nat) (hm : m < l.length) (j : Nat) (hjm : j < m) (l15 : List Int) (x16 : Int) (X : Bool)
  (hyes : (∃ i k, i < j ∧ j < k ∧ k < m ∧ cr G l i k = true) → X = true)
  (hno : (∀ i k, i < j → j < k → k < m → cr G l i k = false) → Ev (fun n => minor_town_crosses.l0 n (gi G) (gi l) (m : Int) l15 x16 ((j + 1 : Nat) : Int)) X) :
  ∀ d i, i + d = j → (∀ i' k', i' < i → j < k' → k' < m → cr G l i' k' = false) → Ev (fun n => minor_town_crosses.l1 n (gi G) (gi l) (m : Int) (j : Int) l15 x16 (j : Int) (j : Int) (i : Int)) X := by
 intro d
 induction d with
 | zero =>
  intro i hi hbe
  refine Ev.step (fun n => by rw [minor_town_crosses.l1, if_neg (by omega), wrap_succ j (by omega)]) (hno fun i' k' h1 h2 h3 => hbe i' k' (by omega) h2 h3)
 | succ d ih =>
  intro i hi hbe
  refine Ev.step (fun n => by rw [minor_town_crosses.l1, if_pos (by omega), wrap_succ j (by omega)]) ?_
  refine cross_l2 hn hG hl hll m hm i j (by omega) hjm l15 x16 _ _ X (fun ⟨k, h1, h2, h3⟩ => hyes ⟨i, k, by omega, h1, h2, h3⟩) (fun hf => ih (i + 1) (by omega) fun i' k' h1 h2 h3 => ?_) (m - (j + 1)) (j + 1) (by omega) (by omega) (fun k' h1 h2 => by omega)
  by_cases e : i' = i
  ·subst e; exact hf k' h2 h3
  ·exact hbe i' k' (by omega) h2 h3
theorem cross_l0 (m : Nat) (hm : m + 1 = l.length) : ∀ d j, j + d = m → (∀ i' j' k', i' < j' → j' < j → j' < k' → k' < m → cr G l i' k' = true → cr G l j' m = false) →
  Ev (fun n => minor_town_crosses.l0 n (gi G) (gi l) (m : Int) ((gi l).take m) (m : Int) (j : Int)) (crossB G l) := by
 intro d
 have hm1 : l.length - 1 = m := by omega
 induction d with
 | zero =>
  intro j hj hbe
  have : crossB G l = false := by
   cases hc : crossB G l
   ·rfl
   ·obtain ⟨i, j', k, h1, h2, h3, h4, h5⟩ := (crossB_iff G l).1 hc
    rw [hm1] at h3 h5
    rw [hbe i j' k h1 (by omega) h2 h3 h4] at h5
    cases h5
  rw [this]
  exact Ev.step (f := fun _ => some false) (fun n => by rw [minor_town_crosses.l0, if_neg (by omega)]) (Ev.some rfl)
 | succ d ih =>
  intro j hj hbe
  have htl : ((gi l).take m).length = m := by rw [List.length_take, gi_length]; omega
  have htk : rd ((gi l).take m) (j : Int) = rd (gi l) (j : Int) := by
   unfold rd
   rw [Int.toNat_natCast, List.getD_eq_getElem?_getD, List.getD_eq_getElem?_getD, List.getElem?_take_of_lt (by omega)]
  have hj1 := rd_in hl (show j < l.length by omega)
  have hm2 := rd_in hl (show m < l.length by omega)
  have hb := cr_int hn hG hl (show j < l.length by omega) (show m < l.length by omega)
  have hgl := gi_length l
  by_cases h : cr G l j m = true
  ·refine Ev.step (fun n => ?_) (cross_l1 hn hG hl hll m (by omega) j (by omega) ((gi l).take m) (m : Int) (crossB G l) (fun ⟨i, k, h1, h2, h3, h4⟩ => (crossB_iff G l).2 (by rw [hm1]; exact ⟨i, j, k, h1, h2, h3, h4, h⟩)) (fun hf => ih (j + 1) (by omega) fun i' j' k' h1 h2 h3 h4 h5 => ?_) j 0 (by omega) (fun _ _ h => by omega))
   ·rw [minor_town_crosses.l0, htl, htk, if_pos (by omega), if_pos (by omega), if_pos (by omega), if_pos hj1.1, if_pos hj1.2, if_pos (by omega), if_pos (by omega), if_pos hm2.1, if_neg (fun e => by have := hb.2.1 e; rw [h] at this; cases this)]
    rfl
   ·by_cases e : j' = j
    ·subst e
     rw [hf i' k' h1 h3 h4] at h5
     cases h5
    ·exact hbe i' j' k' h1 (by omega) h3 h4 h5
  ·refine Ev.step (fun n => ?_) (ih (j + 1) (by omega) fun i' j' k' h1 h2 h3 h4 h5 => ?_)
   ·rw [minor_town_crosses.l0, htl, htk, if_pos (by omega), if_pos (by omega), if_pos (by omega), if_pos hj1.1, if_pos hj1.2, if_pos (by omega), if_pos (by omega), if_pos hm2.1, if_pos (hb.2.2 (by simpa using h)), wrap_succ j (by omega)]
   ·by_cases e : j' = j
    ·subst e; simpa using h
    ·exact hbe i' j' k' h1 (by omega) h3 h4 h5
theorem crosses_ev (h0 : 0 < l.length) : Ev (fun n => minor_town_crosses.f n (gi G) (gi l)) (crossB G l) := by
 have e : wrap64 (((gi l).length : Int) - 1) = ((l.length - 1 : Nat) : Int) := by
  rw [gi_length, w64_small _ (by omega) (by omega)]; omega
 have := cross_l0 hn hG hl hll (l.length - 1) (by omega) (l.length - 1) 0 (by omega) (fun _ _ _ _ h => by omega)
 unfold minor_town_crosses.f
 rw [e, Int.toNat_natCast, gi_length]
 refine Ev.if_pos (by omega) (Ev.if_pos (by omega) ?_)
 rw [List.length_take, gi_length, Nat.min_eq_left (by omega)]
 exact this
end
def outN (G : List Nat) : Nat → List Nat → Nat → Option (List Nat)
 | 0, M, _ => some M
 | d + 1, M, left => (els left 9).findSome? fun v => if crossB G (M ++ [v]) = true then none else outN G d (M ++ [v]) (diff left (2 ^ v))
end Go.Proofs.YtjloppfdagfpmaaDoor.X
end
section
namespace Go.Proofs.YtjloppfdagfpmaaDoor.X
open Go.RowKit YtjloppfdagfpmaaDoorW.PrintWords YtjloppfdagfpmaaDoorW.PrintLast YtjloppfdagfpmaaDoorW.PrintMore
attribute [local go_sem] max2_int min2_int max_two min_two max_three min_three max_four min_four
/-! ### lampblackref07_fits: function 73 -/
def lampblackref07_fits.l0 : Nat → List Int → List Int → List Int → Int → Int → Int → Int → Option (Bool)
 | 0, _, _, _, _, _, _, _ => none
 | k + 1, x0, x1, x2, x3, x4, x12, x13 => if x13 < x12 then (if 0 ≤ x3 then (if x3 < (x1.length : Int) then (if 0 ≤ x13 then (if (Go.bits .and .i64 (shr .i64 (rd x1 x3) x13) 1) = 1 then ((lampblackref02_Around.f k x0 x4).bind fun t197 => (if x13 < (x2.length : Int) then (if (Go.bits .and .i64 t197 (rd x2 x13)) = 0 then (some false) else (lampblackref07_fits.l0 k x0 x1 x2 x3 x4 x12 (wrap64 (x13 + 1)))) else (none))) else (lampblackref07_fits.l0 k x0 x1 x2 x3 x4 x12 (wrap64 (x13 + 1)))) else (none)) else (none)) else (none)) else (some true)
def lampblackref07_fits.f (k : Nat) (l0 : List Int) (l1 : List Int) (l2 : List Int) (a3 : Int) (a4 : Int) : Option (Bool) := lampblackref07_fits.l0 k l0 l1 l2 a3 a4 a3 0
set_option maxHeartbeats 8000000 in
set_option maxRecDepth 100000 in
theorem lampblackref07_fits.calls (k : Nat) (A0 : Option Addr) (c0 : Nat) (l0 : List Int) (A1 : Option Addr) (c1 : Nat) (l1 : List Int) (A2 : Option Addr) (c2 : Nat) (l2 : List Int) (a3 : Int) (a4 : Int) (r : Bool) (w : World) (hr0 : Kd.C (Kd.int .i64) w A0 l0.length l0) (hc0 : l0.length ≤ c0) (hr1 : Kd.C (Kd.int .i64) w A1 l1.length l1) (hc1 : l1.length ≤ c1) (hr2 : Kd.C (Kd.int .i64) w A2 l2.length l2) (hc2 : l2.length ≤ c2) (h : lampblackref07_fits.f k l0 l1 l2 a3 a4 = some r) :
  Calls Tryd.prog 73 #[.slice A0 l0.length c0, .slice A1 l1.length c1, .slice A2 l2.length c2, .int .i64 a3, .int .i64 a4] w fun e w' => e = .returned (.bool r) ∧ Drawn0 w w' := by
 have HR0 := Aside0.mk hr0
 have HC0 := Aside0.mk hc0
 clear hr0 hc0
 have HR1 := Aside0.mk hr1
 have HC1 := Aside0.mk hc1
 clear hr1 hc1
 have HR2 := Aside0.mk hr2
 have HC2 := Aside0.mk hc2
 clear hr2 hc2
 have H : (lampblackref07_fits.l0 k l0 l1 l2 a3 a4 a3 0) = some r := h
 clear h
 have H' := Aside0.mk H
 clear H
 go_enter Tryd.func73, Tryd.ntmps73
 go_wp2
 repeat (go_quiet (fail); try go_wp2)
 go_loopg [13] k (fun kq v13 w' => ∃ (x13_1 : Int), v13 = .int .i64 x13_1 ∧ Aside0 (lampblackref07_fits.l0 kq l0 l1 l2 a3 a4 a3 x13_1 = some r) ∧ Aside0 (kq ≤ k) ∧ Drawn0 w w')
 case atStart => exact ⟨(0), (by first | rfl | (simp; done) | (simp [*]; done)), H', ⟨Nat.le_refl _⟩, by repeat (first | exact Drawn0.refl _ | apply Drawn0.step)⟩
 case round =>
  clear H'
  try clear c1
  try clear c2
  try clear p2
  obtain ⟨x13_1, rfl, HA, HK1, ⟨m1, rfl⟩⟩ := hrel
  cases gk with
  | zero => exact absurd HA.out (by simp [lampblackref07_fits.l0])
  | succ k1 =>
   have H := HA.out
   clear HA
   simp only [lampblackref07_fits.l0] at H
   by_cases c6 : x13_1 < a3
   ·rw [if_pos c6] at H
    have c6b0 : decide (x13_1 < a3) = true := decide_eq_true c6
    clear c6
    by_cases c7 : 0 ≤ a3
    ·rw [if_pos c7] at H
     have c7b0 : decide (0 ≤ a3) = true := decide_eq_true c7
     clear c7
     by_cases c8 : a3 < (l1.length : Int)
     ·rw [if_pos c8] at H
      have c8b0 : decide (a3 < (l1.length : Int)) = true := decide_eq_true c8
      clear c8
      by_cases c9 : 0 ≤ x13_1
      ·rw [if_pos c9] at H
       have c9b0 := eq_true c9
       have c9b1 : decide (0 ≤ x13_1) = true := decide_eq_true c9
       clear c9
       obtain ⟨ji10, hji10⟩ : ∃ j_ : Int, (shr .i64 (rd l1 a3) x13_1) = j_ := ⟨_, rfl⟩
       replace H : (if (Go.bits .and .i64 (ji10) 1) = 1 then ((lampblackref02_Around.f k1 l0 a4).bind fun t197 => (if x13_1 < (l2.length : Int) then (if (Go.bits .and .i64 t197 (rd l2 x13_1)) = 0 then (some false) else (lampblackref07_fits.l0 k1 l0 l1 l2 a3 a4 a3 (wrap64 (x13_1 + 1)))) else (none))) else (lampblackref07_fits.l0 k1 l0 l1 l2 a3 a4 a3 (wrap64 (x13_1 + 1)))) = some r := by first | (rw [hji10] at H; exact H) | (simp only [hji10] at H ⊢; exact H)
       have hji10_ : ((rd l1 a3) / 2 ^ min x13_1.toNat 64) = ji10 := hji10
       have hji10z : x13_1 ≤ 64 → ((rd l1 a3) / 2 ^ x13_1.toNat) = ji10 := shr_small hji10
       by_cases c11 : (Go.bits .and .i64 (ji10) 1) = 1
       ·rw [if_pos c11] at H
        have c11b0 : ((Go.bits .and .i64 (ji10) 1) == 1) = true := beq_iff_eq.mpr c11
        have c11b1 : ((Go.bits .and .i64 (ji10) 1) != 1) = false := bne_eq_false_iff_eq.mpr c11
        clear c11
        replace H := Option.bind_eq_some_iff.mp H
        obtain ⟨t197, A120, H⟩ := H
        replace H : (if x13_1 < (l2.length : Int) then (if (Go.bits .and .i64 t197 (rd l2 x13_1)) = 0 then (some false) else (lampblackref07_fits.l0 k1 l0 l1 l2 a3 a4 a3 (wrap64 (x13_1 + 1)))) else (none)) = some r := H
        have A12 := Aside0.mk A120
        clear A120
        by_cases c13 : x13_1 < (l2.length : Int)
        ·rw [if_pos c13] at H
         have c13b0 : decide (x13_1 < (l2.length : Int)) = true := decide_eq_true c13
         clear c13
         by_cases c14 : (Go.bits .and .i64 t197 (rd l2 x13_1)) = 0
         ·rw [if_pos c14] at H
          have c14b0 : ((Go.bits .and .i64 t197 (rd l2 x13_1)) == 0) = true := beq_iff_eq.mpr c14
          have c14b1 : ((Go.bits .and .i64 t197 (rd l2 x13_1)) != 0) = false := bne_eq_false_iff_eq.mpr c14
          clear c14
          obtain rfl := Option.some.inj H
          have p196 : 0 ≤ (a3 : Int) := of_decide_eq_true (by first | (with_reducible assumption) | assumption)
          have q196 : a3 < (l1.length : Int) := of_decide_eq_true (by first | (with_reducible assumption) | assumption)
          obtain ⟨ad196, e196, hx196_0⟩ := Kd.at_int HR1.out a3 p196 q196
          cases e196
          replace p196 := eq_true p196
          replace q196 := eq_true q196
          go_wp2_with (first | (go_at_call 95; (with_reducible refine (lampblackref02_Around.calls k1 _ _ l0 a4 t197 _ ?side1 ?side2 A12.out).mono ?_); (case side1 => exact Qsc HR0.out); (case side2 => exact HC0.out); rintro e w' ⟨rfl, ⟨nd, rfl⟩⟩; (try first | exact ⟨rfl, _, World.drewN_drewN _ _ _⟩ | exact ⟨rfl, _, Eq.trans (World.drewN_drewN _ _ _) (congrArg (World.drewN _) (Nat.add_assoc _ _ _))⟩); have p198 : 0 ≤ (x13_1 : Int) := of_decide_eq_true (by first | (with_reducible assumption) | assumption); have q198 : x13_1 < (l2.length : Int) := of_decide_eq_true (by first | (with_reducible assumption) | assumption); obtain ⟨ad198, e198, hx198_0⟩ := Kd.at_int HR2.out x13_1 p198 q198; cases e198; replace p198 := eq_true p198; replace q198 := eq_true q198))
          repeat (go_quiet (first | (go_at_call 95; (with_reducible refine (lampblackref02_Around.calls k1 _ _ l0 a4 t197 _ ?side1 ?side2 A12.out).mono ?_); (case side1 => exact Qsc HR0.out); (case side2 => exact HC0.out); rintro e w' ⟨rfl, ⟨nd, rfl⟩⟩; (try first | exact ⟨rfl, _, World.drewN_drewN _ _ _⟩ | exact ⟨rfl, _, Eq.trans (World.drewN_drewN _ _ _) (congrArg (World.drewN _) (Nat.add_assoc _ _ _))⟩); have p198 : 0 ≤ (x13_1 : Int) := of_decide_eq_true (by first | (with_reducible assumption) | assumption); have q198 : x13_1 < (l2.length : Int) := of_decide_eq_true (by first | (with_reducible assumption) | assumption); obtain ⟨ad198, e198, hx198_0⟩ := Kd.at_int HR2.out x13_1 p198 q198; cases e198; replace p198 := eq_true p198; replace q198 := eq_true q198)); try go_wp2_with (first | (go_at_call 95; (with_reducible refine (lampblackref02_Around.calls k1 _ _ l0 a4 t197 _ ?side1 ?side2 A12.out).mono ?_); (case side1 => exact Qsc HR0.out); (case side2 => exact HC0.out); rintro e w' ⟨rfl, ⟨nd, rfl⟩⟩; (try first | exact ⟨rfl, _, World.drewN_drewN _ _ _⟩ | exact ⟨rfl, _, Eq.trans (World.drewN_drewN _ _ _) (congrArg (World.drewN _) (Nat.add_assoc _ _ _))⟩); have p198 : 0 ≤ (x13_1 : Int) := of_decide_eq_true (by first | (with_reducible assumption) | assumption); have q198 : x13_1 < (l2.length : Int) := of_decide_eq_true (by first | (with_reducible assumption) | assumption); obtain ⟨ad198, e198, hx198_0⟩ := Kd.at_int HR2.out x13_1 p198 q198; cases e198; replace p198 := eq_true p198; replace q198 := eq_true q198)))
          go_ret
          exact ⟨by first | rfl | (simp; done) | (simp only [← hji10] <;> (first | rfl | simp)) | (simp [*]; done), by repeat (first | exact Drawn0.refl _ | apply Drawn0.step)⟩
         ·rw [if_neg c14] at H
          have c14b0 : ((Go.bits .and .i64 t197 (rd l2 x13_1)) == 0) = false := beq_eq_false_iff_ne.mpr c14
          have c14b1 : ((Go.bits .and .i64 t197 (rd l2 x13_1)) != 0) = true := bne_iff_ne.mpr c14
          have H' := Aside0.mk H
          clear H
          have p196 : 0 ≤ (a3 : Int) := of_decide_eq_true (by first | (with_reducible assumption) | assumption)
          have q196 : a3 < (l1.length : Int) := of_decide_eq_true (by first | (with_reducible assumption) | assumption)
          obtain ⟨ad196, e196, hx196_0⟩ := Kd.at_int HR1.out a3 p196 q196
          cases e196
          replace p196 := eq_true p196
          replace q196 := eq_true q196
          go_wp2_with (first | (go_at_call 95; (with_reducible refine (lampblackref02_Around.calls k1 _ _ l0 a4 t197 _ ?side1 ?side2 A12.out).mono ?_); (case side1 => exact Qsc HR0.out); (case side2 => exact HC0.out); rintro e w' ⟨rfl, ⟨nd, rfl⟩⟩; (try first | exact ⟨rfl, _, World.drewN_drewN _ _ _⟩ | exact ⟨rfl, _, Eq.trans (World.drewN_drewN _ _ _) (congrArg (World.drewN _) (Nat.add_assoc _ _ _))⟩); have p198 : 0 ≤ (x13_1 : Int) := of_decide_eq_true (by first | (with_reducible assumption) | assumption); have q198 : x13_1 < (l2.length : Int) := of_decide_eq_true (by first | (with_reducible assumption) | assumption); obtain ⟨ad198, e198, hx198_0⟩ := Kd.at_int HR2.out x13_1 p198 q198; cases e198; replace p198 := eq_true p198; replace q198 := eq_true q198))
          repeat (go_quiet (first | (go_at_call 95; (with_reducible refine (lampblackref02_Around.calls k1 _ _ l0 a4 t197 _ ?side1 ?side2 A12.out).mono ?_); (case side1 => exact Qsc HR0.out); (case side2 => exact HC0.out); rintro e w' ⟨rfl, ⟨nd, rfl⟩⟩; (try first | exact ⟨rfl, _, World.drewN_drewN _ _ _⟩ | exact ⟨rfl, _, Eq.trans (World.drewN_drewN _ _ _) (congrArg (World.drewN _) (Nat.add_assoc _ _ _))⟩); have p198 : 0 ≤ (x13_1 : Int) := of_decide_eq_true (by first | (with_reducible assumption) | assumption); have q198 : x13_1 < (l2.length : Int) := of_decide_eq_true (by first | (with_reducible assumption) | assumption); obtain ⟨ad198, e198, hx198_0⟩ := Kd.at_int HR2.out x13_1 p198 q198; cases e198; replace p198 := eq_true p198; replace q198 := eq_true q198)); try go_wp2_with (first | (go_at_call 95; (with_reducible refine (lampblackref02_Around.calls k1 _ _ l0 a4 t197 _ ?side1 ?side2 A12.out).mono ?_); (case side1 => exact Qsc HR0.out); (case side2 => exact HC0.out); rintro e w' ⟨rfl, ⟨nd, rfl⟩⟩; (try first | exact ⟨rfl, _, World.drewN_drewN _ _ _⟩ | exact ⟨rfl, _, Eq.trans (World.drewN_drewN _ _ _) (congrArg (World.drewN _) (Nat.add_assoc _ _ _))⟩); have p198 : 0 ≤ (x13_1 : Int) := of_decide_eq_true (by first | (with_reducible assumption) | assumption); have q198 : x13_1 < (l2.length : Int) := of_decide_eq_true (by first | (with_reducible assumption) | assumption); obtain ⟨ad198, e198, hx198_0⟩ := Kd.at_int HR2.out x13_1 p198 q198; cases e198; replace p198 := eq_true p198; replace q198 := eq_true q198)))
          go_roundg k1
          case measure => have := HK1.out; omega
          case rel => exact ⟨(wrap64 (x13_1 + 1)), (by first | rfl | (simp; done) | (simp [*]; done)), H', ⟨by have := HK1.out; omega⟩, by repeat (first | exact Drawn0.refl _ | apply Drawn0.step)⟩
        ·rw [if_neg c13] at H
         exact absurd H (by simp)
       ·rw [if_neg c11] at H
        have c11b0 : ((Go.bits .and .i64 (ji10) 1) == 1) = false := beq_eq_false_iff_ne.mpr c11
        have c11b1 : ((Go.bits .and .i64 (ji10) 1) != 1) = true := bne_iff_ne.mpr c11
        have H' := Aside0.mk H
        clear H
        have p196 : 0 ≤ (a3 : Int) := of_decide_eq_true (by first | (with_reducible assumption) | assumption)
        have q196 : a3 < (l1.length : Int) := of_decide_eq_true (by first | (with_reducible assumption) | assumption)
        obtain ⟨ad196, e196, hx196_0⟩ := Kd.at_int HR1.out a3 p196 q196
        cases e196
        replace p196 := eq_true p196
        replace q196 := eq_true q196
        go_wp2
        repeat (go_quiet (fail); try go_wp2)
        go_roundg k1
        case measure => have := HK1.out; omega
        case rel => exact ⟨(wrap64 (x13_1 + 1)), (by first | rfl | (simp; done) | (simp [*]; done)), H', ⟨by have := HK1.out; omega⟩, by repeat (first | exact Drawn0.refl _ | apply Drawn0.step)⟩
      ·rw [if_neg c9] at H
       exact absurd H (by simp)
     ·rw [if_neg c8] at H
      exact absurd H (by simp)
    ·rw [if_neg c7] at H
     exact absurd H (by simp)
   ·rw [if_neg c6] at H
    have c6b0 : decide (x13_1 < a3) = false := decide_eq_false c6
    clear c6
    obtain rfl := Option.some.inj H
    go_wp2
    repeat (go_quiet (fail); try go_wp2)
    go_ret
    exact ⟨by first | rfl | (simp; done) | (simp [*]; done), by repeat (first | exact Drawn0.refl _ | apply Drawn0.step)⟩
end Go.Proofs.YtjloppfdagfpmaaDoor.X
end
section
/- (minor) The reference's fits is the search's; its search, in short, is the search. -/
namespace Go.Proofs.YtjloppfdagfpmaaDoor.X
open Go.RowKit YtjloppfdagfpmaaDoorW.PrintWords YtjloppfdagfpmaaDoorW.PrintLast YtjloppfdagfpmaaDoorW.PrintMore YtjloppfdagfpmaaDoor.T
def fp (G P M : List Nat) (s k j : Nat) : Bool := !(P.getD k 0).testBit j || decide (M.getD j 0 &&& Around G s ≠ 0)
theorem fitB_range (G P M : List Nat) (s k : Nat) (hk : k ≤ 9) : fitB G P M s k = (List.range k).all (fp G P M s k) := by
 have h : fitB G P M s k = true ↔ (List.range k).all (fp G P M s k) = true := by
  unfold fitB fp
  rw [List.all_eq_true, List.all_eq_true]
  constructor
  ·intro h j hj
   have hj := List.mem_range.1 hj
   cases hb : (P.getD k 0).testBit j
   ·rfl
   ·have := h j (mem_els.2 ⟨by omega, by rw [Nat.testBit_and, hb, Bool.true_and]; exact (all_bit _ _).2 hj⟩)
    simpa using this
  ·intro h j hj
   have hj := (mem_els.1 hj).2
   rw [Nat.testBit_and, Bool.and_eq_true] at hj
   have := h j (List.mem_range.2 ((all_bit _ _).1 hj.2))
   rw [hj.1] at this
   simpa using this
 cases h1 : fitB G P M s k <;> cases h2 : (List.range k).all (fp G P M s k)
 ·rfl
 ·rw [h1, h2] at h; exact absurd (h.2 rfl) (by simp)
 ·rw [h1, h2] at h; exact absurd (h.1 rfl) (by simp)
 ·rfl
theorem refFits_l0 (G P M : List Nat) (hG : Gr 9 G) (hP : Gr 6 P) (s : Nat) (hs : s < 2 ^ G.length) (hk : M.length < P.length) (hM : ∀ x ∈ M, x < 2 ^ G.length) : ∀ d j, j + d = M.length →
  Ev (fun k => lampblackref07_fits.l0 k (gi G) (gi P) (gi M) (M.length : Int) (s : Int) (M.length : Int) (j : Int)) ((List.range' j d).all (fp G P M s M.length)) := by
 have hpn := hP.most
 have hb := big (Nat.lt_of_lt_of_le (hP.row M.length) (show 2 ^ P.length ≤ 512 from Nat.pow_le_pow_right (n := 2) (by omega) (show P.length ≤ 9 by omega)))
 have hA := big (small G hG.most (Around_lt hG s))
 intro d
 induction d with
 | zero =>
  intro j hj
  exact Ev.step (f := fun _ => some true) (fun k => by rw [lampblackref07_fits.l0, if_neg (by omega)]) (Ev.some rfl)
 | succ d ih =>
  intro j hj
  have next := ih (j + 1) (by omega)
  have hMj : M.getD j 0 < 2 ^ 62 := by
   refine big (small G hG.most ?_)
   rw [List.getD_eq_getElem?_getD, List.getElem?_eq_getElem (by omega)]
   exact hM _ (List.getElem_mem _)
  rw [List.range'_succ, List.all_cons]
  by_cases hbit : (P.getD M.length 0).testBit j = true
  ·refine Ev.step (fun k => by rw [lampblackref07_fits.l0, if_pos (by omega), if_pos (by omega), if_pos (by rw [gi_length]; omega), if_pos (by omega), rd_gi, if_pos ((bit_one _ j hb (by omega)).2 hbit)]) ?_
   refine Ev.bind (refAround G hG s hs) (Ev.if_pos (by rw [gi_length]; omega) ?_)
   rw [rd_gi, b_and _ _ hA hMj, wrap_succ j (by omega)]
   have hfp : fp G P M s M.length j = decide (Around G s &&& M.getD j 0 ≠ 0) := by
    unfold fp
    rw [hbit, Nat.and_comm]
    rfl
   by_cases h0 : Around G s &&& M.getD j 0 = 0
   ·rw [hfp, h0]
    exact Ev.if_pos rfl (Ev.some rfl)
   ·rw [hfp, decide_eq_true h0, Bool.true_and]
    exact Ev.if_neg (by omega) next
  ·refine Ev.step (fun k => by rw [lampblackref07_fits.l0, if_pos (by omega), if_pos (by omega), if_pos (by rw [gi_length]; omega), if_pos (by omega), rd_gi, if_neg (fun h => hbit ((bit_one _ j hb (by omega)).1 h)), wrap_succ j (by omega)]) ?_
   have hfp : fp G P M s M.length j = true := by
    unfold fp
    rw [show (P.getD M.length 0).testBit j = false by simpa using hbit]
    rfl
   rw [hfp, Bool.true_and]
   exact next
theorem refFits_ev (G P M : List Nat) (hG : Gr 9 G) (hP : Gr 6 P) (s : Nat) (hs : s < 2 ^ G.length) (hk : M.length < P.length) (hM : ∀ x ∈ M, x < 2 ^ G.length) : Ev (fun k => lampblackref07_fits.f k (gi G) (gi P) (gi M) (M.length : Int) (s : Int)) (fitB G P M s M.length) := by
 have h := refFits_l0 G P M hG hP s hs hk hM M.length 0 (by omega)
 have hpn := hP.most
 rw [fitB_range G P M s M.length (by omega), List.range_eq_range']
 exact h
def okR (G P M : List Nat) (met size d s : Nat) : Bool := decide (s &&& met = 0) && decide (pc s 9 + d ≤ size) && conB G s && fitB G P M s M.length
def rM (G P : List Nat) : Nat → List Nat → Nat → Nat → Option (List Nat)
 | 0, M, _, size => if size = 0 then some M else none
 | d + 1, M, met, size => (List.range' 1 (2 ^ G.length - 1)).findSome? fun s => if okR G P M met size d s then rM G P d (M ++ [s]) (met ||| s) (size - pc s 9) else none
theorem findSome_filter {α β : Type} (p : α → Bool) (f : α → Option β) : ∀ l : List α, (l.filter p).findSome? f = l.findSome? fun x => if p x then f x else none
 | [] => rfl
 | x :: l => by
  rw [List.filter_cons, List.findSome?_cons]
  cases h : p x
  ·exact findSome_filter p f l
  ·simp only [if_true, List.findSome?_cons, findSome_filter p f l]
theorem rM_grow (G P : List Nat) : ∀ (d : Nat) (M : List Nat) (met size : Nat), rM G P (d + 1) M met size = growN G P (setsN G) (d + 1) M met size
 | d, M, met, size => by
  have h0 := Nat.two_pow_pos G.length
  have hr : List.range (2 ^ G.length) = 0 :: List.range' 1 (2 ^ G.length - 1) := by
   rw [List.range_eq_range', show 2 ^ G.length = (2 ^ G.length - 1) + 1 by omega, List.range'_succ]
   simp
  have hc0 : conB G 0 = false := rfl
  have e : ∀ f : Nat → Option (List Nat), (setsN G).findSome? f = (List.range' 1 (2 ^ G.length - 1)).findSome? fun x => if conB G x = true then f x else none := fun f => by
   unfold setsN
   rw [findSome_filter, hr, List.findSome?_cons]
   simp only [hc0]
   rfl
  simp only [rM, growN]
  rw [e]
  congr 1
  funext s
  unfold okR okB
  cases hcb : conB G s
  ·simp
  ·cases h1 : decide (s &&& met = 0)
   ·simp
   ·cases h2 : decide (pc s 9 + d ≤ size)
    ·simp
    ·cases h3 : fitB G P M s M.length
     ·simp
     ·simp only [Bool.and_true, Bool.true_and, if_true]
      have h2' := of_decide_eq_true h2
      cases d with
      | zero =>
       by_cases e : pc s 9 = size
       ·simp [e, rM, growN]
       ·have : ¬ size - pc s 9 = 0 := by omega
        simp [e, rM, this]
      | succ d =>
       simp only [Nat.add_one_ne_zero, decide_false, Bool.false_and, Bool.not_false, if_true]
       exact rM_grow G P d _ _ _
end Go.Proofs.YtjloppfdagfpmaaDoor.X
end
section
/- lampblackref07.model and Model, by hand. -/
namespace Go.Proofs.YtjloppfdagfpmaaDoor.X
open Go.RowKit YtjloppfdagfpmaaDoorW.PrintWords YtjloppfdagfpmaaDoorW.PrintLast YtjloppfdagfpmaaDoorW.PrintMore YtjloppfdagfpmaaDoor.T
attribute [local go_sem] max2_int min2_int max_two min_two max_three min_three max_four min_four
theorem own_le {W : World} {e : TypeId} {size k base : Nat} {xs : List Value} {A : Option Addr} {c : Nat} (h : W.ownsRow base e size (.slice A (k + 1) c) (k + 1) xs) : base ≤ W.heap.size := by
 rcases h.2 with ⟨_, h0⟩ | ⟨g, cap, cur, _, hb, hg, _⟩
 ·omega
 ·have := (Array.getElem?_eq_some_iff.1 hg).1
  omega
theorem own_low {W : World} {base base2 : Nat} {e : TypeId} {size : Nat} {v : Value} {k : Nat} {xs : List Value} (h : W.ownsRow base e size v k xs) (hb : base2 ≤ base) : W.ownsRow base2 e size v k xs := by
 obtain ⟨h1, h2⟩ := h
 refine ⟨h1, ?_⟩
 rcases h2 with h2 | ⟨g, cap, cur, e1, hb1, r⟩
 ·exact .inl h2
 ·exact .inr ⟨g, cap, cur, e1, by omega, r⟩
theorem own_nil_or {W : World} {base : Nat} {A : Option Addr} {k cap : Nat} {xs : List Value} (h : W.ownsRow base 3 1 (.slice A k cap) k xs) : A = none → k = 0 ∧ k = 0 := fun e => by
 rcases h.2 with ⟨_, h0⟩ | ⟨g, cap, cur, e2, _⟩
 ·exact ⟨h0, h0⟩
 ·injection e2 with e3
  rw [e] at e3; cases e3
set_option maxHeartbeats 4000000 in
set_option maxRecDepth 100000 in
theorem refModel_calls (A0 : Option Addr) (c0 : Nat) (G : List Nat) (hG : Gr 9 G) (hc0 : G.length ≤ c0) (A1 : Option Addr) (c1 : Nat) (P : List Nat) (hP : Gr 6 P) (hc1 : P.length ≤ c1) : ∀ (d : Nat) (M : List Nat) (A : Option Addr) (cap B : Nat) (w : World) (met size : Nat), M.length + d = P.length → (∀ x ∈ M, x < 2 ^ G.length) → met < 512 → size ≤ 9 → B ≤ w.heap.size →
  Kd.C (Kd.int .i64) w A0 G.length (gi G) → Kd.C (Kd.int .i64) w A1 P.length (gi P) → w.ownsRow B 3 1 (.slice A M.length cap) M.length ((gi M).map (Value.int .i64)) →
  Calls Tryd.prog 72 #[.slice A0 G.length c0, .slice A1 P.length c1, .slice A M.length cap, .int .i64 (met : Int), .int .i64 (size : Int)] w fun e w' => ∃ A' n' c', e = .returned (.slice A' n' c') ∧ ((rM G P d M met size = none ∧ A' = none ∧ n' = 0 ∧ c' = 0) ∨ ∃ R, rM G P d M met size = some R ∧ n' = R.length ∧ w'.ownsRow B 3 1 (.slice A' n' c') R.length ((gi R).map (Value.int .i64)) ∧ ∃ g, A' = some g) ∧ Below w.heap.size w w' := by
 have hpn := hP.most
 have hpp := hP.pos
 intro d
 induction d with
 | zero =>
  intro M A cap B w met size hd hM hmet hsz hB hr0 hr1 ho
  have hk1 : ((M.length : Int) == (P.length : Int)) = true := beq_iff_eq.2 (by omega)
  have hsome : ∃ g, A = some g := by
   cases A with
   | none => have := (own_nil_or ho rfl).1; omega
   | some g => exact ⟨g, rfl⟩
  by_cases h0 : size = 0
  ·have h1 : ((size : Int) == 0) = true := beq_iff_eq.2 (by omega)
   go_enter Tryd.func72, Tryd.ntmps72
   go_wp2
   go_ret
   exact ⟨_, _, _, rfl, .inr ⟨M, by simp only [rM]; rw [if_pos h0], rfl, ho, hsome⟩, Below.refl _ _⟩
  ·have h1 : ((size : Int) == 0) = false := beq_eq_false_iff_ne.2 (by omega)
   go_enter Tryd.func72, Tryd.ntmps72
   go_wp2
   go_ret
   exact ⟨_, _, _, rfl, .inl ⟨by simp only [rM]; rw [if_neg h0], rfl, rfl, rfl⟩, Below.refl _ _⟩
 | succ d ih =>
  intro M A cap B w met size hd hM hmet hsz hB hr0 hr1 ho
  have hn := hG.most
  have IH := Aside0.mk ih
  have HM := Aside0.mk hM
  have HG := Aside0.mk hG
  have HP := Aside0.mk hP
  have HR0 := Aside0.mk hr0
  have HR1 := Aside0.mk hr1
  have HO := Aside0.mk ho
  have hk1 : ((M.length : Int) == (P.length : Int)) = false := beq_eq_false_iff_ne.2 (by omega)
  obtain ⟨T, hT⟩ : ∃ T, 2 ^ G.length = T + 1 := ⟨2 ^ G.length - 1, by have := Nat.two_pow_pos G.length; omega⟩
  have hT9 : T ≤ 511 := by
   have h9 : 2 ^ G.length ≤ 2 ^ 9 := Nat.pow_le_pow_right (by omega) hn
   rw [hT] at h9
   have e9 : (2 : Nat) ^ 9 = 512 := rfl
   omega
  obtain ⟨J, ⟨hJ1, hJ2, hJ3⟩, hJv⟩ := shJ G.length (by omega)
  rw [hT] at hJv
  have HJ := Aside0.mk (And.intro hJ1 (And.intro hJ2 hJ3))
  clear hJ1 hJ2 hJ3
  obtain ⟨R, hR⟩ : ∃ R, rM G P (d + 1) M met size = R := ⟨_, rfl⟩
  obtain ⟨F, hF⟩ : ∃ F : Nat → Option (List Nat), F = fun s => if okR G P M met size d s then rM G P d (M ++ [s]) (met ||| s) (size - pc s 9) else none := ⟨_, rfl⟩
  have HRF : Aside0 (((List.range' 1 T).drop 0).findSome? F = R) := ⟨by rw [← hR, hF]; simp only [rM, List.drop_zero]; rw [show 2 ^ G.length - 1 = T by omega]⟩
  have HFE : Aside0 (∀ s, F s = if okR G P M met size d s then rM G P d (M ++ [s]) (met ||| s) (size - pc s 9) else none) := ⟨fun s => by rw [hF]⟩
  have HT := Aside0.mk hT
  rw [hR]
  obtain ⟨i3, hi3, hq0, hq1, hq2⟩ := info_parts info3
  have heq_ := fun (w : World) (a : Option Addr) (n c : Nat) => run_neq_slice_nil_any (P := Tryd.prog) w 22 3 a n c 0 0 Tryd.underlying22
  have hnone := Aside0.mk (own_nil_or ho)
  have hcapM : M.length ≤ cap := by
   rcases ho.2 with ⟨e, h0⟩ | ⟨g, cap', cur, e, _, _, h1, _⟩
   ·injection e with e1 e2 e3; omega
   ·injection e with e1 e2 e3; omega
  have hcm1 : decide ((M.length : Int) ≤ (cap : Int)) = true := decide_eq_true (by omega)
  have hcm2 : ((M.length : Int) ≤ (cap : Int)) = True := eq_true (by omega)
  clear ih hM hG hP hr0 hr1 ho hT hF hR
  go_enter Tryd.func72, Tryd.ntmps72
  go_wp2
  go_loopg [12] T (fun kq v12 w' => ∃ i : Nat, v12 = .int .i64 (i : Int) ∧ i + kq = T + 1 ∧ 1 ≤ i ∧ i ≤ T + 1 ∧ Aside0 (((List.range' 1 T).drop (i - 1)).findSome? F = R) ∧ Aside0 (Below w.heap.size w w'))
  case atStart => exact ⟨1, rfl, by omega, by omega, by omega, HRF, ⟨Below.refl _ _⟩⟩
  case round =>
   clear HRF
   obtain ⟨i, rfl, hi, hi1, hi2, HA, HBW⟩ := hrel
   by_cases hil : i ≤ T
   ·have hj1 : ((i : Int) < J) = True := eq_true (by omega)
    have hj2 : decide ((i : Int) < J) = true := decide_eq_true (by omega)
    cases gk with
    | zero => omega
    | succ gi' =>
    have ha := HA.out
    have hkl : i - 1 < (List.range' 1 T).length := by rw [List.length_range']; omega
    rw [List.drop_eq_getElem_cons hkl, List.findSome?_cons, List.getElem_range', show 1 + 1 * (i - 1) = i by omega, show i - 1 + 1 = i + 1 - 1 by omega, HFE.out i] at ha
    clear hkl HA
    have hi5 : i < 512 := by omega
    have HIL : Aside0 (i < 2 ^ G.length) := ⟨by rw [HT.out]; omega⟩
    have hpc := pc_le i 9
    have han : Go.bits .and .i64 (i : Int) (met : Int) = ((i &&& met : Nat) : Int) := b_and _ _ (by omega) (by omega)
    have hor : Go.bits .or .i64 (met : Int) (i : Int) = ((met ||| i : Nat) : Int) := b_or _ _ (by omega) (by omega)
    have horl : met ||| i < 512 := Nat.or_lt_two_pow (n := 9) (by omega) (by omega)
    have CSZ : Aside0 (∀ W : World, Calls Tryd.prog 39 #[.int .i64 (i : Int)] W fun e w' => e = .returned (.int .i64 ((pc i 9 : Nat) : Int)) ∧ Drawn0 W w') := ⟨fun W => by
     obtain ⟨K, hK⟩ := size_ev i hi5
     exact lampblackref02_Size.calls K (i : Int) _ W (hK K (Nat.le_refl _))⟩
    have CCO : Aside0 (∀ W : World, Below w.heap.size w W → Calls Tryd.prog 18 #[.slice A0 G.length c0, .int .i64 (i : Int)] W fun e w' => e = .returned (.bool (conB G i)) ∧ Drawn0 W w') := ⟨fun W hW => by
     obtain ⟨K, hK⟩ := refConn G HG.out (i : Int)
     rw [conn_conB HG.out i HIL.out] at hK
     have := lampblackref02_Connected.calls K A0 c0 (gi G) (i : Int) _ W (by rw [gi_length]; exact Kd.C_below HR0.out hW) (by rw [gi_length]; exact hc0) (hK K (Nat.le_refl _))
     rw [gi_length] at this
     exact this⟩
    have CFI : Aside0 (∀ W : World, Below w.heap.size w W → Calls Tryd.prog 73 #[.slice A0 G.length c0, .slice A1 P.length c1, .slice A M.length cap, .int .i64 (M.length : Int), .int .i64 (i : Int)] W fun e w' => e = .returned (.bool (fitB G P M i M.length)) ∧ Drawn0 W w') := ⟨fun W hW => by
     obtain ⟨K, hK⟩ := refFits_ev G P M HG.out HP.out i HIL.out (by omega) HM.out
     have hro := own_kept HO.out (grown_of_below hW none) (fun _ _ e => by cases e)
     have hlen : M.length = (gi M).length := (gi_length M).symm
     rw [hlen] at hro
     have hC := C_of_row hro
     have := lampblackref07_fits.calls K A0 c0 (gi G) A1 c1 (gi P) A cap (gi M) (M.length : Int) (i : Int) _ W (by rw [gi_length]; exact Kd.C_below HR0.out hW) (by rw [gi_length]; exact hc0) (by rw [gi_length]; exact Kd.C_below HR1.out hW) (by rw [gi_length]; exact hc1) hC.2 hC.1 (hK K (Nat.le_refl _))
     simp only [gi_length] at this
     exact this⟩
    have HOK : Aside0 (okR G P M met size d i = (decide (i &&& met = 0) && decide (pc i 9 + d ≤ size) && conB G i && fitB G P M i M.length)) := ⟨rfl⟩
    have HAH := Aside0.mk ha
    clear ha
    by_cases hok : okR G P M met size d i = true
    ·have hall := hok
     rw [HOK.out] at hall
     simp only [Bool.and_eq_true, decide_eq_true_eq] at hall
     obtain ⟨⟨⟨ha0, hp1⟩, hcb⟩, hfb⟩ := hall
     rw [hcb] at CCO
     rw [hfb] at CFI
     have ht1 : ((((i &&& met : Nat) : Int)) != 0) = false := by rw [ha0]; rfl
     have hFx : F i = rM G P d (M ++ [i]) (met ||| i) (size - pc i 9) := by rw [HFE.out i, if_pos hok]
     have ha2 := HAH.out
     rw [← HFE.out i] at ha2
     have HREC : Aside0 (∀ W B' g c' (a : Int), a = (size : Int) - (pc i 9 : Int) → Below w.heap.size w W → B' ≤ W.heap.size → W.ownsRow B' 3 1 (.slice (some g) (M.length + 1) c') (M.length + 1) ((gi M).map (Value.int .i64) ++ [.int .i64 (i : Int)]) → Calls Tryd.prog 72 #[.slice A0 G.length c0, .slice A1 P.length c1, .slice (some g) (M.length + 1) c', .int .i64 ((met ||| i : Nat) : Int), .int .i64 a] W fun e w' => ∃ A' n' c', e = .returned (.slice A' n' c') ∧ ((F i = none ∧ A' = none ∧ n' = 0 ∧ c' = 0) ∨ ∃ R, F i = some R ∧ n' = R.length ∧ w'.ownsRow B' 3 1 (.slice A' n' c') R.length ((gi R).map (Value.int .i64)) ∧ ∃ g, A' = some g) ∧ Below W.heap.size W w') := ⟨fun W B' g c' a ea hW hB' hoW => by
      rw [hFx, ea, show ((size : Int) - (pc i 9 : Int)) = ((size - pc i 9 : Nat) : Int) by omega]
      have e1 : (M ++ [i]).length = M.length + 1 := by simp
      have := IH.out (M ++ [i]) (some g) c' B' W (met ||| i) (size - pc i 9) (by simp; omega) (fun y hy => by
       rcases List.mem_append.1 hy with hy | hy
       ·exact HM.out y hy
       ·rw [List.mem_singleton.1 hy]; exact HIL.out) horl (by omega) hB' (Kd.C_below HR0.out hW) (Kd.C_below HR1.out hW) (by rw [e1, show (gi (M ++ [i])).map (Value.int .i64) = (gi M).map (Value.int .i64) ++ [.int .i64 (i : Int)] by simp [gi]]; exact hoW)
      rw [e1] at this
      exact this⟩
     have hreadW : Aside0 (∀ W, Below w.heap.size w W → ∀ b, A = some b → ∀ (q : Nat) u, ((gi M).map (Value.int .i64))[q]? = some u → (W.alloc (.cells #[.int .i64 (i : Int)] 3)).cell? (b.add q) = some u) := ⟨fun W hW b hb q u hu => by
      have hq : q < (gi M).length := by have := (List.getElem?_eq_some_iff.1 hu).1; simpa using this
      have hro := own_kept HO.out (grown_of_below (below_alloc hW (.cells #[.int .i64 (i : Int)] 3)) none) (fun _ _ e => by cases e)
      rw [show M.length = (gi M).length from (gi_length M).symm] at hro
      obtain ⟨ad, e, hx⟩ := Kd.at_int (C_of_row hro).2 (q : Int) (by omega) (by omega)
      rw [hb] at e
      cases e
      rw [Int.toNat_natCast] at hx
      rw [hx]
      rw [List.getElem?_map, List.getElem?_eq_getElem hq] at hu
      unfold rd
      rw [Int.toNat_natCast, List.getD_eq_getElem?_getD, List.getElem?_eq_getElem hq]
      exact hu⟩
     clear hFx hok ha0 hcb hfb HFE HOK HAH IH HM HP horl
     cases hfx : F i with
     | none =>
      rw [hfx] at HREC ha2
      have HA2 : Aside0 (((List.range' 1 T).drop (i + 1 - 1)).findSome? F = R) := ⟨ha2⟩
      clear ha2 hfx
      go_wp2_with (first
       | (simp only [HJ.out.1, HJ.out.2.1, HJ.out.2.2])
       | (go_at_call 39; refine (CSZ.out _).mono ?_; rintro e w3 ⟨rfl, m, rfl⟩)
       | (go_at_call 18; refine (CCO.out _ (pw_below_drewN HBW.out _)).mono ?_; rintro e w3 ⟨rfl, m, rfl⟩)
       | (go_at_call 73; refine (CFI.out _ (pw_below_drewN HBW.out _)).mono ?_; rintro e w3 ⟨rfl, m, hm⟩; have HB3 : Aside0 (Below w.heap.size w w3) := ⟨by rw [hm]; exact pw_below_drewN (pw_below_drewN HBW.out _) _⟩; clear hm)
       | (at_builtin; refine wpList_append_grows _ rfl _ _ 22 rfl 3 i3 (.int .i64 0) 1 8 Tryd.underlying22 hi3 hq0 hq1 hq2 rfl (by decide) A M.length M.length ((gi M).map (Value.int .i64)) rfl hnone.out (by simp [gi]) (hreadW.out _ HB3.out) ⟨w3.heap.size, 0, none⟩ 1 1 [.int .i64 (i : Int)] rfl rfl (cell_one_new _ _ _) (by simp [Value.oneCell']) (by omega) (by unfold maxLen; omega) (by omega) ?_; intro v1 w1 hown1 hg1; obtain ⟨g1, cap1, rfl⟩ := own_succ hown1; have HB1 : Aside0 (Below w.heap.size w w1) := ⟨(below_alloc HB3.out (.cells #[.int .i64 (i : Int)] 3)).grown hg1 (by have := HB3.out.size; simp; omega) (fun k e => by cases e)⟩; have HW1 := Aside0.mk hown1; clear hown1 hg1)
       | (go_at_call 72; refine (HREC.out _ _ _ _ _ (by omega) HB1.out (own_le HW1.out) HW1.out).mono ?_; rintro e w9 ⟨A9, n9, c9, rfl, hv9, hb9⟩; obtain ⟨rfl, rfl, rfl⟩ : A9 = none ∧ n9 = 0 ∧ c9 = 0 := hv9.elim (fun h => h.2) (fun ⟨R, h, _⟩ => by cases h); have HB9 := Aside0.mk (below_step HB1.out hb9); clear hb9 hv9))
      go_roundg gi'
      case measure => omega
      case rel => exact ⟨i + 1, by go_num, by omega, by omega, by omega, HA2, HB9⟩
     | some Rr =>
      rw [hfx] at HREC ha2
      have hr2 : R = some Rr := ha2.symm
      subst hr2
      clear ha2 hfx
      go_wp2_with (first
       | (simp only [HJ.out.1, HJ.out.2.1, HJ.out.2.2])
       | (go_at_call 39; refine (CSZ.out _).mono ?_; rintro e w3 ⟨rfl, m, rfl⟩)
       | (go_at_call 18; refine (CCO.out _ (pw_below_drewN HBW.out _)).mono ?_; rintro e w3 ⟨rfl, m, rfl⟩)
       | (go_at_call 73; refine (CFI.out _ (pw_below_drewN HBW.out _)).mono ?_; rintro e w3 ⟨rfl, m, hm⟩; have HB3 : Aside0 (Below w.heap.size w w3) := ⟨by rw [hm]; exact pw_below_drewN (pw_below_drewN HBW.out _) _⟩; clear hm)
       | (at_builtin; refine wpList_append_grows _ rfl _ _ 22 rfl 3 i3 (.int .i64 0) 1 8 Tryd.underlying22 hi3 hq0 hq1 hq2 rfl (by decide) A M.length M.length ((gi M).map (Value.int .i64)) rfl hnone.out (by simp [gi]) (hreadW.out _ HB3.out) ⟨w3.heap.size, 0, none⟩ 1 1 [.int .i64 (i : Int)] rfl rfl (cell_one_new _ _ _) (by simp [Value.oneCell']) (by omega) (by unfold maxLen; omega) (by omega) ?_; intro v1 w1 hown1 hg1; obtain ⟨g1, cap1, rfl⟩ := own_succ hown1; have HB1 : Aside0 (Below w.heap.size w w1) := ⟨(below_alloc HB3.out (.cells #[.int .i64 (i : Int)] 3)).grown hg1 (by have := HB3.out.size; simp; omega) (fun k e => by cases e)⟩; have HW1 := Aside0.mk hown1; clear hown1 hg1)
       | (go_at_call 72; refine (HREC.out _ _ _ _ _ (by omega) HB1.out (own_le HW1.out) HW1.out).mono ?_; rintro e w9 ⟨A9, n9, c9, rfl, hv9, hb9⟩; obtain ⟨R9, h9, h9n, h9o, g9, rfl⟩ : ∃ R, some Rr = some R ∧ n9 = R.length ∧ w9.ownsRow _ 3 1 (.slice A9 n9 c9) R.length ((gi R).map (Value.int .i64)) ∧ ∃ g, A9 = some g := hv9.elim (fun h => by cases h.1) id; cases h9; subst h9n; have HB9 := Aside0.mk (below_step HB1.out hb9); have HO9 := Aside0.mk h9o; clear hb9 hv9 h9o))
      go_ret
      refine ⟨_, _, _, rfl, .inr ⟨Rr, rfl, rfl, ?_, _, rfl⟩, HB9.out⟩
      exact own_low HO9.out (by have := HB3.out.size; simp; omega)
    ·have hok' : okR G P M met size d i = false := by simpa using hok
     have HA2 : Aside0 (((List.range' 1 T).drop (i + 1 - 1)).findSome? F = R) := ⟨by
      have := HAH.out
      rw [hok'] at this
      simpa using this⟩
     have hok2 := hok'
     rw [HOK.out] at hok2
     clear hok hok' HFE HOK HAH IH HM HP horl hor
     by_cases ha0 : i &&& met = 0
     ·have ht1 : ((((i &&& met : Nat) : Int)) != 0) = false := by rw [ha0]; rfl
      by_cases hp1 : pc i 9 + d ≤ size
      ·rw [decide_eq_true ha0, decide_eq_true hp1] at hok2
       cases hcb : conB G i
       ·rw [hcb] at CCO
        clear ha0 hok2 hcb
        go_wp2_with (first
         | (simp only [HJ.out.1, HJ.out.2.1, HJ.out.2.2])
         | (go_at_call 39; refine (CSZ.out _).mono ?_; rintro e w3 ⟨rfl, m, rfl⟩)
         | (go_at_call 18; refine (CCO.out _ (pw_below_drewN HBW.out _)).mono ?_; rintro e w3 ⟨rfl, m, hm⟩; have HB2 : Aside0 (Below w.heap.size w w3) := ⟨by rw [hm]; exact pw_below_drewN (pw_below_drewN HBW.out _) _⟩; clear hm))
        go_roundg gi'
        case measure => omega
        case rel => exact ⟨i + 1, by go_num, by omega, by omega, by omega, HA2, HB2⟩
       ·rw [hcb] at CCO hok2
        have hfb : fitB G P M i M.length = false := by simpa using hok2
        rw [hfb] at CFI
        clear ha0 hok2 hcb hfb
        go_wp2_with (first
         | (simp only [HJ.out.1, HJ.out.2.1, HJ.out.2.2])
         | (go_at_call 39; refine (CSZ.out _).mono ?_; rintro e w3 ⟨rfl, m, rfl⟩)
         | (go_at_call 18; refine (CCO.out _ (pw_below_drewN HBW.out _)).mono ?_; rintro e w3 ⟨rfl, m, hm⟩; have HB2 : Aside0 (Below w.heap.size w w3) := ⟨by rw [hm]; exact pw_below_drewN (pw_below_drewN HBW.out _) _⟩; clear hm)
         | (go_at_call 73; refine (CFI.out _ HB2.out).mono ?_; rintro e w4 ⟨rfl, m, hm⟩; have HB3 : Aside0 (Below w.heap.size w w4) := ⟨by rw [hm]; exact pw_below_drewN HB2.out _⟩; clear hm))
        go_roundg gi'
        case measure => omega
        case rel => exact ⟨i + 1, by go_num, by omega, by omega, by omega, HA2, HB3⟩
      ·clear ha0 hok2
       go_wp2_with (first
        | (simp only [HJ.out.1, HJ.out.2.1, HJ.out.2.2])
        | (go_at_call 39; refine (CSZ.out _).mono ?_; rintro e w3 ⟨rfl, m, rfl⟩))
       go_roundg gi'
       case measure => omega
       case rel => exact ⟨i + 1, by go_num, by omega, by omega, by omega, HA2, ⟨by repeat (first | exact HBW.out | refine pw_below_drewN ?_ _)⟩⟩
     ·have ht1 : ((((i &&& met : Nat) : Int)) != 0) = true := by simp; omega
      clear ha0 hok2
      go_wp2_with (first
       | (simp only [HJ.out.1, HJ.out.2.1, HJ.out.2.2])
       | (go_at_call 39; refine (CSZ.out _).mono ?_; rintro e w3 ⟨rfl, m, rfl⟩))
      go_roundg gi'
      case measure => omega
      case rel => exact ⟨i + 1, by go_num, by omega, by omega, by omega, HA2, ⟨by repeat (first | exact HBW.out | refine pw_below_drewN ?_ _)⟩⟩
   ·have hj1 : ((i : Int) < J) = False := eq_false (by omega)
    have hj2 : decide ((i : Int) < J) = false := decide_eq_false (by omega)
    have ha := HA.out
    rw [List.drop_eq_nil_of_le (by rw [List.length_range']; omega)] at ha
    have hr2 : R = none := ha.symm
    subst hr2
    clear ha HA
    go_wp2_with (simp only [HJ.out.1, HJ.out.2.1, HJ.out.2.2])
    go_ret
    exact ⟨_, _, _, rfl, .inl ⟨trivial, rfl, rfl, rfl⟩, HBW.out⟩
def lampblackref07_Model.f (g p : List Int) : Option (List Int × Int) :=
 if (chk 8 g && chk 6 p) = true then some ((findN (g.map Int.toNat) (p.map Int.toNat)).elim ([], 4) fun M => (gi M, 0)) else none
set_option maxHeartbeats 4000000 in
set_option maxRecDepth 100000 in
theorem lampblackref07_Model.calls (A0 : Option Addr) (c0 : Nat) (l0 : List Int) (A1 : Option Addr) (c1 : Nat) (l1 : List Int) (r1 : List Int) (r2 : Int) (w : World) (hr0 : Kd.C (Kd.int .i64) w A0 l0.length l0) (hc0 : l0.length ≤ c0) (hr1 : Kd.C (Kd.int .i64) w A1 l1.length l1) (hc1 : l1.length ≤ c1) (h : lampblackref07_Model.f l0 l1 = some (r1, r2)) :
  Calls Tryd.prog 26 #[.slice A0 l0.length c0, .slice A1 l1.length c1] w fun e w' => ∃ v, e = .returned (.tuple #[v, .int .i64 r2]) ∧ Kd.R (Kd.int .i64) 3 w' w.heap.size (fun _ => True) v r1 ∧ Below w.heap.size w w' := by
 unfold lampblackref07_Model.f at h
 by_cases hgp : (chk 8 l0 && chk 6 l1) = true
 ·rw [if_pos hgp] at h
  have h := Option.some.inj h
  rw [Bool.and_eq_true] at hgp
  obtain ⟨G, rfl, hG⟩ := (chk_iff 8 (by omega) _).1 hgp.1
  obtain ⟨P, rfl, hP⟩ := (chk_iff 6 (by omega) _).1 hgp.2
  rw [gi_toNat, gi_toNat] at h
  simp only [gi_length] at hr0 hr1 hc0 hc1 h ⊢
  have hn := hG.most
  have hpn := hP.most
  have hp1 := hP.pos
  have HG := Aside0.mk (gr_mono hG (show 8 ≤ 9 by omega))
  have HP := Aside0.mk hP
  have HR0 := Aside0.mk hr0
  have HR1 := Aside0.mk hr1
  obtain ⟨T, hT⟩ : ∃ T, T = G.length + 1 - P.length := ⟨_, rfl⟩
  obtain ⟨F, hF⟩ : ∃ F : Nat → Option (List Nat), F = fun z => growN G P (setsN G) P.length [] 0 z := ⟨_, rfl⟩
  have HFE : Aside0 (∀ z, F z = rM G P P.length [] 0 z) := ⟨fun z => by
   rw [hF]
   obtain ⟨k, hk⟩ : ∃ k, P.length = k + 1 := ⟨P.length - 1, by omega⟩
   rw [hk]
   exact (rM_grow G P k [] 0 z).symm⟩
  obtain ⟨R, hR⟩ : ∃ R, findN G P = R := ⟨_, rfl⟩
  have HRF : Aside0 (((List.range' P.length T).drop 0).findSome? F = R) := ⟨by rw [← hR, hF, hT]; rfl⟩
  rw [hR] at h
  have HREC : Aside0 (∀ W (z : Nat), z ≤ 9 → Below w.heap.size w W → Calls Tryd.prog 72 #[.slice A0 G.length c0, .slice A1 P.length c1, .slice none 0 0, .int .i64 0, .int .i64 (z : Int)] W fun e w' => ∃ A' n' c', e = .returned (.slice A' n' c') ∧ ((F z = none ∧ A' = none ∧ n' = 0 ∧ c' = 0) ∨ ∃ R, F z = some R ∧ n' = R.length ∧ w'.ownsRow w.heap.size 3 1 (.slice A' n' c') R.length ((gi R).map (Value.int .i64)) ∧ ∃ g, A' = some g) ∧ Below W.heap.size W w') := ⟨fun W z hz hW => by
   rw [HFE.out z]
   exact refModel_calls A0 c0 G HG.out hc0 A1 c1 P HP.out hc1 P.length [] none 0 w.heap.size W 0 z (by simp) (fun _ h => by cases h) (by omega) hz hW.size (Kd.C_below HR0.out hW) (Kd.C_below HR1.out hW) (World.ownsRow_nil _ _ _ _)⟩
  have heq_ := fun (w : World) (a : Option Addr) (n c : Nat) => run_neq_slice_nil_any (P := Tryd.prog) w 22 3 a n c 0 0 Tryd.underlying22
  have HH := Aside0.mk h
  clear hF hR hG hP hr0 hr1 hgp h
  go_enter Tryd.func26, Tryd.ntmps26
  go_wp2
  go_loopg [6] T (fun kq v6 w' => ∃ (z : Nat), v6 = .int .i64 (z : Int) ∧ z + kq = P.length + T ∧ P.length ≤ z ∧ Aside0 (((List.range' P.length T).drop (z - P.length)).findSome? F = R) ∧ Aside0 (Below w.heap.size w w'))
  case atStart => exact ⟨P.length, rfl, by omega, by omega, by rw [Nat.sub_self]; exact HRF, ⟨Below.refl _ _⟩⟩
  case round =>
   clear HRF
   obtain ⟨z, rfl, hz, hz1, HA2, HBW⟩ := hrel
   by_cases hzl : z ≤ G.length
   ·have hj1 : ((z : Int) ≤ (G.length : Int)) = True := eq_true (by omega)
    have hj2 : decide ((z : Int) ≤ (G.length : Int)) = true := decide_eq_true (by omega)
    cases gk with
    | zero => omega
    | succ gi' =>
    have ha := HA2.out
    have hkl : z - P.length < (List.range' P.length T).length := by rw [List.length_range']; omega
    rw [List.drop_eq_getElem_cons hkl, List.findSome?_cons, List.getElem_range', show P.length + 1 * (z - P.length) = z by omega, show z - P.length + 1 = z + 1 - P.length by omega] at ha
    clear hkl HA2
    cases hfz : F z with
    | none =>
     have HG1 := Aside0.mk (HREC.out wr z (by omega) HBW.out)
     rw [hfz] at HG1 ha
     have HA3 : Aside0 (((List.range' P.length T).drop (z + 1 - P.length)).findSome? F = R) := ⟨ha⟩
     clear ha hfz
     go_wp2_with ((go_at_call 72; refine HG1.out.mono ?_; rintro e w9 ⟨A9, n9, c9, rfl, hv9, hb9⟩; obtain ⟨rfl, rfl, rfl⟩ : A9 = none ∧ n9 = 0 ∧ c9 = 0 := hv9.elim (fun h => h.2) (fun ⟨R, h, _⟩ => by cases h); have HB9 := Aside0.mk (below_step HBW.out hb9); clear hb9 hv9))
     go_roundg gi'
     case measure => omega
     case rel => exact ⟨z + 1, by go_num, by omega, by omega, HA3, HB9⟩
    | some Rr =>
     have HG1 := Aside0.mk (HREC.out wr z (by omega) HBW.out)
     rw [hfz] at HG1 ha
     have hr2 : R = some Rr := ha.symm
     subst hr2
     have hh := HH.out
     injection hh with h1 h2
     subst h1 h2
     clear ha hfz
     go_wp2_with ((go_at_call 72; refine HG1.out.mono ?_; rintro e w9 ⟨A9, n9, c9, rfl, hv9, hb9⟩; obtain ⟨R9, h9, h9n, h9o, g9, rfl⟩ : ∃ R, some Rr = some R ∧ n9 = R.length ∧ w9.ownsRow w.heap.size 3 1 (.slice A9 n9 c9) R.length ((gi R).map (Value.int .i64)) ∧ ∃ g, A9 = some g := hv9.elim (fun h => by cases h.1) id; cases h9; subst h9n; have HB9 := Aside0.mk (below_step HBW.out hb9); have HO9 := Aside0.mk h9o; clear hb9 hv9 h9o))
     go_ret2
     refine ⟨_, rfl, ?_, HB9.out⟩
     have h2 : w9.ownsRow w.heap.size 3 1 (.slice (some g9) Rr.length c9) (gi Rr).length ((gi Rr).map (Value.int .i64)) := by rw [gi_length]; exact HO9.out
     exact Kd.R_of_own (ok := fun _ => True) h2 (fun _ _ => trivial)
   ·have hj1 : ((z : Int) ≤ (G.length : Int)) = False := eq_false (by omega)
    have hj2 : decide ((z : Int) ≤ (G.length : Int)) = false := decide_eq_false (by omega)
    have ha := HA2.out
    rw [List.drop_eq_nil_of_le (by rw [List.length_range']; omega)] at ha
    have hr2 : R = none := ha.symm
    subst hr2
    have hh := HH.out
    injection hh with h1 h2
    subst h1 h2
    clear ha HA2
    go_wp2
    go_ret2
    exact ⟨_, rfl, Kd.R_nil _ _ _ _ _, HBW.out⟩
 ·rw [if_neg hgp] at h
  cases h
end Go.Proofs.YtjloppfdagfpmaaDoor.X
end
