/- Part 1 of what MinorOuters rests on: contracts of the functions that it reaches, and what they compute, in plain words. -/
import Derived.Test.YtjloppfdagfpmaaDoorZMinorOuters0
import Derived.Laws.EntriesVeiled
import Derived.ArgAppend
set_option linter.unusedVariables false
set_option linter.unusedSimpArgs false
section
namespace Go.Proofs.YtjloppfdagfpmaaDoor.X
open Go.RowKit YtjloppfdagfpmaaDoorW.PrintWords YtjloppfdagfpmaaDoorW.PrintLast YtjloppfdagfpmaaDoorW.PrintMore
attribute [local go_sem] max2_int min2_int max_two min_two max_three min_three max_four min_four
/-! ### lampblackref07_IsOuter: function 50 -/
mutual
def lampblackref07_IsOuter.l0 : Nat → List Int → List Int → Int → Int → Option (Bool)
 | 0, _, _, _, _ => none
 | k + 1, x0, x1, x15, x16 => if x16 < x15 then (lampblackref07_IsOuter.l1 k x0 x1 x16 x15 x16 x16 0) else (some true)
def lampblackref07_IsOuter.l1 : Nat → List Int → List Int → Int → Int → Int → Int → Int → Option (Bool)
 | 0, _, _, _, _, _, _, _ => none
 | k + 1, x0, x1, x5, x15, x16, x19, x20 => if x20 < x19 then (lampblackref07_IsOuter.l2 k x0 x1 x5 x20 x15 x16 x19 x20 x20 0) else (lampblackref07_IsOuter.l0 k x0 x1 x15 (wrap64 (x16 + 1)))
def lampblackref07_IsOuter.l2 : Nat → List Int → List Int → Int → Int → Int → Int → Int → Int → Int → Int → Option (Bool)
 | 0, _, _, _, _, _, _, _, _, _, _ => none
 | k + 1, x0, x1, x5, x6, x15, x16, x19, x20, x23, x24 => if x24 < x23 then (lampblackref07_IsOuter.l3 k x0 x1 x5 x6 x24 x15 x16 x19 x20 x23 x24 x24 0) else (lampblackref07_IsOuter.l1 k x0 x1 x5 x15 x16 x19 (wrap64 (x20 + 1)))
def lampblackref07_IsOuter.l3 : Nat → List Int → List Int → Int → Int → Int → Int → Int → Int → Int → Int → Int → Int → Int → Option (Bool)
 | 0, _, _, _, _, _, _, _, _, _, _, _, _, _ => none
 | k + 1, x0, x1, x5, x6, x7, x15, x16, x19, x20, x23, x24, x27, x28 => if x28 < x27 then (if 0 ≤ x28 then (if x28 < (x1.length : Int) then (if 0 ≤ (rd x1 x28) then (if (rd x1 x28) < (x0.length : Int) then (if 0 ≤ x6 then (if x6 < (x1.length : Int) then (if 0 ≤ (rd x1 x6) then (if (Go.bits .and .i64 (shr .i64 (rd x0 (rd x1 x28)) (rd x1 x6)) 1) = 1 then (if 0 ≤ x7 then (if x7 < (x1.length : Int) then (if 0 ≤ (rd x1 x7) then (if (rd x1 x7) < (x0.length : Int) then (if 0 ≤ x5 then (if x5 < (x1.length : Int) then (if 0 ≤ (rd x1 x5) then (if (Go.bits .and .i64 (shr .i64 (rd x0 (rd x1 x7)) (rd x1 x5)) 1) = 1 then (some false) else (lampblackref07_IsOuter.l3 k x0 x1 x5 x6 x7 x15 x16 x19 x20 x23 x24 x27 (wrap64 (x28 + 1)))) else (none)) else (none)) else (none)) else (none)) else (none)) else (none)) else (none)) else (lampblackref07_IsOuter.l3 k x0 x1 x5 x6 x7 x15 x16 x19 x20 x23 x24 x27 (wrap64 (x28 + 1)))) else (none)) else (none)) else (none)) else (none)) else (none)) else (none)) else (none)) else (lampblackref07_IsOuter.l2 k x0 x1 x5 x6 x15 x16 x19 x20 x23 (wrap64 (x24 + 1)))
end
def lampblackref07_IsOuter.f (k : Nat) (l0 : List Int) (l1 : List Int) : Option (Bool) := (lampblackref02_IsOrder.f k l1 (l0.length : Int)).bind fun t544 => (if t544 = true then (lampblackref07_IsOuter.l0 k l0 l1 (l1.length : Int) 0) else (some false))
set_option maxHeartbeats 8000000 in
set_option maxRecDepth 100000 in
theorem lampblackref07_IsOuter.calls (k : Nat) (A0 : Option Addr) (c0 : Nat) (l0 : List Int) (A1 : Option Addr) (c1 : Nat) (l1 : List Int) (r : Bool) (w : World) (hr0 : Kd.C (Kd.int .i64) w A0 l0.length l0) (hc0 : l0.length ≤ c0) (hr1 : Kd.C (Kd.int .i64) w A1 l1.length l1) (hc1 : l1.length ≤ c1) (h : lampblackref07_IsOuter.f k l0 l1 = some r) :
  Calls Tryd.prog 50 #[.slice A0 l0.length c0, .slice A1 l1.length c1] w fun e w' => e = .returned (.bool r) ∧ Drawn0 w w' := by
 have HR0 := Aside0.mk hr0
 have HC0 := Aside0.mk hc0
 clear hr0 hc0
 have HR1 := Aside0.mk hr1
 have HC1 := Aside0.mk hc1
 clear hr1 hc1
 have H : ((lampblackref02_IsOrder.f k l1 (l0.length : Int)).bind fun t544 => (if t544 = true then (lampblackref07_IsOuter.l0 k l0 l1 (l1.length : Int) 0) else (some false))) = some r := h
 clear h
 replace H := Option.bind_eq_some_iff.mp H
 obtain ⟨t544, A30, H⟩ := H
 replace H : (if t544 = true then (lampblackref07_IsOuter.l0 k l0 l1 (l1.length : Int) 0) else (some false)) = some r := H
 have A3 := Aside0.mk A30
 clear A30
 by_cases c4 : t544 = true
 ·subst c4
  have H1 : (lampblackref07_IsOuter.l0 k l0 l1 (l1.length : Int) 0) = some r := by rw [if_pos rfl] at H; exact H
  clear H
  have H := H1
  clear H1
  have H' := Aside0.mk H
  clear H
  go_enter Tryd.func50, Tryd.ntmps50
  go_wp2_with (first | (go_at_call 85; (with_reducible refine (lampblackref02_IsOrder.calls k _ _ l1 (l0.length : Int) true _ ?side1 ?side2 A3.out).mono ?_); (case side1 => exact Qsc HR1.out); (case side2 => exact HC1.out); rintro e w' ⟨rfl, ⟨nd, rfl⟩⟩; (try first | exact ⟨rfl, _, World.drewN_drewN _ _ _⟩ | exact ⟨rfl, _, Eq.trans (World.drewN_drewN _ _ _) (congrArg (World.drewN _) (Nat.add_assoc _ _ _))⟩)))
  repeat (go_quiet (first | (go_at_call 85; (with_reducible refine (lampblackref02_IsOrder.calls k _ _ l1 (l0.length : Int) true _ ?side1 ?side2 A3.out).mono ?_); (case side1 => exact Qsc HR1.out); (case side2 => exact HC1.out); rintro e w' ⟨rfl, ⟨nd, rfl⟩⟩; (try first | exact ⟨rfl, _, World.drewN_drewN _ _ _⟩ | exact ⟨rfl, _, Eq.trans (World.drewN_drewN _ _ _) (congrArg (World.drewN _) (Nat.add_assoc _ _ _))⟩))); try go_wp2_with (first | (go_at_call 85; (with_reducible refine (lampblackref02_IsOrder.calls k _ _ l1 (l0.length : Int) true _ ?side1 ?side2 A3.out).mono ?_); (case side1 => exact Qsc HR1.out); (case side2 => exact HC1.out); rintro e w' ⟨rfl, ⟨nd, rfl⟩⟩; (try first | exact ⟨rfl, _, World.drewN_drewN _ _ _⟩ | exact ⟨rfl, _, Eq.trans (World.drewN_drewN _ _ _) (congrArg (World.drewN _) (Nat.add_assoc _ _ _))⟩))))
  go_loopg [16] k (fun kq v16 w' => ∃ (x16_1 : Int), v16 = .int .i64 x16_1 ∧ Aside0 (lampblackref07_IsOuter.l0 kq l0 l1 (l1.length : Int) x16_1 = some r) ∧ Aside0 (kq ≤ k) ∧ Drawn0 w w')
  case atStart => exact ⟨(0), (by first | rfl | (simp; done) | (simp [*]; done)), H', ⟨Nat.le_refl _⟩, by repeat (first | exact Drawn0.refl _ | apply Drawn0.step)⟩
  case round =>
   clear H'
   try clear c1
   try clear p2
   try clear c4
   obtain ⟨x16_1, rfl, HA, HK1, ⟨m1, rfl⟩⟩ := hrel
   cases gk with
   | zero => exact absurd HA.out (by simp [lampblackref07_IsOuter.l0])
   | succ k1 =>
    have H := HA.out
    clear HA
    simp only [lampblackref07_IsOuter.l0] at H
    by_cases c5 : x16_1 < (l1.length : Int)
    ·rw [if_pos c5] at H
     have c5b0 : decide (x16_1 < (l1.length : Int)) = true := decide_eq_true c5
     clear c5
     have H' := Aside0.mk H
     clear H
     go_wp2
     repeat (go_quiet (fail); try go_wp2)
     go_loopg [20] k1 (fun kq v20 w' => ∃ (x20_2 : Int), v20 = .int .i64 x20_2 ∧ Aside0 (lampblackref07_IsOuter.l1 kq l0 l1 x16_1 (l1.length : Int) x16_1 x16_1 x20_2 = some r) ∧ Aside0 (kq ≤ k1) ∧ Drawn0 w w')
     case atStart => exact ⟨(0), (by first | rfl | (simp; done) | (simp [*]; done)), H', ⟨Nat.le_refl _⟩, by repeat (first | exact Drawn0.refl _ | apply Drawn0.step)⟩
     case round =>
      clear H'
      try clear c1
      try clear p2
      try clear c4
      try clear c5
      try clear c5b0
      try clear p2
      obtain ⟨x20_2, rfl, HA, HK2, ⟨m2, rfl⟩⟩ := hrel
      cases gk with
      | zero => exact absurd HA.out (by simp [lampblackref07_IsOuter.l1])
      | succ k2 =>
       have H := HA.out
       clear HA
       simp only [lampblackref07_IsOuter.l1] at H
       by_cases c6 : x20_2 < x16_1
       ·rw [if_pos c6] at H
        have c6b0 : decide (x20_2 < x16_1) = true := decide_eq_true c6
        clear c6
        have H' := Aside0.mk H
        clear H
        go_wp2
        repeat (go_quiet (fail); try go_wp2)
        go_loopg [24] k2 (fun kq v24 w' => ∃ (x24_3 : Int), v24 = .int .i64 x24_3 ∧ Aside0 (lampblackref07_IsOuter.l2 kq l0 l1 x16_1 x20_2 (l1.length : Int) x16_1 x16_1 x20_2 x20_2 x24_3 = some r) ∧ Aside0 (kq ≤ k2) ∧ Drawn0 w w')
        case atStart => exact ⟨(0), (by first | rfl | (simp; done) | (simp [*]; done)), H', ⟨Nat.le_refl _⟩, by repeat (first | exact Drawn0.refl _ | apply Drawn0.step)⟩
        case round =>
         clear H'
         try clear c1
         try clear p2
         try clear c4
         try clear c5
         try clear c5b0
         try clear c6
         try clear c6b0
         try clear p2
         obtain ⟨x24_3, rfl, HA, HK3, ⟨m3, rfl⟩⟩ := hrel
         cases gk with
         | zero => exact absurd HA.out (by simp [lampblackref07_IsOuter.l2])
         | succ k3 =>
          have H := HA.out
          clear HA
          simp only [lampblackref07_IsOuter.l2] at H
          by_cases c7 : x24_3 < x20_2
          ·rw [if_pos c7] at H
           have c7b0 : decide (x24_3 < x20_2) = true := decide_eq_true c7
           clear c7
           have H' := Aside0.mk H
           clear H
           go_wp2
           repeat (go_quiet (fail); try go_wp2)
           go_loopg [28] k3 (fun kq v28 w' => ∃ (x28_4 : Int), v28 = .int .i64 x28_4 ∧ Aside0 (lampblackref07_IsOuter.l3 kq l0 l1 x16_1 x20_2 x24_3 (l1.length : Int) x16_1 x16_1 x20_2 x20_2 x24_3 x24_3 x28_4 = some r) ∧ Aside0 (kq ≤ k3) ∧ Drawn0 w w')
           case atStart => exact ⟨(0), (by first | rfl | (simp; done) | (simp [*]; done)), H', ⟨Nat.le_refl _⟩, by repeat (first | exact Drawn0.refl _ | apply Drawn0.step)⟩
           case round =>
            clear H'
            try clear c1
            try clear p2
            try clear c4
            try clear c5
            try clear c5b0
            try clear c6
            try clear c6b0
            try clear c7
            try clear c7b0
            try clear p2
            obtain ⟨x28_4, rfl, HA, HK4, ⟨m4, rfl⟩⟩ := hrel
            cases gk with
            | zero => exact absurd HA.out (by simp [lampblackref07_IsOuter.l3])
            | succ k4 =>
             have H := HA.out
             clear HA
             simp only [lampblackref07_IsOuter.l3] at H
             by_cases c8 : x28_4 < x24_3
             ·rw [if_pos c8] at H
              have c8b0 : decide (x28_4 < x24_3) = true := decide_eq_true c8
              clear c8
              by_cases c9 : 0 ≤ x28_4
              ·rw [if_pos c9] at H
               have c9b0 : decide (0 ≤ x28_4) = true := decide_eq_true c9
               clear c9
               by_cases c10 : x28_4 < (l1.length : Int)
               ·rw [if_pos c10] at H
                have c10b0 : decide (x28_4 < (l1.length : Int)) = true := decide_eq_true c10
                clear c10
                by_cases c11 : 0 ≤ (rd l1 x28_4)
                ·rw [if_pos c11] at H
                 have c11b0 : decide (0 ≤ (rd l1 x28_4)) = true := decide_eq_true c11
                 clear c11
                 by_cases c12 : (rd l1 x28_4) < (l0.length : Int)
                 ·rw [if_pos c12] at H
                  have c12b0 : decide ((rd l1 x28_4) < (l0.length : Int)) = true := decide_eq_true c12
                  clear c12
                  by_cases c13 : 0 ≤ x20_2
                  ·rw [if_pos c13] at H
                   have c13b0 : decide (0 ≤ x20_2) = true := decide_eq_true c13
                   clear c13
                   by_cases c14 : x20_2 < (l1.length : Int)
                   ·rw [if_pos c14] at H
                    have c14b0 : decide (x20_2 < (l1.length : Int)) = true := decide_eq_true c14
                    clear c14
                    by_cases c15 : 0 ≤ (rd l1 x20_2)
                    ·rw [if_pos c15] at H
                     have c15b0 := eq_true c15
                     have c15b1 : decide (0 ≤ (rd l1 x20_2)) = true := decide_eq_true c15
                     clear c15
                     obtain ⟨ji16, hji16⟩ : ∃ j_ : Int, (shr .i64 (rd l0 (rd l1 x28_4)) (rd l1 x20_2)) = j_ := ⟨_, rfl⟩
                     replace H : (if (Go.bits .and .i64 (ji16) 1) = 1 then (if 0 ≤ x24_3 then (if x24_3 < (l1.length : Int) then (if 0 ≤ (rd l1 x24_3) then (if (rd l1 x24_3) < (l0.length : Int) then (if 0 ≤ x16_1 then (if x16_1 < (l1.length : Int) then (if 0 ≤ (rd l1 x16_1) then (if (Go.bits .and .i64 (shr .i64 (rd l0 (rd l1 x24_3)) (rd l1 x16_1)) 1) = 1 then (some false) else (lampblackref07_IsOuter.l3 k4 l0 l1 x16_1 x20_2 x24_3 (l1.length : Int) x16_1 x16_1 x20_2 x20_2 x24_3 x24_3 (wrap64 (x28_4 + 1)))) else (none)) else (none)) else (none)) else (none)) else (none)) else (none)) else (none)) else (lampblackref07_IsOuter.l3 k4 l0 l1 x16_1 x20_2 x24_3 (l1.length : Int) x16_1 x16_1 x20_2 x20_2 x24_3 x24_3 (wrap64 (x28_4 + 1)))) = some r := by first | (rw [hji16] at H; exact H) | (simp only [hji16] at H ⊢; exact H)
                     have hji16_ : ((rd l0 (rd l1 x28_4)) / 2 ^ min (rd l1 x20_2).toNat 64) = ji16 := hji16
                     have hji16z : (rd l1 x20_2) ≤ 64 → ((rd l0 (rd l1 x28_4)) / 2 ^ (rd l1 x20_2).toNat) = ji16 := shr_small hji16
                     by_cases c17 : (Go.bits .and .i64 (ji16) 1) = 1
                     ·rw [if_pos c17] at H
                      have c17b0 : ((Go.bits .and .i64 (ji16) 1) == 1) = true := beq_iff_eq.mpr c17
                      have c17b1 : ((Go.bits .and .i64 (ji16) 1) != 1) = false := bne_eq_false_iff_eq.mpr c17
                      clear c17
                      by_cases c18 : 0 ≤ x24_3
                      ·rw [if_pos c18] at H
                       have c18b0 : decide (0 ≤ x24_3) = true := decide_eq_true c18
                       clear c18
                       by_cases c19 : x24_3 < (l1.length : Int)
                       ·rw [if_pos c19] at H
                        have c19b0 : decide (x24_3 < (l1.length : Int)) = true := decide_eq_true c19
                        clear c19
                        by_cases c20 : 0 ≤ (rd l1 x24_3)
                        ·rw [if_pos c20] at H
                         have c20b0 : decide (0 ≤ (rd l1 x24_3)) = true := decide_eq_true c20
                         clear c20
                         by_cases c21 : (rd l1 x24_3) < (l0.length : Int)
                         ·rw [if_pos c21] at H
                          have c21b0 : decide ((rd l1 x24_3) < (l0.length : Int)) = true := decide_eq_true c21
                          clear c21
                          by_cases c22 : 0 ≤ x16_1
                          ·rw [if_pos c22] at H
                           have c22b0 : decide (0 ≤ x16_1) = true := decide_eq_true c22
                           clear c22
                           by_cases c23 : x16_1 < (l1.length : Int)
                           ·rw [if_pos c23] at H
                            have c23b0 : decide (x16_1 < (l1.length : Int)) = true := decide_eq_true c23
                            clear c23
                            by_cases c24 : 0 ≤ (rd l1 x16_1)
                            ·rw [if_pos c24] at H
                             have c24b0 := eq_true c24
                             have c24b1 : decide (0 ≤ (rd l1 x16_1)) = true := decide_eq_true c24
                             clear c24
                             obtain ⟨ji25, hji25⟩ : ∃ j_ : Int, (shr .i64 (rd l0 (rd l1 x24_3)) (rd l1 x16_1)) = j_ := ⟨_, rfl⟩
                             replace H : (if (Go.bits .and .i64 (ji25) 1) = 1 then (some false) else (lampblackref07_IsOuter.l3 k4 l0 l1 x16_1 x20_2 x24_3 (l1.length : Int) x16_1 x16_1 x20_2 x20_2 x24_3 x24_3 (wrap64 (x28_4 + 1)))) = some r := by first | (rw [hji25] at H; exact H) | (simp only [hji25] at H ⊢; exact H)
                             have hji25_ : ((rd l0 (rd l1 x24_3)) / 2 ^ min (rd l1 x16_1).toNat 64) = ji25 := hji25
                             have hji25z : (rd l1 x16_1) ≤ 64 → ((rd l0 (rd l1 x24_3)) / 2 ^ (rd l1 x16_1).toNat) = ji25 := shr_small hji25
                             by_cases c26 : (Go.bits .and .i64 (ji25) 1) = 1
                             ·rw [if_pos c26] at H
                              have c26b0 : ((Go.bits .and .i64 (ji25) 1) == 1) = true := beq_iff_eq.mpr c26
                              have c26b1 : ((Go.bits .and .i64 (ji25) 1) != 1) = false := bne_eq_false_iff_eq.mpr c26
                              clear c26
                              obtain rfl := Option.some.inj H
                              have p545 : 0 ≤ (x28_4 : Int) := of_decide_eq_true (by first | (with_reducible assumption) | assumption)
                              have q545 : x28_4 < (l1.length : Int) := of_decide_eq_true (by first | (with_reducible assumption) | assumption)
                              obtain ⟨ad545, e545, hx545_0⟩ := Kd.at_int HR1.out x28_4 p545 q545
                              cases e545
                              replace p545 := eq_true p545
                              replace q545 := eq_true q545
                              have p546 : 0 ≤ ((rd l1 x28_4) : Int) := of_decide_eq_true (by first | (with_reducible assumption) | assumption)
                              have q546 : (rd l1 x28_4) < (l0.length : Int) := of_decide_eq_true (by first | (with_reducible assumption) | assumption)
                              obtain ⟨ad546, e546, hx546_0⟩ := Kd.at_int HR0.out (rd l1 x28_4) p546 q546
                              cases e546
                              replace p546 := eq_true p546
                              replace q546 := eq_true q546
                              have p547 : 0 ≤ (x20_2 : Int) := of_decide_eq_true (by first | (with_reducible assumption) | assumption)
                              have q547 : x20_2 < (l1.length : Int) := of_decide_eq_true (by first | (with_reducible assumption) | assumption)
                              obtain ⟨ad547, e547, hx547_0⟩ := Kd.at_int HR1.out x20_2 p547 q547
                              obtain rfl : ad545 = ad547 := (by injection e547)
                              replace p547 := eq_true p547
                              replace q547 := eq_true q547
                              have p548 : 0 ≤ (x24_3 : Int) := of_decide_eq_true (by first | (with_reducible assumption) | assumption)
                              have q548 : x24_3 < (l1.length : Int) := of_decide_eq_true (by first | (with_reducible assumption) | assumption)
                              obtain ⟨ad548, e548, hx548_0⟩ := Kd.at_int HR1.out x24_3 p548 q548
                              obtain rfl : ad545 = ad548 := (by injection e548)
                              replace p548 := eq_true p548
                              replace q548 := eq_true q548
                              have p549 : 0 ≤ ((rd l1 x24_3) : Int) := of_decide_eq_true (by first | (with_reducible assumption) | assumption)
                              have q549 : (rd l1 x24_3) < (l0.length : Int) := of_decide_eq_true (by first | (with_reducible assumption) | assumption)
                              obtain ⟨ad549, e549, hx549_0⟩ := Kd.at_int HR0.out (rd l1 x24_3) p549 q549
                              obtain rfl : ad546 = ad549 := (by injection e549)
                              replace p549 := eq_true p549
                              replace q549 := eq_true q549
                              have p550 : 0 ≤ (x16_1 : Int) := of_decide_eq_true (by first | (with_reducible assumption) | assumption)
                              have q550 : x16_1 < (l1.length : Int) := of_decide_eq_true (by first | (with_reducible assumption) | assumption)
                              obtain ⟨ad550, e550, hx550_0⟩ := Kd.at_int HR1.out x16_1 p550 q550
                              obtain rfl : ad545 = ad550 := (by injection e550)
                              replace p550 := eq_true p550
                              replace q550 := eq_true q550
                              go_wp2
                              repeat (go_quiet (fail); try go_wp2)
                              go_ret
                              exact ⟨by first | rfl | (simp; done) | (simp only [← hji16, ← hji25] <;> (first | rfl | simp)) | (simp [*]; done), by repeat (first | exact Drawn0.refl _ | apply Drawn0.step)⟩
                             ·rw [if_neg c26] at H
                              have c26b0 : ((Go.bits .and .i64 (ji25) 1) == 1) = false := beq_eq_false_iff_ne.mpr c26
                              have c26b1 : ((Go.bits .and .i64 (ji25) 1) != 1) = true := bne_iff_ne.mpr c26
                              have H' := Aside0.mk H
                              clear H
                              have p545 : 0 ≤ (x28_4 : Int) := of_decide_eq_true (by first | (with_reducible assumption) | assumption)
                              have q545 : x28_4 < (l1.length : Int) := of_decide_eq_true (by first | (with_reducible assumption) | assumption)
                              obtain ⟨ad545, e545, hx545_0⟩ := Kd.at_int HR1.out x28_4 p545 q545
                              cases e545
                              replace p545 := eq_true p545
                              replace q545 := eq_true q545
                              have p546 : 0 ≤ ((rd l1 x28_4) : Int) := of_decide_eq_true (by first | (with_reducible assumption) | assumption)
                              have q546 : (rd l1 x28_4) < (l0.length : Int) := of_decide_eq_true (by first | (with_reducible assumption) | assumption)
                              obtain ⟨ad546, e546, hx546_0⟩ := Kd.at_int HR0.out (rd l1 x28_4) p546 q546
                              cases e546
                              replace p546 := eq_true p546
                              replace q546 := eq_true q546
                              have p547 : 0 ≤ (x20_2 : Int) := of_decide_eq_true (by first | (with_reducible assumption) | assumption)
                              have q547 : x20_2 < (l1.length : Int) := of_decide_eq_true (by first | (with_reducible assumption) | assumption)
                              obtain ⟨ad547, e547, hx547_0⟩ := Kd.at_int HR1.out x20_2 p547 q547
                              obtain rfl : ad545 = ad547 := (by injection e547)
                              replace p547 := eq_true p547
                              replace q547 := eq_true q547
                              have p548 : 0 ≤ (x24_3 : Int) := of_decide_eq_true (by first | (with_reducible assumption) | assumption)
                              have q548 : x24_3 < (l1.length : Int) := of_decide_eq_true (by first | (with_reducible assumption) | assumption)
                              obtain ⟨ad548, e548, hx548_0⟩ := Kd.at_int HR1.out x24_3 p548 q548
                              obtain rfl : ad545 = ad548 := (by injection e548)
                              replace p548 := eq_true p548
                              replace q548 := eq_true q548
                              have p549 : 0 ≤ ((rd l1 x24_3) : Int) := of_decide_eq_true (by first | (with_reducible assumption) | assumption)
                              have q549 : (rd l1 x24_3) < (l0.length : Int) := of_decide_eq_true (by first | (with_reducible assumption) | assumption)
                              obtain ⟨ad549, e549, hx549_0⟩ := Kd.at_int HR0.out (rd l1 x24_3) p549 q549
                              obtain rfl : ad546 = ad549 := (by injection e549)
                              replace p549 := eq_true p549
                              replace q549 := eq_true q549
                              have p550 : 0 ≤ (x16_1 : Int) := of_decide_eq_true (by first | (with_reducible assumption) | assumption)
                              have q550 : x16_1 < (l1.length : Int) := of_decide_eq_true (by first | (with_reducible assumption) | assumption)
                              obtain ⟨ad550, e550, hx550_0⟩ := Kd.at_int HR1.out x16_1 p550 q550
                              obtain rfl : ad545 = ad550 := (by injection e550)
                              replace p550 := eq_true p550
                              replace q550 := eq_true q550
                              go_wp2
                              repeat (go_quiet (fail); try go_wp2)
                              go_roundg k4
                              case measure => have := HK1.out; have := HK2.out; have := HK3.out; have := HK4.out; omega
                              case rel => exact ⟨(wrap64 (x28_4 + 1)), (by first | rfl | (simp; done) | (simp [*]; done)), H', ⟨by have := HK1.out; have := HK2.out; have := HK3.out; have := HK4.out; omega⟩, by repeat (first | exact Drawn0.refl _ | apply Drawn0.step)⟩
                            ·rw [if_neg c24] at H
                             exact absurd H (by simp)
                           ·rw [if_neg c23] at H
                            exact absurd H (by simp)
                          ·rw [if_neg c22] at H
                           exact absurd H (by simp)
                         ·rw [if_neg c21] at H
                          exact absurd H (by simp)
                        ·rw [if_neg c20] at H
                         exact absurd H (by simp)
                       ·rw [if_neg c19] at H
                        exact absurd H (by simp)
                      ·rw [if_neg c18] at H
                       exact absurd H (by simp)
                     ·rw [if_neg c17] at H
                      have c17b0 : ((Go.bits .and .i64 (ji16) 1) == 1) = false := beq_eq_false_iff_ne.mpr c17
                      have c17b1 : ((Go.bits .and .i64 (ji16) 1) != 1) = true := bne_iff_ne.mpr c17
                      have H' := Aside0.mk H
                      clear H
                      have p545 : 0 ≤ (x28_4 : Int) := of_decide_eq_true (by first | (with_reducible assumption) | assumption)
                      have q545 : x28_4 < (l1.length : Int) := of_decide_eq_true (by first | (with_reducible assumption) | assumption)
                      obtain ⟨ad545, e545, hx545_0⟩ := Kd.at_int HR1.out x28_4 p545 q545
                      cases e545
                      replace p545 := eq_true p545
                      replace q545 := eq_true q545
                      have p546 : 0 ≤ ((rd l1 x28_4) : Int) := of_decide_eq_true (by first | (with_reducible assumption) | assumption)
                      have q546 : (rd l1 x28_4) < (l0.length : Int) := of_decide_eq_true (by first | (with_reducible assumption) | assumption)
                      obtain ⟨ad546, e546, hx546_0⟩ := Kd.at_int HR0.out (rd l1 x28_4) p546 q546
                      cases e546
                      replace p546 := eq_true p546
                      replace q546 := eq_true q546
                      have p547 : 0 ≤ (x20_2 : Int) := of_decide_eq_true (by first | (with_reducible assumption) | assumption)
                      have q547 : x20_2 < (l1.length : Int) := of_decide_eq_true (by first | (with_reducible assumption) | assumption)
                      obtain ⟨ad547, e547, hx547_0⟩ := Kd.at_int HR1.out x20_2 p547 q547
                      obtain rfl : ad545 = ad547 := (by injection e547)
                      replace p547 := eq_true p547
                      replace q547 := eq_true q547
                      go_wp2
                      repeat (go_quiet (fail); try go_wp2)
                      go_roundg k4
                      case measure => have := HK1.out; have := HK2.out; have := HK3.out; have := HK4.out; omega
                      case rel => exact ⟨(wrap64 (x28_4 + 1)), (by first | rfl | (simp; done) | (simp [*]; done)), H', ⟨by have := HK1.out; have := HK2.out; have := HK3.out; have := HK4.out; omega⟩, by repeat (first | exact Drawn0.refl _ | apply Drawn0.step)⟩
                    ·rw [if_neg c15] at H
                     exact absurd H (by simp)
                   ·rw [if_neg c14] at H
                    exact absurd H (by simp)
                  ·rw [if_neg c13] at H
                   exact absurd H (by simp)
                 ·rw [if_neg c12] at H
                  exact absurd H (by simp)
                ·rw [if_neg c11] at H
                 exact absurd H (by simp)
               ·rw [if_neg c10] at H
                exact absurd H (by simp)
              ·rw [if_neg c9] at H
               exact absurd H (by simp)
             ·rw [if_neg c8] at H
              have c8b0 : decide (x28_4 < x24_3) = false := decide_eq_false c8
              clear c8
              have H' := Aside0.mk H
              clear H
              go_wp2
              repeat (go_quiet (fail); try go_wp2)
              go_roundg k4
              case measure => have := HK1.out; have := HK2.out; have := HK3.out; have := HK4.out; omega
              case rel => exact ⟨(wrap64 (x24_3 + 1)), (by first | rfl | (simp; done) | (simp [*]; done)), H', ⟨by have := HK1.out; have := HK2.out; have := HK3.out; have := HK4.out; omega⟩, by repeat (first | exact Drawn0.refl _ | apply Drawn0.step)⟩
          ·rw [if_neg c7] at H
           have c7b0 : decide (x24_3 < x20_2) = false := decide_eq_false c7
           clear c7
           have H' := Aside0.mk H
           clear H
           go_wp2
           repeat (go_quiet (fail); try go_wp2)
           go_roundg k3
           case measure => have := HK1.out; have := HK2.out; have := HK3.out; omega
           case rel => exact ⟨(wrap64 (x20_2 + 1)), (by first | rfl | (simp; done) | (simp [*]; done)), H', ⟨by have := HK1.out; have := HK2.out; have := HK3.out; omega⟩, by repeat (first | exact Drawn0.refl _ | apply Drawn0.step)⟩
       ·rw [if_neg c6] at H
        have c6b0 : decide (x20_2 < x16_1) = false := decide_eq_false c6
        clear c6
        have H' := Aside0.mk H
        clear H
        go_wp2
        repeat (go_quiet (fail); try go_wp2)
        go_roundg k2
        case measure => have := HK1.out; have := HK2.out; omega
        case rel => exact ⟨(wrap64 (x16_1 + 1)), (by first | rfl | (simp; done) | (simp [*]; done)), H', ⟨by have := HK1.out; have := HK2.out; omega⟩, by repeat (first | exact Drawn0.refl _ | apply Drawn0.step)⟩
    ·rw [if_neg c5] at H
     have c5b0 : decide (x16_1 < (l1.length : Int)) = false := decide_eq_false c5
     clear c5
     obtain rfl := Option.some.inj H
     go_wp2
     repeat (go_quiet (fail); try go_wp2)
     go_ret
     exact ⟨by first | rfl | (simp; done) | (simp [*]; done), by repeat (first | exact Drawn0.refl _ | apply Drawn0.step)⟩
 ·replace c4 := Bool.eq_false_iff.mpr c4
  subst c4
  have H1 : (some false) = some r := by rw [if_neg (show ¬ (false = true) by decide)] at H; exact H
  clear H
  have H := H1
  clear H1
  obtain rfl := Option.some.inj H
  go_enter Tryd.func50, Tryd.ntmps50
  go_wp2_with (first | (go_at_call 85; (with_reducible refine (lampblackref02_IsOrder.calls k _ _ l1 (l0.length : Int) false _ ?side1 ?side2 A3.out).mono ?_); (case side1 => exact Qsc HR1.out); (case side2 => exact HC1.out); rintro e w' ⟨rfl, ⟨nd, rfl⟩⟩; (try first | exact ⟨rfl, _, World.drewN_drewN _ _ _⟩ | exact ⟨rfl, _, Eq.trans (World.drewN_drewN _ _ _) (congrArg (World.drewN _) (Nat.add_assoc _ _ _))⟩)))
  repeat (go_quiet (first | (go_at_call 85; (with_reducible refine (lampblackref02_IsOrder.calls k _ _ l1 (l0.length : Int) false _ ?side1 ?side2 A3.out).mono ?_); (case side1 => exact Qsc HR1.out); (case side2 => exact HC1.out); rintro e w' ⟨rfl, ⟨nd, rfl⟩⟩; (try first | exact ⟨rfl, _, World.drewN_drewN _ _ _⟩ | exact ⟨rfl, _, Eq.trans (World.drewN_drewN _ _ _) (congrArg (World.drewN _) (Nat.add_assoc _ _ _))⟩))); try go_wp2_with (first | (go_at_call 85; (with_reducible refine (lampblackref02_IsOrder.calls k _ _ l1 (l0.length : Int) false _ ?side1 ?side2 A3.out).mono ?_); (case side1 => exact Qsc HR1.out); (case side2 => exact HC1.out); rintro e w' ⟨rfl, ⟨nd, rfl⟩⟩; (try first | exact ⟨rfl, _, World.drewN_drewN _ _ _⟩ | exact ⟨rfl, _, Eq.trans (World.drewN_drewN _ _ _) (congrArg (World.drewN _) (Nat.add_assoc _ _ _))⟩))))
  go_ret
  exact ⟨by first | rfl | (simp; done) | (simp [*]; done), by repeat (first | exact Drawn0.refl _ | apply Drawn0.step)⟩
end Go.Proofs.YtjloppfdagfpmaaDoor.X
end
section
namespace Go.Proofs.YtjloppfdagfpmaaDoor.X
open Go.RowKit YtjloppfdagfpmaaDoorW.PrintWords YtjloppfdagfpmaaDoorW.PrintLast YtjloppfdagfpmaaDoorW.PrintMore
attribute [local go_sem] max2_int min2_int max_two min_two max_three min_three max_four min_four
/-! ### lampblackref01_IsGraph: function 61 -/
mutual
def lampblackref01_IsGraph.l0 : Nat → List Int → Int → List Int → Int → Int → Option (Bool)
 | 0, _, _, _, _, _ => none
 | k + 1, x0, x1, x8, x9, x10 => if x10 < x9 then (if 0 ≤ x10 then (if x10 < (x8.length : Int) then (if (x0.length : Int) > x1 then (lampblackref01_IsGraph.j1 k x0 x1 x10 (rd x8 x10) x8 x9 x10 true) else (if (rd x8 x10) < 0 then (lampblackref01_IsGraph.j1 k x0 x1 x10 (rd x8 x10) x8 x9 x10 true) else (if (rd x8 x10) ≥ (shl .i64 1 (x0.length : Int)) then (lampblackref01_IsGraph.j1 k x0 x1 x10 (rd x8 x10) x8 x9 x10 true) else (lampblackref01_IsGraph.j1 k x0 x1 x10 (rd x8 x10) x8 x9 x10 ((Go.bits .and .i64 (shr .i64 (rd x8 x10) x10) 1) == 1))))) else (none)) else (none)) else (if (x0.length : Int) ≥ 1 then (some (decide ((x0.length : Int) ≤ x1))) else (some false))
def lampblackref01_IsGraph.j1 : Nat → List Int → Int → Int → Int → List Int → Int → Int → Bool → Option (Bool)
 | 0, _, _, _, _, _, _, _, _ => none
 | k + 1, x0, x1, x5, x6, x8, x9, x10, x36 => if x36 = true then (some false) else (lampblackref01_IsGraph.l1 k x0 x1 x5 x6 x8 x9 x10 (x0.length : Int) 0)
def lampblackref01_IsGraph.l1 : Nat → List Int → Int → Int → Int → List Int → Int → Int → Int → Int → Option (Bool)
 | 0, _, _, _, _, _, _, _, _, _ => none
 | k + 1, x0, x1, x5, x6, x8, x9, x10, x38, x39 => if x39 < x38 then (if 0 ≤ x39 then (if x39 < (x0.length : Int) then (if 0 ≤ x5 then (if (Go.bits .and .i64 (shr .i64 x6 x39) 1) = (Go.bits .and .i64 (shr .i64 (rd x0 x39) x5) 1) then (lampblackref01_IsGraph.l1 k x0 x1 x5 x6 x8 x9 x10 x38 (wrap64 (x39 + 1))) else (some false)) else (none)) else (none)) else (none)) else (lampblackref01_IsGraph.l0 k x0 x1 x8 x9 (wrap64 (x10 + 1)))
end
def lampblackref01_IsGraph.f (k : Nat) (l0 : List Int) (a1 : Int) : Option (Bool) := lampblackref01_IsGraph.l0 k l0 a1 l0 (l0.length : Int) 0
set_option maxHeartbeats 8000000 in
set_option maxRecDepth 100000 in
theorem lampblackref01_IsGraph.calls (k : Nat) (A0 : Option Addr) (c0 : Nat) (l0 : List Int) (a1 : Int) (r : Bool) (w : World) (hr0 : Kd.C (Kd.int .i64) w A0 l0.length l0) (hc0 : l0.length ≤ c0) (h : lampblackref01_IsGraph.f k l0 a1 = some r) :
  Calls Tryd.prog 61 #[.slice A0 l0.length c0, .int .i64 a1] w fun e w' => e = .returned (.bool r) ∧ Drawn0 w w' := by
 have HR0 := Aside0.mk hr0
 have HC0 := Aside0.mk hc0
 clear hr0 hc0
 have H : (lampblackref01_IsGraph.l0 k l0 a1 l0 (l0.length : Int) 0) = some r := h
 clear h
 have H' := Aside0.mk H
 clear H
 go_enter Tryd.func61, Tryd.ntmps61
 go_wp2
 repeat (go_quiet (fail); try go_wp2)
 go_loopg [10] k (fun kq v10 w' => ∃ (x10_1 : Int), v10 = .int .i64 x10_1 ∧ Aside0 (lampblackref01_IsGraph.l0 kq l0 a1 l0 (l0.length : Int) x10_1 = some r) ∧ Aside0 (kq ≤ k) ∧ Drawn0 w w')
 case atStart => exact ⟨(0), (by first | rfl | (simp; done) | (simp [*]; done)), H', ⟨Nat.le_refl _⟩, by repeat (first | exact Drawn0.refl _ | apply Drawn0.step)⟩
 case round =>
  clear H'
  try clear p2
  obtain ⟨x10_1, rfl, HA, HK1, ⟨m1, rfl⟩⟩ := hrel
  cases gk with
  | zero => exact absurd HA.out (by simp [lampblackref01_IsGraph.l0])
  | succ k1 =>
   have H := HA.out
   clear HA
   simp only [lampblackref01_IsGraph.l0] at H
   by_cases c3 : x10_1 < (l0.length : Int)
   ·rw [if_pos c3] at H
    have c3b0 : decide (x10_1 < (l0.length : Int)) = true := decide_eq_true c3
    clear c3
    by_cases c4 : 0 ≤ x10_1
    ·rw [if_pos c4] at H
     have c4b0 : decide (0 ≤ x10_1) = true := decide_eq_true c4
     clear c4
     by_cases c5 : x10_1 < (l0.length : Int)
     ·rw [if_pos c5] at H
      have c5b0 : decide (x10_1 < (l0.length : Int)) = true := decide_eq_true c5
      clear c5
      have HC6 := Aside0.mk H
      clear H
      have p101 : 0 ≤ (x10_1 : Int) := of_decide_eq_true (by first | (with_reducible assumption) | assumption)
      have q101 : x10_1 < (l0.length : Int) := of_decide_eq_true (by first | (with_reducible assumption) | assumption)
      obtain ⟨ad101, e101, hx101_0⟩ := Kd.at_int HR0.out x10_1 p101 q101
      cases e101
      replace p101 := eq_true p101
      replace q101 := eq_true q101
      go_upto_region 4 with (fail)
      repeat (go_quiet (fail); go_upto_region 4 with (fail))
      go_cut [36] (fun v36 wc => ∃ (kq : Nat) (x36_5 : Bool), v36 = .bool x36_5 ∧ Aside0 (lampblackref01_IsGraph.j1 kq l0 a1 x10_1 (rd l0 x10_1) l0 (l0.length : Int) x10_1 x36_5 = some r) ∧ Aside0 (kq ≤ k1) ∧ Drawn0 w wc)
      case first =>
       have H := HC6.out
       clear HC6
       by_cases c7 : (l0.length : Int) > a1
       ·rw [if_pos c7] at H
        have c7b0 : decide (a1 < (l0.length : Int)) = true := decide_eq_true c7
        clear c7
        (first | rw [c7b0] | (simp only [i64_w, i32_w]; rw [c7b0]) | skip)
        have H' := Aside0.mk H
        clear H
        go_wp2
        repeat (go_quiet (fail); try go_wp2)
        go_meet
        case rel => exact ⟨_, (true), (by first | rfl | (simp; done) | (simp [*]; done)), H', ⟨by have := HK1.out; first | omega | exact Nat.le_refl _⟩, by repeat (first | exact Drawn0.refl _ | apply Drawn0.step)⟩
       ·rw [if_neg c7] at H
        have c7b0 : decide (a1 < (l0.length : Int)) = false := decide_eq_false c7
        clear c7
        (first | rw [c7b0] | (simp only [i64_w, i32_w]; rw [c7b0]) | skip)
        by_cases c8 : (rd l0 x10_1) < 0
        ·rw [if_pos c8] at H
         have c8b0 : decide ((rd l0 x10_1) < 0) = true := decide_eq_true c8
         clear c8
         have H' := Aside0.mk H
         clear H
         go_wp2
         repeat (go_quiet (fail); try go_wp2)
         go_meet
         case rel => exact ⟨_, (true), (by first | rfl | (simp; done) | (simp [*]; done)), H', ⟨by have := HK1.out; first | omega | exact Nat.le_refl _⟩, by repeat (first | exact Drawn0.refl _ | apply Drawn0.step)⟩
        ·rw [if_neg c8] at H
         have c8b0 : decide ((rd l0 x10_1) < 0) = false := decide_eq_false c8
         clear c8
         obtain ⟨ji9, hji9⟩ : ∃ j_ : Int, (shl .i64 1 (l0.length : Int)) = j_ := ⟨_, rfl⟩
         replace H : (if (rd l0 x10_1) ≥ (ji9) then (lampblackref01_IsGraph.j1 k1 l0 a1 x10_1 (rd l0 x10_1) l0 (l0.length : Int) x10_1 true) else (lampblackref01_IsGraph.j1 k1 l0 a1 x10_1 (rd l0 x10_1) l0 (l0.length : Int) x10_1 ((Go.bits .and .i64 (shr .i64 (rd l0 x10_1) x10_1) 1) == 1))) = some r := by first | (rw [hji9] at H; exact H) | (simp only [hji9] at H ⊢; exact H)
         have hji9_ : (IntKind.i64.wrap (1 * 2 ^ min (l0.length : Int).toNat 64)) = ji9 := hji9
         have hji9z : (l0.length : Int) ≤ 64 → (IntKind.i64.wrap (1 * 2 ^ (l0.length : Int).toNat)) = ji9 := shl_small hji9
         have hji9p : (IntKind.i64.wrap (1 * 2 ^ min l0.length 64)) = ji9 := hji9_
         have hji9q : (l0.length : Int) ≤ 64 → (IntKind.i64.wrap (1 * 2 ^ l0.length)) = ji9 := hji9z
         have hji9r : (IntKind.i64.wrap (2 ^ min l0.length 64)) = ji9 := by have h_ := hji9p; rw [Int.one_mul] at h_; exact h_
         have hji9s : (l0.length : Int) ≤ 64 → (IntKind.i64.wrap (2 ^ l0.length)) = ji9 := fun hle_ => by have h_ := hji9q hle_; rw [Int.one_mul] at h_; exact h_
         have hji9u : (IntKind.i64.wrap (2 ^ min (l0.length : Int).toNat 64)) = ji9 := by have h_ := hji9_; rw [Int.one_mul] at h_; exact h_
         have hji9v : (l0.length : Int) ≤ 64 → (IntKind.i64.wrap (2 ^ (l0.length : Int).toNat)) = ji9 := fun hle_ => by have h_ := hji9z hle_; rw [Int.one_mul] at h_; exact h_
         have hji9y : (wrap64 (1 * 2 ^ min (l0.length : Int).toNat 64)) = ji9 := (i64_w _).symm.trans hji9_
         have hji9x : (l0.length : Int) ≤ 64 → (wrap64 (1 * 2 ^ (l0.length : Int).toNat)) = ji9 := fun h_ => (i64_w _).symm.trans (hji9z h_)
         by_cases c10 : (rd l0 x10_1) ≥ (ji9)
         ·rw [if_pos c10] at H
          have c10b0 : decide ((ji9) ≤ (rd l0 x10_1)) = true := decide_eq_true c10
          clear c10
          have H' := Aside0.mk H
          clear H
          go_wp2
          repeat (go_quiet (fail); try go_wp2)
          go_meet
          case rel => exact ⟨_, (true), (by first | rfl | (simp; done) | (simp [*]; done)), H', ⟨by have := HK1.out; first | omega | exact Nat.le_refl _⟩, by repeat (first | exact Drawn0.refl _ | apply Drawn0.step)⟩
         ·rw [if_neg c10] at H
          have c10b0 : decide ((ji9) ≤ (rd l0 x10_1)) = false := decide_eq_false c10
          clear c10
          have c11b0 := eq_true (of_decide_eq_true (by first | (with_reducible assumption) | assumption) : 0 ≤ x10_1)
          obtain ⟨ji12, hji12⟩ : ∃ j_ : Int, (shr .i64 (rd l0 x10_1) x10_1) = j_ := ⟨_, rfl⟩
          replace H : (lampblackref01_IsGraph.j1 k1 l0 a1 x10_1 (rd l0 x10_1) l0 (l0.length : Int) x10_1 ((Go.bits .and .i64 (ji12) 1) == 1)) = some r := by first | (rw [hji12] at H; exact H) | (simp only [hji12] at H ⊢; exact H)
          have hji12_ : ((rd l0 x10_1) / 2 ^ min x10_1.toNat 64) = ji12 := hji12
          have hji12z : x10_1 ≤ 64 → ((rd l0 x10_1) / 2 ^ x10_1.toNat) = ji12 := shr_small hji12
          have H' := Aside0.mk H
          clear H
          go_wp2
          repeat (go_quiet (fail); try go_wp2)
          go_meet
          case rel => exact ⟨_, (((Go.bits .and .i64 (ji12) 1) == 1)), (by first | rfl | (simp; done) | (simp only [← hji12] <;> (first | rfl | simp)) | (simp [*]; done)), H', ⟨by have := HK1.out; first | omega | exact Nat.le_refl _⟩, by repeat (first | exact Drawn0.refl _ | apply Drawn0.step)⟩
      case rest =>
       clear HC6
       try clear c1
       try clear p1
       try clear q1
       try clear hx1
       try clear p2
       try clear c3
       try clear c3b0
       try clear c4
       try clear c4b0
       try clear c5
       try clear c5b0
       try clear c6
       try clear p6
       try clear c7
       try clear c7b0
       try clear c8
       try clear c8b0
       try clear c10
       try clear c10b0
       try clear p10
       try clear q10
       try clear hx10
       try clear c11
       try clear c11b0
       try clear hx101_0
       try clear p101
       try clear p2
       try clear q101
       obtain ⟨kq, x36_5, rfl, HA, HJ5, ⟨mc5, rfl⟩⟩ := hcut
       cases kq with
       | zero => exact absurd HA.out (by simp [lampblackref01_IsGraph.j1])
       | succ kj5 =>
        have H := HA.out
        clear HA
        simp only [lampblackref01_IsGraph.j1] at H
        by_cases c13 : x36_5 = true
        ·subst c13
         have H1 : (some false) = some r := by rw [if_pos rfl] at H; exact H
         clear H
         have H := H1
         clear H1
         obtain rfl := Option.some.inj H
         go_wp2
         repeat (go_quiet (fail); try go_wp2)
         go_ret
         exact ⟨by first | rfl | (simp; done) | (simp [*]; done), by repeat (first | exact Drawn0.refl _ | apply Drawn0.step)⟩
        ·replace c13 := Bool.eq_false_iff.mpr c13
         subst c13
         have H1 : (lampblackref01_IsGraph.l1 kj5 l0 a1 x10_1 (rd l0 x10_1) l0 (l0.length : Int) x10_1 (l0.length : Int) 0) = some r := by rw [if_neg (show ¬ (false = true) by decide)] at H; exact H
         clear H
         have H := H1
         clear H1
         have H' := Aside0.mk H
         clear H
         go_wp2
         repeat (go_quiet (fail); try go_wp2)
         go_loopg [39] kj5 (fun kq v39 w' => ∃ (x39_3 : Int), v39 = .int .i64 x39_3 ∧ Aside0 (lampblackref01_IsGraph.l1 kq l0 a1 x10_1 (rd l0 x10_1) l0 (l0.length : Int) x10_1 (l0.length : Int) x39_3 = some r) ∧ Aside0 (kq ≤ kj5) ∧ Drawn0 w w')
         case atStart => exact ⟨(0), (by first | rfl | (simp; done) | (simp [*]; done)), H', ⟨Nat.le_refl _⟩, by repeat (first | exact Drawn0.refl _ | apply Drawn0.step)⟩
         case round =>
          clear H'
          try clear c1
          try clear p1
          try clear q1
          try clear hx1
          try clear p2
          try clear c3
          try clear c3b0
          try clear c4
          try clear c4b0
          try clear c5
          try clear c5b0
          try clear c6
          try clear p6
          try clear c7
          try clear c7b0
          try clear c8
          try clear c8b0
          try clear c10
          try clear c10b0
          try clear p10
          try clear q10
          try clear hx10
          try clear c11
          try clear c11b0
          try clear c13
          try clear hx101_0
          try clear p1
          try clear p10
          try clear p101
          try clear p2
          try clear p6
          try clear q1
          try clear q10
          try clear q101
          obtain ⟨x39_3, rfl, HA, HK3, ⟨m3, rfl⟩⟩ := hrel
          cases gk with
          | zero => exact absurd HA.out (by simp [lampblackref01_IsGraph.l1])
          | succ k3 =>
           have H := HA.out
           clear HA
           simp only [lampblackref01_IsGraph.l1] at H
           by_cases c14 : x39_3 < (l0.length : Int)
           ·rw [if_pos c14] at H
            have c14b0 : decide (x39_3 < (l0.length : Int)) = true := decide_eq_true c14
            clear c14
            by_cases c15 : 0 ≤ x39_3
            ·rw [if_pos c15] at H
             have c15b0 := eq_true c15
             have c15b1 : decide (0 ≤ x39_3) = true := decide_eq_true c15
             clear c15
             obtain ⟨ji16, hji16⟩ : ∃ j_ : Int, (shr .i64 (rd l0 x10_1) x39_3) = j_ := ⟨_, rfl⟩
             replace H : (if x39_3 < (l0.length : Int) then (if 0 ≤ x10_1 then (if (Go.bits .and .i64 (ji16) 1) = (Go.bits .and .i64 (shr .i64 (rd l0 x39_3) x10_1) 1) then (lampblackref01_IsGraph.l1 k3 l0 a1 x10_1 (rd l0 x10_1) l0 (l0.length : Int) x10_1 (l0.length : Int) (wrap64 (x39_3 + 1))) else (some false)) else (none)) else (none)) = some r := by first | (rw [hji16] at H; exact H) | (simp only [hji16] at H ⊢; exact H)
             have hji16_ : ((rd l0 x10_1) / 2 ^ min x39_3.toNat 64) = ji16 := hji16
             have hji16z : x39_3 ≤ 64 → ((rd l0 x10_1) / 2 ^ x39_3.toNat) = ji16 := shr_small hji16
             by_cases c17 : x39_3 < (l0.length : Int)
             ·rw [if_pos c17] at H
              have c17b0 : decide (x39_3 < (l0.length : Int)) = true := decide_eq_true c17
              clear c17
              by_cases c18 : 0 ≤ x10_1
              ·rw [if_pos c18] at H
               have c18b0 := eq_true c18
               have c18b1 : decide (0 ≤ x10_1) = true := decide_eq_true c18
               clear c18
               obtain ⟨ji19, hji19⟩ : ∃ j_ : Int, (shr .i64 (rd l0 x39_3) x10_1) = j_ := ⟨_, rfl⟩
               replace H : (if (Go.bits .and .i64 (ji16) 1) = (Go.bits .and .i64 (ji19) 1) then (lampblackref01_IsGraph.l1 k3 l0 a1 x10_1 (rd l0 x10_1) l0 (l0.length : Int) x10_1 (l0.length : Int) (wrap64 (x39_3 + 1))) else (some false)) = some r := by first | (rw [hji19] at H; exact H) | (simp only [hji19] at H ⊢; exact H)
               have hji19_ : ((rd l0 x39_3) / 2 ^ min x10_1.toNat 64) = ji19 := hji19
               have hji19z : x10_1 ≤ 64 → ((rd l0 x39_3) / 2 ^ x10_1.toNat) = ji19 := shr_small hji19
               by_cases c20 : (Go.bits .and .i64 (ji16) 1) = (Go.bits .and .i64 (ji19) 1)
               ·rw [if_pos c20] at H
                have c20b0 : ((Go.bits .and .i64 (ji16) 1) == (Go.bits .and .i64 (ji19) 1)) = true := beq_iff_eq.mpr c20
                have c20b1 : ((Go.bits .and .i64 (ji16) 1) != (Go.bits .and .i64 (ji19) 1)) = false := bne_eq_false_iff_eq.mpr c20
                clear c20
                have H' := Aside0.mk H
                clear H
                have p102 : 0 ≤ (x39_3 : Int) := of_decide_eq_true (by first | (with_reducible assumption) | assumption)
                have q102 : x39_3 < (l0.length : Int) := of_decide_eq_true (by first | (with_reducible assumption) | assumption)
                obtain ⟨ad102, e102, hx102_0⟩ := Kd.at_int HR0.out x39_3 p102 q102
                obtain rfl : ad101 = ad102 := (by injection e102)
                replace p102 := eq_true p102
                replace q102 := eq_true q102
                go_wp2
                repeat (go_quiet (fail); try go_wp2)
                go_roundg k3
                case measure => have := HK1.out; have := HJ5.out; have := HK3.out; omega
                case rel => exact ⟨(wrap64 (x39_3 + 1)), (by first | rfl | (simp; done) | (simp [*]; done)), H', ⟨by have := HK1.out; have := HJ5.out; have := HK3.out; omega⟩, by repeat (first | exact Drawn0.refl _ | apply Drawn0.step)⟩
               ·rw [if_neg c20] at H
                have c20b0 : ((Go.bits .and .i64 (ji16) 1) == (Go.bits .and .i64 (ji19) 1)) = false := beq_eq_false_iff_ne.mpr c20
                have c20b1 : ((Go.bits .and .i64 (ji16) 1) != (Go.bits .and .i64 (ji19) 1)) = true := bne_iff_ne.mpr c20
                obtain rfl := Option.some.inj H
                have p102 : 0 ≤ (x39_3 : Int) := of_decide_eq_true (by first | (with_reducible assumption) | assumption)
                have q102 : x39_3 < (l0.length : Int) := of_decide_eq_true (by first | (with_reducible assumption) | assumption)
                obtain ⟨ad102, e102, hx102_0⟩ := Kd.at_int HR0.out x39_3 p102 q102
                obtain rfl : ad101 = ad102 := (by injection e102)
                replace p102 := eq_true p102
                replace q102 := eq_true q102
                go_wp2
                repeat (go_quiet (fail); try go_wp2)
                go_ret
                exact ⟨by first | rfl | (simp; done) | (simp only [← hji16, ← hji19] <;> (first | rfl | simp)) | (simp [*]; done), by repeat (first | exact Drawn0.refl _ | apply Drawn0.step)⟩
              ·rw [if_neg c18] at H
               exact absurd H (by simp)
             ·rw [if_neg c17] at H
              exact absurd H (by simp)
            ·rw [if_neg c15] at H
             exact absurd H (by simp)
           ·rw [if_neg c14] at H
            have c14b0 : decide (x39_3 < (l0.length : Int)) = false := decide_eq_false c14
            clear c14
            have H' := Aside0.mk H
            clear H
            go_wp2
            repeat (go_quiet (fail); try go_wp2)
            go_roundg k3
            case measure => have := HK1.out; have := HJ5.out; have := HK3.out; omega
            case rel => exact ⟨(wrap64 (x10_1 + 1)), (by first | rfl | (simp; done) | (simp [*]; done)), H', ⟨by have := HK1.out; have := HJ5.out; have := HK3.out; omega⟩, by repeat (first | exact Drawn0.refl _ | apply Drawn0.step)⟩
     ·rw [if_neg c5] at H
      exact absurd H (by simp)
    ·rw [if_neg c4] at H
     exact absurd H (by simp)
   ·rw [if_neg c3] at H
    have c3b0 : decide (x10_1 < (l0.length : Int)) = false := decide_eq_false c3
    clear c3
    by_cases c21 : (l0.length : Int) ≥ 1
    ·rw [if_pos c21] at H
     have c21b0 : decide (1 ≤ (l0.length : Int)) = true := decide_eq_true c21
     have c21b1 : decide (1 ≤ l0.length) = true := decide_eq_true (by omega)
     clear c21
     obtain rfl := Option.some.inj H
     go_wp2
     repeat (go_quiet (fail); try go_wp2)
     go_ret
     exact ⟨by first | rfl | (simp; done) | (simp [*]; done), by repeat (first | exact Drawn0.refl _ | apply Drawn0.step)⟩
    ·rw [if_neg c21] at H
     have c21b0 : decide (1 ≤ (l0.length : Int)) = false := decide_eq_false c21
     have c21b1 : decide (1 ≤ l0.length) = false := decide_eq_false (by omega)
     clear c21
     obtain rfl := Option.some.inj H
     go_wp2
     repeat (go_quiet (fail); try go_wp2)
     go_ret
     exact ⟨by first | rfl | (simp; done) | (simp [*]; done), by repeat (first | exact Drawn0.refl _ | apply Drawn0.step)⟩
end Go.Proofs.YtjloppfdagfpmaaDoor.X
end
section
namespace Go.Proofs.YtjloppfdagfpmaaDoor.X
open Go.RowKit YtjloppfdagfpmaaDoorW.PrintWords YtjloppfdagfpmaaDoorW.PrintLast YtjloppfdagfpmaaDoorW.PrintMore
attribute [local go_sem] max2_int min2_int max_two min_two max_three min_three max_four min_four
/-! ### lampblackref07_Valid: function 16 -/
def lampblackref07_Valid.f (k : Nat) (l0 : List Int) : Option (Bool) := (lampblackref01_IsGraph.f k l0 8).bind fun t103 => (some t103)
set_option maxHeartbeats 8000000 in
set_option maxRecDepth 100000 in
theorem lampblackref07_Valid.calls (k : Nat) (A0 : Option Addr) (c0 : Nat) (l0 : List Int) (r : Bool) (w : World) (hr0 : Kd.C (Kd.int .i64) w A0 l0.length l0) (hc0 : l0.length ≤ c0) (h : lampblackref07_Valid.f k l0 = some r) :
  Calls Tryd.prog 16 #[.slice A0 l0.length c0] w fun e w' => e = .returned (.bool r) ∧ Drawn0 w w' := by
 have HR0 := Aside0.mk hr0
 have HC0 := Aside0.mk hc0
 clear hr0 hc0
 have H : ((lampblackref01_IsGraph.f k l0 8).bind fun t103 => (some t103)) = some r := h
 clear h
 replace H := Option.bind_eq_some_iff.mp H
 obtain ⟨t103, A20, H⟩ := H
 replace H : (some t103) = some r := H
 have A2 := Aside0.mk A20
 clear A20
 obtain rfl := Option.some.inj H
 go_enter Tryd.func16, Tryd.ntmps16
 go_wp2_with (first | ((with_reducible refine gate_callee (f := 61) rfl ?_); refine goesL_ (some 4) rfl rfl Tryd.func61 (by kernel_rfl) rfl #[.slice A0 l0.length c0, .int .i64 8] rfl (Qls) ?_; (with_reducible refine (lampblackref01_IsGraph.calls k _ _ l0 8 t103 _ ?side1 ?side2 A2.out).mono ?_); (case side1 => exact Qsc HR0.out); (case side2 => exact HC0.out); rintro e w' ⟨rfl, ⟨nd, rfl⟩⟩; refine ⟨_, rfl, ?_⟩))
 go_ret
 exact ⟨by first | rfl | (simp; done) | (simp [*]; done), by repeat (first | exact Drawn0.refl _ | apply Drawn0.step)⟩
end Go.Proofs.YtjloppfdagfpmaaDoor.X
end
section
namespace Go.Proofs.YtjloppfdagfpmaaDoor.X
open Go.RowKit YtjloppfdagfpmaaDoorW.PrintWords YtjloppfdagfpmaaDoorW.PrintLast YtjloppfdagfpmaaDoorW.PrintMore
attribute [local go_sem] max2_int min2_int max_two min_two max_three min_three max_four min_four
/-! ### minor_town_crosses: function 83 -/
mutual
def minor_town_crosses.l0 : Nat → List Int → List Int → Int → List Int → Int → Int → Option (Bool)
 | 0, _, _, _, _, _, _ => none
 | k + 1, x0, x1, x5, x15, x16, x17 => if x17 < x16 then (if 0 ≤ x17 then (if x17 < (x15.length : Int) then (if 0 ≤ (rd x15 x17) then (if (rd x15 x17) < (x0.length : Int) then (if 0 ≤ x5 then (if x5 < (x1.length : Int) then (if 0 ≤ (rd x1 x5) then (if (Go.bits .and .i64 (shr .i64 (rd x0 (rd x15 x17)) (rd x1 x5)) 1) = 0 then (minor_town_crosses.l0 k x0 x1 x5 x15 x16 (wrap64 (x17 + 1))) else (minor_town_crosses.l1 k x0 x1 x5 x17 x15 x16 x17 x17 0)) else (none)) else (none)) else (none)) else (none)) else (none)) else (none)) else (none)) else (some false)
def minor_town_crosses.l1 : Nat → List Int → List Int → Int → Int → List Int → Int → Int → Int → Int → Option (Bool)
 | 0, _, _, _, _, _, _, _, _, _ => none
 | k + 1, x0, x1, x5, x6, x15, x16, x17, x33, x34 => if x34 < x33 then (minor_town_crosses.l2 k x0 x1 x5 x6 x34 (wrap64 (x6 + 1)) x15 x16 x17 x33 x34) else (minor_town_crosses.l0 k x0 x1 x5 x15 x16 (wrap64 (x17 + 1)))
def minor_town_crosses.l2 : Nat → List Int → List Int → Int → Int → Int → Int → List Int → Int → Int → Int → Int → Option (Bool)
 | 0, _, _, _, _, _, _, _, _, _, _, _ => none
 | k + 1, x0, x1, x5, x6, x8, x9, x15, x16, x17, x33, x34 => if x9 < x5 then (if 0 ≤ x8 then (if x8 < (x1.length : Int) then (if 0 ≤ (rd x1 x8) then (if (rd x1 x8) < (x0.length : Int) then (if 0 ≤ x9 then (if x9 < (x1.length : Int) then (if 0 ≤ (rd x1 x9) then (if (Go.bits .and .i64 (shr .i64 (rd x0 (rd x1 x8)) (rd x1 x9)) 1) = 1 then (some true) else (minor_town_crosses.l2 k x0 x1 x5 x6 x8 (wrap64 (x9 + 1)) x15 x16 x17 x33 x34)) else (none)) else (none)) else (none)) else (none)) else (none)) else (none)) else (none)) else (minor_town_crosses.l1 k x0 x1 x5 x6 x15 x16 x17 x33 (wrap64 (x34 + 1)))
end
def minor_town_crosses.f (k : Nat) (l0 : List Int) (l1 : List Int) : Option (Bool) := if 0 ≤ (wrap64 ((l1.length : Int) - 1)) then (if (wrap64 ((l1.length : Int) - 1)) ≤ (l1.length : Int) then (minor_town_crosses.l0 k l0 l1 (wrap64 ((l1.length : Int) - 1)) (l1.take ((wrap64 ((l1.length : Int) - 1)) : Int).toNat) ((l1.take ((wrap64 ((l1.length : Int) - 1)) : Int).toNat).length : Int) 0) else (none)) else (none)
set_option maxHeartbeats 8000000 in
set_option maxRecDepth 100000 in
theorem minor_town_crosses.calls (k : Nat) (A0 : Option Addr) (c0 : Nat) (l0 : List Int) (A1 : Option Addr) (c1 : Nat) (l1 : List Int) (r : Bool) (w : World) (hr0 : Kd.C (Kd.int .i64) w A0 l0.length l0) (hc0 : l0.length ≤ c0) (hr1 : Kd.C (Kd.int .i64) w A1 l1.length l1) (hc1 : l1.length ≤ c1) (h : minor_town_crosses.f k l0 l1 = some r) :
  Calls Tryd.prog 83 #[.slice A0 l0.length c0, .slice A1 l1.length c1] w fun e w' => e = .returned (.bool r) ∧ Drawn0 w w' := by
 have HR0 := Aside0.mk hr0
 have HC0 := Aside0.mk hc0
 clear hr0 hc0
 have HR1 := Aside0.mk hr1
 have HC1 := Aside0.mk hc1
 clear hr1 hc1
 have H : (if 0 ≤ (wrap64 ((l1.length : Int) - 1)) then (if (wrap64 ((l1.length : Int) - 1)) ≤ (l1.length : Int) then (minor_town_crosses.l0 k l0 l1 (wrap64 ((l1.length : Int) - 1)) (l1.take ((wrap64 ((l1.length : Int) - 1)) : Int).toNat) ((l1.take ((wrap64 ((l1.length : Int) - 1)) : Int).toNat).length : Int) 0) else (none)) else (none)) = some r := h
 clear h
 obtain ⟨ji3, hji3⟩ : ∃ j_ : Int, (wrap64 ((l1.length : Int) - 1)) = j_ := ⟨_, rfl⟩
 replace H : (if 0 ≤ (ji3) then (if (ji3) ≤ (l1.length : Int) then (minor_town_crosses.l0 k l0 l1 ji3 (l1.take ((ji3) : Int).toNat) ((l1.take ((ji3) : Int).toNat).length : Int) 0) else (none)) else (none)) = some r := by first | (rw [hji3] at H; exact H) | (simp only [hji3] at H ⊢; exact H)
 have hji3w : (IntKind.i64.wrap ((l1.length : Int) - 1)) = ji3 := (i64_w _).trans hji3
 by_cases c4 : 0 ≤ (ji3)
 ·rw [if_pos c4] at H
  have c4b0 := eq_true c4
  have c4b1 : decide (0 ≤ (ji3)) = true := decide_eq_true c4
  clear c4
  by_cases c5 : (ji3) ≤ (l1.length : Int)
  ·rw [if_pos c5] at H
   have c5b0 := eq_true c5
   have c5b1 : decide ((ji3) ≤ (l1.length : Int)) = true := decide_eq_true c5
   clear c5
   have H' := Aside0.mk H
   clear H
   obtain ⟨i06, hi06, _, hsz6, _⟩ := info_parts info3
   obtain ⟨hcut6, hA6, hC6⟩ := print_take_of (P := Tryd.prog) (Value.int .i64) 0 22 3 .i64 Tryd.underlying22 hi06 hsz6 A1 c1 l1 (ji3) (of_decide_eq_true (by first | (with_reducible assumption) | assumption)) (of_decide_eq_true (by first | (with_reducible assumption) | assumption)) HC1.out
   have HR521 := Aside0.mk (Kd.C_of_reads (h1 := fun _ => rfl) (hA6 _ (Kd.reads_of_C HR1.out)))
   have HC521 := Aside0.mk hC6
   clear hA6 hC6 hi06 hsz6
   generalize l1.take ((ji3) : Int).toNat = yc6 at *
   go_enter Tryd.func83, Tryd.ntmps83
   go_wp2
   repeat (go_quiet (fail); try go_wp2)
   go_loopg [17] k (fun kq v17 w' => ∃ (x17_1 : Int), v17 = .int .i64 x17_1 ∧ Aside0 (minor_town_crosses.l0 kq l0 l1 ji3 yc6 (yc6.length : Int) x17_1 = some r) ∧ Aside0 (kq ≤ k) ∧ Drawn0 w w')
   case atStart => exact ⟨(0), (by first | rfl | (simp; done) | (simp [*]; done)), H', ⟨Nat.le_refl _⟩, by repeat (first | exact Drawn0.refl _ | apply Drawn0.step)⟩
   case round =>
    clear H'
    try clear c1
    try clear p2
    try clear c4
    try clear c4b0
    try clear c4b1
    try clear c5
    try clear c5b0
    try clear c5b1
    try clear p6
    obtain ⟨x17_1, rfl, HA, HK1, ⟨m1, rfl⟩⟩ := hrel
    cases gk with
    | zero => exact absurd HA.out (by simp [minor_town_crosses.l0])
    | succ k1 =>
     have H := HA.out
     clear HA
     simp only [minor_town_crosses.l0] at H
     by_cases c7 : x17_1 < (yc6.length : Int)
     ·rw [if_pos c7] at H
      have c7b0 : decide (x17_1 < (yc6.length : Int)) = true := decide_eq_true c7
      clear c7
      by_cases c8 : 0 ≤ x17_1
      ·rw [if_pos c8] at H
       have c8b0 : decide (0 ≤ x17_1) = true := decide_eq_true c8
       clear c8
       by_cases c9 : x17_1 < (yc6.length : Int)
       ·rw [if_pos c9] at H
        have c9b0 : decide (x17_1 < (yc6.length : Int)) = true := decide_eq_true c9
        clear c9
        by_cases c10 : 0 ≤ (rd yc6 x17_1)
        ·rw [if_pos c10] at H
         have c10b0 : decide (0 ≤ (rd yc6 x17_1)) = true := decide_eq_true c10
         clear c10
         by_cases c11 : (rd yc6 x17_1) < (l0.length : Int)
         ·rw [if_pos c11] at H
          have c11b0 : decide ((rd yc6 x17_1) < (l0.length : Int)) = true := decide_eq_true c11
          clear c11
          by_cases c12 : 0 ≤ ji3
          ·rw [if_pos c12] at H
           have c12b0 : decide (0 ≤ ji3) = true := decide_eq_true c12
           clear c12
           by_cases c13 : ji3 < (l1.length : Int)
           ·rw [if_pos c13] at H
            have c13b0 : decide (ji3 < (l1.length : Int)) = true := decide_eq_true c13
            clear c13
            by_cases c14 : 0 ≤ (rd l1 ji3)
            ·rw [if_pos c14] at H
             have c14b0 := eq_true c14
             have c14b1 : decide (0 ≤ (rd l1 ji3)) = true := decide_eq_true c14
             clear c14
             obtain ⟨ji15, hji15⟩ : ∃ j_ : Int, (shr .i64 (rd l0 (rd yc6 x17_1)) (rd l1 ji3)) = j_ := ⟨_, rfl⟩
             replace H : (if (Go.bits .and .i64 (ji15) 1) = 0 then (minor_town_crosses.l0 k1 l0 l1 ji3 yc6 (yc6.length : Int) (wrap64 (x17_1 + 1))) else (minor_town_crosses.l1 k1 l0 l1 ji3 x17_1 yc6 (yc6.length : Int) x17_1 x17_1 0)) = some r := by first | (rw [hji15] at H; exact H) | (simp only [hji15] at H ⊢; exact H)
             have hji15_ : ((rd l0 (rd yc6 x17_1)) / 2 ^ min (rd l1 ji3).toNat 64) = ji15 := hji15
             have hji15z : (rd l1 ji3) ≤ 64 → ((rd l0 (rd yc6 x17_1)) / 2 ^ (rd l1 ji3).toNat) = ji15 := shr_small hji15
             by_cases c16 : (Go.bits .and .i64 (ji15) 1) = 0
             ·rw [if_pos c16] at H
              have c16b0 : ((Go.bits .and .i64 (ji15) 1) == 0) = true := beq_iff_eq.mpr c16
              have c16b1 : ((Go.bits .and .i64 (ji15) 1) != 0) = false := bne_eq_false_iff_eq.mpr c16
              clear c16
              have H' := Aside0.mk H
              clear H
              have p522 : 0 ≤ (x17_1 : Int) := of_decide_eq_true (by first | (with_reducible assumption) | assumption)
              have q522 : x17_1 < (yc6.length : Int) := of_decide_eq_true (by first | (with_reducible assumption) | assumption)
              obtain ⟨ad522, e522, hx522_0⟩ := Kd.at_int HR521.out x17_1 p522 q522
              cases e522
              replace p522 := eq_true p522
              replace q522 := eq_true q522
              have p523 : 0 ≤ ((rd yc6 x17_1) : Int) := of_decide_eq_true (by first | (with_reducible assumption) | assumption)
              have q523 : (rd yc6 x17_1) < (l0.length : Int) := of_decide_eq_true (by first | (with_reducible assumption) | assumption)
              obtain ⟨ad523, e523, hx523_0⟩ := Kd.at_int HR0.out (rd yc6 x17_1) p523 q523
              cases e523
              replace p523 := eq_true p523
              replace q523 := eq_true q523
              have p524 : 0 ≤ (ji3 : Int) := of_decide_eq_true (by first | (with_reducible assumption) | assumption)
              have q524 : ji3 < (l1.length : Int) := of_decide_eq_true (by first | (with_reducible assumption) | assumption)
              obtain ⟨ad524, e524, hx524_0⟩ := Kd.at_int HR1.out ji3 p524 q524
              obtain rfl : ad522 = ad524 := (by injection e524)
              replace p524 := eq_true p524
              replace q524 := eq_true q524
              go_wp2
              repeat (go_quiet (fail); try go_wp2)
              go_roundg k1
              case measure => have := HK1.out; omega
              case rel => exact ⟨(wrap64 (x17_1 + 1)), (by first | rfl | (simp; done) | (simp [*]; done)), H', ⟨by have := HK1.out; omega⟩, by repeat (first | exact Drawn0.refl _ | apply Drawn0.step)⟩
             ·rw [if_neg c16] at H
              have c16b0 : ((Go.bits .and .i64 (ji15) 1) == 0) = false := beq_eq_false_iff_ne.mpr c16
              have c16b1 : ((Go.bits .and .i64 (ji15) 1) != 0) = true := bne_iff_ne.mpr c16
              have H' := Aside0.mk H
              clear H
              have p522 : 0 ≤ (x17_1 : Int) := of_decide_eq_true (by first | (with_reducible assumption) | assumption)
              have q522 : x17_1 < (yc6.length : Int) := of_decide_eq_true (by first | (with_reducible assumption) | assumption)
              obtain ⟨ad522, e522, hx522_0⟩ := Kd.at_int HR521.out x17_1 p522 q522
              cases e522
              replace p522 := eq_true p522
              replace q522 := eq_true q522
              have p523 : 0 ≤ ((rd yc6 x17_1) : Int) := of_decide_eq_true (by first | (with_reducible assumption) | assumption)
              have q523 : (rd yc6 x17_1) < (l0.length : Int) := of_decide_eq_true (by first | (with_reducible assumption) | assumption)
              obtain ⟨ad523, e523, hx523_0⟩ := Kd.at_int HR0.out (rd yc6 x17_1) p523 q523
              cases e523
              replace p523 := eq_true p523
              replace q523 := eq_true q523
              have p524 : 0 ≤ (ji3 : Int) := of_decide_eq_true (by first | (with_reducible assumption) | assumption)
              have q524 : ji3 < (l1.length : Int) := of_decide_eq_true (by first | (with_reducible assumption) | assumption)
              obtain ⟨ad524, e524, hx524_0⟩ := Kd.at_int HR1.out ji3 p524 q524
              obtain rfl : ad522 = ad524 := (by injection e524)
              replace p524 := eq_true p524
              replace q524 := eq_true q524
              go_wp2
              repeat (go_quiet (fail); try go_wp2)
              go_loopg [34] k1 (fun kq v34 w' => ∃ (x34_2 : Int), v34 = .int .i64 x34_2 ∧ Aside0 (minor_town_crosses.l1 kq l0 l1 ji3 x17_1 yc6 (yc6.length : Int) x17_1 x17_1 x34_2 = some r) ∧ Aside0 (kq ≤ k1) ∧ Drawn0 w w')
              case atStart => exact ⟨(0), (by first | rfl | (simp; done) | (simp [*]; done)), H', ⟨Nat.le_refl _⟩, by repeat (first | exact Drawn0.refl _ | apply Drawn0.step)⟩
              case round =>
               clear H'
               try clear c1
               try clear p2
               try clear c4
               try clear c4b0
               try clear c4b1
               try clear c5
               try clear c5b0
               try clear c5b1
               try clear p5
               try clear q5
               try clear hx5
               try clear p6
               try clear c7
               try clear c7b0
               try clear c8
               try clear c8b0
               try clear c9
               try clear c9b0
               try clear c10
               try clear c10b0
               try clear c11
               try clear c11b0
               try clear c12
               try clear c12b0
               try clear c13
               try clear c13b0
               try clear c14
               try clear c14b0
               try clear c14b1
               try clear c16
               try clear c16b0
               try clear c16b1
               try clear hx522_0
               try clear hx523_0
               try clear hx524_0
               try clear p2
               try clear p522
               try clear p523
               try clear p524
               try clear p6
               try clear q522
               try clear q523
               try clear q524
               obtain ⟨x34_2, rfl, HA, HK2, ⟨m2, rfl⟩⟩ := hrel
               cases gk with
               | zero => exact absurd HA.out (by simp [minor_town_crosses.l1])
               | succ k2 =>
                have H := HA.out
                clear HA
                simp only [minor_town_crosses.l1] at H
                by_cases c17 : x34_2 < x17_1
                ·rw [if_pos c17] at H
                 have c17b0 : decide (x34_2 < x17_1) = true := decide_eq_true c17
                 clear c17
                 have H' := Aside0.mk H
                 clear H
                 go_wp2
                 repeat (go_quiet (fail); try go_wp2)
                 go_loopg [9] k2 (fun kq v9 w' => ∃ (x9_3 : Int), v9 = .int .i64 x9_3 ∧ Aside0 (minor_town_crosses.l2 kq l0 l1 ji3 x17_1 x34_2 x9_3 yc6 (yc6.length : Int) x17_1 x17_1 x34_2 = some r) ∧ Aside0 (kq ≤ k2) ∧ Drawn0 w w')
                 case atStart => exact ⟨(wrap64 (x17_1 + 1)), (by first | rfl | (simp; done) | (simp [*]; done)), H', ⟨Nat.le_refl _⟩, by repeat (first | exact Drawn0.refl _ | apply Drawn0.step)⟩
                 case round =>
                  clear H'
                  try clear c1
                  try clear p2
                  try clear c4
                  try clear c4b0
                  try clear c4b1
                  try clear c5
                  try clear c5b0
                  try clear c5b1
                  try clear p5
                  try clear q5
                  try clear hx5
                  try clear p6
                  try clear c7
                  try clear c7b0
                  try clear c8
                  try clear c8b0
                  try clear c9
                  try clear c9b0
                  try clear c10
                  try clear c10b0
                  try clear c11
                  try clear c11b0
                  try clear c12
                  try clear c12b0
                  try clear c13
                  try clear c13b0
                  try clear c14
                  try clear c14b0
                  try clear c14b1
                  try clear c16
                  try clear c16b0
                  try clear c16b1
                  try clear c17
                  try clear c17b0
                  try clear hx522_0
                  try clear hx523_0
                  try clear hx524_0
                  try clear p2
                  try clear p5
                  try clear p522
                  try clear p523
                  try clear p524
                  try clear p6
                  try clear q5
                  try clear q522
                  try clear q523
                  try clear q524
                  obtain ⟨x9_3, rfl, HA, HK3, ⟨m3, rfl⟩⟩ := hrel
                  cases gk with
                  | zero => exact absurd HA.out (by simp [minor_town_crosses.l2])
                  | succ k3 =>
                   have H := HA.out
                   clear HA
                   simp only [minor_town_crosses.l2] at H
                   by_cases c18 : x9_3 < ji3
                   ·rw [if_pos c18] at H
                    have c18b0 : decide (x9_3 < ji3) = true := decide_eq_true c18
                    clear c18
                    by_cases c19 : 0 ≤ x34_2
                    ·rw [if_pos c19] at H
                     have c19b0 : decide (0 ≤ x34_2) = true := decide_eq_true c19
                     clear c19
                     by_cases c20 : x34_2 < (l1.length : Int)
                     ·rw [if_pos c20] at H
                      have c20b0 : decide (x34_2 < (l1.length : Int)) = true := decide_eq_true c20
                      clear c20
                      by_cases c21 : 0 ≤ (rd l1 x34_2)
                      ·rw [if_pos c21] at H
                       have c21b0 : decide (0 ≤ (rd l1 x34_2)) = true := decide_eq_true c21
                       clear c21
                       by_cases c22 : (rd l1 x34_2) < (l0.length : Int)
                       ·rw [if_pos c22] at H
                        have c22b0 : decide ((rd l1 x34_2) < (l0.length : Int)) = true := decide_eq_true c22
                        clear c22
                        by_cases c23 : 0 ≤ x9_3
                        ·rw [if_pos c23] at H
                         have c23b0 : decide (0 ≤ x9_3) = true := decide_eq_true c23
                         clear c23
                         by_cases c24 : x9_3 < (l1.length : Int)
                         ·rw [if_pos c24] at H
                          have c24b0 : decide (x9_3 < (l1.length : Int)) = true := decide_eq_true c24
                          clear c24
                          by_cases c25 : 0 ≤ (rd l1 x9_3)
                          ·rw [if_pos c25] at H
                           have c25b0 := eq_true c25
                           have c25b1 : decide (0 ≤ (rd l1 x9_3)) = true := decide_eq_true c25
                           clear c25
                           obtain ⟨ji26, hji26⟩ : ∃ j_ : Int, (shr .i64 (rd l0 (rd l1 x34_2)) (rd l1 x9_3)) = j_ := ⟨_, rfl⟩
                           replace H : (if (Go.bits .and .i64 (ji26) 1) = 1 then (some true) else (minor_town_crosses.l2 k3 l0 l1 ji3 x17_1 x34_2 (wrap64 (x9_3 + 1)) yc6 (yc6.length : Int) x17_1 x17_1 x34_2)) = some r := by first | (rw [hji26] at H; exact H) | (simp only [hji26] at H ⊢; exact H)
                           have hji26_ : ((rd l0 (rd l1 x34_2)) / 2 ^ min (rd l1 x9_3).toNat 64) = ji26 := hji26
                           have hji26z : (rd l1 x9_3) ≤ 64 → ((rd l0 (rd l1 x34_2)) / 2 ^ (rd l1 x9_3).toNat) = ji26 := shr_small hji26
                           by_cases c27 : (Go.bits .and .i64 (ji26) 1) = 1
                           ·rw [if_pos c27] at H
                            have c27b0 : ((Go.bits .and .i64 (ji26) 1) == 1) = true := beq_iff_eq.mpr c27
                            have c27b1 : ((Go.bits .and .i64 (ji26) 1) != 1) = false := bne_eq_false_iff_eq.mpr c27
                            clear c27
                            obtain rfl := Option.some.inj H
                            have p525 : 0 ≤ (x34_2 : Int) := of_decide_eq_true (by first | (with_reducible assumption) | assumption)
                            have q525 : x34_2 < (l1.length : Int) := of_decide_eq_true (by first | (with_reducible assumption) | assumption)
                            obtain ⟨ad525, e525, hx525_0⟩ := Kd.at_int HR1.out x34_2 p525 q525
                            obtain rfl : ad522 = ad525 := (by injection e525)
                            replace p525 := eq_true p525
                            replace q525 := eq_true q525
                            have p526 : 0 ≤ ((rd l1 x34_2) : Int) := of_decide_eq_true (by first | (with_reducible assumption) | assumption)
                            have q526 : (rd l1 x34_2) < (l0.length : Int) := of_decide_eq_true (by first | (with_reducible assumption) | assumption)
                            obtain ⟨ad526, e526, hx526_0⟩ := Kd.at_int HR0.out (rd l1 x34_2) p526 q526
                            obtain rfl : ad523 = ad526 := (by injection e526)
                            replace p526 := eq_true p526
                            replace q526 := eq_true q526
                            have p527 : 0 ≤ (x9_3 : Int) := of_decide_eq_true (by first | (with_reducible assumption) | assumption)
                            have q527 : x9_3 < (l1.length : Int) := of_decide_eq_true (by first | (with_reducible assumption) | assumption)
                            obtain ⟨ad527, e527, hx527_0⟩ := Kd.at_int HR1.out x9_3 p527 q527
                            obtain rfl : ad522 = ad527 := (by injection e527)
                            replace p527 := eq_true p527
                            replace q527 := eq_true q527
                            go_wp2
                            repeat (go_quiet (fail); try go_wp2)
                            go_ret
                            exact ⟨by first | rfl | (simp; done) | (simp only [← hji3, ← hji15, ← hji26] <;> (first | rfl | simp)) | (simp [*]; done), by repeat (first | exact Drawn0.refl _ | apply Drawn0.step)⟩
                           ·rw [if_neg c27] at H
                            have c27b0 : ((Go.bits .and .i64 (ji26) 1) == 1) = false := beq_eq_false_iff_ne.mpr c27
                            have c27b1 : ((Go.bits .and .i64 (ji26) 1) != 1) = true := bne_iff_ne.mpr c27
                            have H' := Aside0.mk H
                            clear H
                            have p525 : 0 ≤ (x34_2 : Int) := of_decide_eq_true (by first | (with_reducible assumption) | assumption)
                            have q525 : x34_2 < (l1.length : Int) := of_decide_eq_true (by first | (with_reducible assumption) | assumption)
                            obtain ⟨ad525, e525, hx525_0⟩ := Kd.at_int HR1.out x34_2 p525 q525
                            obtain rfl : ad522 = ad525 := (by injection e525)
                            replace p525 := eq_true p525
                            replace q525 := eq_true q525
                            have p526 : 0 ≤ ((rd l1 x34_2) : Int) := of_decide_eq_true (by first | (with_reducible assumption) | assumption)
                            have q526 : (rd l1 x34_2) < (l0.length : Int) := of_decide_eq_true (by first | (with_reducible assumption) | assumption)
                            obtain ⟨ad526, e526, hx526_0⟩ := Kd.at_int HR0.out (rd l1 x34_2) p526 q526
                            obtain rfl : ad523 = ad526 := (by injection e526)
                            replace p526 := eq_true p526
                            replace q526 := eq_true q526
                            have p527 : 0 ≤ (x9_3 : Int) := of_decide_eq_true (by first | (with_reducible assumption) | assumption)
                            have q527 : x9_3 < (l1.length : Int) := of_decide_eq_true (by first | (with_reducible assumption) | assumption)
                            obtain ⟨ad527, e527, hx527_0⟩ := Kd.at_int HR1.out x9_3 p527 q527
                            obtain rfl : ad522 = ad527 := (by injection e527)
                            replace p527 := eq_true p527
                            replace q527 := eq_true q527
                            go_wp2
                            repeat (go_quiet (fail); try go_wp2)
                            go_roundg k3
                            case measure => have := HK1.out; have := HK2.out; have := HK3.out; omega
                            case rel => exact ⟨(wrap64 (x9_3 + 1)), (by first | rfl | (simp; done) | (simp [*]; done)), H', ⟨by have := HK1.out; have := HK2.out; have := HK3.out; omega⟩, by repeat (first | exact Drawn0.refl _ | apply Drawn0.step)⟩
                          ·rw [if_neg c25] at H
                           exact absurd H (by simp)
                         ·rw [if_neg c24] at H
                          exact absurd H (by simp)
                        ·rw [if_neg c23] at H
                         exact absurd H (by simp)
                       ·rw [if_neg c22] at H
                        exact absurd H (by simp)
                      ·rw [if_neg c21] at H
                       exact absurd H (by simp)
                     ·rw [if_neg c20] at H
                      exact absurd H (by simp)
                    ·rw [if_neg c19] at H
                     exact absurd H (by simp)
                   ·rw [if_neg c18] at H
                    have c18b0 : decide (x9_3 < ji3) = false := decide_eq_false c18
                    clear c18
                    have H' := Aside0.mk H
                    clear H
                    go_wp2
                    repeat (go_quiet (fail); try go_wp2)
                    go_roundg k3
                    case measure => have := HK1.out; have := HK2.out; have := HK3.out; omega
                    case rel => exact ⟨(wrap64 (x34_2 + 1)), (by first | rfl | (simp; done) | (simp [*]; done)), H', ⟨by have := HK1.out; have := HK2.out; have := HK3.out; omega⟩, by repeat (first | exact Drawn0.refl _ | apply Drawn0.step)⟩
                ·rw [if_neg c17] at H
                 have c17b0 : decide (x34_2 < x17_1) = false := decide_eq_false c17
                 clear c17
                 have H' := Aside0.mk H
                 clear H
                 go_wp2
                 repeat (go_quiet (fail); try go_wp2)
                 go_roundg k2
                 case measure => have := HK1.out; have := HK2.out; omega
                 case rel => exact ⟨(wrap64 (x17_1 + 1)), (by first | rfl | (simp; done) | (simp [*]; done)), H', ⟨by have := HK1.out; have := HK2.out; omega⟩, by repeat (first | exact Drawn0.refl _ | apply Drawn0.step)⟩
            ·rw [if_neg c14] at H
             exact absurd H (by simp)
           ·rw [if_neg c13] at H
            exact absurd H (by simp)
          ·rw [if_neg c12] at H
           exact absurd H (by simp)
         ·rw [if_neg c11] at H
          exact absurd H (by simp)
        ·rw [if_neg c10] at H
         exact absurd H (by simp)
       ·rw [if_neg c9] at H
        exact absurd H (by simp)
      ·rw [if_neg c8] at H
       exact absurd H (by simp)
     ·rw [if_neg c7] at H
      have c7b0 : decide (x17_1 < (yc6.length : Int)) = false := decide_eq_false c7
      clear c7
      obtain rfl := Option.some.inj H
      go_wp2
      repeat (go_quiet (fail); try go_wp2)
      go_ret
      exact ⟨by first | rfl | (simp; done) | (simp only [← hji3] <;> (first | rfl | simp)) | (simp [*]; done), by repeat (first | exact Drawn0.refl _ | apply Drawn0.step)⟩
  ·rw [if_neg c5] at H
   exact absurd H (by simp)
 ·rw [if_neg c4] at H
  exact absurd H (by simp)
end Go.Proofs.YtjloppfdagfpmaaDoor.X
end
section
namespace Go.Proofs.YtjloppfdagfpmaaDoor.X
open Go.RowKit YtjloppfdagfpmaaDoorW.PrintWords YtjloppfdagfpmaaDoorW.PrintLast YtjloppfdagfpmaaDoorW.PrintMore
attribute [local go_sem] max2_int min2_int max_two min_two max_three min_three max_four min_four
/-! ### minor_CheckOuter: function 48 -/
def minor_CheckOuter.l0 : Nat → List Int → List Int → Int → List Int → Int → Int → Option (Bool × Int)
 | 0, _, _, _, _, _, _ => none
 | k + 1, x1, x6, x8, x18, x19, x20 => if x20 < x19 then (if 0 ≤ x20 then (if x20 < (x18.length : Int) then (if (rd x18 x20) < 0 then (some (false, 0)) else (if (rd x18 x20) ≥ (x6.length : Int) then (some (false, 0)) else (if 0 ≤ (rd x18 x20) then (if (Go.bits .and .i64 (shr .i64 x8 (rd x18 x20)) 1) = 1 then (some (false, 0)) else (if 0 ≤ (wrap64 (x20 + 1)) then (if (wrap64 (x20 + 1)) ≤ (x1.length : Int) then ((minor_town_crosses.f k x6 (x1.take ((wrap64 (x20 + 1)) : Int).toNat)).bind fun t534 => (if t534 = true then (some (false, 0)) else (minor_CheckOuter.l0 k x1 x6 (Go.bits .or .i64 x8 (shl .i64 1 (rd x18 x20))) x18 x19 (wrap64 (x20 + 1))))) else (none)) else (none))) else (none)))) else (none)) else (none)) else ((minor_town_all.f x6).bind fun t535 => (some ((x8 == t535), 0)))
def minor_CheckOuter.f (k : Nat) (l0 : List Int) (l1 : List Int) : Option (Bool × Int) := (minor_read.f k l0 8).bind fun bt528 => (if bt528.2 = true then (minor_CheckOuter.l0 k l1 bt528.1 0 l1 (l1.length : Int) 0) else (some (false, 2)))
set_option maxHeartbeats 8000000 in
set_option maxRecDepth 100000 in
theorem minor_CheckOuter.calls (k : Nat) (A0 : Option Addr) (c0 : Nat) (l0 : List Int) (A1 : Option Addr) (c1 : Nat) (l1 : List Int) (r1 : Bool) (r2 : Int) (w : World) (hr0 : Kd.C (Kd.int .i64) w A0 l0.length l0) (hc0 : l0.length ≤ c0) (hr1 : Kd.C (Kd.int .i64) w A1 l1.length l1) (hc1 : l1.length ≤ c1) (h : minor_CheckOuter.f k l0 l1 = some (r1, r2)) :
  Calls Tryd.prog 48 #[.slice A0 l0.length c0, .slice A1 l1.length c1] w fun e w' => e = .returned (.tuple #[.bool r1, .int .i64 r2]) ∧ Below w.heap.size w w' := by
 have HR0 := Aside0.mk hr0
 have HC0 := Aside0.mk hc0
 clear hr0 hc0
 have HR1 := Aside0.mk hr1
 have HC1 := Aside0.mk hc1
 clear hr1 hc1
 have HB := Aside0.mk (Below.refl w.heap.size w)
 have H : ((minor_read.f k l0 8).bind fun bt528 => (if bt528.2 = true then (minor_CheckOuter.l0 k l1 bt528.1 0 l1 (l1.length : Int) 0) else (some (false, 2)))) = some (r1, r2) := h
 clear h
 replace H := Option.bind_eq_some_iff.mp H
 obtain ⟨⟨t528, t531⟩, A30, H⟩ := H
 replace H : (if t531 = true then (minor_CheckOuter.l0 k l1 t528 0 l1 (l1.length : Int) 0) else (some (false, 2))) = some (r1, r2) := H
 have A3 := Aside0.mk A30
 clear A30
 by_cases c4 : t531 = true
 ·subst c4
  have H1 : (minor_CheckOuter.l0 k l1 t528 0 l1 (l1.length : Int) 0) = some (r1, r2) := by rw [if_pos rfl] at H; exact H
  clear H
  have H := H1
  clear H1
  have H' := Aside0.mk H
  clear H
  go_enter Tryd.func48, Tryd.ntmps48
  go_wp2_with (first | ((with_reducible refine gate_callee (f := 63) rfl ?_); refine goesL_ (some 13) rfl rfl Tryd.func63 (by kernel_rfl) rfl #[.slice A0 l0.length c0, .int .i64 8] rfl (Qls) ?_; (with_reducible refine (minor_read.calls k (fun k_ => k_ < w.heap.size) _ _ l0 8 t528 true _ ?side1 A3.out).mono ?_); (case side1 => exact Kd.V_mk HC0.out (Kd.F_below (Kd.C_F (Kd.heap_int .i64) HR0.out) (Qaw))); rintro e w5 ⟨v529, rfl, ho0, hb⟩; refine ⟨_, rfl, ?_⟩; have n0_ := Aside0.mk (Kd.V_lower (Kd.V_mono (ok' := fun k_ => True) ho0 (fun k_ hk_ => trivial)) (below_size (Qaw))); have n1_ := Aside0.mk (below_step (Qaw) hb); clear HB; have HO530 := n0_; have HB := n1_; clear n0_ n1_; (try clear hb); (try clear hb2); (try clear hk); (try clear hi); (try clear ho0)))
  go_loopg [8, 20] k (fun kq v8 v20 w' => ∃ (x8_1 : Int) (x20_1 : Int), v8 = .int .i64 x8_1 ∧ v20 = .int .i64 x20_1 ∧ Aside0 (minor_CheckOuter.l0 kq l1 t528 x8_1 l1 (l1.length : Int) x20_1 = some (r1, r2)) ∧ Aside0 (kq ≤ k) ∧ Aside0 (Kd.V (Kd.int .i64) 3 w' w.heap.size (fun _ => True) v529 t528) ∧ Aside0 (Below w.heap.size w w'))
  case atStart => exact ⟨(0), (0), (by first | rfl | (simp; done) | (simp [*]; done)), (by first | rfl | (simp; done) | (simp [*]; done)), H', ⟨Nat.le_refl _⟩, ⟨by (with_reducible repeat (first | apply Kd.V_alloc | apply Kd.V_drewN | apply Kd.V_drew)); exact HO530.out⟩, ⟨by repeat (first | (with_reducible first | exact HB.out | apply below_alloc | apply pw_below_drewN | apply below_drew1) | exact HB.out)⟩⟩
  case round =>
   clear H'
   try clear c1
   try clear p2
   try clear c4
   obtain ⟨x8_1, x20_1, rfl, rfl, HA, HK1, HO_6, HB⟩ := hrel
   cases gk with
   | zero => exact absurd HA.out (by simp [minor_CheckOuter.l0])
   | succ k1 =>
    have H := HA.out
    clear HA
    simp only [minor_CheckOuter.l0] at H
    by_cases c6 : x20_1 < (l1.length : Int)
    ·rw [if_pos c6] at H
     have c6b0 : decide (x20_1 < (l1.length : Int)) = true := decide_eq_true c6
     clear c6
     by_cases c7 : 0 ≤ x20_1
     ·rw [if_pos c7] at H
      have c7b0 : decide (0 ≤ x20_1) = true := decide_eq_true c7
      clear c7
      by_cases c8 : x20_1 < (l1.length : Int)
      ·rw [if_pos c8] at H
       have c8b0 : decide (x20_1 < (l1.length : Int)) = true := decide_eq_true c8
       clear c8
       by_cases c9 : (rd l1 x20_1) < 0
       ·rw [if_pos c9] at H
        have c9b0 : decide ((rd l1 x20_1) < 0) = true := decide_eq_true c9
        clear c9
        simp only [Option.some.injEq, Prod.mk.injEq] at H
        obtain ⟨rfl, rfl⟩ := H
        have p532 : 0 ≤ (x20_1 : Int) := of_decide_eq_true (by first | (with_reducible assumption) | assumption)
        have q532 : x20_1 < (l1.length : Int) := of_decide_eq_true (by first | (with_reducible assumption) | assumption)
        obtain ⟨ad532, e532, hx532_0⟩ := Kd.at_int HR1.out x20_1 p532 q532
        cases e532
        replace hx532_0 := (HB.out.cell (World.block_lt_of_cell? w _ hx532_0)).trans hx532_0
        replace p532 := eq_true p532
        replace q532 := eq_true q532
        go_wp2
        go_ret2
        exact ⟨by first | rfl | (simp [errW_none, errW_some] <;> rfl) | (simp [*, errW_none, errW_some] <;> rfl), by repeat (first | (with_reducible first | exact HB.out | apply below_alloc | apply pw_below_drewN | apply below_drew1) | exact HB.out)⟩
       ·rw [if_neg c9] at H
        have c9b0 : decide ((rd l1 x20_1) < 0) = false := decide_eq_false c9
        clear c9
        by_cases c10 : (rd l1 x20_1) ≥ (t528.length : Int)
        ·rw [if_pos c10] at H
         have c10b0 : decide ((t528.length : Int) ≤ (rd l1 x20_1)) = true := decide_eq_true c10
         clear c10
         simp only [Option.some.injEq, Prod.mk.injEq] at H
         obtain ⟨rfl, rfl⟩ := H
         have p532 : 0 ≤ (x20_1 : Int) := of_decide_eq_true (by first | (with_reducible assumption) | assumption)
         have q532 : x20_1 < (l1.length : Int) := of_decide_eq_true (by first | (with_reducible assumption) | assumption)
         obtain ⟨ad532, e532, hx532_0⟩ := Kd.at_int HR1.out x20_1 p532 q532
         cases e532
         replace hx532_0 := (HB.out.cell (World.block_lt_of_cell? w _ hx532_0)).trans hx532_0
         replace p532 := eq_true p532
         replace q532 := eq_true q532
         obtain ⟨Ao11, co11, eo11⟩ := Kd.V_slice HO_6.out
         subst eo11
         go_wp2
         go_ret2
         exact ⟨by first | rfl | (simp [errW_none, errW_some] <;> rfl) | (simp [*, errW_none, errW_some] <;> rfl), by repeat (first | (with_reducible first | exact HB.out | apply below_alloc | apply pw_below_drewN | apply below_drew1) | exact HB.out)⟩
        ·rw [if_neg c10] at H
         have c10b0 : decide ((t528.length : Int) ≤ (rd l1 x20_1)) = false := decide_eq_false c10
         clear c10
         by_cases c12 : 0 ≤ (rd l1 x20_1)
         ·rw [if_pos c12] at H
          have c12b0 := eq_true c12
          have c12b1 : decide (0 ≤ (rd l1 x20_1)) = true := decide_eq_true c12
          clear c12
          obtain ⟨ji13, hji13⟩ : ∃ j_ : Int, (shr .i64 x8_1 (rd l1 x20_1)) = j_ := ⟨_, rfl⟩
          replace H : (if (Go.bits .and .i64 (ji13) 1) = 1 then (some (false, 0)) else (if 0 ≤ (wrap64 (x20_1 + 1)) then (if (wrap64 (x20_1 + 1)) ≤ (l1.length : Int) then ((minor_town_crosses.f k1 t528 (l1.take ((wrap64 (x20_1 + 1)) : Int).toNat)).bind fun t534 => (if t534 = true then (some (false, 0)) else (minor_CheckOuter.l0 k1 l1 t528 (Go.bits .or .i64 x8_1 (shl .i64 1 (rd l1 x20_1))) l1 (l1.length : Int) (wrap64 (x20_1 + 1))))) else (none)) else (none))) = some (r1, r2) := by first | (rw [hji13] at H; exact H) | (simp only [hji13] at H ⊢; exact H)
          have hji13_ : (x8_1 / 2 ^ min (rd l1 x20_1).toNat 64) = ji13 := hji13
          have hji13z : (rd l1 x20_1) ≤ 64 → (x8_1 / 2 ^ (rd l1 x20_1).toNat) = ji13 := shr_small hji13
          by_cases c14 : (Go.bits .and .i64 (ji13) 1) = 1
          ·rw [if_pos c14] at H
           have c14b0 : ((Go.bits .and .i64 (ji13) 1) == 1) = true := beq_iff_eq.mpr c14
           have c14b1 : ((Go.bits .and .i64 (ji13) 1) != 1) = false := bne_eq_false_iff_eq.mpr c14
           clear c14
           simp only [Option.some.injEq, Prod.mk.injEq] at H
           obtain ⟨rfl, rfl⟩ := H
           have p532 : 0 ≤ (x20_1 : Int) := of_decide_eq_true (by first | (with_reducible assumption) | assumption)
           have q532 : x20_1 < (l1.length : Int) := of_decide_eq_true (by first | (with_reducible assumption) | assumption)
           obtain ⟨ad532, e532, hx532_0⟩ := Kd.at_int HR1.out x20_1 p532 q532
           cases e532
           replace hx532_0 := (HB.out.cell (World.block_lt_of_cell? w _ hx532_0)).trans hx532_0
           replace p532 := eq_true p532
           replace q532 := eq_true q532
           obtain ⟨Ao15, co15, eo15⟩ := Kd.V_slice HO_6.out
           subst eo15
           go_wp2
           go_ret2
           exact ⟨by first | rfl | (simp [errW_none, errW_some] <;> rfl) | (simp only [← hji13]; first | rfl | (simp [errW_none, errW_some] <;> rfl)) | (simp [*, errW_none, errW_some] <;> rfl), by repeat (first | (with_reducible first | exact HB.out | apply below_alloc | apply pw_below_drewN | apply below_drew1) | exact HB.out)⟩
          ·rw [if_neg c14] at H
           have c14b0 : ((Go.bits .and .i64 (ji13) 1) == 1) = false := beq_eq_false_iff_ne.mpr c14
           have c14b1 : ((Go.bits .and .i64 (ji13) 1) != 1) = true := bne_iff_ne.mpr c14
           obtain ⟨ji16, hji16⟩ : ∃ j_ : Int, (wrap64 (x20_1 + 1)) = j_ := ⟨_, rfl⟩
           replace H : (if 0 ≤ (ji16) then (if (ji16) ≤ (l1.length : Int) then ((minor_town_crosses.f k1 t528 (l1.take ((ji16) : Int).toNat)).bind fun t534 => (if t534 = true then (some (false, 0)) else (minor_CheckOuter.l0 k1 l1 t528 (Go.bits .or .i64 x8_1 (shl .i64 1 (rd l1 x20_1))) l1 (l1.length : Int) ji16))) else (none)) else (none)) = some (r1, r2) := by first | (rw [hji16] at H; exact H) | (simp only [hji16] at H ⊢; exact H)
           have hji16w : (IntKind.i64.wrap (x20_1 + 1)) = ji16 := (i64_w _).trans hji16
           by_cases c17 : 0 ≤ (ji16)
           ·rw [if_pos c17] at H
            have c17b0 := eq_true c17
            have c17b1 : decide (0 ≤ (ji16)) = true := decide_eq_true c17
            clear c17
            by_cases c18 : (ji16) ≤ (l1.length : Int)
            ·rw [if_pos c18] at H
             have c18b0 := eq_true c18
             have c18b1 : decide ((ji16) ≤ (l1.length : Int)) = true := decide_eq_true c18
             clear c18
             replace H := Option.bind_eq_some_iff.mp H
             obtain ⟨t534, A190, H⟩ := H
             replace H : (if t534 = true then (some (false, 0)) else (minor_CheckOuter.l0 k1 l1 t528 (Go.bits .or .i64 x8_1 (shl .i64 1 (rd l1 x20_1))) l1 (l1.length : Int) ji16)) = some (r1, r2) := H
             have A19 := Aside0.mk A190
             clear A190
             by_cases c20 : t534 = true
             ·subst c20
              have H1 : (some (false, 0)) = some (r1, r2) := by rw [if_pos rfl] at H; exact H
              clear H
              have H := H1
              clear H1
              simp only [Option.some.injEq, Prod.mk.injEq] at H
              obtain ⟨rfl, rfl⟩ := H
              have p532 : 0 ≤ (x20_1 : Int) := of_decide_eq_true (by first | (with_reducible assumption) | assumption)
              have q532 : x20_1 < (l1.length : Int) := of_decide_eq_true (by first | (with_reducible assumption) | assumption)
              obtain ⟨ad532, e532, hx532_0⟩ := Kd.at_int HR1.out x20_1 p532 q532
              cases e532
              replace hx532_0 := (HB.out.cell (World.block_lt_of_cell? w _ hx532_0)).trans hx532_0
              replace p532 := eq_true p532
              replace q532 := eq_true q532
              obtain ⟨Ao21, co21, eo21⟩ := Kd.V_slice HO_6.out
              subst eo21
              obtain ⟨i022, hi022, _, hsz22, _⟩ := info_parts info3
              obtain ⟨hcut22, hA22, hC22⟩ := print_take_of (P := Tryd.prog) (Value.int .i64) 0 22 3 .i64 Tryd.underlying22 hi022 hsz22 (some ad532) c1 l1 (ji16) (of_decide_eq_true (by first | (with_reducible assumption) | assumption)) (of_decide_eq_true (by first | (with_reducible assumption) | assumption)) HC1.out
              have HR533 := Aside0.mk (Kd.C_of_reads (h1 := fun _ => rfl) (hA22 _ (Kd.reads_of_C HR1.out)))
              have HC533 := Aside0.mk hC22
              clear hA22 hC22 hi022 hsz22
              generalize l1.take ((ji16) : Int).toNat = yc22 at *
              go_wp2_with (first | (go_at_call 83; (with_reducible refine (minor_town_crosses.calls k1 _ _ t528 _ _ yc22 true _ ?side1 ?side2 ?side3 ?side4 A19.out).mono ?_); (case side1 => exact Qsc (Kd.V_reads' HO_6.out).2.2); (case side2 => exact (Kd.V_reads' HO_6.out).2.1); (case side3 => exact Qsc (Kd.C_below HR533.out HB.out)); (case side4 => exact HC533.out); rintro e w' ⟨rfl, ⟨nd, rfl⟩⟩))
              go_ret2
              exact ⟨by first | rfl | (simp [errW_none, errW_some] <;> rfl) | (simp only [← hji13, ← hji16]; first | rfl | (simp [errW_none, errW_some] <;> rfl)) | (simp [*, errW_none, errW_some] <;> rfl), by repeat (first | (with_reducible first | exact HB.out | apply below_alloc | apply pw_below_drewN | apply below_drew1) | exact HB.out)⟩
             ·replace c20 := Bool.eq_false_iff.mpr c20
              subst c20
              have H1 : (minor_CheckOuter.l0 k1 l1 t528 (Go.bits .or .i64 x8_1 (shl .i64 1 (rd l1 x20_1))) l1 (l1.length : Int) ji16) = some (r1, r2) := by rw [if_neg (show ¬ (false = true) by decide)] at H; exact H
              clear H
              have H := H1
              clear H1
              have c23b0 := eq_true (of_decide_eq_true (by first | (with_reducible assumption) | assumption) : 0 ≤ (rd l1 x20_1))
              obtain ⟨ji24, hji24⟩ : ∃ j_ : Int, (shl .i64 1 (rd l1 x20_1)) = j_ := ⟨_, rfl⟩
              replace H : (minor_CheckOuter.l0 k1 l1 t528 (Go.bits .or .i64 x8_1 (ji24)) l1 (l1.length : Int) ji16) = some (r1, r2) := by first | (rw [hji24] at H; exact H) | (simp only [hji24] at H ⊢; exact H)
              (try rw [hji24] at A19)
              have hji24_ : (IntKind.i64.wrap (1 * 2 ^ min (rd l1 x20_1).toNat 64)) = ji24 := hji24
              have hji24z : (rd l1 x20_1) ≤ 64 → (IntKind.i64.wrap (1 * 2 ^ (rd l1 x20_1).toNat)) = ji24 := shl_small hji24
              have hji24u : (IntKind.i64.wrap (2 ^ min (rd l1 x20_1).toNat 64)) = ji24 := by have h_ := hji24_; rw [Int.one_mul] at h_; exact h_
              have hji24v : (rd l1 x20_1) ≤ 64 → (IntKind.i64.wrap (2 ^ (rd l1 x20_1).toNat)) = ji24 := fun hle_ => by have h_ := hji24z hle_; rw [Int.one_mul] at h_; exact h_
              have hji24y : (wrap64 (1 * 2 ^ min (rd l1 x20_1).toNat 64)) = ji24 := (i64_w _).symm.trans hji24_
              have hji24x : (rd l1 x20_1) ≤ 64 → (wrap64 (1 * 2 ^ (rd l1 x20_1).toNat)) = ji24 := fun h_ => (i64_w _).symm.trans (hji24z h_)
              have H' := Aside0.mk H
              clear H
              have p532 : 0 ≤ (x20_1 : Int) := of_decide_eq_true (by first | (with_reducible assumption) | assumption)
              have q532 : x20_1 < (l1.length : Int) := of_decide_eq_true (by first | (with_reducible assumption) | assumption)
              obtain ⟨ad532, e532, hx532_0⟩ := Kd.at_int HR1.out x20_1 p532 q532
              cases e532
              replace hx532_0 := (HB.out.cell (World.block_lt_of_cell? w _ hx532_0)).trans hx532_0
              replace p532 := eq_true p532
              replace q532 := eq_true q532
              obtain ⟨Ao25, co25, eo25⟩ := Kd.V_slice HO_6.out
              subst eo25
              obtain ⟨i026, hi026, _, hsz26, _⟩ := info_parts info3
              obtain ⟨hcut26, hA26, hC26⟩ := print_take_of (P := Tryd.prog) (Value.int .i64) 0 22 3 .i64 Tryd.underlying22 hi026 hsz26 (some ad532) c1 l1 (ji16) (of_decide_eq_true (by first | (with_reducible assumption) | assumption)) (of_decide_eq_true (by first | (with_reducible assumption) | assumption)) HC1.out
              have HR533 := Aside0.mk (Kd.C_of_reads (h1 := fun _ => rfl) (hA26 _ (Kd.reads_of_C HR1.out)))
              have HC533 := Aside0.mk hC26
              clear hA26 hC26 hi026 hsz26
              generalize l1.take ((ji16) : Int).toNat = yc26 at *
              go_wp2_with (first | (go_at_call 83; (with_reducible refine (minor_town_crosses.calls k1 _ _ t528 _ _ yc26 false _ ?side1 ?side2 ?side3 ?side4 A19.out).mono ?_); (case side1 => exact Qsc (Kd.V_reads' HO_6.out).2.2); (case side2 => exact (Kd.V_reads' HO_6.out).2.1); (case side3 => exact Qsc (Kd.C_below HR533.out HB.out)); (case side4 => exact HC533.out); rintro e w' ⟨rfl, ⟨nd, rfl⟩⟩))
              go_roundg k1
              case measure => have := HK1.out; omega
              case rel => exact ⟨(Go.bits .or .i64 x8_1 (ji24)), (ji16), (by first | rfl | (simp; done) | (simp only [← hji24] <;> (first | rfl | simp)) | (simp [*]; done)), (by first | rfl | (simp; done) | (simp only [← hji16] <;> (first | rfl | simp)) | (simp [*]; done)), H', ⟨by have := HK1.out; omega⟩, ⟨by (with_reducible repeat (first | apply Kd.V_alloc | apply Kd.V_drewN | apply Kd.V_drew)); exact HO_6.out⟩, ⟨by repeat (first | (with_reducible first | exact HB.out | apply below_alloc | apply pw_below_drewN | apply below_drew1) | exact HB.out)⟩⟩
            ·rw [if_neg c18] at H
             exact absurd H (by simp)
           ·rw [if_neg c17] at H
            exact absurd H (by simp)
         ·rw [if_neg c12] at H
          exact absurd H (by simp)
      ·rw [if_neg c8] at H
       exact absurd H (by simp)
     ·rw [if_neg c7] at H
      exact absurd H (by simp)
    ·rw [if_neg c6] at H
     have c6b0 : decide (x20_1 < (l1.length : Int)) = false := decide_eq_false c6
     clear c6
     replace H := Option.bind_eq_some_iff.mp H
     obtain ⟨t535, A270, H⟩ := H
     replace H : (some ((x8_1 == t535), 0)) = some (r1, r2) := H
     have A27 := Aside0.mk A270
     clear A270
     simp only [Option.some.injEq, Prod.mk.injEq] at H
     obtain ⟨rfl, rfl⟩ := H
     obtain ⟨Ao28, co28, eo28⟩ := Kd.V_slice HO_6.out
     subst eo28
     go_wp2_with (first | ((with_reducible refine gate_callee (f := 66) rfl ?_); refine goesL_ (some 55) rfl rfl Tryd.func66 (by kernel_rfl) rfl #[.slice Ao28 t528.length co28] rfl (Qls) ?_; (with_reducible refine (minor_town_all.calls _ _ t528 t535 _ ?side1 ?side2 A27.out).mono ?_); (case side1 => exact Qsc (Kd.V_reads' HO_6.out).2.2); (case side2 => exact (Kd.V_reads' HO_6.out).2.1); rintro e w' ⟨rfl, ⟨nd, rfl⟩⟩; refine ⟨_, rfl, ?_⟩))
     go_ret2
     exact ⟨by first | rfl | (simp [errW_none, errW_some] <;> rfl) | (simp [*, errW_none, errW_some] <;> rfl), by repeat (first | (with_reducible first | exact HB.out | apply below_alloc | apply pw_below_drewN | apply below_drew1) | exact HB.out)⟩
 ·replace c4 := Bool.eq_false_iff.mpr c4
  subst c4
  have H1 : (some (false, 2)) = some (r1, r2) := by rw [if_neg (show ¬ (false = true) by decide)] at H; exact H
  clear H
  have H := H1
  clear H1
  simp only [Option.some.injEq, Prod.mk.injEq] at H
  obtain ⟨rfl, rfl⟩ := H
  go_enter Tryd.func48, Tryd.ntmps48
  go_wp2_with (first | ((with_reducible refine gate_callee (f := 63) rfl ?_); refine goesL_ (some 13) rfl rfl Tryd.func63 (by kernel_rfl) rfl #[.slice A0 l0.length c0, .int .i64 8] rfl (Qls) ?_; (with_reducible refine (minor_read.calls k (fun k_ => k_ < w.heap.size) _ _ l0 8 t528 false _ ?side1 A3.out).mono ?_); (case side1 => exact Kd.V_mk HC0.out (Kd.F_below (Kd.C_F (Kd.heap_int .i64) HR0.out) (Qaw))); rintro e w29 ⟨v529, rfl, ho0, hb⟩; refine ⟨_, rfl, ?_⟩; have n0_ := Aside0.mk (Kd.V_lower (Kd.V_mono (ok' := fun k_ => True) ho0 (fun k_ hk_ => trivial)) (below_size (Qaw))); have n1_ := Aside0.mk (below_step (Qaw) hb); clear HB; have HO530 := n0_; have HB := n1_; clear n0_ n1_; (try clear hb); (try clear hb2); (try clear hk); (try clear hi); (try clear ho0)))
  go_ret2
  exact ⟨by first | rfl | (simp [errW_none, errW_some] <;> rfl) | (simp [*, errW_none, errW_some] <;> rfl), by repeat (first | (with_reducible first | exact HB.out | apply below_alloc | apply pw_below_drewN | apply below_drew1) | exact HB.out)⟩
end Go.Proofs.YtjloppfdagfpmaaDoor.X
end
section
namespace Go.Proofs.YtjloppfdagfpmaaDoor.X
open Go.RowKit YtjloppfdagfpmaaDoorW.PrintWords YtjloppfdagfpmaaDoorW.PrintLast YtjloppfdagfpmaaDoorW.PrintMore
attribute [local go_sem] max2_int min2_int max_two min_two max_three min_three max_four min_four
/-! ### lampblackref01_Reached: function 52 -/
mutual
def lampblackref01_Reached.l0 : Nat → List Int → Int → Int → Int → Int → Option (Int)
 | 0, _, _, _, _, _ => none
 | k + 1, x0, x1, x7, x12, x13 => if x13 < x12 then (lampblackref01_Reached.l1 k x0 x1 x7 x12 x13 (x0.length : Int) 0) else (some x7)
def lampblackref01_Reached.l1 : Nat → List Int → Int → Int → Int → Int → Int → Int → Option (Int)
 | 0, _, _, _, _, _, _, _ => none
 | k + 1, x0, x1, x7, x12, x13, x16, x17 => if x17 < x16 then (if 0 ≤ x17 then (if (Go.bits .and .i64 (shr .i64 x7 x17) 1) = 1 then (if x17 < (x0.length : Int) then (lampblackref01_Reached.l1 k x0 x1 (Go.bits .or .i64 x7 (Go.bits .and .i64 (rd x0 x17) x1)) x12 x13 x16 (wrap64 (x17 + 1))) else (none)) else (lampblackref01_Reached.l1 k x0 x1 x7 x12 x13 x16 (wrap64 (x17 + 1)))) else (none)) else (lampblackref01_Reached.l0 k x0 x1 x7 x12 (wrap64 (x13 + 1)))
end
def lampblackref01_Reached.f (k : Nat) (l0 : List Int) (a1 : Int) (a2 : Int) : Option (Int) := if 0 ≤ a2 then (lampblackref01_Reached.l0 k l0 a1 (shl .i64 1 a2) (l0.length : Int) 0) else (none)
end Go.Proofs.YtjloppfdagfpmaaDoor.X
end
section
/- The references' own words: IsGraph, Reached. -/
namespace Go.Proofs.YtjloppfdagfpmaaDoor.X
open Go.RowKit YtjloppfdagfpmaaDoorW.PrintWords YtjloppfdagfpmaaDoorW.PrintLast YtjloppfdagfpmaaDoorW.PrintMore YtjloppfdagfpmaaDoor.T
theorem isGraph_l1 (m : Nat) (g : List Int) (hn : g.length ≤ 13) (i : Nat) (hi : i < g.length) (r : Bool)
  (hrest : Ev (fun k => lampblackref01_IsGraph.l0 k g (m : Int) g (g.length : Int) ((i + 1 : Nat) : Int)) r) :
  ∀ d j, j + d = g.length → Ev (fun k => lampblackref01_IsGraph.l1 k g (m : Int) (i : Int) (rd g (i : Int)) g (g.length : Int) (i : Int) (g.length : Int) (j : Int))
   (allFrom (fun j => decide (ibit (rd g (i : Int)) j = ibit (rd g (j : Int)) i)) g.length d j && r) := by
 intro d
 induction d with
 | zero =>
  intro j hj
  refine Ev.step (fun k => ?_) hrest
  rw [lampblackref01_IsGraph.l1, if_neg (by omega), wrap_succ i (by omega)]
 | succ d ih =>
  intro j hj
  simp only [allFrom]
  by_cases hb : ibit (rd g (i : Int)) j = ibit (rd g (j : Int)) i
  ·refine Ev.step (f := fun k => lampblackref01_IsGraph.l1 k g (m : Int) (i : Int) (rd g (i : Int)) g (g.length : Int) (i : Int) (g.length : Int) ((j + 1 : Nat) : Int)) (fun k => ?_) ?_
   ·rw [lampblackref01_IsGraph.l1, if_pos (by omega), if_pos (by omega), if_pos (by omega), if_pos (by omega), wrap_succ j (by omega)]
    exact if_pos hb
   ·have := ih (j + 1) (by omega)
    simpa [hb] using this
  ·refine Ev.step (f := fun _ => some false) (fun k => ?_) (Ev.some (by simp [hb]))
   rw [lampblackref01_IsGraph.l1, if_pos (by omega), if_pos (by omega), if_pos (by omega), if_pos (by omega)]
   exact if_neg hb
theorem isGraph_l0 (m : Nat) (hm : m ≤ 13) (g : List Int) (h1 : 1 ≤ g.length) (hn : g.length ≤ m) :
  ∀ d i, i + d = g.length → Ev (fun k => lampblackref01_IsGraph.l0 k g (m : Int) g (g.length : Int) (i : Int)) (allFrom (rowOk g) g.length d i) := by
 intro d
 induction d with
 | zero =>
  intro i hi
  refine Ev.step (f := fun _ => some true) (fun k => ?_) (Ev.some (by simp [allFrom]))
  rw [lampblackref01_IsGraph.l0, if_neg (by omega), if_pos (by omega), decide_eq_true (by omega)]
 | succ d ih =>
  intro i hi
  have stop : ∀ k, lampblackref01_IsGraph.j1 (k + 1) g (m : Int) (i : Int) (rd g (i : Int)) g (g.length : Int) (i : Int) true = some false := fun k => by
   rw [lampblackref01_IsGraph.j1, if_pos rfl]
  simp only [allFrom, rowOk]
  by_cases h1' : rd g (i : Int) < 0
  ·refine Ev.step (fun k => ?_) (f := fun k => lampblackref01_IsGraph.j1 k g (m : Int) (i : Int) (rd g (i : Int)) g (g.length : Int) (i : Int) true) ?_
   ·rw [lampblackref01_IsGraph.l0, if_pos (by omega), if_pos (by omega), if_pos (by omega), if_neg (by omega), if_pos h1']
   ·exact Ev.step stop (Ev.some (by simp [h1']))
  ·by_cases h2 : rd g (i : Int) ≥ shl .i64 1 (g.length : Int)
   ·refine Ev.step (fun k => ?_) (f := fun k => lampblackref01_IsGraph.j1 k g (m : Int) (i : Int) (rd g (i : Int)) g (g.length : Int) (i : Int) true) ?_
    ·rw [lampblackref01_IsGraph.l0, if_pos (by omega), if_pos (by omega), if_pos (by omega), if_neg (by omega), if_neg h1', if_pos h2]
    ·exact Ev.step stop (Ev.some (by simp [h2]))
   ·refine Ev.step (fun k => ?_) (f := fun k => lampblackref01_IsGraph.j1 k g (m : Int) (i : Int) (rd g (i : Int)) g (g.length : Int) (i : Int) (ibit (rd g (i : Int)) i == 1)) ?_
    ·rw [lampblackref01_IsGraph.l0, if_pos (by omega), if_pos (by omega), if_pos (by omega), if_neg (by omega), if_neg h1', if_neg h2]
     rfl
    ·by_cases h3 : (ibit (rd g (i : Int)) i == 1) = true
     ·simp only [h3]
      exact Ev.step stop (Ev.some (by simp))
     ·refine Ev.step (fun k => by rw [lampblackref01_IsGraph.j1, if_neg h3]) ?_
      have := isGraph_l1 m g (by omega) i (by omega) _ (ih (i + 1) (by omega)) g.length 0 (by omega)
      have h3' : (ibit (rd g (i : Int)) i == 1) = false := by simpa using h3
      simp only [h1', h2, h3', decide_false, Bool.not_false, Bool.true_and]
      exact this
theorem isGraph_ev (m : Nat) (hm : m ≤ 13) (g : List Int) (hg : g.length < 2 ^ 60) : Ev (fun k => lampblackref01_IsGraph.f k g (m : Int)) (chk m g) := by
 unfold lampblackref01_IsGraph.f
 by_cases h1 : 1 ≤ g.length
 ·by_cases h2 : g.length ≤ m
  ·have := isGraph_l0 m hm g h1 h2 g.length 0 (by omega)
   simpa [chk, h1, h2] using this
  ·refine Ev.step (f := fun k => lampblackref01_IsGraph.j1 k g (m : Int) 0 (rd g 0) g (g.length : Int) 0 true) (fun k => ?_) (Ev.step (f := fun _ => some false) (fun k => ?_) (Ev.some (by simp [chk, h2])))
   ·rw [lampblackref01_IsGraph.l0, if_pos (by omega), if_pos (by omega), if_pos (by omega), if_pos (by omega)]
   ·rw [lampblackref01_IsGraph.j1, if_pos rfl]
 ·refine Ev.step (f := fun _ => some false) (fun k => ?_) (Ev.some (by simp [chk, h1]))
  rw [lampblackref01_IsGraph.l0, if_neg (by omega), if_neg (by omega)]
end Go.Proofs.YtjloppfdagfpmaaDoor.X
end
section
namespace Go.Proofs.YtjloppfdagfpmaaDoor.X
open Go.RowKit YtjloppfdagfpmaaDoorW.PrintWords YtjloppfdagfpmaaDoorW.PrintLast YtjloppfdagfpmaaDoorW.PrintMore
attribute [local go_sem] max2_int min2_int max_two min_two max_three min_three max_four min_four
/-! ### lampblackref02_Connected: function 18 -/
mutual
def lampblackref02_Connected.j0 : Nat → List Int → Int → Bool → Option (Bool)
 | 0, _, _, _ => none
 | k + 1, x0, x1, x14 => if x14 = true then (some false) else (lampblackref02_Connected.l0 k x0 x1 0)
def lampblackref02_Connected.l0 : Nat → List Int → Int → Int → Option (Bool)
 | 0, _, _, _ => none
 | k + 1, x0, x1, x5 => if 0 ≤ x5 then (if (Go.bits .and .i64 (shr .i64 x1 x5) 1) = 0 then (lampblackref02_Connected.l0 k x0 x1 (wrap64 (x5 + 1))) else ((lampblackref01_Reached.f k x0 x1 x5).bind fun t144 => (some (t144 == x1)))) else (none)
end
end Go.Proofs.YtjloppfdagfpmaaDoor.X
end
section
namespace Go.Proofs.YtjloppfdagfpmaaDoor.X
open Go.RowKit YtjloppfdagfpmaaDoorW.PrintWords YtjloppfdagfpmaaDoorW.PrintLast YtjloppfdagfpmaaDoorW.PrintMore
attribute [local go_sem] max2_int min2_int max_two min_two max_three min_three max_four min_four
/-! ### lampblackref02_Around: function 95 -/
def lampblackref02_Around.l0 : Nat → List Int → Int → Int → Int → Int → Option (Int)
 | 0, _, _, _, _, _ => none
 | k + 1, x0, x1, x5, x8, x9 => if x9 < x8 then (if 0 ≤ x9 then (if (Go.bits .and .i64 (shr .i64 x1 x9) 1) = 1 then (if x9 < (x0.length : Int) then (lampblackref02_Around.l0 k x0 x1 (Go.bits .or .i64 x5 (rd x0 x9)) x8 (wrap64 (x9 + 1))) else (none)) else (lampblackref02_Around.l0 k x0 x1 x5 x8 (wrap64 (x9 + 1)))) else (none)) else (some x5)
def lampblackref02_Around.f (k : Nat) (l0 : List Int) (a1 : Int) : Option (Int) := lampblackref02_Around.l0 k l0 a1 0 (l0.length : Int) 0
end Go.Proofs.YtjloppfdagfpmaaDoor.X
end
section
namespace Go.Proofs.YtjloppfdagfpmaaDoor.X
open Go.RowKit YtjloppfdagfpmaaDoorW.PrintWords YtjloppfdagfpmaaDoorW.PrintLast YtjloppfdagfpmaaDoorW.PrintMore
attribute [local go_sem] max2_int min2_int max_two min_two max_three min_three max_four min_four
/-! ### lampblackref02_Size: function 39 -/
def lampblackref02_Size.l0 : Nat → Int → Int → Option (Int)
 | 0, _, _ => none
 | k + 1, x0, x3 => if x0 > 0 then (lampblackref02_Size.l0 k (Go.bits .and .i64 x0 (wrap64 (x0 - 1))) (wrap64 (x3 + 1))) else (some x3)
end Go.Proofs.YtjloppfdagfpmaaDoor.X
end
section
namespace Go.Proofs.YtjloppfdagfpmaaDoor.X
open Go.RowKit YtjloppfdagfpmaaDoorW.PrintWords YtjloppfdagfpmaaDoorW.PrintLast YtjloppfdagfpmaaDoorW.PrintMore
attribute [local go_sem] max2_int min2_int max_two min_two max_three min_three max_four min_four
/-! ### api_Graph_int_30: function 30 -/
def api_Graph_int_30.l0 : Nat → List Int → List Int → Int → Int → Option (Bool)
 | 0, _, _, _, _ => none
 | k + 1, x0, x1, x12, x13 => if x13 < x12 then (if 0 ≤ x13 then (if x13 < (x0.length : Int) then (if x13 < (x1.length : Int) then (if (rd x0 x13) = (rd x1 x13) then (api_Graph_int_30.l0 k x0 x1 x12 (wrap64 (x13 + 1))) else (some false)) else (none)) else (none)) else (none)) else (some true)
end Go.Proofs.YtjloppfdagfpmaaDoor.X
end
section
/- (minor) What the laws share: connected sets, valid graphs, patterns, beginnings, equal slices, an edge is a minor of itself. -/
namespace Go.Proofs.YtjloppfdagfpmaaDoor.X
open Go.RowKit YtjloppfdagfpmaaDoorW.PrintWords YtjloppfdagfpmaaDoorW.PrintLast YtjloppfdagfpmaaDoorW.PrintMore YtjloppfdagfpmaaDoor.T
theorem mn_nat (a b : Nat) : mn (a : Int) (b : Int) = ((min a b : Nat) : Int) := by unfold mn; split <;> omega
def low (a : Nat) : Nat := (els a 9).headD 0
theorem valid_ev (g : List Int) (hg : g.length < 2 ^ 60) : Ev (fun k => lampblackref07_Valid.f k g) (chk 8 g) := by
 unfold lampblackref07_Valid.f
 exact Ev.bind (isGraph_ev 8 (by omega) g hg) (Ev.some rfl)
theorem few_eq (g : List Int) (hg : g.length < 2 ^ 44) : ∃ h, lampblacklaw07_Few.f g = some h ∧ (chk 8 g = true → h = g) ∧ (chk 8 g = false → chk 8 h = false) ∧ h.length ≤ 12 := by
 have hm : mn (g.length : Int) 12 = ((min g.length 12 : Nat) : Int) := mn_nat g.length 12
 refine ⟨g.take (min g.length 12), ?_, ?_, ?_, ?_⟩
 ·unfold lampblacklaw07_Few.f slices_Clone_Graph.f
  simp only [hm, Int.toNat_natCast]
  rw [if_pos (by omega), if_pos (by omega)]
  simp only [Option.bind_some, List.length_nil, List.nil_append]
  rw [if_pos (by rw [List.length_take]; omega)]
  rfl
 ·intro h
  simp only [chk, Bool.and_eq_true, decide_eq_true_eq] at h
  exact List.take_of_length_le (by omega)
 ·intro h
  by_cases hl : g.length ≤ 12
  ·rw [List.take_of_length_le (by omega)]; exact h
  ·unfold chk
   have : ¬ (List.take (min g.length 12) g).length ≤ 8 := by rw [List.length_take]; omega
   rw [decide_eq_false this, Bool.and_false, Bool.false_and]
 ·rw [List.length_take]; omega
theorem equal_l0 (a b : List Int) (hl : a.length = b.length) (h40 : a.length < 2 ^ 40) : ∀ d i, i + d = a.length → Ev (fun k => slices_Equal_int_int.l0 k a b (a.length : Int) (i : Int)) (decide (a.drop i = b.drop i)) := by
 intro d
 induction d with
 | zero =>
  intro i hi
  refine Ev.step (f := fun _ => some true) (fun k => by rw [slices_Equal_int_int.l0, if_neg (by omega)]) (Ev.some ?_)
  rw [List.drop_eq_nil_of_le (by omega), List.drop_eq_nil_of_le (by omega)]
  rfl
 | succ d ih =>
  intro i hi
  have h1 : i < a.length := by omega
  have h2 : i < b.length := by omega
  have r1 : rd a (i : Int) = a[i] := by unfold rd; rw [Int.toNat_natCast, List.getD_eq_getElem?_getD, List.getElem?_eq_getElem h1]; rfl
  have r2 : rd b (i : Int) = b[i] := by unfold rd; rw [Int.toNat_natCast, List.getD_eq_getElem?_getD, List.getElem?_eq_getElem h2]; rfl
  rw [List.drop_eq_getElem_cons h1, List.drop_eq_getElem_cons h2]
  by_cases e : a[i] = b[i]
  ·refine Ev.step (f := fun k => slices_Equal_int_int.l0 k a b (a.length : Int) ((i + 1 : Nat) : Int)) (fun k => ?_) ?_
   ·rw [slices_Equal_int_int.l0, if_pos (by omega), if_pos (by omega), if_pos (by omega), if_pos (by omega), r1, r2, if_pos e, wrap_succ i (by omega)]
   ·rw [show (decide (a[i] :: a.drop (i + 1) = b[i] :: b.drop (i + 1))) = decide (a.drop (i + 1) = b.drop (i + 1)) from decide_eq_decide.2 ⟨fun h => (List.cons.inj h).2, fun h => by rw [e, h]⟩]
    exact ih (i + 1) (by omega)
  ·refine Ev.step (f := fun _ => some false) (fun k => ?_) (Ev.some (decide_eq_false fun h => e (List.cons.inj h).1).symm)
   rw [slices_Equal_int_int.l0, if_pos (by omega), if_pos (by omega), if_pos (by omega), if_pos (by omega), r1, r2, if_neg e]
theorem equal_ev (a b : List Int) (h40 : a.length < 2 ^ 40) : Ev (fun k => slices_Equal_int_int.f k a b) (decide (a = b)) := by
 unfold slices_Equal_int_int.f
 by_cases hl : a.length = b.length
 ·refine Ev.if_pos (by omega) ?_
  have := equal_l0 a b hl h40 a.length 0 (by omega)
  simpa using this
 ·exact Ev.if_neg (by omega) (Ev.some (by symm; rw [decide_eq_false_iff_not]; exact fun e => hl (by rw [e])))
theorem equal_same (a : List Int) (h40 : a.length < 2 ^ 40) : Ev (fun k => slices_Equal_int_int.f k a a) true := by
 have := equal_ev a a h40
 simpa using this
theorem awake_ev : Ev (fun k => lampblacklaw07_awake.f k) true := Ev.of (lampblacklaw07_awake.mono) (k := 40) (by decide +kernel)
end Go.Proofs.YtjloppfdagfpmaaDoor.X
end
section
/- (minor) Outer orders: crosses, CheckOuter's rounds, the reference's IsOuter. -/
namespace Go.Proofs.YtjloppfdagfpmaaDoor.X
open Go.RowKit YtjloppfdagfpmaaDoorW.PrintWords YtjloppfdagfpmaaDoorW.PrintLast YtjloppfdagfpmaaDoorW.PrintMore YtjloppfdagfpmaaDoor.T
def cr (G l : List Nat) (i j : Nat) : Bool := (G.getD (l.getD i 0) 0).testBit (l.getD j 0)
def CrossAt (G l : List Nat) (m : Nat) : Prop := ∃ i j k, i < j ∧ j < k ∧ k < m ∧ cr G l i k = true ∧ cr G l j m = true
def crossB (G l : List Nat) : Bool := (List.range (l.length - 1)).any fun k => (List.range k).any fun j => (List.range j).any fun i => cr G l i k && cr G l j (l.length - 1)
theorem crossB_iff (G l : List Nat) : crossB G l = true ↔ CrossAt G l (l.length - 1) := by
 unfold crossB
 simp only [List.any_eq_true, List.mem_range, Bool.and_eq_true]
 exact ⟨fun ⟨k, h1, j, h2, i, h3, h4, h5⟩ => ⟨i, j, k, h3, h2, h1, h4, h5⟩, fun ⟨i, j, k, h3, h2, h1, h4, h5⟩ => ⟨k, h1, j, h2, i, h3, h4, h5⟩⟩
theorem getD_in {l : List Nat} {n i : Nat} (h : ∀ x ∈ l, x < n) (hi : i < l.length) : l.getD i 0 < n := by
 rw [List.getD_eq_getElem?_getD, List.getElem?_eq_getElem hi]
 exact h _ (List.getElem_mem hi)
theorem cr_int {G l : List Nat} (hn : G.length ≤ 9) (hG : ∀ x ∈ G, x < 512) (hl : ∀ x ∈ l, x < G.length) {i j : Nat} (hi : i < l.length) (hj : j < l.length) :
  (Go.bits .and .i64 (shr .i64 (rd (gi G) (rd (gi l) (i : Int))) (rd (gi l) (j : Int))) 1 = 1 ↔ cr G l i j = true) ∧ (Go.bits .and .i64 (shr .i64 (rd (gi G) (rd (gi l) (i : Int))) (rd (gi l) (j : Int))) 1 = 0 ↔ cr G l i j = false) := by
 have h1 := getD_in hl hi
 have h2 := getD_in hl hj
 have h3 := getD_in hG h1
 rw [rd_gi l i, rd_gi l j, rd_gi G]
 exact ⟨bit_one _ _ (by omega) (by omega), bit_zero _ _ (by omega) (by omega)⟩
theorem rd_in {G l : List Nat} (hl : ∀ x ∈ l, x < G.length) {i : Nat} (hi : i < l.length) : 0 ≤ rd (gi l) (i : Int) ∧ rd (gi l) (i : Int) < ((gi G).length : Int) := by
 have h1 := getD_in hl hi
 rw [rd_gi, gi_length]
 omega
section
variable {G l : List Nat} (hn : G.length ≤ 9) (hG : ∀ x ∈ G, x < 512) (hl : ∀ x ∈ l, x < G.length) (hll : l.length ≤ 1000)
include hn hG hl hll
theorem cross_l2 (m : Nat) (hm : m < l.length) (i j : Nat) (hij : i < j) (hjm : j < m) (l15 : List Int) (x16 x17 x33 : Int) (X : Bool)
  (hyes : (∃ k, j < k ∧ k < m ∧ cr G l i k = true) → X = true)
  (hno : (∀ k, j < k → k < m → cr G l i k = false) → Ev (fun n => minor_town_crosses.l1 n (gi G) (gi l) (m : Int) (j : Int) l15 x16 x17 x33 ((i + 1 : Nat) : Int)) X) :
  ∀ d k, k + d = m → j < k → (∀ k', j < k' → k' < k → cr G l i k' = false) → Ev (fun n => minor_town_crosses.l2 n (gi G) (gi l) (m : Int) (j : Int) (i : Int) (k : Int) l15 x16 x17 x33 (i : Int)) X := by
 intro d
 induction d with
 | zero =>
  intro k hk hjk hbe
  refine Ev.step (fun n => by rw [minor_town_crosses.l2, if_neg (by omega), wrap_succ i (by omega)]) (hno fun k' h1 h2 => hbe k' h1 (by omega))
 | succ d ih =>
  intro k hk hjk hbe
  have hi1 := rd_in hl (show i < l.length by omega)
  have hk1 := rd_in hl (show k < l.length by omega)
  have hb := cr_int hn hG hl (show i < l.length by omega) (show k < l.length by omega)
  have hgl := gi_length l
  by_cases h : cr G l i k = true
  ·rw [hyes ⟨k, hjk, by omega, h⟩]
   refine Ev.step (f := fun _ => some true) (fun n => ?_) (Ev.some rfl)
   rw [minor_town_crosses.l2, if_pos (by omega), if_pos (by omega), if_pos (by omega), if_pos hi1.1, if_pos hi1.2, if_pos (by omega), if_pos (by omega), if_pos hk1.1, if_pos (hb.1.2 h)]
  ·refine Ev.step (fun n => ?_) (ih (k + 1) (by omega) (by omega) fun k' h1 h2 => ?_)
   ·rw [minor_town_crosses.l2, if_pos (by omega), if_pos (by omega), if_pos (by omega), if_pos hi1.1, if_pos hi1.2, if_pos (by omega), if_pos (by omega), if_pos hk1.1, if_neg (fun e => h (hb.1.1 e)), wrap_succ k (by omega)]
   ·by_cases e : k' = k
    ·subst e; simpa using h
    ·exact hbe k' h1 (by omega)
theorem cross_l1 (m : Nat) (hm : m < l.length) (j : Nat) (hjm : j < m) (l15 : List Int) (x16 : Int) (X : Bool)
  (hyes : (∃ i k, i < j ∧ j < k ∧ k < m ∧ cr G l i k = true) → X = true)
  (hno : (∀ i k, i < j → j < k → k < m → cr G l i k = false) → Ev (fun n => minor_town_crosses.l0 n (gi G) (gi l) (m : Int) l15 x16 ((j + 1 : Nat) : Int)) X) :
  ∀ d i, i + d = j → (∀ i' k', i' < i → j < k' → k' < m → cr G l i' k' = false) → Ev (fun n => minor_town_crosses.l1 n (gi G) (gi l) (m : Int) (j : Int) l15 x16 (j : Int) (j : Int) (i : Int)) X := by
 intro d
 induction d with
 | zero =>
  intro i hi hbe
  refine Ev.step (fun n => by rw [minor_town_crosses.l1, if_neg (by omega), wrap_succ j (by omega)]) (hno fun i' k' h1 h2 h3 => hbe i' k' (by omega) h2 h3)
 | succ d ih =>
  intro i hi hbe
  refine Ev.step (fun n => by rw [minor_town_crosses.l1, if_pos (by omega), wrap_succ j (by omega)]) ?_
  refine cross_l2 hn hG hl hll m hm i j (by omega) hjm l15 x16 _ _ X (fun ⟨k, h1, h2, h3⟩ => hyes ⟨i, k, by omega, h1, h2, h3⟩) (fun hf => ih (i + 1) (by omega) fun i' k' h1 h2 h3 => ?_) (m - (j + 1)) (j + 1) (by omega) (by omega) (fun k' h1 h2 => by omega)
  by_cases e : i' = i
  ·subst e; exact hf k' h2 h3
  ·exact hbe i' k' (by omega) h2 h3
theorem cross_l0 (m : Nat) (hm : m + 1 = l.length) : ∀ d j, j + d = m → (∀ i' j' k', i' < j' → j' < j → j' < k' → k' < m → cr G l i' k' = true → cr G l j' m = false) →
  Ev (fun n => minor_town_crosses.l0 n (gi G) (gi l) (m : Int) ((gi l).take m) (m : Int) (j : Int)) (crossB G l) := by
 intro d
 have hm1 : l.length - 1 = m := by omega
 induction d with
 | zero =>
  intro j hj hbe
  have : crossB G l = false := by
   cases hc : crossB G l
   ·rfl
   ·obtain ⟨i, j', k, h1, h2, h3, h4, h5⟩ := (crossB_iff G l).1 hc
    rw [hm1] at h3 h5
    rw [hbe i j' k h1 (by omega) h2 h3 h4] at h5
    cases h5
  rw [this]
  exact Ev.step (f := fun _ => some false) (fun n => by rw [minor_town_crosses.l0, if_neg (by omega)]) (Ev.some rfl)
 | succ d ih =>
  intro j hj hbe
  have htl : ((gi l).take m).length = m := by rw [List.length_take, gi_length]; omega
  have htk : rd ((gi l).take m) (j : Int) = rd (gi l) (j : Int) := by
   unfold rd
   rw [Int.toNat_natCast, List.getD_eq_getElem?_getD, List.getD_eq_getElem?_getD, List.getElem?_take_of_lt (by omega)]
  have hj1 := rd_in hl (show j < l.length by omega)
  have hm2 := rd_in hl (show m < l.length by omega)
  have hb := cr_int hn hG hl (show j < l.length by omega) (show m < l.length by omega)
  have hgl := gi_length l
  by_cases h : cr G l j m = true
  ·refine Ev.step (fun n => ?_) (cross_l1 hn hG hl hll m (by omega) j (by omega) ((gi l).take m) (m : Int) (crossB G l) (fun ⟨i, k, h1, h2, h3, h4⟩ => (crossB_iff G l).2 (by rw [hm1]; exact ⟨i, j, k, h1, h2, h3, h4, h⟩)) (fun hf => ih (j + 1) (by omega) fun i' j' k' h1 h2 h3 h4 h5 => ?_) j 0 (by omega) (fun _ _ h => by omega))
   ·rw [minor_town_crosses.l0, htl, htk, if_pos (by omega), if_pos (by omega), if_pos (by omega), if_pos hj1.1, if_pos hj1.2, if_pos (by omega), if_pos (by omega), if_pos hm2.1, if_neg (fun e => by have := hb.2.1 e; rw [h] at this; cases this)]
    rfl
   ·by_cases e : j' = j
    ·subst e
     rw [hf i' k' h1 h3 h4] at h5
     cases h5
    ·exact hbe i' j' k' h1 (by omega) h3 h4 h5
  ·refine Ev.step (fun n => ?_) (ih (j + 1) (by omega) fun i' j' k' h1 h2 h3 h4 h5 => ?_)
   ·rw [minor_town_crosses.l0, htl, htk, if_pos (by omega), if_pos (by omega), if_pos (by omega), if_pos hj1.1, if_pos hj1.2, if_pos (by omega), if_pos (by omega), if_pos hm2.1, if_pos (hb.2.2 (by simpa using h)), wrap_succ j (by omega)]
   ·by_cases e : j' = j
    ·subst e; simpa using h
    ·exact hbe i' j' k' h1 (by omega) h3 h4 h5
theorem crosses_ev (h0 : 0 < l.length) : Ev (fun n => minor_town_crosses.f n (gi G) (gi l)) (crossB G l) := by
 have e : wrap64 (((gi l).length : Int) - 1) = ((l.length - 1 : Nat) : Int) := by
  rw [gi_length, w64_small _ (by omega) (by omega)]; omega
 have := cross_l0 hn hG hl hll (l.length - 1) (by omega) (l.length - 1) 0 (by omega) (fun _ _ _ _ h => by omega)
 unfold minor_town_crosses.f
 rw [e, Int.toNat_natCast, gi_length]
 refine Ev.if_pos (by omega) (Ev.if_pos (by omega) ?_)
 rw [List.length_take, gi_length, Nat.min_eq_left (by omega)]
 exact this
end
def outN (G : List Nat) : Nat → List Nat → Nat → Option (List Nat)
 | 0, M, _ => some M
 | d + 1, M, left => (els left 9).findSome? fun v => if crossB G (M ++ [v]) = true then none else outN G d (M ++ [v]) (diff left (2 ^ v))
end Go.Proofs.YtjloppfdagfpmaaDoor.X
end
section
/- No triangle as a minor: width 1, fewer edges than nodes in each part; no K(4): width 2. -/
namespace Go.Proofs.YtjloppfdagfpmaaDoor.T
open Go.RowKit YtjloppfdagfpmaaDoorW.PrintWords YtjloppfdagfpmaaDoorW.PrintLast YtjloppfdagfpmaaDoorW.PrintMore
/-! Edges within a set. -/
theorem diff_tb (X v j : Nat) : (diff X (2 ^ v)).testBit j = (X.testBit j && !decide (j = v)) := by
 rw [Bool.eq_iff_iff, Bool.and_eq_true, Bool.not_eq_true', decide_eq_false_iff_not]
 have h := diff_bset X (2 ^ v) j
 rw [two_pow_bit] at h
 exact h
theorem pc_split {X v : Nat} (h : bset X v) : ∀ n, pc X n = pc (diff X (2 ^ v)) n + (if v < n then 1 else 0)
 | 0 => rfl
 | n + 1 => by
  have ih := pc_split h n
  simp only [pc]
  rw [diff_tb, ih]
  by_cases e : n = v
  ·subst e
   have : X.testBit n = true := h
   simp [this]
  ·by_cases h3 : v < n
   ·simp [e, h3, show v < n + 1 by omega]; omega
   ·simp [e, h3, show ¬ v < n + 1 by omega]
theorem diff_pc {X v n : Nat} (hv : bset X v) (hvn : v < n) : pc X n = pc (diff X (2 ^ v)) n + 1 := by rw [pc_split hv n, if_pos hvn]
end Go.Proofs.YtjloppfdagfpmaaDoor.T
end
section
/- (minor.town).outer and its closure, by hand. -/
namespace Go.Proofs.YtjloppfdagfpmaaDoor.X
open Go.RowKit YtjloppfdagfpmaaDoorW.PrintWords YtjloppfdagfpmaaDoorW.PrintLast YtjloppfdagfpmaaDoorW.PrintMore YtjloppfdagfpmaaDoor.T
attribute [local go_sem] max2_int min2_int max_two min_two max_three min_three max_four min_four
theorem goesC_ {P : Program} {ops : Array Oper} {Q : Exit → Act → World → Prop} {oi : Oper} {N : Option Tmp} {a : Act} {w : World} {K : Act → World → Prop} {f : FuncId} {fn : Func} {as_ : Array Operand} {ts : Array TypeId} (hf : P.funcs[f]? = some fn) (hname : (fn.name == "runtime.NumGoroutine") = false) (hb : fn.body.isSome = true) (args caps all : Array Value) (s : Operand)
  (hw : Region.wanted oi (yielded ops a.tmps) = true) (hN : oi.dst = N) (hop : oi.op = .call { callee := .value s, args := as_, argTypes := ts }) (hs : a.eval s = .func (.func f) #[] caps) (hargs : as_.map a.eval = args) (hall : args ++ caps = all)
  (h : Calls P f all w fun e w' => ∃ v, e = .returned v ∧ K (a.put N v) w') : if Region.wanted oi (yielded ops a.tmps) = true then Oper.wp P oi a w K Q else K (a.put N undef) w := by
 subst hall
 refine call_ f (args ++ caps) hw hN ?_ h
 have he := enters_ hf hname hb (args ++ caps) w
 unfold execOp
 simp [hop, resolve, Deferred.ofValue, invoke, hs, hargs, he]
structure Keep2 (a b : World) (l r : Option Nat) : Prop where
 os : b.os = a.os
 tape : b.tape = a.tape
 output : b.output = a.output
 size : a.heap.size ≤ b.heap.size
 block : ∀ k, k < a.heap.size → some k ≠ l → some k ≠ r → b.heap[k]? = a.heap[k]?
theorem Keep2.of_grown {a b : World} {q : Option Nat} (h : a.grownBy b q) : Keep2 a b q none := ⟨h.os, h.tape, h.output, h.size, fun k hk h1 _ => h.block k hk h1⟩
theorem Keep2.of_below {a b : World} (h : Below a.heap.size a b) (l r : Option Nat) : Keep2 a b l r := ⟨h.os, h.tape, h.output, h.size, fun k hk _ _ => h.block k hk⟩
theorem Keep2.step {a b c : World} {l r p q : Option Nat} (h : Keep2 a b l r) (k : Keep2 b c p q) (hp : ∀ j, p = some j → a.heap.size ≤ j ∨ some j = l ∨ some j = r) (hq : ∀ j, q = some j → a.heap.size ≤ j ∨ some j = l ∨ some j = r) : Keep2 a c l r :=
 ⟨k.os.trans h.os, k.tape.trans h.tape, k.output.trans h.output, Nat.le_trans h.size k.size, fun i hi h1 h2 => (k.block i (Nat.lt_of_lt_of_le hi h.size) (fun e => by rcases hp i e.symm with h3 | h3 | h3 <;> first | omega | exact h1 h3 | exact h2 h3) (fun e => by rcases hq i e.symm with h3 | h3 | h3 <;> first | omega | exact h1 h3 | exact h2 h3)).trans (h.block i hi h1 h2)⟩
def FB (s : Nat) (u v : Value) : Prop := v.ownBlock = u.ownBlock ∨ ∀ b, v.ownBlock = some b → s ≤ b
theorem FB.refl (s : Nat) (u : Value) : FB s u u := .inl rfl
theorem FB.trans {s t : Nat} {u v z : Value} (h : FB s u v) (k : FB t v z) (hst : s ≤ t) : FB s u z := by
 rcases k with k | k
 ·rcases h with h | h
  ·exact .inl (k.trans h)
  ·exact .inr fun b hb => h b (by rw [← k]; exact hb)
 ·exact .inr fun b hb => Nat.le_trans hst (k b hb)
theorem FB.row {s : Nat} {l r : Option Nat} {u v : Value} (h : FB s u v) (hr : r = u.ownBlock) : ∀ j, v.ownBlock = some j → s ≤ j ∨ some j = l ∨ some j = r := by
 intro j hj
 rcases h with h | h
 ·exact .inr (.inr (by rw [← hj, h, hr]))
 ·exact .inl (h j hj)
structure OI (W0 W : World) (lB : Nat) (M : List Nat) (v : Value) : Prop where
 blk : W.heap[lB]? = some (.cells #[v] 22 (0, 0))
 own : W.ownsRow W0.heap.size 3 1 v M.length ((gi M).map (Value.int .i64))
 grown : W0.grownBy W (some lB)
theorem OI.low {W0 W V : World} {lB : Nat} {M : List Nat} {v : Value} (h : OI W0 W lB M v) (hb : Below W.heap.size W V) : OI W0 V lB M v :=
 ⟨blk_below h.blk hb, own_kept h.own (grown_of_below hb none) (fun _ _ e => by cases e), grown_new h.grown (grown_of_below hb none) (fun _ e => by cases e)⟩
theorem OI.cell {W0 W : World} {lB : Nat} {M : List Nat} {v : Value} (h : OI W0 W lB M v) : W.cell? ⟨lB, 0, none⟩ = some v := (blk_cell h.blk 0).trans rfl
theorem OI.push {W0 W w8 : World} {lB x : Nat} {M : List Nat} {v : Value} {o : Obj} {g c : Nat} (h : OI W0 W lB M v) (hlB : lB < W0.heap.size) (hg : (W.alloc o).grownBy w8 v.ownBlock)
  (ho : w8.ownsRow W0.heap.size 3 1 (.slice (some ⟨g, 0, none⟩) (M.length + 1) c) (M.length + 1) ((gi M).map (Value.int .i64) ++ [.int .i64 (x : Int)])) :
  OI W0 (w8.setCell ⟨lB, 0, none⟩ (.slice (some ⟨g, 0, none⟩) (M.length + 1) c)) lB (M ++ [x]) (.slice (some ⟨g, 0, none⟩) (M.length + 1) c) := by
 have h1 := h.grown.size
 have hne : some lB ≠ v.ownBlock := fun e => by have := own_base2 h.own lB e.symm; omega
 have hb8 := blk_grown (blk_alloc h.blk o) hg hne
 refine ⟨?_, ?_, ?_⟩
 ·have := blk_set hb8 0 (.slice (some ⟨g, 0, none⟩) (M.length + 1) c)
  rw [this]
  rfl
 ·have e : (M ++ [x]).length = M.length + 1 := by simp
  rw [e, show (gi (M ++ [x])).map (Value.int .i64) = (gi M).map (Value.int .i64) ++ [.int .i64 (x : Int)] by simp [gi]]
  exact own_kept ho (grownBy_set w8 ⟨lB, 0, none⟩ _) (fun b hb e => by
   have := own_base2 ho b hb
   have e2 : b = lB := Option.some.inj e
   omega)
 ·refine grown_new (grown_new (grown_new h.grown (World.grownBy_alloc W o none) (fun _ e => by cases e)) hg (fun j e => .inl (own_base2 h.own j e))) (grownBy_set w8 ⟨lB, 0, none⟩ _) (fun j e => .inr e.symm)
theorem OI.pop {W0 W : World} {lB x : Nat} {M : List Nat} {g n c : Nat} (h : OI W0 W lB (M ++ [x]) (.slice (some ⟨g, 0, none⟩) n c)) (hlB : lB < W0.heap.size) (hn : n = M.length + 1) :
  OI W0 (W.setCell ⟨lB, 0, none⟩ (.slice (some ⟨g, 0, none⟩) M.length c)) lB M (.slice (some ⟨g, 0, none⟩) M.length c) := by
 subst hn
 refine ⟨?_, ?_, ?_⟩
 ·have := blk_set h.blk 0 (.slice (some ⟨g, 0, none⟩) M.length c)
  rw [this]
  rfl
 ·have h2 := h.own
  rw [show (M ++ [x]).length = M.length + 1 by simp, show (gi (M ++ [x])).map (Value.int .i64) = (gi M).map (Value.int .i64) ++ [.int .i64 (x : Int)] by simp [gi]] at h2
  have h3 := ownsRow_pop (xs := (gi M).map (Value.int .i64)) (by simp [gi]) h2
  exact own_kept h3 (grownBy_set W ⟨lB, 0, none⟩ _) (fun b hb e => by
   have := own_base2 h3 b hb
   have e2 : b = lB := Option.some.inj e
   omega)
 ·exact grown_new h.grown (grownBy_set W ⟨lB, 0, none⟩ _) (fun j e => .inr e.symm)
theorem OI.cap {W0 W : World} {lB x : Nat} {M : List Nat} {v : Value} (h : OI W0 W lB (M ++ [x]) v) : ∃ g c, v = .slice (some ⟨g, 0, none⟩) (M.length + 1) c ∧ M.length + 1 ≤ c := by
 have h2 := h.own
 rw [show (M ++ [x]).length = M.length + 1 by simp] at h2
 rcases h2.2 with ⟨_, h0⟩ | ⟨g, cap, cur, e, _, _, hc, _⟩
 ·omega
 ·exact ⟨g, cap, e, hc⟩
theorem OI.row {W0 W : World} {lB : Nat} {M : List Nat} {A : Option Addr} {c : Nat} (h : OI W0 W lB M (.slice A M.length c)) : M.length ≤ c ∧ Kd.C (Kd.int .i64) W A M.length (gi M) := by
 have hro := h.own
 have hlen : M.length = (gi M).length := (gi_length M).symm
 rw [hlen] at hro ⊢
 exact C_of_row hro
theorem diff_pcO {left v : Nat} (hv : left.testBit v = true) (hv9 : v < 9) : pc (diff left (2 ^ v)) 9 + 1 = pc left 9 := by
 rw [diff_pc (v := v) (n := 9) hv hv9]
theorem pc_none : ∀ x : Fin 512, pc x.val 9 = 0 → x.val = 0 := by decide +kernel
theorem crosses_calls {G M : List Nat} (hG : Gr 9 G) (hM : ∀ x ∈ M, x < G.length) (hM2 : M.length ≤ 1000) (h0 : 0 < M.length) (Ag : Option Addr) (cg : Nat) (hcg : G.length ≤ cg) (A : Option Addr) (c : Nat) (hc : M.length ≤ c) (w : World) (h1 : Kd.C (Kd.int .i64) w Ag (gi G).length (gi G)) (h2 : Kd.C (Kd.int .i64) w A M.length (gi M)) :
  Calls Tryd.prog 83 #[.slice Ag G.length cg, .slice A M.length c] w fun e w' => e = .returned (.bool (crossB G M)) ∧ Drawn0 w w' := by
 obtain ⟨K, hK⟩ := crosses_ev hG.most (fun x hx => by
  obtain ⟨i, hi, rfl⟩ := List.mem_iff_getElem.1 hx
  have := hG.lt i hi
  rw [List.getD_eq_getElem?_getD, List.getElem?_eq_getElem hi] at this
  exact small G hG.most this) hM hM2 h0
 have := minor_town_crosses.calls K Ag cg (gi G) A c (gi M) _ w h1 (by rw [gi_length]; exact hcg) (by rw [gi_length]; exact h2) (by rw [gi_length]; exact hc) (hK K (Nat.le_refl _))
 rw [gi_length, gi_length] at this
 exact this
set_option maxHeartbeats 16000000 in
set_option maxRecDepth 100000 in
theorem outer_grow (lB tB gB : Nat) (W0 : World) (hlB : lB < W0.heap.size) (Ag : Option Addr) (cg : Nat) (G : List Nat) (hG : Gr 9 G) (hcg : G.length ≤ cg)
  (hlow : ∀ W, W0.grownBy W (some lB) → GL W ∧ Kd.C (Kd.int .i64) W Ag (gi G).length (gi G) ∧ W.cell? ⟨tB, 0, none⟩ = some (.slice Ag G.length cg) ∧ W.cell? ⟨gB, 0, none⟩ = some (.func (.func 96) #[] #[.pointer (some ⟨lB, 0, none⟩), .pointer (some ⟨tB, 0, none⟩), .pointer (some ⟨gB, 0, none⟩)])) :
  ∀ (d : Nat) (M : List Nat) (left : Nat) (v : Value) (w : World), pc left 9 = d → left < 2 ^ G.length → (∀ x ∈ M, x < G.length) → M.length + d ≤ 100 → OI W0 w lB M v →
  Calls Tryd.prog 96 #[.int .i64 (left : Int), .pointer (some ⟨lB, 0, none⟩), .pointer (some ⟨tB, 0, none⟩), .pointer (some ⟨gB, 0, none⟩)] w fun e w' => e = .returned (.bool (outN G d M left).isSome) ∧ ∃ v', OI W0 w' lB ((outN G d M left).getD M) v' ∧ FB w.heap.size v v' ∧ Keep2 w w' (some lB) v.ownBlock := by
 intro d
 induction d with
 | zero =>
  intro M left v w hd hl hM hML hI
  have h0 : left = 0 := by
   exact pc_none ⟨left, small G hG.most hl⟩ hd
  subst h0
  have HI := Aside0.mk hI
  have HLOW := Aside0.mk hlow
  clear hI hlow hM
  go_enter Tryd.func96, Tryd.ntmps96
  go_wp2
  go_ret
  exact ⟨rfl, _, HI.out, FB.refl _ _, Keep2.of_below (Below.refl _ _) _ _⟩
 | succ d ih =>
  intro M left v w hd hl hM hML hI
  have hlne : left ≠ 0 := by
   rintro rfl
   rw [show pc 0 9 = 0 from rfl] at hd
   omega
  have hl512 := small G hG.most hl
  have hel : (els left 9).length ≤ 9 := by rw [els_length]; exact pc_le _ 9
  have hk0 : ((left : Int) == 0) = false := beq_eq_false_iff_ne.2 (by omega)
  have IH := Aside0.mk ih
  have HI := Aside0.mk hI
  have HLOW := Aside0.mk hlow
  have HM := Aside0.mk hM
  have HG := Aside0.mk hG
  have HL := Aside0.mk hl
  obtain ⟨R, hR⟩ : ∃ R, outN G (d + 1) M left = R := ⟨_, rfl⟩
  obtain ⟨F, hF⟩ : ∃ F : Nat → Option (List Nat), F = fun x => if crossB G (M ++ [x]) = true then none else outN G d (M ++ [x]) (diff left (2 ^ x)) := ⟨_, rfl⟩
  have hRF : ((els left 9).drop 0).findSome? F = R := by rw [← hR, hF]; rfl
  have HFE : Aside0 (∀ x, F x = if crossB G (M ++ [x]) = true then none else outN G d (M ++ [x]) (diff left (2 ^ x))) := ⟨fun x => by rw [hF]⟩
  have HRF := Aside0.mk hRF
  have HND : Aside0 (∀ W, Below w.heap.size w W → Calls Tryd.prog 69 #[.int .i64 (left : Int)] W fun e w' => ∃ A c, e = .returned (.slice A (els left 9).length c) ∧ (∀ V, Keep2 w' V (some lB) v.ownBlock → Kd.C (Kd.int .i64) V A (els left 9).length (gi (els left 9))) ∧ Below W.heap.size W w') := ⟨fun W hW => by
   obtain ⟨K, hK⟩ := nodes_ev left hl512
   refine (minor_nodes.calls K (left : Int) _ W (HLOW.out W (HI.out.low hW).grown).1 (hK K (Nat.le_refl _))).mono ?_
   rintro e w' ⟨u, rfl, hu, hb⟩
   obtain ⟨A, c, eu, hc, hC⟩ := Kd.R_reads hu
   subst eu
   rw [gi_length] at hu
   refine ⟨A, c, by rw [gi_length], fun V hV => ?_, hb⟩
   have hs := HI.out.grown.size
   have hs2 := hW.size
   have h3 := Kd.R_step (w1 := V) (Kd.R_bound hu) (fun k hk hk2 => hV.block k hk2 (fun e => by have := hk.2.1; have e2 := Option.some.inj e; omega) (fun e => by have := own_lt2 HI.out.own k e.symm; have := hk.2.1; omega))
   obtain ⟨A2, c2, e2, _, hC2⟩ := Kd.R_reads h3
   injection e2 with e3 e4 e5
   rw [gi_length] at hC2
   rw [e3]; exact hC2⟩
  rw [hR]
  clear hI hlow hM hG hl hF hRF hR ih hlne
  go_enter Tryd.func96, Tryd.ntmps96
  go_wp2_with (go_at_call 69; refine (HND.out _ (by repeat (first | exact Below.refl _ _ | refine pw_below_drewN ?_ _))).mono ?_; rintro e w1 ⟨An, cn, rfl, hCn, hb1⟩; have HCN := Aside0.mk hCn; have HB1 := Aside0.mk hb1; clear hCn hb1)
  go_loopg [13] (els left 9).length (fun kq v13 w' => ∃ (i : Nat) (v1 : Value), v13 = .int .i64 (i : Int) ∧ i + kq = (els left 9).length ∧ Aside0 (((els left 9).drop i).findSome? F = R) ∧ Aside0 (OI W0 w' lB M v1 ∧ FB w1.heap.size v v1 ∧ Keep2 w1 w' (some lB) v.ownBlock))
  case atStart => exact ⟨0, v, rfl, by omega, HRF, ⟨HI.out.low HB1.out, FB.refl _ _, Keep2.of_below (Below.refl _ _) _ _⟩⟩
  case round =>
   clear HRF
   obtain ⟨i, v1, rfl, hi, HA, HX⟩ := hrel
   by_cases hil : i < (els left 9).length
   ·have hi1 : ((i : Int) < ((els left 9).length : Int)) = True := eq_true (by omega)
    have hi2 : decide ((i : Int) < ((els left 9).length : Int)) = true := decide_eq_true (by omega)
    cases gk with
    | zero => omega
    | succ gi' =>
    obtain ⟨hX1, hX2, hX3⟩ := HX.out
    obtain ⟨ad, e1, hgx⟩ := Kd.at_int (HCN.out wr hX3) (i : Int) (by omega) (by omega)
    subst e1
    rw [rd_gi, Int.toNat_natCast] at hgx
    have ha := HA.out
    rw [List.drop_eq_getElem_cons hil, List.findSome?_cons] at ha
    have hxm : (els left 9)[i] ∈ els left 9 := List.getElem_mem hil
    have hxe : (els left 9).getD i 0 = (els left 9)[i] := by rw [List.getD_eq_getElem?_getD, List.getElem?_eq_getElem hil]; rfl
    rw [hxe] at hgx
    generalize (els left 9)[i] = x at *
    obtain ⟨hx9, hxb⟩ := mem_els.1 hxm
    have hxG : x < G.length := bit_lt HL.out hxb
    have HFX := Aside0.mk (HFE.out x)
    obtain ⟨A4, c4, e4⟩ := ownsRow_form2 hX1.own
    subst e4
    have hy0 : wr.cell? ⟨lB, 0, none⟩ = some (.slice A4 M.length c4) := hX1.cell
    have hgr := hX1.grown.size
    obtain ⟨N, ⟨hS1, hS2, hS3⟩, hNv⟩ := shJ x (by omega)
    have hdl : diff left (2 ^ x) < 2 ^ G.length := Nat.lt_of_le_of_lt (diff_le _ _) HL.out
    have hand : Go.bits .andNot .i64 (left : Int) N = ((diff left (2 ^ x) : Nat) : Int) := by
     rw [hNv, b_andNot _ _ (by omega) (Nat.pow_lt_pow_right (by omega) (by omega))]
    have hpc := diff_pcO hxb hx9
    have hMx : ∀ y ∈ M ++ [x], y < G.length := fun y hy => by
     rcases List.mem_append.1 hy with hy | hy
     ·exact HM.out y hy
     ·rw [List.mem_singleton.1 hy]; exact hxG
    have hMl : (M ++ [x]).length = M.length + 1 := by simp
    have HCR : Aside0 (∀ W A c, OI W0 W lB (M ++ [x]) (.slice A (M.length + 1) c) → Calls Tryd.prog 83 #[.slice Ag G.length cg, .slice A (M.length + 1) c] W fun e w' => e = .returned (.bool (crossB G (M ++ [x]))) ∧ Drawn0 W w') := ⟨fun W A c hW => by
     obtain ⟨q1, q2, q3, q4⟩ := HLOW.out W hW.grown
     rw [← hMl] at hW ⊢
     exact crosses_calls HG.out hMx (by omega) (by omega) Ag cg hcg A c hW.row.1 W q2 hW.row.2⟩
    have HREC : Aside0 (∀ W u, OI W0 W lB (M ++ [x]) u → Calls Tryd.prog 96 #[.int .i64 ((diff left (2 ^ x) : Nat) : Int), .pointer (some ⟨lB, 0, none⟩), .pointer (some ⟨tB, 0, none⟩), .pointer (some ⟨gB, 0, none⟩)] W fun e w' => e = .returned (.bool (outN G d (M ++ [x]) (diff left (2 ^ x))).isSome) ∧ ∃ v', OI W0 w' lB ((outN G d (M ++ [x]) (diff left (2 ^ x))).getD (M ++ [x])) v' ∧ FB W.heap.size u v' ∧ Keep2 W w' (some lB) u.ownBlock) := ⟨fun W u hW => IH.out (M ++ [x]) (diff left (2 ^ x)) u W (by omega) hdl hMx (by omega) hW⟩
    have HAH := Aside0.mk ha
    have HX1 := Aside0.mk hX1
    have HX2 := Aside0.mk hX2
    have HX3 := Aside0.mk hX3
    generalize diff left (2 ^ x) = left' at *
    clear ha hxm hxe HA HX hX1 hX2 hX3 hpc hdl hNv hxG hxb hMx
    obtain ⟨i3, hi3, hq0, hq1, hq2⟩ := info_parts info3
    cases hcb : crossB G (M ++ [x])
    ·rw [hcb] at HCR
     have HFY := Aside0.mk (show F x = outN G d (M ++ [x]) left' by rw [HFX.out, hcb, if_neg (by simp)])
     clear hcb HFX IH HG HM HFE HL
     cases hrec : outN G d (M ++ [x]) left' with
     | none =>
      rw [hrec] at HREC HFY
      have HA2 : Aside0 (((els left 9).drop (i + 1)).findSome? F = R) := ⟨by
       have := HAH.out
       rw [HFY.out] at this
       exact this⟩
      clear HFY HAH hrec
      go_wp2_with (at_builtin; refine wpList_append_own_at _ rfl _ _ 22 rfl W0.heap.size 3 i3 (.int .i64 0) 1 8 Tryd.underlying22 hi3 hq0 hq1 hq2 rfl (by decide) (.slice A4 M.length c4) M.length ((gi M).map (Value.int .i64)) rfl (HX1.out.own.alloc _) ⟨wr.heap.size, 0, none⟩ 1 1 [.int .i64 (x : Int)] rfl rfl (cell_one_new _ _ _) (by simp [Value.oneCell']) (by unfold maxLen; omega) (by omega) (by have := HX1.out.grown.size; simp; omega) ?_; intro v8 w8 hown8 hg8 _ hfb8; obtain ⟨g8, cap8, rfl⟩ := own_succ hown8; have hne8 : some lB ≠ (Value.slice A4 M.length c4).ownBlock := (fun e => by have := own_base2 HX1.out.own lB e.symm; omega); have hb8 := blk_grown (blk_alloc HX1.out.blk _) hg8 hne8; have hc8 : w8.cell? ⟨lB, 0, none⟩ = some (.slice A4 M.length c4) := (blk_cell hb8 0).trans rfl; have hf8 := blk_frozen hb8 0; have HX8 := Aside0.mk (HX1.out.push hlB hg8 hown8); have HG8 := Aside0.mk hg8; have HFB8 := Aside0.mk hfb8; clear hb8 hown8 hg8 hfb8)
      obtain ⟨wS, hwS⟩ : ∃ W : World, W = w8.setCell ⟨lB, 0, none⟩ (.slice (some ⟨g8, 0, none⟩) (M.length + 1) cap8) := ⟨_, rfl⟩
      rw [← hwS] at HX8
      rw [← hwS]
      have HK8 : Aside0 (Keep2 wr wS (some lB) (Value.slice A4 M.length c4).ownBlock) := ⟨((Keep2.of_below (below_alloc (Below.refl _ wr) _) (some lB) (Value.slice A4 M.length c4).ownBlock).step (Keep2.of_grown HG8.out) (fun j e => .inr (.inr e.symm)) (fun j e => by cases e)).step (by rw [hwS]; exact Keep2.of_grown (grownBy_set _ _ _)) (fun j e => .inr (.inl e.symm)) (fun j e => by cases e)⟩
      have HF8 : Aside0 (FB wr.heap.size (.slice A4 M.length c4) (.slice (some ⟨g8, 0, none⟩) (M.length + 1) cap8)) := ⟨by
       rcases HFB8.out with h | h
       ·exact .inl h
       ·exact .inr fun b' hb' => by
         have hb' := h.symm.trans hb'
         have := Option.some.inj hb'
         simp at this
         omega⟩
      obtain ⟨q1, q2, q3, q4⟩ := HLOW.out wS HX8.out.grown
      have q5 := HX8.out.cell
      have t0d : wS.drew.cell? ⟨tB, 0, none⟩ = some (.slice Ag G.length cg) := q3
      have l0d : wS.drew.cell? ⟨lB, 0, none⟩ = some (.slice (some ⟨g8, 0, none⟩) (M.length + 1) cap8) := q5
      have g0d : wS.drew.cell? ⟨gB, 0, none⟩ = some (.func (.func 96) #[] #[.pointer (some ⟨lB, 0, none⟩), .pointer (some ⟨tB, 0, none⟩), .pointer (some ⟨gB, 0, none⟩)]) := q4
      have bSd : Below wS.heap.size wS wS.drew := below_drew (Below.refl _ _)
      have CCR : Aside0 (∀ W, (W.cell? ⟨tB, 0, none⟩ = some (.slice Ag G.length cg) ∧ W.cell? ⟨lB, 0, none⟩ = some (.slice (some ⟨g8, 0, none⟩) (M.length + 1) cap8) ∧ W.cell? ⟨gB, 0, none⟩ = some (.func (.func 96) #[] #[.pointer (some ⟨lB, 0, none⟩), .pointer (some ⟨tB, 0, none⟩), .pointer (some ⟨gB, 0, none⟩)]) ∧ Below wS.heap.size wS W) → Calls Tryd.prog 83 #[.slice Ag G.length cg, .slice (some ⟨g8, 0, none⟩) (M.length + 1) cap8] W fun e w' => e = .returned (.bool false) ∧ w'.cell? ⟨tB, 0, none⟩ = some (.slice Ag G.length cg) ∧ w'.cell? ⟨lB, 0, none⟩ = some (.slice (some ⟨g8, 0, none⟩) (M.length + 1) cap8) ∧ w'.cell? ⟨gB, 0, none⟩ = some (.func (.func 96) #[] #[.pointer (some ⟨lB, 0, none⟩), .pointer (some ⟨tB, 0, none⟩), .pointer (some ⟨gB, 0, none⟩)]) ∧ Below wS.heap.size wS w') := ⟨by
       rintro W ⟨s0, s1, s2, s3⟩
       refine (HCR.out W _ _ (HX8.out.low s3)).mono ?_
       rintro e w' ⟨rfl, hdr⟩
       have hb := hdr.below
       exact ⟨rfl, (hb.cell (World.block_lt_of_cell? W _ s0)).trans s0, (hb.cell (World.block_lt_of_cell? W _ s1)).trans s1, (hb.cell (World.block_lt_of_cell? W _ s2)).trans s2, below_step s3 hb⟩⟩
      clear hwS hc8 hf8 HG8 HFB8 hy0 hgx q1 q2 q3 q4 q5
      refine start_ (n := 12) (S := fun w' => w'.cell? ⟨tB, 0, none⟩ = some (.slice Ag G.length cg) ∧ w'.cell? ⟨lB, 0, none⟩ = some (.slice (some ⟨g8, 0, none⟩) (M.length + 1) cap8) ∧ w'.cell? ⟨gB, 0, none⟩ = some (.func (.func 96) #[] #[.pointer (some ⟨lB, 0, none⟩), .pointer (some ⟨tB, 0, none⟩), .pointer (some ⟨gB, 0, none⟩)]) ∧ Below wS.heap.size wS w') (ds := [10]) (Qbz 12 0) (by kernel_rfl) rfl rfl ⟨t0d, l0d, g0d, bSd⟩ (fun hHeld => ?_)
      refine take_ (i := 0) (N := some 21) (v := ?_) (a' := ?_) (Qbz 12 1) rfl rfl (by kernel_rfl) (fun _ _ _ h => h) (Or.inl ⟨by rfl, ?_⟩) hHeld ?_ ?_
      rotate_left
      ·rintro w' ⟨s0, s1, s2, s3⟩
       go_simp
       with_reducible rfl
      rotate_left
      ·simp only [Act.put, Qp1, Qp2, Qp3, i64_w, i32_w]
       rfl
      refine take_ (i := 1) (N := some 22) (v := ?_) (a' := ?_) (Qbz 12 3) rfl rfl (by kernel_rfl) (fun _ _ _ h => h) (Or.inl ⟨by rfl, ?_⟩) hHeld ?_ ?_
      rotate_left
      ·rintro w' ⟨s0, s1, s2, s3⟩
       go_simp
       with_reducible rfl
      rotate_left
      ·simp only [Act.put, Qp1, Qp2, Qp3, i64_w, i32_w]
       rfl
      refine one_ (i := 2) (N := some 23) (Qbz 12 7) rfl rfl (by kernel_rfl) (by decide) (fun K hK => ?_)
      refine goes_ Tryd.func83 (by kernel_rfl) rfl #[.slice Ag G.length cg, .slice (some ⟨g8, 0, none⟩) (M.length + 1) cap8] (by rfl) rfl rfl (by simp only [List.map_toArray, List.map_cons, List.map_nil]; rfl) ?_
      with_reducible refine (CCR.out _ hHeld).mono ?_
      rintro e w9 ⟨rfl, k0, k1, k2, kB⟩
      refine ⟨_, rfl, ?_⟩
      refine hK.out _ _ ⟨k0, k1, k2, kB⟩ (fun hHeld => ?_)
      clear hK K
      refine norm_ (a' := ?_) ?_ ?_
      rotate_left
      ·show Act.put _ (some 23) _ = _
       simp only [Act.put, Qp1, Qp2, Qp3, i64_w, i32_w]
       rfl
      refine pure_ (i := 3) (N := some 24) (v := ?_) (a' := ?_) (Qbz 12 15) rfl rfl (by kernel_rfl) (fun _ _ _ h => h) (Or.inl ⟨by rfl, ?_⟩) ?_ ?_
      rotate_left
      ·intro w'
       go_simp
       with_reducible rfl
      rotate_left
      ·simp only [Act.put, Qp1, Qp2, Qp3, i64_w, i32_w]
       rfl
      refine pure_ (i := 4) (N := some 25) (v := ?_) (a' := ?_) (Qbz 12 31) rfl rfl (by kernel_rfl) (fun _ _ _ h => h) (Or.inl ⟨by rfl, ?_⟩) ?_ ?_
      rotate_left
      ·intro w'
       go_simp
       with_reducible rfl
      rotate_left
      ·simp only [Act.put, Qp1, Qp2, Qp3, i64_w, i32_w]
       rfl
      refine pure_ (i := 6) (N := some 27) (v := ?_) (a' := ?_) (Qbz 12 95) rfl rfl (by kernel_rfl) (fun _ _ _ h => h) (Or.inl ⟨by rfl, ?_⟩) ?_ ?_
      rotate_left
      ·intro w'
       go_simp
       with_reducible rfl
      rotate_left
      ·simp only [Act.put, Qp1, Qp2, Qp3, i64_w, i32_w]
       rfl
      refine pure_ (i := 7) (N := some 28) (v := ?_) (a' := ?_) (Qbz 12 223) rfl rfl (by kernel_rfl) (fun _ _ _ h => h) (Or.inl ⟨by rfl, ?_⟩) ?_ ?_
      rotate_left
      ·intro w'
       go_simp
       with_reducible rfl
      rotate_left
      ·simp only [Act.put, Qp1, Qp2, Qp3, i64_w, i32_w]
       rfl
      refine pure_ (i := 8) (N := some 29) (v := ?_) (a' := ?_) (Qbz 12 479) rfl rfl (by kernel_rfl) (fun _ _ _ h => h) (Or.inl ⟨by rfl, ?_⟩) ?_ ?_
      rotate_left
      ·intro w'
       go_simp
       with_reducible rfl
      rotate_left
      ·simp only [Act.put, Qp1, Qp2, Qp3, i64_w, i32_w]
       rfl
      refine pure_ (i := 9) (N := some 30) (v := ?_) (a' := ?_) (Qbz 12 991) rfl rfl (by kernel_rfl) (fun _ _ _ h => h) (Or.inl ⟨by rfl, ?_⟩) ?_ ?_
      rotate_left
      ·intro w'
       go_simp
       with_reducible rfl
      rotate_left
      ·simp only [Act.put, Qp1, Qp2, Qp3, i64_w, i32_w]
       rfl
      refine take_ (i := 5) (N := some 26) (v := ?_) (a' := ?_) (Qbz 12 1023) rfl rfl (by kernel_rfl) (fun _ _ _ h => h) (Or.inl ⟨by rfl, ?_⟩) hHeld ?_ ?_
      rotate_left
      ·rintro w' ⟨s0, s1, s2, s3⟩
       go_simp
       with_reducible rfl
      rotate_left
      ·simp only [Act.put, Qp1, Qp2, Qp3, i64_w, i32_w]
       rfl
      refine last_ (i := 10) (N := some 31) (Qbz 12 2047) rfl rfl (by kernel_rfl) (by decide) (fun K hK => ?_)
      refine goesC_ Tryd.func96 (by kernel_rfl) rfl #[.int .i64 (left' : Int)] #[.pointer (some ⟨lB, 0, none⟩), .pointer (some ⟨tB, 0, none⟩), .pointer (some ⟨gB, 0, none⟩)] #[.int .i64 (left' : Int), .pointer (some ⟨lB, 0, none⟩), .pointer (some ⟨tB, 0, none⟩), .pointer (some ⟨gB, 0, none⟩)] (.tmp 26) (by rfl) rfl rfl (by rfl) (by simp only [List.map_toArray, List.map_cons, List.map_nil]; rfl) rfl ?_
      with_reducible refine (HREC.out _ _ (HX8.out.low hHeld.2.2.2)).mono ?_
      rintro e w10 ⟨rfl, v10, hO10, hF10, hK10⟩
      have hbl10 := (World.block_lt_of_cell? w9 _ k1)
      have hS9 := kB.size
      obtain ⟨g10, c10, rfl, hcap10⟩ := hO10.cap
      have hl10 : w10.cell? ⟨lB, 0, none⟩ = some (.slice (some ⟨g10, 0, none⟩) (M.length + 1) c10) := hO10.cell
      have hf10 := blk_frozen hO10.blk 0
      have HO10 := Aside0.mk hO10
      have HF10 := Aside0.mk hF10
      have HK10 := Aside0.mk hK10
      have HB9 := Aside0.mk kB
      clear hO10 hF10 hK10 kB
      have hkc1 : decide ((M.length : Int) ≤ (c10 : Int)) = true := decide_eq_true (by omega)
      have hkc2 : ((M.length : Int) ≤ (c10 : Int)) = True := eq_true (by omega)
      refine ⟨_, rfl, ?_⟩
      refine hK.out _ _ ?_
      clear hK K
      refine norm_ (a' := ?_) ?_ ?_
      rotate_left
      ·show Act.put _ (some 31) _ = _
       simp only [Act.put, Qp1, Qp2, Qp3, i64_w, i32_w]
       rfl
      refine pure_ (i := 11) (N := some 32) (v := ?_) (a' := ?_) (Qbz 12 4095) rfl rfl (by kernel_rfl) (fun _ _ _ h => h) (Or.inl ⟨by rfl, ?_⟩) ?_ ?_
      rotate_left
      ·intro w'
       go_simp
       with_reducible rfl
      rotate_left
      ·simp only [Act.put, Qp1, Qp2, Qp3, i64_w, i32_w]
       rfl
      refine done_ (by kernel_rfl) ?_
      go_wp2
      go_roundg gi'
      case measure => omega
      case rel =>
       have k1 := HX3.out.step HK8.out (fun j e => .inr (.inl e.symm)) (FB.row HX2.out rfl)
       have k2 := k1.step (Keep2.of_below HB9.out none none) (fun j e => by cases e) (fun j e => by cases e)
       have f1 := HX2.out.trans HF8.out HX3.out.size
       have k3 := k2.step HK10.out (fun j e => .inr (.inl e.symm)) (f1.row rfl)
       have k4 := k3.step (Keep2.of_grown (grownBy_set w10 ⟨lB, 0, none⟩ (Value.slice (some ⟨g10, 0, none⟩) M.length c10))) (fun j e => .inr (.inl e.symm)) (fun j e => by cases e)
       have f2 := f1.trans HF10.out k2.size
       exact ⟨i + 1, _, by go_num, by omega, HA2, ⟨⟨HO10.out.pop hlB rfl, f2, k4⟩⟩⟩
     | some Rr =>
      rw [hrec] at HREC HFY
      have hr2 : R = some Rr := by
       have := HAH.out
       rw [HFY.out] at this
       exact this.symm
      subst hr2
      clear HFY HAH hrec
      go_wp2_with (at_builtin; refine wpList_append_own_at _ rfl _ _ 22 rfl W0.heap.size 3 i3 (.int .i64 0) 1 8 Tryd.underlying22 hi3 hq0 hq1 hq2 rfl (by decide) (.slice A4 M.length c4) M.length ((gi M).map (Value.int .i64)) rfl (HX1.out.own.alloc _) ⟨wr.heap.size, 0, none⟩ 1 1 [.int .i64 (x : Int)] rfl rfl (cell_one_new _ _ _) (by simp [Value.oneCell']) (by unfold maxLen; omega) (by omega) (by have := HX1.out.grown.size; simp; omega) ?_; intro v8 w8 hown8 hg8 _ hfb8; obtain ⟨g8, cap8, rfl⟩ := own_succ hown8; have hne8 : some lB ≠ (Value.slice A4 M.length c4).ownBlock := (fun e => by have := own_base2 HX1.out.own lB e.symm; omega); have hb8 := blk_grown (blk_alloc HX1.out.blk _) hg8 hne8; have hc8 : w8.cell? ⟨lB, 0, none⟩ = some (.slice A4 M.length c4) := (blk_cell hb8 0).trans rfl; have hf8 := blk_frozen hb8 0; have HX8 := Aside0.mk (HX1.out.push hlB hg8 hown8); have HG8 := Aside0.mk hg8; have HFB8 := Aside0.mk hfb8; clear hb8 hown8 hg8 hfb8)
      obtain ⟨wS, hwS⟩ : ∃ W : World, W = w8.setCell ⟨lB, 0, none⟩ (.slice (some ⟨g8, 0, none⟩) (M.length + 1) cap8) := ⟨_, rfl⟩
      rw [← hwS] at HX8
      rw [← hwS]
      have HK8 : Aside0 (Keep2 wr wS (some lB) (Value.slice A4 M.length c4).ownBlock) := ⟨((Keep2.of_below (below_alloc (Below.refl _ wr) _) (some lB) (Value.slice A4 M.length c4).ownBlock).step (Keep2.of_grown HG8.out) (fun j e => .inr (.inr e.symm)) (fun j e => by cases e)).step (by rw [hwS]; exact Keep2.of_grown (grownBy_set _ _ _)) (fun j e => .inr (.inl e.symm)) (fun j e => by cases e)⟩
      have HF8 : Aside0 (FB wr.heap.size (.slice A4 M.length c4) (.slice (some ⟨g8, 0, none⟩) (M.length + 1) cap8)) := ⟨by
       rcases HFB8.out with h | h
       ·exact .inl h
       ·exact .inr fun b' hb' => by
         have hb' := h.symm.trans hb'
         have := Option.some.inj hb'
         simp at this
         omega⟩
      obtain ⟨q1, q2, q3, q4⟩ := HLOW.out wS HX8.out.grown
      have q5 := HX8.out.cell
      have t0d : wS.drew.cell? ⟨tB, 0, none⟩ = some (.slice Ag G.length cg) := q3
      have l0d : wS.drew.cell? ⟨lB, 0, none⟩ = some (.slice (some ⟨g8, 0, none⟩) (M.length + 1) cap8) := q5
      have g0d : wS.drew.cell? ⟨gB, 0, none⟩ = some (.func (.func 96) #[] #[.pointer (some ⟨lB, 0, none⟩), .pointer (some ⟨tB, 0, none⟩), .pointer (some ⟨gB, 0, none⟩)]) := q4
      have bSd : Below wS.heap.size wS wS.drew := below_drew (Below.refl _ _)
      have CCR : Aside0 (∀ W, (W.cell? ⟨tB, 0, none⟩ = some (.slice Ag G.length cg) ∧ W.cell? ⟨lB, 0, none⟩ = some (.slice (some ⟨g8, 0, none⟩) (M.length + 1) cap8) ∧ W.cell? ⟨gB, 0, none⟩ = some (.func (.func 96) #[] #[.pointer (some ⟨lB, 0, none⟩), .pointer (some ⟨tB, 0, none⟩), .pointer (some ⟨gB, 0, none⟩)]) ∧ Below wS.heap.size wS W) → Calls Tryd.prog 83 #[.slice Ag G.length cg, .slice (some ⟨g8, 0, none⟩) (M.length + 1) cap8] W fun e w' => e = .returned (.bool false) ∧ w'.cell? ⟨tB, 0, none⟩ = some (.slice Ag G.length cg) ∧ w'.cell? ⟨lB, 0, none⟩ = some (.slice (some ⟨g8, 0, none⟩) (M.length + 1) cap8) ∧ w'.cell? ⟨gB, 0, none⟩ = some (.func (.func 96) #[] #[.pointer (some ⟨lB, 0, none⟩), .pointer (some ⟨tB, 0, none⟩), .pointer (some ⟨gB, 0, none⟩)]) ∧ Below wS.heap.size wS w') := ⟨by
       rintro W ⟨s0, s1, s2, s3⟩
       refine (HCR.out W _ _ (HX8.out.low s3)).mono ?_
       rintro e w' ⟨rfl, hdr⟩
       have hb := hdr.below
       exact ⟨rfl, (hb.cell (World.block_lt_of_cell? W _ s0)).trans s0, (hb.cell (World.block_lt_of_cell? W _ s1)).trans s1, (hb.cell (World.block_lt_of_cell? W _ s2)).trans s2, below_step s3 hb⟩⟩
      clear hwS hc8 hf8 HG8 HFB8 hy0 hgx q1 q2 q3 q4 q5
      refine start_ (n := 12) (S := fun w' => w'.cell? ⟨tB, 0, none⟩ = some (.slice Ag G.length cg) ∧ w'.cell? ⟨lB, 0, none⟩ = some (.slice (some ⟨g8, 0, none⟩) (M.length + 1) cap8) ∧ w'.cell? ⟨gB, 0, none⟩ = some (.func (.func 96) #[] #[.pointer (some ⟨lB, 0, none⟩), .pointer (some ⟨tB, 0, none⟩), .pointer (some ⟨gB, 0, none⟩)]) ∧ Below wS.heap.size wS w') (ds := [10]) (Qbz 12 0) (by kernel_rfl) rfl rfl ⟨t0d, l0d, g0d, bSd⟩ (fun hHeld => ?_)
      refine take_ (i := 0) (N := some 21) (v := ?_) (a' := ?_) (Qbz 12 1) rfl rfl (by kernel_rfl) (fun _ _ _ h => h) (Or.inl ⟨by rfl, ?_⟩) hHeld ?_ ?_
      rotate_left
      ·rintro w' ⟨s0, s1, s2, s3⟩
       go_simp
       with_reducible rfl
      rotate_left
      ·simp only [Act.put, Qp1, Qp2, Qp3, i64_w, i32_w]
       rfl
      refine take_ (i := 1) (N := some 22) (v := ?_) (a' := ?_) (Qbz 12 3) rfl rfl (by kernel_rfl) (fun _ _ _ h => h) (Or.inl ⟨by rfl, ?_⟩) hHeld ?_ ?_
      rotate_left
      ·rintro w' ⟨s0, s1, s2, s3⟩
       go_simp
       with_reducible rfl
      rotate_left
      ·simp only [Act.put, Qp1, Qp2, Qp3, i64_w, i32_w]
       rfl
      refine one_ (i := 2) (N := some 23) (Qbz 12 7) rfl rfl (by kernel_rfl) (by decide) (fun K hK => ?_)
      refine goes_ Tryd.func83 (by kernel_rfl) rfl #[.slice Ag G.length cg, .slice (some ⟨g8, 0, none⟩) (M.length + 1) cap8] (by rfl) rfl rfl (by simp only [List.map_toArray, List.map_cons, List.map_nil]; rfl) ?_
      with_reducible refine (CCR.out _ hHeld).mono ?_
      rintro e w9 ⟨rfl, k0, k1, k2, kB⟩
      refine ⟨_, rfl, ?_⟩
      refine hK.out _ _ ⟨k0, k1, k2, kB⟩ (fun hHeld => ?_)
      clear hK K
      refine norm_ (a' := ?_) ?_ ?_
      rotate_left
      ·show Act.put _ (some 23) _ = _
       simp only [Act.put, Qp1, Qp2, Qp3, i64_w, i32_w]
       rfl
      refine pure_ (i := 3) (N := some 24) (v := ?_) (a' := ?_) (Qbz 12 15) rfl rfl (by kernel_rfl) (fun _ _ _ h => h) (Or.inl ⟨by rfl, ?_⟩) ?_ ?_
      rotate_left
      ·intro w'
       go_simp
       with_reducible rfl
      rotate_left
      ·simp only [Act.put, Qp1, Qp2, Qp3, i64_w, i32_w]
       rfl
      refine pure_ (i := 4) (N := some 25) (v := ?_) (a' := ?_) (Qbz 12 31) rfl rfl (by kernel_rfl) (fun _ _ _ h => h) (Or.inl ⟨by rfl, ?_⟩) ?_ ?_
      rotate_left
      ·intro w'
       go_simp
       with_reducible rfl
      rotate_left
      ·simp only [Act.put, Qp1, Qp2, Qp3, i64_w, i32_w]
       rfl
      refine pure_ (i := 6) (N := some 27) (v := ?_) (a' := ?_) (Qbz 12 95) rfl rfl (by kernel_rfl) (fun _ _ _ h => h) (Or.inl ⟨by rfl, ?_⟩) ?_ ?_
      rotate_left
      ·intro w'
       go_simp
       with_reducible rfl
      rotate_left
      ·simp only [Act.put, Qp1, Qp2, Qp3, i64_w, i32_w]
       rfl
      refine pure_ (i := 7) (N := some 28) (v := ?_) (a' := ?_) (Qbz 12 223) rfl rfl (by kernel_rfl) (fun _ _ _ h => h) (Or.inl ⟨by rfl, ?_⟩) ?_ ?_
      rotate_left
      ·intro w'
       go_simp
       with_reducible rfl
      rotate_left
      ·simp only [Act.put, Qp1, Qp2, Qp3, i64_w, i32_w]
       rfl
      refine pure_ (i := 8) (N := some 29) (v := ?_) (a' := ?_) (Qbz 12 479) rfl rfl (by kernel_rfl) (fun _ _ _ h => h) (Or.inl ⟨by rfl, ?_⟩) ?_ ?_
      rotate_left
      ·intro w'
       go_simp
       with_reducible rfl
      rotate_left
      ·simp only [Act.put, Qp1, Qp2, Qp3, i64_w, i32_w]
       rfl
      refine pure_ (i := 9) (N := some 30) (v := ?_) (a' := ?_) (Qbz 12 991) rfl rfl (by kernel_rfl) (fun _ _ _ h => h) (Or.inl ⟨by rfl, ?_⟩) ?_ ?_
      rotate_left
      ·intro w'
       go_simp
       with_reducible rfl
      rotate_left
      ·simp only [Act.put, Qp1, Qp2, Qp3, i64_w, i32_w]
       rfl
      refine take_ (i := 5) (N := some 26) (v := ?_) (a' := ?_) (Qbz 12 1023) rfl rfl (by kernel_rfl) (fun _ _ _ h => h) (Or.inl ⟨by rfl, ?_⟩) hHeld ?_ ?_
      rotate_left
      ·rintro w' ⟨s0, s1, s2, s3⟩
       go_simp
       with_reducible rfl
      rotate_left
      ·simp only [Act.put, Qp1, Qp2, Qp3, i64_w, i32_w]
       rfl
      refine last_ (i := 10) (N := some 31) (Qbz 12 2047) rfl rfl (by kernel_rfl) (by decide) (fun K hK => ?_)
      refine goesC_ Tryd.func96 (by kernel_rfl) rfl #[.int .i64 (left' : Int)] #[.pointer (some ⟨lB, 0, none⟩), .pointer (some ⟨tB, 0, none⟩), .pointer (some ⟨gB, 0, none⟩)] #[.int .i64 (left' : Int), .pointer (some ⟨lB, 0, none⟩), .pointer (some ⟨tB, 0, none⟩), .pointer (some ⟨gB, 0, none⟩)] (.tmp 26) (by rfl) rfl rfl (by rfl) (by simp only [List.map_toArray, List.map_cons, List.map_nil]; rfl) rfl ?_
      with_reducible refine (HREC.out _ _ (HX8.out.low hHeld.2.2.2)).mono ?_
      rintro e w10 ⟨rfl, v10, hO10, hF10, hK10⟩
      have HO10 := Aside0.mk hO10
      have HF10 := Aside0.mk hF10
      have HK10 := Aside0.mk hK10
      have HB9 := Aside0.mk kB
      clear hO10 hF10 hK10 kB
      refine ⟨_, rfl, ?_⟩
      refine hK.out _ _ ?_
      clear hK K
      refine norm_ (a' := ?_) ?_ ?_
      rotate_left
      ·show Act.put _ (some 31) _ = _
       simp only [Act.put, Qp1, Qp2, Qp3, i64_w, i32_w]
       rfl
      refine pure_ (i := 11) (N := some 32) (v := ?_) (a' := ?_) (Qbz 12 4095) rfl rfl (by kernel_rfl) (fun _ _ _ h => h) (Or.inl ⟨by rfl, ?_⟩) ?_ ?_
      rotate_left
      ·intro w'
       go_simp
       with_reducible rfl
      rotate_left
      ·simp only [Act.put, Qp1, Qp2, Qp3, i64_w, i32_w]
       rfl
      refine done_ (by kernel_rfl) ?_
      go_wp2
      go_ret
      have k0 := (Keep2.of_below HB1.out (some lB) v.ownBlock).step HX3.out (fun j e => .inr (.inl e.symm)) (fun j e => .inr (.inr e.symm))
      have f0 := (FB.refl w.heap.size v).trans HX2.out HB1.out.size
      have k1 := k0.step HK8.out (fun j e => .inr (.inl e.symm)) (f0.row rfl)
      have k2 := k1.step (Keep2.of_below HB9.out none none) (fun j e => by cases e) (fun j e => by cases e)
      have f1 := f0.trans HF8.out k0.size
      have k3 := k2.step HK10.out (fun j e => .inr (.inl e.symm)) (f1.row rfl)
      have f2 := f1.trans HF10.out k2.size
      exact ⟨rfl, v10, HO10.out, f2, k3⟩
    ·rw [hcb] at HCR
     have HA2 : Aside0 (((els left 9).drop (i + 1)).findSome? F = R) := ⟨by
      have := HAH.out
      rw [HFX.out, hcb] at this
      simpa using this⟩
     clear hcb HFX HAH HREC IH HG HM HFE HL
     go_wp2_with (at_builtin; refine wpList_append_own_at _ rfl _ _ 22 rfl W0.heap.size 3 i3 (.int .i64 0) 1 8 Tryd.underlying22 hi3 hq0 hq1 hq2 rfl (by decide) (.slice A4 M.length c4) M.length ((gi M).map (Value.int .i64)) rfl (HX1.out.own.alloc _) ⟨wr.heap.size, 0, none⟩ 1 1 [.int .i64 (x : Int)] rfl rfl (cell_one_new _ _ _) (by simp [Value.oneCell']) (by unfold maxLen; omega) (by omega) (by have := HX1.out.grown.size; simp; omega) ?_; intro v8 w8 hown8 hg8 _ hfb8; obtain ⟨g8, cap8, rfl⟩ := own_succ hown8; have hne8 : some lB ≠ (Value.slice A4 M.length c4).ownBlock := (fun e => by have := own_base2 HX1.out.own lB e.symm; omega); have hb8 := blk_grown (blk_alloc HX1.out.blk _) hg8 hne8; have hc8 : w8.cell? ⟨lB, 0, none⟩ = some (.slice A4 M.length c4) := (blk_cell hb8 0).trans rfl; have hf8 := blk_frozen hb8 0; have HX8 := Aside0.mk (HX1.out.push hlB hg8 hown8); have HG8 := Aside0.mk hg8; have HFB8 := Aside0.mk hfb8; clear hb8 hown8 hg8 hfb8)
     obtain ⟨wS, hwS⟩ : ∃ W : World, W = w8.setCell ⟨lB, 0, none⟩ (.slice (some ⟨g8, 0, none⟩) (M.length + 1) cap8) := ⟨_, rfl⟩
     rw [← hwS] at HX8
     rw [← hwS]
     have HK8 : Aside0 (Keep2 wr wS (some lB) (Value.slice A4 M.length c4).ownBlock) := ⟨((Keep2.of_below (below_alloc (Below.refl _ wr) _) (some lB) (Value.slice A4 M.length c4).ownBlock).step (Keep2.of_grown HG8.out) (fun j e => .inr (.inr e.symm)) (fun j e => by cases e)).step (by rw [hwS]; exact Keep2.of_grown (grownBy_set _ _ _)) (fun j e => .inr (.inl e.symm)) (fun j e => by cases e)⟩
     have HF8 : Aside0 (FB wr.heap.size (.slice A4 M.length c4) (.slice (some ⟨g8, 0, none⟩) (M.length + 1) cap8)) := ⟨by
      rcases HFB8.out with h | h
      ·exact .inl h
      ·exact .inr fun b' hb' => by
        have hb' := h.symm.trans hb'
        have := Option.some.inj hb'
        simp at this
        omega⟩
     obtain ⟨q1, q2, q3, q4⟩ := HLOW.out wS HX8.out.grown
     have q5 := HX8.out.cell
     have t0d : wS.drew.cell? ⟨tB, 0, none⟩ = some (.slice Ag G.length cg) := q3
     have l0d : wS.drew.cell? ⟨lB, 0, none⟩ = some (.slice (some ⟨g8, 0, none⟩) (M.length + 1) cap8) := q5
     have g0d : wS.drew.cell? ⟨gB, 0, none⟩ = some (.func (.func 96) #[] #[.pointer (some ⟨lB, 0, none⟩), .pointer (some ⟨tB, 0, none⟩), .pointer (some ⟨gB, 0, none⟩)]) := q4
     have bSd : Below wS.heap.size wS wS.drew := below_drew (Below.refl _ _)
     have CCR : Aside0 (∀ W, (W.cell? ⟨tB, 0, none⟩ = some (.slice Ag G.length cg) ∧ W.cell? ⟨lB, 0, none⟩ = some (.slice (some ⟨g8, 0, none⟩) (M.length + 1) cap8) ∧ W.cell? ⟨gB, 0, none⟩ = some (.func (.func 96) #[] #[.pointer (some ⟨lB, 0, none⟩), .pointer (some ⟨tB, 0, none⟩), .pointer (some ⟨gB, 0, none⟩)]) ∧ Below wS.heap.size wS W) → Calls Tryd.prog 83 #[.slice Ag G.length cg, .slice (some ⟨g8, 0, none⟩) (M.length + 1) cap8] W fun e w' => e = .returned (.bool true) ∧ w'.cell? ⟨tB, 0, none⟩ = some (.slice Ag G.length cg) ∧ w'.cell? ⟨lB, 0, none⟩ = some (.slice (some ⟨g8, 0, none⟩) (M.length + 1) cap8) ∧ w'.cell? ⟨gB, 0, none⟩ = some (.func (.func 96) #[] #[.pointer (some ⟨lB, 0, none⟩), .pointer (some ⟨tB, 0, none⟩), .pointer (some ⟨gB, 0, none⟩)]) ∧ Below wS.heap.size wS w') := ⟨by
      rintro W ⟨s0, s1, s2, s3⟩
      refine (HCR.out W _ _ (HX8.out.low s3)).mono ?_
      rintro e w' ⟨rfl, hdr⟩
      have hb := hdr.below
      exact ⟨rfl, (hb.cell (World.block_lt_of_cell? W _ s0)).trans s0, (hb.cell (World.block_lt_of_cell? W _ s1)).trans s1, (hb.cell (World.block_lt_of_cell? W _ s2)).trans s2, below_step s3 hb⟩⟩
     clear hwS hc8 hf8 HG8 HFB8 hy0 hgx q1 q2 q3 q4 q5
     refine start_ (n := 12) (S := fun w' => w'.cell? ⟨tB, 0, none⟩ = some (.slice Ag G.length cg) ∧ w'.cell? ⟨lB, 0, none⟩ = some (.slice (some ⟨g8, 0, none⟩) (M.length + 1) cap8) ∧ w'.cell? ⟨gB, 0, none⟩ = some (.func (.func 96) #[] #[.pointer (some ⟨lB, 0, none⟩), .pointer (some ⟨tB, 0, none⟩), .pointer (some ⟨gB, 0, none⟩)]) ∧ Below wS.heap.size wS w') (ds := []) (Qbz 12 0) (by kernel_rfl) rfl rfl ⟨t0d, l0d, g0d, bSd⟩ (fun hHeld => ?_)
     refine take_ (i := 0) (N := some 21) (v := ?_) (a' := ?_) (Qbz 12 1) rfl rfl (by kernel_rfl) (fun _ _ _ h => h) (Or.inl ⟨by rfl, ?_⟩) hHeld ?_ ?_
     rotate_left
     ·rintro w' ⟨s0, s1, s2, s3⟩
      go_simp
      with_reducible rfl
     rotate_left
     ·simp only [Act.put, Qp1, Qp2, Qp3, i64_w, i32_w]
      rfl
     refine take_ (i := 1) (N := some 22) (v := ?_) (a' := ?_) (Qbz 12 3) rfl rfl (by kernel_rfl) (fun _ _ _ h => h) (Or.inl ⟨by rfl, ?_⟩) hHeld ?_ ?_
     rotate_left
     ·rintro w' ⟨s0, s1, s2, s3⟩
      go_simp
      with_reducible rfl
     rotate_left
     ·simp only [Act.put, Qp1, Qp2, Qp3, i64_w, i32_w]
      rfl
     refine one_ (i := 2) (N := some 23) (Qbz 12 7) rfl rfl (by kernel_rfl) (by decide) (fun K hK => ?_)
     refine goes_ Tryd.func83 (by kernel_rfl) rfl #[.slice Ag G.length cg, .slice (some ⟨g8, 0, none⟩) (M.length + 1) cap8] (by rfl) rfl rfl (by simp only [List.map_toArray, List.map_cons, List.map_nil]; rfl) ?_
     with_reducible refine (CCR.out _ hHeld).mono ?_
     rintro e w9 ⟨rfl, k0, k1, k2, kB⟩
     refine ⟨_, rfl, ?_⟩
     refine hK.out _ _ ⟨k0, k1, k2, kB⟩ (fun hHeld => ?_)
     clear hK K
     refine norm_ (a' := ?_) ?_ ?_
     rotate_left
     ·show Act.put _ (some 23) _ = _
      simp only [Act.put, Qp1, Qp2, Qp3, i64_w, i32_w]
      rfl
     refine pure_ (i := 3) (N := some 24) (v := ?_) (a' := ?_) (Qbz 12 15) rfl rfl (by kernel_rfl) (fun _ _ _ h => h) (Or.inl ⟨by rfl, ?_⟩) ?_ ?_
     rotate_left
     ·intro w'
      go_simp
      with_reducible rfl
     rotate_left
     ·simp only [Act.put, Qp1, Qp2, Qp3, i64_w, i32_w]
      rfl
     refine pure_ (i := 4) (N := some 25) (v := ?_) (a' := ?_) (Qbz 12 31) rfl rfl (by kernel_rfl) (fun _ _ _ h => h) (Or.inl ⟨by rfl, ?_⟩) ?_ ?_
     rotate_left
     ·intro w'
      go_simp
      with_reducible rfl
     rotate_left
     ·simp only [Act.put, Qp1, Qp2, Qp3, i64_w, i32_w]
      rfl
     refine pure_ (i := 5) (N := some 26) (v := undef) (a' := ?_) (Qbz 12 63) rfl rfl (by kernel_rfl) (fun _ _ _ h => h) (Or.inr ⟨by rfl, rfl⟩) ?_ ?_
     rotate_left
     ·simp only [Act.put, Qp1, Qp2, Qp3, i64_w, i32_w]
      rfl
     refine pure_ (i := 6) (N := some 27) (v := undef) (a' := ?_) (Qbz 12 127) rfl rfl (by kernel_rfl) (fun _ _ _ h => h) (Or.inr ⟨by rfl, rfl⟩) ?_ ?_
     rotate_left
     ·simp only [Act.put, Qp1, Qp2, Qp3, i64_w, i32_w]
      rfl
     refine pure_ (i := 7) (N := some 28) (v := undef) (a' := ?_) (Qbz 12 255) rfl rfl (by kernel_rfl) (fun _ _ _ h => h) (Or.inr ⟨by rfl, rfl⟩) ?_ ?_
     rotate_left
     ·simp only [Act.put, Qp1, Qp2, Qp3, i64_w, i32_w]
      rfl
     refine pure_ (i := 8) (N := some 29) (v := undef) (a' := ?_) (Qbz 12 511) rfl rfl (by kernel_rfl) (fun _ _ _ h => h) (Or.inr ⟨by rfl, rfl⟩) ?_ ?_
     rotate_left
     ·simp only [Act.put, Qp1, Qp2, Qp3, i64_w, i32_w]
      rfl
     refine pure_ (i := 9) (N := some 30) (v := undef) (a' := ?_) (Qbz 12 1023) rfl rfl (by kernel_rfl) (fun _ _ _ h => h) (Or.inr ⟨by rfl, rfl⟩) ?_ ?_
     rotate_left
     ·simp only [Act.put, Qp1, Qp2, Qp3, i64_w, i32_w]
      rfl
     refine pure_ (i := 10) (N := some 31) (v := undef) (a' := ?_) (Qbz 12 2047) rfl rfl (by kernel_rfl) (fun _ _ _ h => h) (Or.inr ⟨by rfl, rfl⟩) ?_ ?_
     rotate_left
     ·simp only [Act.put, Qp1, Qp2, Qp3, i64_w, i32_w]
      rfl
     refine pure_ (i := 11) (N := some 32) (v := ?_) (a' := ?_) (Qbz 12 4095) rfl rfl (by kernel_rfl) (fun _ _ _ h => h) (Or.inl ⟨by rfl, ?_⟩) ?_ ?_
     rotate_left
     ·intro w'
      go_simp
      with_reducible rfl
     rotate_left
     ·simp only [Act.put, Qp1, Qp2, Qp3, i64_w, i32_w]
      rfl
     refine done_ (by kernel_rfl) ?_
     obtain ⟨s0, s1, s2, s3⟩ := hHeld
     have HB9 := Aside0.mk s3
     have hO9 := HX8.out.low s3
     obtain ⟨g10, c10, e10, hcap10⟩ := hO9.cap
     injection e10 with e11 e12 e13
     obtain rfl : g8 = g10 := by injection e11 with e11; injection e11
     subst e13
     have hl10 := s1
     have hf10 := blk_frozen hO9.blk 0
     have HO9 := Aside0.mk hO9
     have hkc1 : decide ((M.length : Int) ≤ (cap8 : Int)) = true := decide_eq_true (by omega)
     have hkc2 : ((M.length : Int) ≤ (cap8 : Int)) = True := eq_true (by omega)
     clear s0 s1 s2 s3 hO9 e11 e12
     go_wp2
     go_roundg gi'
     case measure => omega
     case rel =>
      have k1 := HX3.out.step HK8.out (fun j e => .inr (.inl e.symm)) (FB.row HX2.out rfl)
      have k2 := k1.step (Keep2.of_below HB9.out none none) (fun j e => by cases e) (fun j e => by cases e)
      have f1 := HX2.out.trans HF8.out HX3.out.size
      have k4 := k2.step (Keep2.of_grown (grownBy_set w9 ⟨lB, 0, none⟩ (Value.slice (some ⟨g8, 0, none⟩) M.length cap8))) (fun j e => .inr (.inl e.symm)) (fun j e => by cases e)
      exact ⟨i + 1, _, by go_num, by omega, HA2, ⟨⟨HO9.out.pop hlB rfl, f1, k4⟩⟩⟩
   ·have hi1 : ((i : Int) < ((els left 9).length : Int)) = False := eq_false (by omega)
    have hi2 : decide ((i : Int) < ((els left 9).length : Int)) = false := decide_eq_false (by omega)
    have ha := HA.out
    rw [List.drop_eq_nil_of_le (by omega)] at ha
    have hr : R = none := ha.symm
    subst hr
    clear ha HA
    obtain ⟨hX1, hX2, hX3⟩ := HX.out
    have HF := Aside0.mk (show OI W0 wr lB M v1 ∧ FB w.heap.size v v1 ∧ Keep2 w wr (some lB) v.ownBlock from ⟨hX1, (FB.refl w.heap.size v).trans hX2 HB1.out.size, (Keep2.of_below HB1.out (some lB) v.ownBlock).step hX3 (fun j e => .inr (.inl e.symm)) (fun j e => .inr (.inr e.symm))⟩)
    clear hX1 hX2 hX3 HX
    go_wp2
    go_ret
    exact ⟨rfl, v1, HF.out⟩
def outF (G : List Nat) (s : Nat) : Option (List Nat) := outN G (pc s 9) [] s
theorem outN_len (G : List Nat) : ∀ d M left l, outN G d M left = some l → l.length = M.length + d
 | 0, M, left, l, h => by
  rw [outN] at h
  rw [← Option.some.inj h]; rfl
 | d + 1, M, left, l, h => by
  rw [outN] at h
  obtain ⟨v, hv, hf⟩ := List.exists_of_findSome?_eq_some h
  split at hf
  ·cases hf
  ·have := outN_len G d _ _ l hf
   simp at this
   omega
set_option maxHeartbeats 8000000 in
set_option maxRecDepth 100000 in
theorem outer_calls (Ag : Option Addr) (cg : Nat) (G : List Nat) (hG : Gr 9 G) (hcg : G.length ≤ cg) (s : Nat) (hs : s < 2 ^ G.length) (hs0 : s ≠ 0) (w : World) (hGL : GL w) (hrg : Kd.C (Kd.int .i64) w Ag (gi G).length (gi G)) :
  Calls Tryd.prog 82 #[.slice Ag G.length cg, .int .i64 (s : Int)] w fun e w' => ∃ v, e = .returned v ∧ (match outF G s with | none => v = .slice none 0 0 | some l => l ≠ [] ∧ v ≠ .slice none 0 0 ∧ Kd.R (Kd.int .i64) 3 w' w.heap.size (fun _ => True) v (gi l)) ∧ Below w.heap.size w w' := by
 have hs512 := small G hG.most hs
 have hpc0 : 0 < pc s 9 := Nat.pos_of_ne_zero fun h => hs0 (pc_none ⟨s, hs512⟩ h)
 have hpc9 := pc_le s 9
 have hk0 : ((s : Int) == 0) = false := beq_eq_false_iff_ne.2 (by omega)
 obtain ⟨lB, hlB⟩ : ∃ lB, lB = w.heap.size + 1 := ⟨_, rfl⟩
 obtain ⟨W0, hW0⟩ : ∃ W0 : World, W0 = ((w.alloc (.cells #[.slice Ag G.length cg] 79)).alloc (.cells #[.slice none 0 0] 22)).alloc (.cells #[.func (.func 96) #[] #[.pointer (some ⟨w.heap.size + 1, 0, none⟩), .pointer (some ⟨w.heap.size, 0, none⟩), .pointer (some ⟨w.heap.size + 1 + 1, 0, none⟩)]] 43) := ⟨_, rfl⟩
 have hsz : W0.heap.size = w.heap.size + 3 := by rw [hW0]; simp
 have hb0 : W0.heap[w.heap.size]? = some (.cells #[.slice Ag G.length cg] 79 (0, 0)) := by
  rw [hW0]
  exact blk_alloc (blk_alloc (show (w.heap.push _)[w.heap.size]? = _ from Array.getElem?_push_size) _) _
 have hb1 : W0.heap[w.heap.size + 1]? = some (.cells #[.slice none 0 0] 22 (0, 0)) := by
  rw [hW0]
  refine blk_alloc ?_ _
  have : (w.alloc (.cells #[.slice Ag G.length cg] 79)).heap.size = w.heap.size + 1 := by simp
  rw [← this]
  exact (show (Array.push _ _)[_]? = _ from Array.getElem?_push_size)
 have hb2 : W0.heap[w.heap.size + 1 + 1]? = some (.cells #[.func (.func 96) #[] #[.pointer (some ⟨w.heap.size + 1, 0, none⟩), .pointer (some ⟨w.heap.size, 0, none⟩), .pointer (some ⟨w.heap.size + 1 + 1, 0, none⟩)]] 43 (0, 0)) := by
  rw [hW0]
  have : ((w.alloc (.cells #[.slice Ag G.length cg] 79)).alloc (.cells #[.slice none 0 0] 22)).heap.size = w.heap.size + 1 + 1 := by simp
  rw [← this]
  exact (show (Array.push _ _)[_]? = _ from Array.getElem?_push_size)
 have hBW : Below w.heap.size w W0 := by
  rw [hW0]
  exact below_alloc (below_alloc (below_alloc (Below.refl _ _) _) _) _
 have HOG : Aside0 (Calls Tryd.prog 96 #[.int .i64 (s : Int), .pointer (some ⟨w.heap.size + 1, 0, none⟩), .pointer (some ⟨w.heap.size, 0, none⟩), .pointer (some ⟨w.heap.size + 1 + 1, 0, none⟩)] W0 fun e w' => e = .returned (.bool (outF G s).isSome) ∧ ∃ v', OI W0 w' (w.heap.size + 1) ((outF G s).getD []) v') := ⟨by
  refine (outer_grow (w.heap.size + 1) w.heap.size (w.heap.size + 1 + 1) W0 (by omega) Ag cg G hG hcg (fun W hW => ?_) (pc s 9) [] s (.slice none 0 0) W0 rfl hs (fun x hx => by cases hx) (by simp; omega) ⟨hb1, ⟨rfl, .inl ⟨rfl, rfl⟩⟩, World.grownBy.refl _ _⟩).mono ?_
  ·have hB : Below w.heap.size w W := ⟨hW.os.trans hBW.os, hW.tape.trans hBW.tape, hW.output.trans hBW.output, Nat.le_trans hBW.size hW.size, fun k hk => (hW.block k (by omega) (fun e => by have := Option.some.inj e; omega)).trans (hBW.block k hk)⟩
   have c0 := blk_grown hb0 hW (fun e => by have := Option.some.inj e; omega)
   have c2 := blk_grown hb2 hW (fun e => by have := Option.some.inj e; omega)
   exact ⟨GL_below hGL hB, Kd.C_below hrg hB, (blk_cell c0 0).trans rfl, (blk_cell c2 0).trans rfl⟩
  ·rintro e w' ⟨rfl, v', h, _, _⟩
   exact ⟨rfl, v', h⟩⟩
 rw [hW0] at HOG
 have HFIN : Aside0 (∀ w' v', OI W0 w' (w.heap.size + 1) ((outF G s).getD []) v' → Below w.heap.size w w' ∧ (∀ l, outF G s = some l → l ≠ [] ∧ v' ≠ .slice none 0 0 ∧ Kd.R (Kd.int .i64) 3 w' w.heap.size (fun _ => True) v' (gi l))) := ⟨fun w' v' h => by
  refine ⟨⟨h.grown.os.trans hBW.os, h.grown.tape.trans hBW.tape, h.grown.output.trans hBW.output, Nat.le_trans hBW.size h.grown.size, fun k hk => (h.grown.block k (by omega) (fun e => by have := Option.some.inj e; omega)).trans (hBW.block k hk)⟩, fun l hl => ?_⟩
  have hlen := outN_len G _ _ _ _ hl
  rw [hl] at h
  have ho := h.own
  simp only [Option.getD_some] at ho
  refine ⟨fun e => by rw [e] at hlen; simp at hlen; omega, fun e => ?_, ?_⟩
  ·rcases ho.2 with ⟨_, h0⟩ | ⟨g, cap, cur, e2, _⟩
   ·simp at hlen; omega
   ·rw [e] at e2; cases e2
  ·rw [← gi_length l] at ho
   exact Kd.R_lower (Kd.R_of_own (ok := fun _ => True) ho (fun _ _ => trivial)) (by omega)⟩
 rw [hW0] at HFIN
 clear hb0 hb1 hb2 hBW hsz hW0 hlB lB hs hG hGL hrg
 cases hout : outF G s with
 | none =>
  rw [hout] at HOG HFIN
  go_enter Tryd.func82, Tryd.ntmps82
  go_wp2_with (go_at_call 96; refine HOG.out.mono ?_; rintro e w9 ⟨rfl, v9, hO9⟩; have hl9 := hO9.cell; have HO9 := Aside0.mk hO9; clear hO9)
  go_ret
  exact ⟨_, rfl, rfl, (HFIN.out _ _ HO9.out).1⟩
 | some l =>
  rw [hout] at HOG HFIN
  go_enter Tryd.func82, Tryd.ntmps82
  go_wp2_with (go_at_call 96; refine HOG.out.mono ?_; rintro e w9 ⟨rfl, v9, hO9⟩; have hl9 := hO9.cell; have HO9 := Aside0.mk hO9; clear hO9)
  go_ret
  exact ⟨_, rfl, (HFIN.out _ _ HO9.out).2 l rfl, (HFIN.out _ _ HO9.out).1⟩
end Go.Proofs.YtjloppfdagfpmaaDoor.X
end
section
/- minor.Outer and minor.Apex, by hand. -/
namespace Go.Proofs.YtjloppfdagfpmaaDoor.X
open Go.RowKit YtjloppfdagfpmaaDoorW.PrintWords YtjloppfdagfpmaaDoorW.PrintLast YtjloppfdagfpmaaDoorW.PrintMore YtjloppfdagfpmaaDoor.T
theorem outer_calls2 (Ag : Option Addr) (cg : Nat) (G : List Nat) (hG : Gr 9 G) (hcg : G.length ≤ cg) (s : Nat) (hs : s < 2 ^ G.length) (hs0 : s ≠ 0) (w : World) (hGL : GL w) (hrg : Kd.C (Kd.int .i64) w Ag (gi G).length (gi G)) :
  Calls Tryd.prog 82 #[.slice Ag G.length cg, .int .i64 (s : Int)] w fun e w' => ∃ v, e = .returned v ∧ Kd.R (Kd.int .i64) 3 w' w.heap.size (fun _ => True) v ((outF G s).elim [] gi) ∧ ((outF G s = none ∧ v = .slice none 0 0) ∨ ((outF G s).isSome = true ∧ ∃ a n c, v = .slice (some a) n c)) ∧ Below w.heap.size w w' := by
 refine (outer_calls Ag cg G hG hcg s hs hs0 w hGL hrg).mono ?_
 rintro e w' ⟨v, rfl, h, hb⟩
 cases ho : outF G s with
 | none =>
  rw [ho] at h
  simp only at h
  subst h
  exact ⟨_, rfl, Kd.R_nil _ _ _ _ _, .inl ⟨rfl, rfl⟩, hb⟩
 | some l =>
  rw [ho] at h
  obtain ⟨h1, h2, h3⟩ := h
  refine ⟨v, rfl, h3, .inr ⟨rfl, ?_⟩, hb⟩
  obtain ⟨A, c, rfl, hc, hC⟩ := Kd.R_reads h3
  cases A with
  | none =>
   obtain ⟨_, inner, ho2, _⟩ := h3
   rcases ho2.2 with ⟨e1, _⟩ | ⟨g, cap, cur, e2, _⟩
   ·exact absurd e1 h2
   ·cases e2
  | some a => exact ⟨a, _, c, rfl⟩
def minor_Outer.f (g : List Int) : Option (List Int × Int) :=
 if g.length < 1000 then some (if chk 8 g = true then ((outF (g.map Int.toNat) (2 ^ g.length - 1)).elim ([], 4) fun M => (gi M, 0)) else ([], 2)) else none
set_option maxHeartbeats 4000000 in
set_option maxRecDepth 100000 in
theorem minor_Outer.calls (A0 : Option Addr) (c0 : Nat) (l0 : List Int) (r1 : List Int) (r2 : Int) (w : World) (hGL : GL w) (hr0 : Kd.C (Kd.int .i64) w A0 l0.length l0) (hc0 : l0.length ≤ c0) (h : minor_Outer.f l0 = some (r1, r2)) :
  Calls Tryd.prog 47 #[.slice A0 l0.length c0] w fun e w' => ∃ v, e = .returned (.tuple #[v, .int .i64 r2]) ∧ Kd.R (Kd.int .i64) 3 w' w.heap.size (fun _ => True) v r1 ∧ Below w.heap.size w w' := by
 unfold minor_Outer.f at h
 by_cases hlen : l0.length < 1000
 ·rw [if_pos hlen] at h
  have h := Option.some.inj h
  have HC1 : Aside0 (∀ W, Below w.heap.size w W → Calls Tryd.prog 63 #[.slice A0 l0.length c0, .int .i64 8] W fun e w' => ∃ v, e = .returned (.tuple #[v, .bool (chk 8 l0)]) ∧ (chk 8 l0 = true → ∃ A1 c1, v = .slice A1 l0.length c1 ∧ l0.length ≤ c1 ∧ Kd.C (Kd.int .i64) w' A1 l0.length l0) ∧ Below W.heap.size W w') := ⟨fun W hW => read_any 8 (by omega) (by omega) A0 c0 W (Kd.C_below hr0 hW) hc0⟩
  have HGL := Aside0.mk hGL
  cases hg : chk 8 l0
  ·rw [hg] at h HC1
   injection h with h1 h2
   subst h1 h2
   clear hg hr0
   go_enter Tryd.func47, Tryd.ntmps47
   go_wp2_with (go_at_call 63; refine (HC1.out _ (Below.refl _ _)).mono ?_; rintro e w1 ⟨v1, rfl, _, hb1⟩; have HB1 := Aside0.mk hb1; clear hb1)
   go_ret2
   exact ⟨_, rfl, Kd.R_nil _ _ _ _ _, HB1.out⟩
  ·rw [hg] at h HC1
   obtain ⟨G, rfl, hG⟩ := (chk_iff 8 (by omega) _).1 hg
   rw [gi_toNat] at h
   simp only [gi_length] at HC1 hr0 hc0 h ⊢
   have hn := hG.most
   have hn1 := hG.pos
   have h2n := Nat.two_pow_pos G.length
   obtain ⟨A, hA⟩ : ∃ A, 2 ^ G.length - 1 = A := ⟨_, rfl⟩
   have hAlt : A < 2 ^ G.length := by omega
   have hA0 : A ≠ 0 := by
    have : 2 ^ 1 ≤ 2 ^ G.length := Nat.pow_le_pow_right (by omega) hn1
    omega
   rw [hA] at h
   have HAL : Aside0 (∀ W B c, G.length ≤ c → Kd.C (Kd.int .i64) W B G.length (gi G) → Calls Tryd.prog 66 #[.slice B G.length c] W fun e w' => e = .returned (.int .i64 (A : Int)) ∧ Drawn0 W w') := ⟨fun W B c hc hB => by
    have := minor_town_all.calls B c (gi G) _ W (by rw [gi_length]; exact hB) (by rw [gi_length]; exact hc) (all_eq G (by omega))
    rw [gi_length, hA] at this
    exact this⟩
   have HOU : Aside0 (∀ W B c, Below w.heap.size w W → G.length ≤ c → Kd.C (Kd.int .i64) W B G.length (gi G) → Calls Tryd.prog 82 #[.slice B G.length c, .int .i64 (A : Int)] W fun e w' => ∃ v, e = .returned v ∧ Kd.R (Kd.int .i64) 3 w' W.heap.size (fun _ => True) v ((outF G A).elim [] gi) ∧ ((outF G A = none ∧ v = .slice none 0 0) ∨ ((outF G A).isSome = true ∧ ∃ a n c, v = .slice (some a) n c)) ∧ Below W.heap.size W w') := ⟨fun W B c hW hc hB =>
    outer_calls2 B c G (gr_mono hG (by omega)) hc A hAlt hA0 W (GL_below HGL.out hW) (by rw [gi_length]; exact hB)⟩
   clear hg hr0 hG hGL hA hAlt hA0 h2n
   have heq_ := fun (w : World) (a : Option Addr) (n c : Nat) => Lib.run_eql_slice_nil (P := Tryd.prog) w 22 3 a n c 0 0 Tryd.underlying22
   cases hf : outF G A with
   | none =>
    rw [hf] at HOU h
    injection h with h1 h2
    subst h1 h2
    clear hf
    go_enter Tryd.func47, Tryd.ntmps47
    go_wp2_with (first
     | (go_at_call 63; refine (HC1.out _ (Below.refl _ _)).mono ?_; rintro e w1 ⟨v1, rfl, hv1, hb1⟩; obtain ⟨A5, c5, rfl, hc5, hC5⟩ := hv1 trivial; have HB1 := Aside0.mk hb1; have HC5 := Aside0.mk hC5; clear hb1 hv1 hC5)
     | (go_at_call 66; refine (HAL.out _ _ _ hc5 HC5.out).mono ?_; rintro e w2 ⟨rfl, hd2⟩; have HB2 := Aside0.mk hd2.below; clear hd2)
     | (go_at_call 82; refine (HOU.out _ _ _ (below_step HB1.out HB2.out) hc5 (Kd.C_below HC5.out HB2.out)).mono ?_; rintro e w3 ⟨v3, rfl, _, hv3, hb3⟩; have hv4 : v3 = .slice none 0 0 := hv3.elim (fun h => h.2) (fun h => by cases h.1); subst hv4; have HB3 := Aside0.mk (below_step (below_step HB1.out HB2.out) hb3); clear hb3))
    go_ret2
    exact ⟨_, rfl, Kd.R_nil _ _ _ _ _, HB3.out⟩
   | some M =>
    rw [hf] at HOU h
    injection h with h1 h2
    subst h1 h2
    clear hf
    go_enter Tryd.func47, Tryd.ntmps47
    go_wp2_with (first
     | (go_at_call 63; refine (HC1.out _ (Below.refl _ _)).mono ?_; rintro e w1 ⟨v1, rfl, hv1, hb1⟩; obtain ⟨A5, c5, rfl, hc5, hC5⟩ := hv1 trivial; have HB1 := Aside0.mk hb1; have HC5 := Aside0.mk hC5; clear hb1 hv1 hC5)
     | (go_at_call 66; refine (HAL.out _ _ _ hc5 HC5.out).mono ?_; rintro e w2 ⟨rfl, hd2⟩; have HB2 := Aside0.mk hd2.below; clear hd2)
     | (go_at_call 82; refine (HOU.out _ _ _ (below_step HB1.out HB2.out) hc5 (Kd.C_below HC5.out HB2.out)).mono ?_; rintro e w3 ⟨v3, rfl, hR3, hv3, hb3⟩; obtain ⟨a3, n3, c3, rfl⟩ : ∃ a n c, v3 = .slice (some a) n c := hv3.elim (fun h => by cases h.1) (fun h => h.2); have HB3 := Aside0.mk (below_step (below_step HB1.out HB2.out) hb3); have HR3 := Aside0.mk hR3; have HB4 := Aside0.mk (below_step HB1.out HB2.out); clear hb3 hR3))
    go_ret2
    exact ⟨_, rfl, Kd.R_lower HR3.out HB4.out.size, HB3.out⟩
 ·rw [if_neg hlen] at h
  cases h
end Go.Proofs.YtjloppfdagfpmaaDoor.X
end
section
namespace Go.Proofs.YtjloppfdagfpmaaDoor.X
open Go.RowKit YtjloppfdagfpmaaDoorW.PrintWords YtjloppfdagfpmaaDoorW.PrintLast YtjloppfdagfpmaaDoorW.PrintMore
attribute [local go_sem] max2_int min2_int max_two min_two max_three min_three max_four min_four
/-! ### lampblackref07_join: function 75 -/
def lampblackref07_join.f (l0 : List Int) (a1 : Int) (a2 : Int) : Option (List Int) := if 0 ≤ a1 then (if a1 < (l0.length : Int) then (if 0 ≤ a2 then ((some (l0.set (a1 : Int).toNat (Go.bits .or .i64 (rd l0 a1) (shl .i64 1 a2)) : List Int)).bind fun y250 => (if a2 < (l0.length : Int) then (some (y250.set (a2 : Int).toNat (Go.bits .or .i64 (rd y250 a2) (shl .i64 1 a1)))) else (none))) else (none)) else (none)) else (none)
end Go.Proofs.YtjloppfdagfpmaaDoor.X
end
section
namespace Go.Proofs.YtjloppfdagfpmaaDoor.X
open Go.RowKit YtjloppfdagfpmaaDoorW.PrintWords YtjloppfdagfpmaaDoorW.PrintLast YtjloppfdagfpmaaDoorW.PrintMore
attribute [local go_sem] max2_int min2_int max_two min_two max_three min_three max_four min_four
/-! ### lampblackref07_K: function 33 -/
mutual
def lampblackref07_K.l0 : Nat → List Int → Int → Int → Option (List Int)
 | 0, _, _, _ => none
 | k + 1, x3, x8, x9 => if x9 < x8 then (lampblackref07_K.l1 k x3 x9 x8 x9 x9 0) else (some x3)
def lampblackref07_K.l1 : Nat → List Int → Int → Int → Int → Int → Int → Option (List Int)
 | 0, _, _, _, _, _, _ => none
 | k + 1, x3, x4, x8, x9, x12, x13 => if x13 < x12 then ((lampblackref07_join.f x3 x4 x13).bind fun t261 => (lampblackref07_K.l1 k t261 x4 x8 x9 x12 (wrap64 (x13 + 1)))) else (lampblackref07_K.l0 k x3 x8 (wrap64 (x9 + 1)))
end
end Go.Proofs.YtjloppfdagfpmaaDoor.X
end
section
/- (minor) Model and has in plain words; complete graphs as patterns. -/
namespace Go.Proofs.YtjloppfdagfpmaaDoor.X
open Go.RowKit YtjloppfdagfpmaaDoorW.PrintWords YtjloppfdagfpmaaDoorW.PrintLast YtjloppfdagfpmaaDoorW.PrintMore YtjloppfdagfpmaaDoor.T
theorem gi_inj {A B : List Nat} (h : gi A = gi B) : A = B := by rw [← gi_toNat A, h, gi_toNat]
end Go.Proofs.YtjloppfdagfpmaaDoor.X
end
section
namespace Go.Proofs.YtjloppfdagfpmaaDoor.X
open Go.RowKit YtjloppfdagfpmaaDoorW.PrintWords YtjloppfdagfpmaaDoorW.PrintLast YtjloppfdagfpmaaDoorW.PrintMore
attribute [local go_sem] max2_int min2_int max_two min_two max_three min_three max_four min_four
/-! ### lampblackref07_fits: function 73 -/
def lampblackref07_fits.l0 : Nat → List Int → List Int → List Int → Int → Int → Int → Int → Option (Bool)
 | 0, _, _, _, _, _, _, _ => none
 | k + 1, x0, x1, x2, x3, x4, x12, x13 => if x13 < x12 then (if 0 ≤ x3 then (if x3 < (x1.length : Int) then (if 0 ≤ x13 then (if (Go.bits .and .i64 (shr .i64 (rd x1 x3) x13) 1) = 1 then ((lampblackref02_Around.f k x0 x4).bind fun t197 => (if x13 < (x2.length : Int) then (if (Go.bits .and .i64 t197 (rd x2 x13)) = 0 then (some false) else (lampblackref07_fits.l0 k x0 x1 x2 x3 x4 x12 (wrap64 (x13 + 1)))) else (none))) else (lampblackref07_fits.l0 k x0 x1 x2 x3 x4 x12 (wrap64 (x13 + 1)))) else (none)) else (none)) else (none)) else (some true)
end Go.Proofs.YtjloppfdagfpmaaDoor.X
end
section
/- lampblackref07.model and Model, by hand. -/
namespace Go.Proofs.YtjloppfdagfpmaaDoor.X
open Go.RowKit YtjloppfdagfpmaaDoorW.PrintWords YtjloppfdagfpmaaDoorW.PrintLast YtjloppfdagfpmaaDoorW.PrintMore YtjloppfdagfpmaaDoor.T
attribute [local go_sem] max2_int min2_int max_two min_two max_three min_three max_four min_four
theorem own_le {W : World} {e : TypeId} {size k base : Nat} {xs : List Value} {A : Option Addr} {c : Nat} (h : W.ownsRow base e size (.slice A (k + 1) c) (k + 1) xs) : base ≤ W.heap.size := by
 rcases h.2 with ⟨_, h0⟩ | ⟨g, cap, cur, _, hb, hg, _⟩
 ·omega
 ·have := (Array.getElem?_eq_some_iff.1 hg).1
  omega
theorem own_low {W : World} {base base2 : Nat} {e : TypeId} {size : Nat} {v : Value} {k : Nat} {xs : List Value} (h : W.ownsRow base e size v k xs) (hb : base2 ≤ base) : W.ownsRow base2 e size v k xs := by
 obtain ⟨h1, h2⟩ := h
 refine ⟨h1, ?_⟩
 rcases h2 with h2 | ⟨g, cap, cur, e1, hb1, r⟩
 ·exact .inl h2
 ·exact .inr ⟨g, cap, cur, e1, by omega, r⟩
theorem own_nil_or {W : World} {base : Nat} {A : Option Addr} {k cap : Nat} {xs : List Value} (h : W.ownsRow base 3 1 (.slice A k cap) k xs) : A = none → k = 0 ∧ k = 0 := fun e => by
 rcases h.2 with ⟨_, h0⟩ | ⟨g, cap, cur, e2, _⟩
 ·exact ⟨h0, h0⟩
 ·injection e2 with e3
  rw [e] at e3; cases e3
end Go.Proofs.YtjloppfdagfpmaaDoor.X
end
section
/- lampblackref07.outer and Outer, by hand. -/
namespace Go.Proofs.YtjloppfdagfpmaaDoor.X
open Go.RowKit YtjloppfdagfpmaaDoorW.PrintWords YtjloppfdagfpmaaDoorW.PrintLast YtjloppfdagfpmaaDoorW.PrintMore YtjloppfdagfpmaaDoor.T
attribute [local go_sem] max2_int min2_int max_two min_two max_three min_three max_four min_four
def rO (G : List Nat) : Nat → List Nat → Option (List Nat)
 | 0, M => if crossB G M = true then none else some M
 | d + 1, M => if crossB G M = true then none else (List.range G.length).findSome? fun v => if M.contains v then none else rO G d (M ++ [v])
theorem cellAt {W : World} {ad : Addr} {n : Nat} {l : List Nat} (h : Kd.C (Kd.int .i64) W (some ad) n (gi l)) {i : Nat} (hi : i < n) : W.cell? (ad.add i) = some (.int .i64 ((l.getD i 0 : Nat) : Int)) := by
 obtain ⟨ad', e, hx⟩ := Kd.at_int h (i : Int) (by omega) (by omega)
 cases e
 rw [rd_gi, Int.toNat_natCast] at hx
 exact hx
theorem contains_take (M : List Nat) (i v : Nat) (h : i < M.length) : (M.take (i + 1)).contains v = ((M.take i).contains v || M.getD i 0 == v) := by
 have e : M.getD i 0 = M[i] := by rw [List.getD_eq_getElem?_getD, List.getElem?_eq_getElem h]; rfl
 have e2 : M.take (i + 1) = M.take i ++ [M[i]] := by rw [List.take_add_one, List.getElem?_eq_getElem h]; rfl
 rw [e, e2, Bool.eq_iff_iff, Bool.or_eq_true, List.contains_iff_mem, List.contains_iff_mem, List.mem_append, List.mem_singleton, beq_iff_eq]
 exact ⟨fun h => h.imp id Eq.symm, fun h => h.imp id Eq.symm⟩
set_option maxHeartbeats 16000000 in
set_option maxRecDepth 100000 in
theorem refOuter_step (A0 : Option Addr) (c0 : Nat) (G : List Nat) (hG : Gr 9 G) (hc0 : G.length ≤ c0) (d : Nat)
  (ih : ∀ d', d = d' + 1 → ∀ (M : List Nat) (A : Option Addr) (cap B : Nat) (w : World), M.length + d' = G.length → (∀ x ∈ M, x < G.length) → B ≤ w.heap.size → Kd.C (Kd.int .i64) w A0 G.length (gi G) → w.ownsRow B 3 1 (.slice A M.length cap) M.length ((gi M).map (Value.int .i64)) →
   Calls Tryd.prog 84 #[.slice A0 G.length c0, .slice A M.length cap] w fun e w' => ∃ A' n' c', e = .returned (.slice A' n' c') ∧ ((rO G d' M = none ∧ A' = none ∧ n' = 0 ∧ c' = 0) ∨ ∃ R, rO G d' M = some R ∧ n' = R.length ∧ w'.ownsRow B 3 1 (.slice A' n' c') R.length ((gi R).map (Value.int .i64)) ∧ ∃ g, A' = some g) ∧ Below w.heap.size w w')
  (M : List Nat) (A : Option Addr) (cap B : Nat) (w : World) (hd : M.length + d = G.length) (hM : ∀ x ∈ M, x < G.length) (hB : B ≤ w.heap.size) (hr0 : Kd.C (Kd.int .i64) w A0 G.length (gi G)) (ho : w.ownsRow B 3 1 (.slice A M.length cap) M.length ((gi M).map (Value.int .i64))) :
  Calls Tryd.prog 84 #[.slice A0 G.length c0, .slice A M.length cap] w fun e w' => ∃ A' n' c', e = .returned (.slice A' n' c') ∧ ((rO G d M = none ∧ A' = none ∧ n' = 0 ∧ c' = 0) ∨ ∃ R, rO G d M = some R ∧ n' = R.length ∧ w'.ownsRow B 3 1 (.slice A' n' c') R.length ((gi R).map (Value.int .i64)) ∧ ∃ g, A' = some g) ∧ Below w.heap.size w w' := by
 have hn := hG.most
 have hn1 := hG.pos
 have IH := Aside0.mk ih
 have HM := Aside0.mk hM
 have HG := Aside0.mk hG
 have HR0 := Aside0.mk hr0
 have HO := Aside0.mk ho
 have HRM : Aside0 (∀ W, Below w.heap.size w W → Kd.C (Kd.int .i64) W A M.length (gi M)) := ⟨fun W hW => by
  have h := own_kept HO.out (grown_of_below hW none) (fun _ _ e => by cases e)
  rw [show M.length = (gi M).length from (gi_length M).symm] at h
  have := (C_of_row h).2
  rw [gi_length] at this
  exact this⟩
 obtain ⟨R, hR⟩ : ∃ R, rO G d M = R := ⟨_, rfl⟩
 have HR := Aside0.mk hR
 rw [hR]
 have hcapM : M.length ≤ cap := by
  rcases ho.2 with ⟨e, h0⟩ | ⟨g, cap', cur, e, _, _, h1, _⟩
  ·injection e with e1 e2 e3; omega
  ·injection e with e1 e2 e3; omega
 have hcm1 : decide ((M.length : Int) ≤ (cap : Int)) = true := decide_eq_true (by omega)
 have hcm2 : ((M.length : Int) ≤ (cap : Int)) = True := eq_true (by omega)
 have hnone := Aside0.mk (own_nil_or ho)
 obtain ⟨z, hz⟩ : ∃ z : Int, (M.length : Int) - 1 = z := ⟨_, rfl⟩
 have hzw : wrap64 ((M.length : Int) - 1) = z := by rw [w64_small _ (by omega) (by omega)]; exact hz
 have hzz : wrap64 z = z := w64_small _ (by omega) (by omega)
 have heq_ := fun (w : World) (a : Option Addr) (n c : Nat) => run_neq_slice_nil_any (P := Tryd.prog) w 22 3 a n c 0 0 Tryd.underlying22
 obtain ⟨i3, hi3, hq0, hq1, hq2⟩ := info_parts info3
 clear ih hM hG hr0 ho hR
 go_enter Tryd.func84, Tryd.ntmps84
 go_wp2
 go_loopg [18] (M.length - 1) (fun kq v18 w' => ∃ k : Nat, v18 = .int .i64 (k : Int) ∧ k + kq = M.length - 1 ∧ Aside0 (∀ i j k', i < j → j < k' → k' < k → cr G M i k' = true → cr G M j (M.length - 1) = false) ∧ Aside0 (Below w.heap.size w w'))
 case atStart => exact ⟨0, rfl, by omega, ⟨fun _ _ _ _ _ h => by omega⟩, ⟨Below.refl _ _⟩⟩
 case round =>
  obtain ⟨k, rfl, hk, HA, HBW⟩ := hrel
  by_cases hkl : k < M.length - 1
  ·have hk1 : ((k : Int) < z) = True := eq_true (by omega)
   have hk2 : decide ((k : Int) < z) = true := decide_eq_true (by omega)
   cases gk with
   | zero => omega
   | succ gk' =>
   go_wp2
   obtain ⟨wo, rfl⟩ : ∃ wo : World, wo = wr := ⟨_, rfl⟩
   go_loopg [22] k (fun jq v22 w' => ∃ j : Nat, v22 = .int .i64 (j : Int) ∧ j + jq = k ∧ Aside0 (∀ i j', i < j' → j' < j → cr G M i k = true → cr G M j' (M.length - 1) = false) ∧ Aside0 (Below wo.heap.size wo w'))
   case atStart => exact ⟨0, rfl, by omega, ⟨fun _ _ _ h => by omega⟩, ⟨Below.refl _ _⟩⟩
   case round =>
    obtain ⟨j, rfl, hj, HAJ, HBJ⟩ := hrel
    by_cases hjl : j < k
    ·have hj1 : ((j : Int) < (k : Int)) = True := eq_true (by omega)
     have hj2 : decide ((j : Int) < (k : Int)) = true := decide_eq_true (by omega)
     cases gk with
     | zero => omega
     | succ gj =>
     go_wp2
     obtain ⟨wp, rfl⟩ : ∃ wp : World, wp = wr := ⟨_, rfl⟩
     go_loopg [26] j (fun iq v26 w' => ∃ i : Nat, v26 = .int .i64 (i : Int) ∧ i + iq = j ∧ Aside0 (∀ i', i' < i → cr G M i' k = true → cr G M j (M.length - 1) = false) ∧ Aside0 (Below wp.heap.size wp w'))
     case atStart => exact ⟨0, rfl, by omega, ⟨fun _ h => by omega⟩, ⟨Below.refl _ _⟩⟩
     case round =>
      obtain ⟨i, rfl, hi, HAI, HBI⟩ := hrel
      by_cases hil : i < j
      ·have hi1 : ((i : Int) < (j : Int)) = True := eq_true (by omega)
       have hi2 : decide ((i : Int) < (j : Int)) = true := decide_eq_true (by omega)
       cases gk with
       | zero => omega
       | succ gi' =>
       have HBX := Aside0.mk (below_step (below_step HBW.out HBJ.out) HBI.out)
       have hCM := HRM.out wr HBX.out
       have hCG := Kd.C_below HR0.out HBX.out
       obtain ⟨adM, e1, _⟩ := Kd.at_int hCM (0 : Int) (by omega) (by omega)
       subst e1
       obtain ⟨adG, e2, _⟩ := Kd.at_int hCG (0 : Int) (by omega) (by omega)
       subst e2
       have fi : wr.drew.cell? (adM.add i) = _ := cellAt hCM (show i < M.length by omega)
       have fj : wr.drew.cell? (adM.add j) = _ := cellAt hCM (show j < M.length by omega)
       have fk : wr.drew.cell? (adM.add k) = _ := cellAt hCM (show k < M.length by omega)
       have fm : wr.drew.cell? (adM.add z.toNat) = _ := cellAt hCM (show z.toNat < M.length by omega)
       have gI : wr.drew.cell? (adG.add (M.getD i 0)) = _ := cellAt hCG (getD_in HM.out (by omega))
       have gJ : wr.drew.cell? (adG.add (M.getD j 0)) = _ := cellAt hCG (getD_in HM.out (by omega))
       have hb : ∀ q, q < M.length → M.getD q 0 < G.length := fun q hq => getD_in HM.out hq
       have hg : ∀ q, q < G.length → G.getD q 0 < 2 ^ 62 := fun q hq => by have := small G hn (HG.out.lt q hq); omega
       obtain ⟨J1, hJ1, hJ2, hJ3, hJ4, hJ5⟩ := bitJ (G.getD (M.getD i 0) 0) (M.getD k 0) (hg _ (hb i (by omega))) (by have := hb k (by omega); omega)
       obtain ⟨J2, hK1, hK2, hK3, hK4, hK5⟩ := bitJ (G.getD (M.getD j 0) 0) (M.getD z.toNat 0) (hg _ (hb j (by omega))) (by have := hb z.toNat (by omega); omega)
       have hcr1 : cr G M i k = (G.getD (M.getD i 0) 0).testBit (M.getD k 0) := rfl
       have hcr2 : cr G M j (M.length - 1) = (G.getD (M.getD j 0) 0).testBit (M.getD z.toNat 0) := by unfold cr; rw [show M.length - 1 = z.toNat by omega]
       rw [← hcr1] at hJ4
       rw [← hcr2] at hK4
       have b1 := hb i (by omega)
       have b2 := hb j (by omega)
       have b3 := hb k (by omega)
       have b4 := hb z.toNat (by omega)
       clear hJ5 hK5 hcr1 hcr2 hb hg hCM hCG
       generalize G.getD (M.getD i 0) 0 = gi_ at *
       generalize G.getD (M.getD j 0) 0 = gj_ at *
       generalize M.getD i 0 = xi at *
       generalize M.getD j 0 = xj at *
       generalize M.getD k 0 = xk at *
       generalize M.getD z.toNat 0 = xm at *
       have p1 : ((i : Int) < (M.length : Int)) = True := eq_true (by omega)
       have p2 : ((j : Int) < (M.length : Int)) = True := eq_true (by omega)
       have p3 : ((k : Int) < (M.length : Int)) = True := eq_true (by omega)
       have p4 : (z < (M.length : Int)) = True := eq_true (by omega)
       have p5 : (0 ≤ z) = True := eq_true (by omega)
       have p6 : ((xi : Int) < (G.length : Int)) = True := eq_true (by omega)
       have p7 : ((xj : Int) < (G.length : Int)) = True := eq_true (by omega)
       have q1 : decide ((i : Int) < (M.length : Int)) = true := decide_eq_true (by omega)
       have q2 : decide ((j : Int) < (M.length : Int)) = true := decide_eq_true (by omega)
       have q3 : decide ((k : Int) < (M.length : Int)) = true := decide_eq_true (by omega)
       have q4 : decide (z < (M.length : Int)) = true := decide_eq_true (by omega)
       have q5 : decide (0 ≤ z) = true := decide_eq_true (by omega)
       have q6 : decide ((xi : Int) < (G.length : Int)) = true := decide_eq_true (by omega)
       have q7 : decide ((xj : Int) < (G.length : Int)) = true := decide_eq_true (by omega)
       have bd : Below wp.heap.size wp wr.drew := below_drew HBI.out
       cases hc1 : cr G M i k
       ·have HAI2 : Aside0 (∀ i', i' < i + 1 → cr G M i' k = true → cr G M j (M.length - 1) = false) := ⟨fun i' h1 h2 => by
         by_cases e : i' = i
         ·subst e; rw [hc1] at h2; cases h2
         ·exact HAI.out i' (by omega) h2⟩
        rw [hc1] at hJ4
        clear hc1 HAI HA HAJ
        go_wp2
        refine start_ (n := 31) (S := fun w' => w'.cell? (adM.add i) = some (.int .i64 (xi : Int)) ∧ w'.cell? (adM.add k) = some (.int .i64 (xk : Int)) ∧ w'.cell? (adG.add xi) = some (.int .i64 (gi_ : Int)) ∧ Below wp.heap.size wp w') (ds := []) (Qbz 31 0) (by kernel_rfl) rfl rfl ⟨fi, fk, gI, bd⟩ (fun hHeld => ?_)
        refine pure_ (i := 0) (N := some 29) (v := ?_) (a' := ?_) (Qbz 31 1) rfl rfl (by kernel_rfl) (fun _ _ _ h => h) (Or.inl ⟨by rfl, ?_⟩) ?_ ?_
        rotate_left
        ·intro w'
         go_simp
         with_reducible rfl
        rotate_left
        ·simp only [Act.put, Qp1, Qp2, Qp3, i64_w, i32_w]
         rfl
        refine pure_ (i := 1) (N := some 30) (v := ?_) (a' := ?_) (Qbz 31 3) rfl rfl (by kernel_rfl) (fun _ _ _ h => h) (Or.inl ⟨by rfl, ?_⟩) ?_ ?_
        rotate_left
        ·intro w'
         go_simp
         with_reducible rfl
        rotate_left
        ·simp only [Act.put, Qp1, Qp2, Qp3, i64_w, i32_w]
         rfl
        refine pure_ (i := 2) (N := some 31) (v := ?_) (a' := ?_) (Qbz 31 7) rfl rfl (by kernel_rfl) (fun _ _ _ h => h) (Or.inl ⟨by rfl, ?_⟩) ?_ ?_
        rotate_left
        ·intro w'
         go_simp
         with_reducible rfl
        rotate_left
        ·simp only [Act.put, Qp1, Qp2, Qp3, i64_w, i32_w]
         rfl
        refine pure_ (i := 3) (N := some 32) (v := ?_) (a' := ?_) (Qbz 31 15) rfl rfl (by kernel_rfl) (fun _ _ _ h => h) (Or.inl ⟨by rfl, ?_⟩) ?_ ?_
        rotate_left
        ·intro w'
         go_simp
         with_reducible rfl
        rotate_left
        ·simp only [Act.put, Qp1, Qp2, Qp3, i64_w, i32_w]
         rfl
        refine pure_ (i := 7) (N := some 36) (v := ?_) (a' := ?_) (Qbz 31 143) rfl rfl (by kernel_rfl) (fun _ _ _ h => h) (Or.inl ⟨by rfl, ?_⟩) ?_ ?_
        rotate_left
        ·intro w'
         go_simp
         with_reducible rfl
        rotate_left
        ·simp only [Act.put, Qp1, Qp2, Qp3, i64_w, i32_w]
         rfl
        refine pure_ (i := 8) (N := some 37) (v := ?_) (a' := ?_) (Qbz 31 399) rfl rfl (by kernel_rfl) (fun _ _ _ h => h) (Or.inl ⟨by rfl, ?_⟩) ?_ ?_
        rotate_left
        ·intro w'
         go_simp
         with_reducible rfl
        rotate_left
        ·simp only [Act.put, Qp1, Qp2, Qp3, i64_w, i32_w]
         rfl
        refine pure_ (i := 9) (N := some 38) (v := ?_) (a' := ?_) (Qbz 31 911) rfl rfl (by kernel_rfl) (fun _ _ _ h => h) (Or.inl ⟨by rfl, ?_⟩) ?_ ?_
        rotate_left
        ·intro w'
         go_simp
         with_reducible rfl
        rotate_left
        ·simp only [Act.put, Qp1, Qp2, Qp3, i64_w, i32_w]
         rfl
        refine take_ (i := 4) (N := some 33) (v := ?_) (a' := ?_) (Qbz 31 927) rfl rfl (by kernel_rfl) (fun _ _ _ h => h) (Or.inl ⟨by rfl, ?_⟩) hHeld ?_ ?_
        rotate_left
        ·rintro w' ⟨s0, s1, s2, s3⟩
         go_simp
         with_reducible rfl
        rotate_left
        ·simp only [Act.put, Qp1, Qp2, Qp3, i64_w, i32_w]
         rfl
        refine pure_ (i := 5) (N := some 34) (v := ?_) (a' := ?_) (Qbz 31 959) rfl rfl (by kernel_rfl) (fun _ _ _ h => h) (Or.inl ⟨by rfl, ?_⟩) ?_ ?_
        rotate_left
        ·intro w'
         go_simp
         with_reducible rfl
        rotate_left
        ·simp only [Act.put, Qp1, Qp2, Qp3, i64_w, i32_w]
         rfl
        refine take_ (i := 6) (N := some 35) (v := ?_) (a' := ?_) (Qbz 31 1023) rfl rfl (by kernel_rfl) (fun _ _ _ h => h) (Or.inl ⟨by rfl, ?_⟩) hHeld ?_ ?_
        rotate_left
        ·rintro w' ⟨s0, s1, s2, s3⟩
         go_simp
         with_reducible rfl
        rotate_left
        ·simp only [Act.put, Qp1, Qp2, Qp3, i64_w, i32_w]
         rfl
        refine take_ (i := 10) (N := some 39) (v := ?_) (a' := ?_) (Qbz 31 2047) rfl rfl (by kernel_rfl) (fun _ _ _ h => h) (Or.inl ⟨by rfl, ?_⟩) hHeld ?_ ?_
        rotate_left
        ·rintro w' ⟨s0, s1, s2, s3⟩
         go_simp
         with_reducible rfl
        rotate_left
        ·simp only [Act.put, Qp1, Qp2, Qp3, i64_w, i32_w]
         rfl
        refine pure_ (i := 11) (N := some 40) (v := ?_) (a' := ?_) (Qbz 31 4095) rfl rfl (by kernel_rfl) (fun _ _ _ h => h) (Or.inl ⟨by rfl, ?_⟩) ?_ ?_
        rotate_left
        ·intro w'
         go_simp
         with_reducible rfl
        rotate_left
        ·simp only [Act.put, Qp1, Qp2, Qp3, i64_w, i32_w]
         rfl
        refine pure_ (i := 12) (N := some 41) (v := ?_) (a' := ?_) (Qbz 31 8191) rfl rfl (by kernel_rfl) (fun _ _ _ h => h) (Or.inl ⟨by rfl, ?_⟩) ?_ ?_
        rotate_left
        ·intro w'
         go_simp
         with_reducible rfl
        rotate_left
        ·simp only [Act.put, Qp1, Qp2, Qp3, i64_w, i32_w]
         rfl
        refine pure_ (i := 13) (N := some 42) (v := ?_) (a' := ?_) (Qbz 31 16383) rfl rfl (by kernel_rfl) (fun _ _ _ h => h) (Or.inl ⟨by rfl, ?_⟩) ?_ ?_
        rotate_left
        ·intro w'
         go_simp
         with_reducible rfl
        rotate_left
        ·simp only [Act.put, Qp1, Qp2, Qp3, i64_w, i32_w]
         rfl
        refine pure_ (i := 14) (N := some 43) (v := ?_) (a' := ?_) (Qbz 31 32767) rfl rfl (by kernel_rfl) (fun _ _ _ h => h) (Or.inl ⟨by rfl, ?_⟩) ?_ ?_
        rotate_left
        ·intro w'
         go_simp
         with_reducible rfl
        rotate_left
        ·simp only [Act.put, Qp1, Qp2, Qp3, i64_w, i32_w]
         rfl
        refine pure_ (i := 15) (N := some 44) (v := undef) (a' := ?_) (Qbz 31 65535) rfl rfl (by kernel_rfl) (fun _ _ _ h => h) (Or.inr ⟨by rfl, rfl⟩) ?_ ?_
        rotate_left
        ·simp only [Act.put, Qp1, Qp2, Qp3, i64_w, i32_w]
         rfl
        refine pure_ (i := 16) (N := some 45) (v := undef) (a' := ?_) (Qbz 31 131071) rfl rfl (by kernel_rfl) (fun _ _ _ h => h) (Or.inr ⟨by rfl, rfl⟩) ?_ ?_
        rotate_left
        ·simp only [Act.put, Qp1, Qp2, Qp3, i64_w, i32_w]
         rfl
        refine pure_ (i := 17) (N := some 46) (v := undef) (a' := ?_) (Qbz 31 262143) rfl rfl (by kernel_rfl) (fun _ _ _ h => h) (Or.inr ⟨by rfl, rfl⟩) ?_ ?_
        rotate_left
        ·simp only [Act.put, Qp1, Qp2, Qp3, i64_w, i32_w]
         rfl
        refine pure_ (i := 18) (N := some 47) (v := undef) (a' := ?_) (Qbz 31 524287) rfl rfl (by kernel_rfl) (fun _ _ _ h => h) (Or.inr ⟨by rfl, rfl⟩) ?_ ?_
        rotate_left
        ·simp only [Act.put, Qp1, Qp2, Qp3, i64_w, i32_w]
         rfl
        refine pure_ (i := 19) (N := some 48) (v := undef) (a' := ?_) (Qbz 31 1048575) rfl rfl (by kernel_rfl) (fun _ _ _ h => h) (Or.inr ⟨by rfl, rfl⟩) ?_ ?_
        rotate_left
        ·simp only [Act.put, Qp1, Qp2, Qp3, i64_w, i32_w]
         rfl
        refine pure_ (i := 20) (N := some 49) (v := undef) (a' := ?_) (Qbz 31 2097151) rfl rfl (by kernel_rfl) (fun _ _ _ h => h) (Or.inr ⟨by rfl, rfl⟩) ?_ ?_
        rotate_left
        ·simp only [Act.put, Qp1, Qp2, Qp3, i64_w, i32_w]
         rfl
        refine pure_ (i := 21) (N := some 50) (v := undef) (a' := ?_) (Qbz 31 4194303) rfl rfl (by kernel_rfl) (fun _ _ _ h => h) (Or.inr ⟨by rfl, rfl⟩) ?_ ?_
        rotate_left
        ·simp only [Act.put, Qp1, Qp2, Qp3, i64_w, i32_w]
         rfl
        refine pure_ (i := 22) (N := some 51) (v := undef) (a' := ?_) (Qbz 31 8388607) rfl rfl (by kernel_rfl) (fun _ _ _ h => h) (Or.inr ⟨by rfl, rfl⟩) ?_ ?_
        rotate_left
        ·simp only [Act.put, Qp1, Qp2, Qp3, i64_w, i32_w]
         rfl
        refine pure_ (i := 23) (N := some 52) (v := undef) (a' := ?_) (Qbz 31 16777215) rfl rfl (by kernel_rfl) (fun _ _ _ h => h) (Or.inr ⟨by rfl, rfl⟩) ?_ ?_
        rotate_left
        ·simp only [Act.put, Qp1, Qp2, Qp3, i64_w, i32_w]
         rfl
        refine pure_ (i := 24) (N := some 53) (v := undef) (a' := ?_) (Qbz 31 33554431) rfl rfl (by kernel_rfl) (fun _ _ _ h => h) (Or.inr ⟨by rfl, rfl⟩) ?_ ?_
        rotate_left
        ·simp only [Act.put, Qp1, Qp2, Qp3, i64_w, i32_w]
         rfl
        refine pure_ (i := 25) (N := some 54) (v := undef) (a' := ?_) (Qbz 31 67108863) rfl rfl (by kernel_rfl) (fun _ _ _ h => h) (Or.inr ⟨by rfl, rfl⟩) ?_ ?_
        rotate_left
        ·simp only [Act.put, Qp1, Qp2, Qp3, i64_w, i32_w]
         rfl
        refine pure_ (i := 26) (N := some 55) (v := undef) (a' := ?_) (Qbz 31 134217727) rfl rfl (by kernel_rfl) (fun _ _ _ h => h) (Or.inr ⟨by rfl, rfl⟩) ?_ ?_
        rotate_left
        ·simp only [Act.put, Qp1, Qp2, Qp3, i64_w, i32_w]
         rfl
        refine pure_ (i := 27) (N := some 56) (v := undef) (a' := ?_) (Qbz 31 268435455) rfl rfl (by kernel_rfl) (fun _ _ _ h => h) (Or.inr ⟨by rfl, rfl⟩) ?_ ?_
        rotate_left
        ·simp only [Act.put, Qp1, Qp2, Qp3, i64_w, i32_w]
         rfl
        refine pure_ (i := 28) (N := some 57) (v := undef) (a' := ?_) (Qbz 31 536870911) rfl rfl (by kernel_rfl) (fun _ _ _ h => h) (Or.inr ⟨by rfl, rfl⟩) ?_ ?_
        rotate_left
        ·simp only [Act.put, Qp1, Qp2, Qp3, i64_w, i32_w]
         rfl
        refine pure_ (i := 29) (N := some 58) (v := undef) (a' := ?_) (Qbz 31 1073741823) rfl rfl (by kernel_rfl) (fun _ _ _ h => h) (Or.inr ⟨by rfl, rfl⟩) ?_ ?_
        rotate_left
        ·simp only [Act.put, Qp1, Qp2, Qp3, i64_w, i32_w]
         rfl
        refine pure_ (i := 30) (N := some 59) (v := ?_) (a' := ?_) (Qbz 31 2147483647) rfl rfl (by kernel_rfl) (fun _ _ _ h => h) (Or.inl ⟨by rfl, ?_⟩) ?_ ?_
        rotate_left
        ·intro w'
         go_simp
         with_reducible rfl
        rotate_left
        ·simp only [Act.put, Qp1, Qp2, Qp3, i64_w, i32_w]
         rfl
        refine done_ (by kernel_rfl) ?_
        have HB2 := Aside0.mk hHeld.2.2.2
        go_wp2
        go_roundg gi'
        case measure => omega
        case rel => exact ⟨i + 1, by go_num, by omega, HAI2, HB2⟩
       ·rw [hc1] at hJ4
        cases hc2 : cr G M j (M.length - 1)
        ·have HAI2 : Aside0 (∀ i', i' < i + 1 → cr G M i' k = true → cr G M j (M.length - 1) = false) := ⟨fun i' h1 h2 => hc2⟩
         rw [hc2] at hK4
         clear hc1 hc2 HAI HA HAJ
         go_wp2
         refine start_ (n := 31) (S := fun w' => w'.cell? (adM.add i) = some (.int .i64 (xi : Int)) ∧ w'.cell? (adM.add k) = some (.int .i64 (xk : Int)) ∧ w'.cell? (adG.add xi) = some (.int .i64 (gi_ : Int)) ∧ w'.cell? (adM.add j) = some (.int .i64 (xj : Int)) ∧ w'.cell? (adM.add z.toNat) = some (.int .i64 (xm : Int)) ∧ w'.cell? (adG.add xj) = some (.int .i64 (gj_ : Int)) ∧ Below wp.heap.size wp w') (ds := []) (Qbz 31 0) (by kernel_rfl) rfl rfl ⟨fi, fk, gI, fj, fm, gJ, bd⟩ (fun hHeld => ?_)
         refine pure_ (i := 0) (N := some 29) (v := ?_) (a' := ?_) (Qbz 31 1) rfl rfl (by kernel_rfl) (fun _ _ _ h => h) (Or.inl ⟨by rfl, ?_⟩) ?_ ?_
         rotate_left
         ·intro w'
          go_simp
          with_reducible rfl
         rotate_left
         ·simp only [Act.put, Qp1, Qp2, Qp3, i64_w, i32_w]
          rfl
         refine pure_ (i := 1) (N := some 30) (v := ?_) (a' := ?_) (Qbz 31 3) rfl rfl (by kernel_rfl) (fun _ _ _ h => h) (Or.inl ⟨by rfl, ?_⟩) ?_ ?_
         rotate_left
         ·intro w'
          go_simp
          with_reducible rfl
         rotate_left
         ·simp only [Act.put, Qp1, Qp2, Qp3, i64_w, i32_w]
          rfl
         refine pure_ (i := 2) (N := some 31) (v := ?_) (a' := ?_) (Qbz 31 7) rfl rfl (by kernel_rfl) (fun _ _ _ h => h) (Or.inl ⟨by rfl, ?_⟩) ?_ ?_
         rotate_left
         ·intro w'
          go_simp
          with_reducible rfl
         rotate_left
         ·simp only [Act.put, Qp1, Qp2, Qp3, i64_w, i32_w]
          rfl
         refine pure_ (i := 3) (N := some 32) (v := ?_) (a' := ?_) (Qbz 31 15) rfl rfl (by kernel_rfl) (fun _ _ _ h => h) (Or.inl ⟨by rfl, ?_⟩) ?_ ?_
         rotate_left
         ·intro w'
          go_simp
          with_reducible rfl
         rotate_left
         ·simp only [Act.put, Qp1, Qp2, Qp3, i64_w, i32_w]
          rfl
         refine pure_ (i := 7) (N := some 36) (v := ?_) (a' := ?_) (Qbz 31 143) rfl rfl (by kernel_rfl) (fun _ _ _ h => h) (Or.inl ⟨by rfl, ?_⟩) ?_ ?_
         rotate_left
         ·intro w'
          go_simp
          with_reducible rfl
         rotate_left
         ·simp only [Act.put, Qp1, Qp2, Qp3, i64_w, i32_w]
          rfl
         refine pure_ (i := 8) (N := some 37) (v := ?_) (a' := ?_) (Qbz 31 399) rfl rfl (by kernel_rfl) (fun _ _ _ h => h) (Or.inl ⟨by rfl, ?_⟩) ?_ ?_
         rotate_left
         ·intro w'
          go_simp
          with_reducible rfl
         rotate_left
         ·simp only [Act.put, Qp1, Qp2, Qp3, i64_w, i32_w]
          rfl
         refine pure_ (i := 9) (N := some 38) (v := ?_) (a' := ?_) (Qbz 31 911) rfl rfl (by kernel_rfl) (fun _ _ _ h => h) (Or.inl ⟨by rfl, ?_⟩) ?_ ?_
         rotate_left
         ·intro w'
          go_simp
          with_reducible rfl
         rotate_left
         ·simp only [Act.put, Qp1, Qp2, Qp3, i64_w, i32_w]
          rfl
         refine take_ (i := 4) (N := some 33) (v := ?_) (a' := ?_) (Qbz 31 927) rfl rfl (by kernel_rfl) (fun _ _ _ h => h) (Or.inl ⟨by rfl, ?_⟩) hHeld ?_ ?_
         rotate_left
         ·rintro w' ⟨s0, s1, s2, s3, s4, s5, s6⟩
          go_simp
          with_reducible rfl
         rotate_left
         ·simp only [Act.put, Qp1, Qp2, Qp3, i64_w, i32_w]
          rfl
         refine pure_ (i := 5) (N := some 34) (v := ?_) (a' := ?_) (Qbz 31 959) rfl rfl (by kernel_rfl) (fun _ _ _ h => h) (Or.inl ⟨by rfl, ?_⟩) ?_ ?_
         rotate_left
         ·intro w'
          go_simp
          with_reducible rfl
         rotate_left
         ·simp only [Act.put, Qp1, Qp2, Qp3, i64_w, i32_w]
          rfl
         refine take_ (i := 6) (N := some 35) (v := ?_) (a' := ?_) (Qbz 31 1023) rfl rfl (by kernel_rfl) (fun _ _ _ h => h) (Or.inl ⟨by rfl, ?_⟩) hHeld ?_ ?_
         rotate_left
         ·rintro w' ⟨s0, s1, s2, s3, s4, s5, s6⟩
          go_simp
          with_reducible rfl
         rotate_left
         ·simp only [Act.put, Qp1, Qp2, Qp3, i64_w, i32_w]
          rfl
         refine take_ (i := 10) (N := some 39) (v := ?_) (a' := ?_) (Qbz 31 2047) rfl rfl (by kernel_rfl) (fun _ _ _ h => h) (Or.inl ⟨by rfl, ?_⟩) hHeld ?_ ?_
         rotate_left
         ·rintro w' ⟨s0, s1, s2, s3, s4, s5, s6⟩
          go_simp
          with_reducible rfl
         rotate_left
         ·simp only [Act.put, Qp1, Qp2, Qp3, i64_w, i32_w]
          rfl
         refine pure_ (i := 11) (N := some 40) (v := ?_) (a' := ?_) (Qbz 31 4095) rfl rfl (by kernel_rfl) (fun _ _ _ h => h) (Or.inl ⟨by rfl, ?_⟩) ?_ ?_
         rotate_left
         ·intro w'
          go_simp
          with_reducible rfl
         rotate_left
         ·simp only [Act.put, Qp1, Qp2, Qp3, i64_w, i32_w]
          rfl
         refine pure_ (i := 12) (N := some 41) (v := ?_) (a' := ?_) (Qbz 31 8191) rfl rfl (by kernel_rfl) (fun _ _ _ h => h) (Or.inl ⟨by rfl, ?_⟩) ?_ ?_
         rotate_left
         ·intro w'
          go_simp
          with_reducible rfl
         rotate_left
         ·simp only [Act.put, Qp1, Qp2, Qp3, i64_w, i32_w]
          rfl
         refine pure_ (i := 13) (N := some 42) (v := ?_) (a' := ?_) (Qbz 31 16383) rfl rfl (by kernel_rfl) (fun _ _ _ h => h) (Or.inl ⟨by rfl, ?_⟩) ?_ ?_
         rotate_left
         ·intro w'
          go_simp
          with_reducible rfl
         rotate_left
         ·simp only [Act.put, Qp1, Qp2, Qp3, i64_w, i32_w]
          rfl
         refine pure_ (i := 14) (N := some 43) (v := ?_) (a' := ?_) (Qbz 31 32767) rfl rfl (by kernel_rfl) (fun _ _ _ h => h) (Or.inl ⟨by rfl, ?_⟩) ?_ ?_
         rotate_left
         ·intro w'
          go_simp
          with_reducible rfl
         rotate_left
         ·simp only [Act.put, Qp1, Qp2, Qp3, i64_w, i32_w]
          rfl
         refine pure_ (i := 15) (N := some 44) (v := ?_) (a' := ?_) (Qbz 31 65535) rfl rfl (by kernel_rfl) (fun _ _ _ h => h) (Or.inl ⟨by rfl, ?_⟩) ?_ ?_
         rotate_left
         ·intro w'
          go_simp
          with_reducible rfl
         rotate_left
         ·simp only [Act.put, Qp1, Qp2, Qp3, i64_w, i32_w]
          rfl
         refine pure_ (i := 16) (N := some 45) (v := ?_) (a' := ?_) (Qbz 31 131071) rfl rfl (by kernel_rfl) (fun _ _ _ h => h) (Or.inl ⟨by rfl, ?_⟩) ?_ ?_
         rotate_left
         ·intro w'
          go_simp
          with_reducible rfl
         rotate_left
         ·simp only [Act.put, Qp1, Qp2, Qp3, i64_w, i32_w]
          rfl
         refine pure_ (i := 17) (N := some 46) (v := ?_) (a' := ?_) (Qbz 31 262143) rfl rfl (by kernel_rfl) (fun _ _ _ h => h) (Or.inl ⟨by rfl, ?_⟩) ?_ ?_
         rotate_left
         ·intro w'
          go_simp
          with_reducible rfl
         rotate_left
         ·simp only [Act.put, Qp1, Qp2, Qp3, i64_w, i32_w]
          rfl
         refine pure_ (i := 18) (N := some 47) (v := ?_) (a' := ?_) (Qbz 31 524287) rfl rfl (by kernel_rfl) (fun _ _ _ h => h) (Or.inl ⟨by rfl, ?_⟩) ?_ ?_
         rotate_left
         ·intro w'
          go_simp
          with_reducible rfl
         rotate_left
         ·simp only [Act.put, Qp1, Qp2, Qp3, i64_w, i32_w]
          rfl
         refine pure_ (i := 22) (N := some 51) (v := ?_) (a' := ?_) (Qbz 31 4718591) rfl rfl (by kernel_rfl) (fun _ _ _ h => h) (Or.inl ⟨by rfl, ?_⟩) ?_ ?_
         rotate_left
         ·intro w'
          go_simp
          with_reducible rfl
         rotate_left
         ·simp only [Act.put, Qp1, Qp2, Qp3, i64_w, i32_w]
          rfl
         refine pure_ (i := 23) (N := some 52) (v := ?_) (a' := ?_) (Qbz 31 13107199) rfl rfl (by kernel_rfl) (fun _ _ _ h => h) (Or.inl ⟨by rfl, ?_⟩) ?_ ?_
         rotate_left
         ·intro w'
          go_simp
          with_reducible rfl
         rotate_left
         ·simp only [Act.put, Qp1, Qp2, Qp3, i64_w, i32_w]
          rfl
         refine pure_ (i := 24) (N := some 53) (v := ?_) (a' := ?_) (Qbz 31 29884415) rfl rfl (by kernel_rfl) (fun _ _ _ h => h) (Or.inl ⟨by rfl, ?_⟩) ?_ ?_
         rotate_left
         ·intro w'
          go_simp
          with_reducible rfl
         rotate_left
         ·simp only [Act.put, Qp1, Qp2, Qp3, i64_w, i32_w]
          rfl
         refine pure_ (i := 25) (N := some 54) (v := ?_) (a' := ?_) (Qbz 31 63438847) rfl rfl (by kernel_rfl) (fun _ _ _ h => h) (Or.inl ⟨by rfl, ?_⟩) ?_ ?_
         rotate_left
         ·intro w'
          go_simp
          with_reducible rfl
         rotate_left
         ·simp only [Act.put, Qp1, Qp2, Qp3, i64_w, i32_w]
          rfl
         refine take_ (i := 19) (N := some 48) (v := ?_) (a' := ?_) (Qbz 31 63963135) rfl rfl (by kernel_rfl) (fun _ _ _ h => h) (Or.inl ⟨by rfl, ?_⟩) hHeld ?_ ?_
         rotate_left
         ·rintro w' ⟨s0, s1, s2, s3, s4, s5, s6⟩
          go_simp
          with_reducible rfl
         rotate_left
         ·simp only [Act.put, Qp1, Qp2, Qp3, i64_w, i32_w]
          rfl
         refine pure_ (i := 20) (N := some 49) (v := ?_) (a' := ?_) (Qbz 31 65011711) rfl rfl (by kernel_rfl) (fun _ _ _ h => h) (Or.inl ⟨by rfl, ?_⟩) ?_ ?_
         rotate_left
         ·intro w'
          go_simp
          with_reducible rfl
         rotate_left
         ·simp only [Act.put, Qp1, Qp2, Qp3, i64_w, i32_w]
          rfl
         refine take_ (i := 21) (N := some 50) (v := ?_) (a' := ?_) (Qbz 31 67108863) rfl rfl (by kernel_rfl) (fun _ _ _ h => h) (Or.inl ⟨by rfl, ?_⟩) hHeld ?_ ?_
         rotate_left
         ·rintro w' ⟨s0, s1, s2, s3, s4, s5, s6⟩
          go_simp
          with_reducible rfl
         rotate_left
         ·simp only [Act.put, Qp1, Qp2, Qp3, i64_w, i32_w]
          rfl
         refine take_ (i := 26) (N := some 55) (v := ?_) (a' := ?_) (Qbz 31 134217727) rfl rfl (by kernel_rfl) (fun _ _ _ h => h) (Or.inl ⟨by rfl, ?_⟩) hHeld ?_ ?_
         rotate_left
         ·rintro w' ⟨s0, s1, s2, s3, s4, s5, s6⟩
          go_simp
          with_reducible rfl
         rotate_left
         ·simp only [Act.put, Qp1, Qp2, Qp3, i64_w, i32_w]
          rfl
         refine pure_ (i := 27) (N := some 56) (v := ?_) (a' := ?_) (Qbz 31 268435455) rfl rfl (by kernel_rfl) (fun _ _ _ h => h) (Or.inl ⟨by rfl, ?_⟩) ?_ ?_
         rotate_left
         ·intro w'
          go_simp
          with_reducible rfl
         rotate_left
         ·simp only [Act.put, Qp1, Qp2, Qp3, i64_w, i32_w]
          rfl
         refine pure_ (i := 28) (N := some 57) (v := ?_) (a' := ?_) (Qbz 31 536870911) rfl rfl (by kernel_rfl) (fun _ _ _ h => h) (Or.inl ⟨by rfl, ?_⟩) ?_ ?_
         rotate_left
         ·intro w'
          go_simp
          with_reducible rfl
         rotate_left
         ·simp only [Act.put, Qp1, Qp2, Qp3, i64_w, i32_w]
          rfl
         refine pure_ (i := 29) (N := some 58) (v := ?_) (a' := ?_) (Qbz 31 1073741823) rfl rfl (by kernel_rfl) (fun _ _ _ h => h) (Or.inl ⟨by rfl, ?_⟩) ?_ ?_
         rotate_left
         ·intro w'
          go_simp
          with_reducible rfl
         rotate_left
         ·simp only [Act.put, Qp1, Qp2, Qp3, i64_w, i32_w]
          rfl
         refine pure_ (i := 30) (N := some 59) (v := ?_) (a' := ?_) (Qbz 31 2147483647) rfl rfl (by kernel_rfl) (fun _ _ _ h => h) (Or.inl ⟨by rfl, ?_⟩) ?_ ?_
         rotate_left
         ·intro w'
          go_simp
          with_reducible rfl
         rotate_left
         ·simp only [Act.put, Qp1, Qp2, Qp3, i64_w, i32_w]
          rfl
         refine done_ (by kernel_rfl) ?_
         have HB2 := Aside0.mk hHeld.2.2.2.2.2.2
         go_wp2
         go_roundg gi'
         case measure => omega
         case rel => exact ⟨i + 1, by go_num, by omega, HAI2, HB2⟩
        ·have hX : crossB G M = true := (crossB_iff G M).2 ⟨i, j, k, by omega, by omega, by omega, hc1, hc2⟩
         have hr2 : R = none := by
          rw [← HR.out]
          cases d <;> rw [rO, if_pos hX]
         subst hr2
         rw [hc2] at hK4
         clear hc1 hc2 HAI HA HAJ hX HR
         go_wp2
         refine start_ (n := 31) (S := fun w' => w'.cell? (adM.add i) = some (.int .i64 (xi : Int)) ∧ w'.cell? (adM.add k) = some (.int .i64 (xk : Int)) ∧ w'.cell? (adG.add xi) = some (.int .i64 (gi_ : Int)) ∧ w'.cell? (adM.add j) = some (.int .i64 (xj : Int)) ∧ w'.cell? (adM.add z.toNat) = some (.int .i64 (xm : Int)) ∧ w'.cell? (adG.add xj) = some (.int .i64 (gj_ : Int)) ∧ Below wp.heap.size wp w') (ds := []) (Qbz 31 0) (by kernel_rfl) rfl rfl ⟨fi, fk, gI, fj, fm, gJ, bd⟩ (fun hHeld => ?_)
         refine pure_ (i := 0) (N := some 29) (v := ?_) (a' := ?_) (Qbz 31 1) rfl rfl (by kernel_rfl) (fun _ _ _ h => h) (Or.inl ⟨by rfl, ?_⟩) ?_ ?_
         rotate_left
         ·intro w'
          go_simp
          with_reducible rfl
         rotate_left
         ·simp only [Act.put, Qp1, Qp2, Qp3, i64_w, i32_w]
          rfl
         refine pure_ (i := 1) (N := some 30) (v := ?_) (a' := ?_) (Qbz 31 3) rfl rfl (by kernel_rfl) (fun _ _ _ h => h) (Or.inl ⟨by rfl, ?_⟩) ?_ ?_
         rotate_left
         ·intro w'
          go_simp
          with_reducible rfl
         rotate_left
         ·simp only [Act.put, Qp1, Qp2, Qp3, i64_w, i32_w]
          rfl
         refine pure_ (i := 2) (N := some 31) (v := ?_) (a' := ?_) (Qbz 31 7) rfl rfl (by kernel_rfl) (fun _ _ _ h => h) (Or.inl ⟨by rfl, ?_⟩) ?_ ?_
         rotate_left
         ·intro w'
          go_simp
          with_reducible rfl
         rotate_left
         ·simp only [Act.put, Qp1, Qp2, Qp3, i64_w, i32_w]
          rfl
         refine pure_ (i := 3) (N := some 32) (v := ?_) (a' := ?_) (Qbz 31 15) rfl rfl (by kernel_rfl) (fun _ _ _ h => h) (Or.inl ⟨by rfl, ?_⟩) ?_ ?_
         rotate_left
         ·intro w'
          go_simp
          with_reducible rfl
         rotate_left
         ·simp only [Act.put, Qp1, Qp2, Qp3, i64_w, i32_w]
          rfl
         refine pure_ (i := 7) (N := some 36) (v := ?_) (a' := ?_) (Qbz 31 143) rfl rfl (by kernel_rfl) (fun _ _ _ h => h) (Or.inl ⟨by rfl, ?_⟩) ?_ ?_
         rotate_left
         ·intro w'
          go_simp
          with_reducible rfl
         rotate_left
         ·simp only [Act.put, Qp1, Qp2, Qp3, i64_w, i32_w]
          rfl
         refine pure_ (i := 8) (N := some 37) (v := ?_) (a' := ?_) (Qbz 31 399) rfl rfl (by kernel_rfl) (fun _ _ _ h => h) (Or.inl ⟨by rfl, ?_⟩) ?_ ?_
         rotate_left
         ·intro w'
          go_simp
          with_reducible rfl
         rotate_left
         ·simp only [Act.put, Qp1, Qp2, Qp3, i64_w, i32_w]
          rfl
         refine pure_ (i := 9) (N := some 38) (v := ?_) (a' := ?_) (Qbz 31 911) rfl rfl (by kernel_rfl) (fun _ _ _ h => h) (Or.inl ⟨by rfl, ?_⟩) ?_ ?_
         rotate_left
         ·intro w'
          go_simp
          with_reducible rfl
         rotate_left
         ·simp only [Act.put, Qp1, Qp2, Qp3, i64_w, i32_w]
          rfl
         refine take_ (i := 4) (N := some 33) (v := ?_) (a' := ?_) (Qbz 31 927) rfl rfl (by kernel_rfl) (fun _ _ _ h => h) (Or.inl ⟨by rfl, ?_⟩) hHeld ?_ ?_
         rotate_left
         ·rintro w' ⟨s0, s1, s2, s3, s4, s5, s6⟩
          go_simp
          with_reducible rfl
         rotate_left
         ·simp only [Act.put, Qp1, Qp2, Qp3, i64_w, i32_w]
          rfl
         refine pure_ (i := 5) (N := some 34) (v := ?_) (a' := ?_) (Qbz 31 959) rfl rfl (by kernel_rfl) (fun _ _ _ h => h) (Or.inl ⟨by rfl, ?_⟩) ?_ ?_
         rotate_left
         ·intro w'
          go_simp
          with_reducible rfl
         rotate_left
         ·simp only [Act.put, Qp1, Qp2, Qp3, i64_w, i32_w]
          rfl
         refine take_ (i := 6) (N := some 35) (v := ?_) (a' := ?_) (Qbz 31 1023) rfl rfl (by kernel_rfl) (fun _ _ _ h => h) (Or.inl ⟨by rfl, ?_⟩) hHeld ?_ ?_
         rotate_left
         ·rintro w' ⟨s0, s1, s2, s3, s4, s5, s6⟩
          go_simp
          with_reducible rfl
         rotate_left
         ·simp only [Act.put, Qp1, Qp2, Qp3, i64_w, i32_w]
          rfl
         refine take_ (i := 10) (N := some 39) (v := ?_) (a' := ?_) (Qbz 31 2047) rfl rfl (by kernel_rfl) (fun _ _ _ h => h) (Or.inl ⟨by rfl, ?_⟩) hHeld ?_ ?_
         rotate_left
         ·rintro w' ⟨s0, s1, s2, s3, s4, s5, s6⟩
          go_simp
          with_reducible rfl
         rotate_left
         ·simp only [Act.put, Qp1, Qp2, Qp3, i64_w, i32_w]
          rfl
         refine pure_ (i := 11) (N := some 40) (v := ?_) (a' := ?_) (Qbz 31 4095) rfl rfl (by kernel_rfl) (fun _ _ _ h => h) (Or.inl ⟨by rfl, ?_⟩) ?_ ?_
         rotate_left
         ·intro w'
          go_simp
          with_reducible rfl
         rotate_left
         ·simp only [Act.put, Qp1, Qp2, Qp3, i64_w, i32_w]
          rfl
         refine pure_ (i := 12) (N := some 41) (v := ?_) (a' := ?_) (Qbz 31 8191) rfl rfl (by kernel_rfl) (fun _ _ _ h => h) (Or.inl ⟨by rfl, ?_⟩) ?_ ?_
         rotate_left
         ·intro w'
          go_simp
          with_reducible rfl
         rotate_left
         ·simp only [Act.put, Qp1, Qp2, Qp3, i64_w, i32_w]
          rfl
         refine pure_ (i := 13) (N := some 42) (v := ?_) (a' := ?_) (Qbz 31 16383) rfl rfl (by kernel_rfl) (fun _ _ _ h => h) (Or.inl ⟨by rfl, ?_⟩) ?_ ?_
         rotate_left
         ·intro w'
          go_simp
          with_reducible rfl
         rotate_left
         ·simp only [Act.put, Qp1, Qp2, Qp3, i64_w, i32_w]
          rfl
         refine pure_ (i := 14) (N := some 43) (v := ?_) (a' := ?_) (Qbz 31 32767) rfl rfl (by kernel_rfl) (fun _ _ _ h => h) (Or.inl ⟨by rfl, ?_⟩) ?_ ?_
         rotate_left
         ·intro w'
          go_simp
          with_reducible rfl
         rotate_left
         ·simp only [Act.put, Qp1, Qp2, Qp3, i64_w, i32_w]
          rfl
         refine pure_ (i := 15) (N := some 44) (v := ?_) (a' := ?_) (Qbz 31 65535) rfl rfl (by kernel_rfl) (fun _ _ _ h => h) (Or.inl ⟨by rfl, ?_⟩) ?_ ?_
         rotate_left
         ·intro w'
          go_simp
          with_reducible rfl
         rotate_left
         ·simp only [Act.put, Qp1, Qp2, Qp3, i64_w, i32_w]
          rfl
         refine pure_ (i := 16) (N := some 45) (v := ?_) (a' := ?_) (Qbz 31 131071) rfl rfl (by kernel_rfl) (fun _ _ _ h => h) (Or.inl ⟨by rfl, ?_⟩) ?_ ?_
         rotate_left
         ·intro w'
          go_simp
          with_reducible rfl
         rotate_left
         ·simp only [Act.put, Qp1, Qp2, Qp3, i64_w, i32_w]
          rfl
         refine pure_ (i := 17) (N := some 46) (v := ?_) (a' := ?_) (Qbz 31 262143) rfl rfl (by kernel_rfl) (fun _ _ _ h => h) (Or.inl ⟨by rfl, ?_⟩) ?_ ?_
         rotate_left
         ·intro w'
          go_simp
          with_reducible rfl
         rotate_left
         ·simp only [Act.put, Qp1, Qp2, Qp3, i64_w, i32_w]
          rfl
         refine pure_ (i := 18) (N := some 47) (v := ?_) (a' := ?_) (Qbz 31 524287) rfl rfl (by kernel_rfl) (fun _ _ _ h => h) (Or.inl ⟨by rfl, ?_⟩) ?_ ?_
         rotate_left
         ·intro w'
          go_simp
          with_reducible rfl
         rotate_left
         ·simp only [Act.put, Qp1, Qp2, Qp3, i64_w, i32_w]
          rfl
         refine pure_ (i := 22) (N := some 51) (v := ?_) (a' := ?_) (Qbz 31 4718591) rfl rfl (by kernel_rfl) (fun _ _ _ h => h) (Or.inl ⟨by rfl, ?_⟩) ?_ ?_
         rotate_left
         ·intro w'
          go_simp
          with_reducible rfl
         rotate_left
         ·simp only [Act.put, Qp1, Qp2, Qp3, i64_w, i32_w]
          rfl
         refine pure_ (i := 23) (N := some 52) (v := ?_) (a' := ?_) (Qbz 31 13107199) rfl rfl (by kernel_rfl) (fun _ _ _ h => h) (Or.inl ⟨by rfl, ?_⟩) ?_ ?_
         rotate_left
         ·intro w'
          go_simp
          with_reducible rfl
         rotate_left
         ·simp only [Act.put, Qp1, Qp2, Qp3, i64_w, i32_w]
          rfl
         refine pure_ (i := 24) (N := some 53) (v := ?_) (a' := ?_) (Qbz 31 29884415) rfl rfl (by kernel_rfl) (fun _ _ _ h => h) (Or.inl ⟨by rfl, ?_⟩) ?_ ?_
         rotate_left
         ·intro w'
          go_simp
          with_reducible rfl
         rotate_left
         ·simp only [Act.put, Qp1, Qp2, Qp3, i64_w, i32_w]
          rfl
         refine pure_ (i := 25) (N := some 54) (v := ?_) (a' := ?_) (Qbz 31 63438847) rfl rfl (by kernel_rfl) (fun _ _ _ h => h) (Or.inl ⟨by rfl, ?_⟩) ?_ ?_
         rotate_left
         ·intro w'
          go_simp
          with_reducible rfl
         rotate_left
         ·simp only [Act.put, Qp1, Qp2, Qp3, i64_w, i32_w]
          rfl
         refine take_ (i := 19) (N := some 48) (v := ?_) (a' := ?_) (Qbz 31 63963135) rfl rfl (by kernel_rfl) (fun _ _ _ h => h) (Or.inl ⟨by rfl, ?_⟩) hHeld ?_ ?_
         rotate_left
         ·rintro w' ⟨s0, s1, s2, s3, s4, s5, s6⟩
          go_simp
          with_reducible rfl
         rotate_left
         ·simp only [Act.put, Qp1, Qp2, Qp3, i64_w, i32_w]
          rfl
         refine pure_ (i := 20) (N := some 49) (v := ?_) (a' := ?_) (Qbz 31 65011711) rfl rfl (by kernel_rfl) (fun _ _ _ h => h) (Or.inl ⟨by rfl, ?_⟩) ?_ ?_
         rotate_left
         ·intro w'
          go_simp
          with_reducible rfl
         rotate_left
         ·simp only [Act.put, Qp1, Qp2, Qp3, i64_w, i32_w]
          rfl
         refine take_ (i := 21) (N := some 50) (v := ?_) (a' := ?_) (Qbz 31 67108863) rfl rfl (by kernel_rfl) (fun _ _ _ h => h) (Or.inl ⟨by rfl, ?_⟩) hHeld ?_ ?_
         rotate_left
         ·rintro w' ⟨s0, s1, s2, s3, s4, s5, s6⟩
          go_simp
          with_reducible rfl
         rotate_left
         ·simp only [Act.put, Qp1, Qp2, Qp3, i64_w, i32_w]
          rfl
         refine take_ (i := 26) (N := some 55) (v := ?_) (a' := ?_) (Qbz 31 134217727) rfl rfl (by kernel_rfl) (fun _ _ _ h => h) (Or.inl ⟨by rfl, ?_⟩) hHeld ?_ ?_
         rotate_left
         ·rintro w' ⟨s0, s1, s2, s3, s4, s5, s6⟩
          go_simp
          with_reducible rfl
         rotate_left
         ·simp only [Act.put, Qp1, Qp2, Qp3, i64_w, i32_w]
          rfl
         refine pure_ (i := 27) (N := some 56) (v := ?_) (a' := ?_) (Qbz 31 268435455) rfl rfl (by kernel_rfl) (fun _ _ _ h => h) (Or.inl ⟨by rfl, ?_⟩) ?_ ?_
         rotate_left
         ·intro w'
          go_simp
          with_reducible rfl
         rotate_left
         ·simp only [Act.put, Qp1, Qp2, Qp3, i64_w, i32_w]
          rfl
         refine pure_ (i := 28) (N := some 57) (v := ?_) (a' := ?_) (Qbz 31 536870911) rfl rfl (by kernel_rfl) (fun _ _ _ h => h) (Or.inl ⟨by rfl, ?_⟩) ?_ ?_
         rotate_left
         ·intro w'
          go_simp
          with_reducible rfl
         rotate_left
         ·simp only [Act.put, Qp1, Qp2, Qp3, i64_w, i32_w]
          rfl
         refine pure_ (i := 29) (N := some 58) (v := ?_) (a' := ?_) (Qbz 31 1073741823) rfl rfl (by kernel_rfl) (fun _ _ _ h => h) (Or.inl ⟨by rfl, ?_⟩) ?_ ?_
         rotate_left
         ·intro w'
          go_simp
          with_reducible rfl
         rotate_left
         ·simp only [Act.put, Qp1, Qp2, Qp3, i64_w, i32_w]
          rfl
         refine pure_ (i := 30) (N := some 59) (v := ?_) (a' := ?_) (Qbz 31 2147483647) rfl rfl (by kernel_rfl) (fun _ _ _ h => h) (Or.inl ⟨by rfl, ?_⟩) ?_ ?_
         rotate_left
         ·intro w'
          go_simp
          with_reducible rfl
         rotate_left
         ·simp only [Act.put, Qp1, Qp2, Qp3, i64_w, i32_w]
          rfl
         refine done_ (by kernel_rfl) ?_
         have HB2 := Aside0.mk hHeld.2.2.2.2.2.2
         go_wp2
         go_ret
         exact ⟨_, _, _, rfl, ⟨rfl, rfl, rfl⟩, below_step (below_step HBW.out HBJ.out) HB2.out⟩
      ·have hi1 : ((i : Int) < (j : Int)) = False := eq_false (by omega)
       have hi2 : decide ((i : Int) < (j : Int)) = false := decide_eq_false (by omega)
       have HAJ2 : Aside0 (∀ i j', i < j' → j' < j + 1 → cr G M i k = true → cr G M j' (M.length - 1) = false) := ⟨fun i' j' h1 h2 h3 => by
        by_cases e : j' = j
        ·subst e; exact HAI.out i' (by omega) h3
        ·exact HAJ.out i' j' h1 (by omega) h3⟩
       clear HAI HAJ HA
       go_wp2
       go_roundg gj
       case measure => omega
       case rel => exact ⟨j + 1, by go_num, by omega, HAJ2, ⟨below_step HBJ.out HBI.out⟩⟩
    ·have hj1 : ((j : Int) < (k : Int)) = False := eq_false (by omega)
     have hj2 : decide ((j : Int) < (k : Int)) = false := decide_eq_false (by omega)
     have HA2 : Aside0 (∀ i j k', i < j → j < k' → k' < k + 1 → cr G M i k' = true → cr G M j (M.length - 1) = false) := ⟨fun i' j' k' h1 h2 h3 h4 => by
      by_cases e : k' = k
      ·subst e; exact HAJ.out i' j' h1 (by omega) h4
      ·exact HA.out i' j' k' h1 h2 (by omega) h4⟩
     clear HAJ HA
     go_wp2
     go_roundg gk'
     case measure => omega
     case rel => exact ⟨k + 1, by go_num, by omega, HA2, ⟨below_step HBW.out HBJ.out⟩⟩
  ·have hk1 : ((k : Int) < z) = False := eq_false (by omega)
   have hk2 : decide ((k : Int) < z) = false := decide_eq_false (by omega)
   have hX : crossB G M = false := by
    cases hc : crossB G M
    ·rfl
    ·obtain ⟨i, j, k', h1, h2, h3, h4, h5⟩ := (crossB_iff G M).1 hc
     rw [HA.out i j k' h1 h2 (by omega) h4] at h5
     cases h5
   have HX := Aside0.mk hX
   clear hX HA
   cases d with
   | zero =>
    have hd1 : ((M.length : Int) == (G.length : Int)) = true := beq_iff_eq.2 (by omega)
    have hr2 : R = some M := by rw [← HR.out, rO, if_neg (by rw [HX.out]; simp)]
    subst hr2
    have hO2 := own_kept HO.out (grown_of_below HBW.out none) (fun _ _ e => by cases e)
    have HO2 := Aside0.mk hO2
    have hsome : ∃ g, A = some g := by
     cases A with
     | none => have := (own_nil_or HO.out rfl).1; omega
     | some g => exact ⟨g, rfl⟩
    clear hO2
    go_wp2
    go_ret
    exact ⟨_, _, _, rfl, .inr ⟨M, rfl, rfl, HO2.out, hsome⟩, HBW.out⟩
   | succ d =>
    have hd1 : ((M.length : Int) == (G.length : Int)) = false := beq_eq_false_iff_ne.2 (by omega)
    obtain ⟨F, hF⟩ : ∃ F : Nat → Option (List Nat), F = fun v => if M.contains v then none else rO G d (M ++ [v]) := ⟨_, rfl⟩
    have hRF : ((List.range G.length).drop 0).findSome? F = R := by rw [← HR.out, hF, rO, if_neg (by rw [HX.out]; simp)]; rfl
    have HFE : Aside0 (∀ v, F v = if M.contains v then none else rO G d (M ++ [v])) := ⟨fun v => by rw [hF]⟩
    have HRF := Aside0.mk hRF
    clear hF hRF HR
    go_wp2
    obtain ⟨wo, rfl⟩ : ∃ wo : World, wo = wr := ⟨_, rfl⟩
    go_loopg [70] G.length (fun kq v70 w' => ∃ v : Nat, v70 = .int .i64 (v : Int) ∧ v + kq = G.length ∧ Aside0 (((List.range G.length).drop v).findSome? F = R) ∧ Aside0 (Below w.heap.size w w'))
    case atStart => exact ⟨0, rfl, by omega, HRF, HBW⟩
    case round =>
     clear HRF
     obtain ⟨v, rfl, hv, HA, HBV⟩ := hrel
     by_cases hvl : v < G.length
     ·have hv1 : ((v : Int) < (G.length : Int)) = True := eq_true (by omega)
      have hv2 : decide ((v : Int) < (G.length : Int)) = true := decide_eq_true (by omega)
      cases gk with
      | zero => omega
      | succ gv =>
      have ha := HA.out
      rw [List.drop_eq_getElem_cons (by simpa using hvl), List.getElem_range, List.findSome?_cons] at ha
      have HAH := Aside0.mk ha
      clear ha HA
      have HFV := Aside0.mk (HFE.out v)
      go_wp2
      obtain ⟨wq, rfl⟩ : ∃ wq : World, wq = wr := ⟨_, rfl⟩
      go_loopg [75, 10] M.length (fun iq v75 v10 w' => ∃ (i : Nat) (b : Bool), v75 = .int .i64 (i : Int) ∧ v10 = .bool b ∧ i + iq = M.length ∧ Aside0 (b = (M.take i).contains v) ∧ w' = wq)
      case atStart => exact ⟨0, false, rfl, rfl, by omega, ⟨by simp⟩, rfl⟩
      case round =>
       obtain ⟨i, b, rfl, rfl, hi, HBC, rfl⟩ := hrel
       by_cases hil : i < M.length
       ·have hi1 : ((i : Int) < (M.length : Int)) = True := eq_true (by omega)
        have hi2 : decide ((i : Int) < (M.length : Int)) = true := decide_eq_true (by omega)
        cases gk with
        | zero => omega
        | succ gi' =>
        obtain ⟨adM, e1, hx⟩ := Kd.at_int (HRM.out wr HBV.out) (i : Int) (by omega) (by omega)
        subst e1
        rw [rd_gi, Int.toNat_natCast] at hx
        have hstep := contains_take M i v hil
        generalize M.getD i 0 = x at *
        cases b
        ·cases hxv : ((x : Int) == (v : Int))
         ·have HBC2 : Aside0 (false = (M.take (i + 1)).contains v) := ⟨by
           rw [hstep, ← HBC.out]
           have : x ≠ v := fun e => by rw [e] at hxv; simp at hxv
           simp [this]⟩
          clear HBC hstep
          go_wp2
          go_roundg gi'
          case measure => omega
          case rel => exact ⟨i + 1, false, by go_num, rfl, by omega, HBC2, rfl⟩
         ·have HBC2 : Aside0 (true = (M.take (i + 1)).contains v) := ⟨by
           rw [hstep, ← HBC.out]
           have : x = v := by have := beq_iff_eq.1 hxv; omega
           simp [this]⟩
          clear HBC hstep
          go_wp2
          go_roundg gi'
          case measure => omega
          case rel => exact ⟨i + 1, true, by go_num, rfl, by omega, HBC2, rfl⟩
        ·have HBC2 : Aside0 (true = (M.take (i + 1)).contains v) := ⟨by rw [hstep, ← HBC.out]; rfl⟩
         clear HBC hstep
         go_wp2
         go_roundg gi'
         case measure => omega
         case rel => exact ⟨i + 1, true, by go_num, rfl, by omega, HBC2, rfl⟩
       ·have hi1 : ((i : Int) < (M.length : Int)) = False := eq_false (by omega)
        have hi2 : decide ((i : Int) < (M.length : Int)) = false := decide_eq_false (by omega)
        have hb := HBC.out
        rw [List.take_of_length_le (by omega)] at hb
        clear HBC
        cases b
        ·have hFx : F v = rO G d (M ++ [v]) := by rw [HFV.out, ← hb]; rfl
         have ha2 := HAH.out
         have hFv := HFV.out
         have HREC : Aside0 (∀ W B' g c', Below w.heap.size w W → B' ≤ W.heap.size → W.ownsRow B' 3 1 (.slice (some g) (M.length + 1) c') (M.length + 1) ((gi M).map (Value.int .i64) ++ [.int .i64 (v : Int)]) → Calls Tryd.prog 84 #[.slice A0 G.length c0, .slice (some g) (M.length + 1) c'] W fun e w' => ∃ A' n' c', e = .returned (.slice A' n' c') ∧ ((F v = none ∧ A' = none ∧ n' = 0 ∧ c' = 0) ∨ ∃ R, F v = some R ∧ n' = R.length ∧ w'.ownsRow B' 3 1 (.slice A' n' c') R.length ((gi R).map (Value.int .i64)) ∧ ∃ g, A' = some g) ∧ Below W.heap.size W w') := ⟨fun W B' g c' hW hB' hoW => by
          rw [hFx]
          have e1 : (M ++ [v]).length = M.length + 1 := by simp
          have := IH.out d rfl (M ++ [v]) (some g) c' B' W (by simp; omega) (fun y hy => by
           rcases List.mem_append.1 hy with hy | hy
           ·exact HM.out y hy
           ·rw [List.mem_singleton.1 hy]; exact hvl) hB' (Kd.C_below HR0.out hW) (by rw [e1, show (gi (M ++ [v])).map (Value.int .i64) = (gi M).map (Value.int .i64) ++ [.int .i64 (v : Int)] by simp [gi]]; exact hoW)
          rw [e1] at this
          exact this⟩
         have hreadW : Aside0 (∀ W, Below w.heap.size w W → ∀ b, A = some b → ∀ (q : Nat) u, ((gi M).map (Value.int .i64))[q]? = some u → (W.alloc (.cells #[.int .i64 (v : Int)] 3)).cell? (b.add q) = some u) := ⟨fun W hW b hb q u hu => by
          have hq : q < (gi M).length := by have := (List.getElem?_eq_some_iff.1 hu).1; simpa using this
          have hro := own_kept HO.out (grown_of_below (below_alloc hW (.cells #[.int .i64 (v : Int)] 3)) none) (fun _ _ e => by cases e)
          rw [show M.length = (gi M).length from (gi_length M).symm] at hro
          obtain ⟨ad, e, hx⟩ := Kd.at_int (C_of_row hro).2 (q : Int) (by omega) (by omega)
          rw [hb] at e
          cases e
          rw [Int.toNat_natCast] at hx
          rw [hx]
          rw [List.getElem?_map, List.getElem?_eq_getElem hq] at hu
          unfold rd
          rw [Int.toNat_natCast, List.getD_eq_getElem?_getD, List.getElem?_eq_getElem hq]
          exact hu⟩
         clear hFx hb HAH HFV HFE IH HM hFv
         cases hfx : F v with
         | none =>
          rw [hfx] at HREC ha2
          have HA2 : Aside0 (((List.range G.length).drop (v + 1)).findSome? F = R) := ⟨ha2⟩
          clear ha2 hfx
          go_wp2_with (first
           | (at_builtin; refine wpList_append_grows _ rfl _ _ 22 rfl 3 i3 (.int .i64 0) 1 8 Tryd.underlying22 hi3 hq0 hq1 hq2 rfl (by decide) A M.length M.length ((gi M).map (Value.int .i64)) rfl hnone.out (by simp [gi]) (hreadW.out _ HBV.out) ⟨wr.heap.size, 0, none⟩ 1 1 [.int .i64 (v : Int)] rfl rfl (cell_one_new _ _ _) (by simp [Value.oneCell']) (by omega) (by unfold maxLen; omega) (by omega) ?_; intro v1 w1 hown1 hg1; obtain ⟨g1, cap1, rfl⟩ := own_succ hown1; have HB1 : Aside0 (Below w.heap.size w w1) := ⟨(below_alloc HBV.out (.cells #[.int .i64 (v : Int)] 3)).grown hg1 (by have := HBV.out.size; simp; omega) (fun k e => by cases e)⟩; have HW1 := Aside0.mk hown1; clear hown1 hg1)
           | (go_at_call 84; refine (HREC.out _ _ _ _ HB1.out (own_le HW1.out) HW1.out).mono ?_; rintro e w9 ⟨A9, n9, c9, rfl, hv9, hb9⟩; obtain ⟨rfl, rfl, rfl⟩ : A9 = none ∧ n9 = 0 ∧ c9 = 0 := hv9.elim (fun h => h.2) (fun ⟨R, h, _⟩ => by cases h); have HB9 := Aside0.mk (below_step HB1.out hb9); clear hb9 hv9))
          go_roundg gv
          case measure => omega
          case rel => exact ⟨v + 1, by go_num, by omega, HA2, HB9⟩
         | some Rr =>
          rw [hfx] at HREC ha2
          have hr2 : R = some Rr := ha2.symm
          subst hr2
          clear ha2 hfx
          go_wp2_with (first
           | (at_builtin; refine wpList_append_grows _ rfl _ _ 22 rfl 3 i3 (.int .i64 0) 1 8 Tryd.underlying22 hi3 hq0 hq1 hq2 rfl (by decide) A M.length M.length ((gi M).map (Value.int .i64)) rfl hnone.out (by simp [gi]) (hreadW.out _ HBV.out) ⟨wr.heap.size, 0, none⟩ 1 1 [.int .i64 (v : Int)] rfl rfl (cell_one_new _ _ _) (by simp [Value.oneCell']) (by omega) (by unfold maxLen; omega) (by omega) ?_; intro v1 w1 hown1 hg1; obtain ⟨g1, cap1, rfl⟩ := own_succ hown1; have HB1 : Aside0 (Below w.heap.size w w1) := ⟨(below_alloc HBV.out (.cells #[.int .i64 (v : Int)] 3)).grown hg1 (by have := HBV.out.size; simp; omega) (fun k e => by cases e)⟩; have HW1 := Aside0.mk hown1; clear hown1 hg1)
           | (go_at_call 84; refine (HREC.out _ _ _ _ HB1.out (own_le HW1.out) HW1.out).mono ?_; rintro e w9 ⟨A9, n9, c9, rfl, hv9, hb9⟩; obtain ⟨R9, h9, h9n, h9o, g9, rfl⟩ : ∃ R, some Rr = some R ∧ n9 = R.length ∧ w9.ownsRow _ 3 1 (.slice A9 n9 c9) R.length ((gi R).map (Value.int .i64)) ∧ ∃ g, A9 = some g := hv9.elim (fun h => by cases h.1) id; cases h9; subst h9n; have HB9 := Aside0.mk (below_step HB1.out hb9); have HO9 := Aside0.mk h9o; clear hb9 hv9 h9o))
          go_ret
          refine ⟨_, _, _, rfl, .inr ⟨Rr, rfl, rfl, ?_, _, rfl⟩, HB9.out⟩
          exact own_low HO9.out (by have := HBV.out.size; simp; omega)
        ·have HA2 : Aside0 (((List.range G.length).drop (v + 1)).findSome? F = R) := ⟨by
          have := HAH.out
          rw [HFV.out, ← hb] at this
          exact this⟩
         clear hb HAH HFV
         go_wp2
         go_roundg gv
         case measure => omega
         case rel => exact ⟨v + 1, by go_num, by omega, HA2, HBV⟩
     ·have hv1 : ((v : Int) < (G.length : Int)) = False := eq_false (by omega)
      have hv2 : decide ((v : Int) < (G.length : Int)) = false := decide_eq_false (by omega)
      have ha := HA.out
      rw [List.drop_eq_nil_of_le (by simp; omega)] at ha
      have hr2 : R = none := ha.symm
      subst hr2
      clear ha HA
      go_wp2
      go_ret
      exact ⟨_, _, _, rfl, ⟨rfl, rfl, rfl⟩, HBV.out⟩
theorem refOuter_calls (A0 : Option Addr) (c0 : Nat) (G : List Nat) (hG : Gr 9 G) (hc0 : G.length ≤ c0) : ∀ (d : Nat) (M : List Nat) (A : Option Addr) (cap B : Nat) (w : World), M.length + d = G.length → (∀ x ∈ M, x < G.length) → B ≤ w.heap.size → Kd.C (Kd.int .i64) w A0 G.length (gi G) → w.ownsRow B 3 1 (.slice A M.length cap) M.length ((gi M).map (Value.int .i64)) →
   Calls Tryd.prog 84 #[.slice A0 G.length c0, .slice A M.length cap] w fun e w' => ∃ A' n' c', e = .returned (.slice A' n' c') ∧ ((rO G d M = none ∧ A' = none ∧ n' = 0 ∧ c' = 0) ∨ ∃ R, rO G d M = some R ∧ n' = R.length ∧ w'.ownsRow B 3 1 (.slice A' n' c') R.length ((gi R).map (Value.int .i64)) ∧ ∃ g, A' = some g) ∧ Below w.heap.size w w'
 | 0, M, A, cap, B, w, h1, h2, h3, h4, h5 => refOuter_step A0 c0 G hG hc0 0 (fun d' e => by omega) M A cap B w h1 h2 h3 h4 h5
 | d + 1, M, A, cap, B, w, h1, h2, h3, h4, h5 => refOuter_step A0 c0 G hG hc0 (d + 1) (fun d' e => by
   obtain rfl : d = d' := by omega
   exact refOuter_calls A0 c0 G hG hc0 d) M A cap B w h1 h2 h3 h4 h5
def lampblackref07_Outer.f (g : List Int) : Option (List Int × Int) :=
 if chk 9 g = true then some ((rO (g.map Int.toNat) g.length []).elim ([], 4) fun M => (gi M, 0)) else none
set_option maxHeartbeats 4000000 in
set_option maxRecDepth 100000 in
theorem lampblackref07_Outer.calls (A0 : Option Addr) (c0 : Nat) (l0 : List Int) (r1 : List Int) (r2 : Int) (w : World) (hr0 : Kd.C (Kd.int .i64) w A0 l0.length l0) (hc0 : l0.length ≤ c0) (h : lampblackref07_Outer.f l0 = some (r1, r2)) :
  Calls Tryd.prog 49 #[.slice A0 l0.length c0] w fun e w' => ∃ v, e = .returned (.tuple #[v, .int .i64 r2]) ∧ Kd.R (Kd.int .i64) 3 w' w.heap.size (fun _ => True) v r1 ∧ Below w.heap.size w w' := by
 unfold lampblackref07_Outer.f at h
 by_cases hgp : chk 9 l0 = true
 ·rw [if_pos hgp] at h
  have h := Option.some.inj h
  obtain ⟨G, rfl, hG⟩ := (chk_iff 9 (by omega) _).1 hgp
  rw [gi_toNat] at h
  simp only [gi_length] at hr0 hc0 h ⊢
  have HREC : Aside0 (Calls Tryd.prog 84 #[.slice A0 G.length c0, .slice none 0 0] w fun e w' => ∃ A' n' c', e = .returned (.slice A' n' c') ∧ ((rO G G.length [] = none ∧ A' = none ∧ n' = 0 ∧ c' = 0) ∨ ∃ R, rO G G.length [] = some R ∧ n' = R.length ∧ w'.ownsRow w.heap.size 3 1 (.slice A' n' c') R.length ((gi R).map (Value.int .i64)) ∧ ∃ g, A' = some g) ∧ Below w.heap.size w w') := ⟨refOuter_calls A0 c0 G hG hc0 G.length [] none 0 w.heap.size w (by simp) (fun _ h => by cases h) (Nat.le_refl _) hr0 (World.ownsRow_nil _ _ _ _)⟩
  have heq_ := fun (w : World) (a : Option Addr) (n c : Nat) => run_neq_slice_nil_any (P := Tryd.prog) w 22 3 a n c 0 0 Tryd.underlying22
  clear hr0 hgp hG
  cases hf : rO G G.length [] with
  | none =>
   rw [hf] at HREC h
   injection h with h1 h2
   subst h1 h2
   clear hf
   go_enter Tryd.func49, Tryd.ntmps49
   go_wp2_with (go_at_call 84; refine HREC.out.mono ?_; rintro e w9 ⟨A9, n9, c9, rfl, hv9, hb9⟩; obtain ⟨rfl, rfl, rfl⟩ : A9 = none ∧ n9 = 0 ∧ c9 = 0 := hv9.elim (fun h => h.2) (fun ⟨R, h, _⟩ => by cases h); have HB9 := Aside0.mk hb9; clear hb9 hv9)
   go_ret2
   exact ⟨_, rfl, Kd.R_nil _ _ _ _ _, HB9.out⟩
  | some Rr =>
   rw [hf] at HREC h
   injection h with h1 h2
   subst h1 h2
   clear hf
   go_enter Tryd.func49, Tryd.ntmps49
   go_wp2_with (go_at_call 84; refine HREC.out.mono ?_; rintro e w9 ⟨A9, n9, c9, rfl, hv9, hb9⟩; obtain ⟨R9, h9, h9n, h9o, g9, rfl⟩ : ∃ R, some Rr = some R ∧ n9 = R.length ∧ w9.ownsRow w.heap.size 3 1 (.slice A9 n9 c9) R.length ((gi R).map (Value.int .i64)) ∧ ∃ g, A9 = some g := hv9.elim (fun h => by cases h.1) id; cases h9; subst h9n; have HB9 := Aside0.mk hb9; have HO9 := Aside0.mk h9o; clear hb9 hv9 h9o)
   go_ret2
   refine ⟨_, rfl, ?_, HB9.out⟩
   have h2 : w9.ownsRow w.heap.size 3 1 (.slice (some g9) Rr.length c9) (gi Rr).length ((gi Rr).map (Value.int .i64)) := by rw [gi_length]; exact HO9.out
   exact Kd.R_of_own (ok := fun _ => True) h2 (fun _ _ => trivial)
 ·rw [if_neg hgp] at h
  cases h
end Go.Proofs.YtjloppfdagfpmaaDoor.X
end
