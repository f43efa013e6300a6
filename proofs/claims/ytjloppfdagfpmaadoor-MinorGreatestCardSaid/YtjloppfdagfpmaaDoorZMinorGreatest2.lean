/- Part 2 of what MinorGreatest rests on: contracts of the functions that it reaches, and what they compute, in plain words. -/
import Derived.Test.YtjloppfdagfpmaaDoorZMinorGreatest1
import Derived.Test.YtjloppfdagfpmaaDoorZMinorGreatest0
import Derived.Laws.EntriesVeiled
import Derived.WalkSpells
set_option linter.unusedVariables false
set_option linter.unusedSimpArgs false
section
/- lampblackref07.outer and Outer, by hand. -/
namespace Go.Proofs.YtjloppfdagfpmaaDoor.X
open Go.RowKit YtjloppfdagfpmaaDoorW.PrintWords YtjloppfdagfpmaaDoorW.PrintLast YtjloppfdagfpmaaDoorW.PrintMore YtjloppfdagfpmaaDoor.T
attribute [local go_sem] max2_int min2_int max_two min_two max_three min_three max_four min_four
def rO (G : List Nat) : Nat → List Nat → Option (List Nat)
 | 0, M => if crossB G M = true then none else some M
 | d + 1, M => if crossB G M = true then none else (List.range G.length).findSome? fun v => if M.contains v then none else rO G d (M ++ [v])
theorem cellAt {W : World} {ad : Addr} {n : Nat} {l : List Nat} (h : Kd.C (Kd.int .i64) W (some ad) n (gi l)) {i : Nat} (hi : i < n) : W.cell? (ad.add i) = some (.int .i64 ((l.getD i 0 : Nat) : Int)) := by
 obtain ⟨ad', e, hx⟩ := Kd.at_int h (i : Int) (by omega) (by omega)
 cases e
 rw [rd_gi, Int.toNat_natCast] at hx
 exact hx
theorem contains_take (M : List Nat) (i v : Nat) (h : i < M.length) : (M.take (i + 1)).contains v = ((M.take i).contains v || M.getD i 0 == v) := by
 have e : M.getD i 0 = M[i] := by rw [List.getD_eq_getElem?_getD, List.getElem?_eq_getElem h]; rfl
 have e2 : M.take (i + 1) = M.take i ++ [M[i]] := by rw [List.take_add_one, List.getElem?_eq_getElem h]; rfl
 rw [e, e2, Bool.eq_iff_iff, Bool.or_eq_true, List.contains_iff_mem, List.contains_iff_mem, List.mem_append, List.mem_singleton, beq_iff_eq]
 exact ⟨fun h => h.imp id Eq.symm, fun h => h.imp id Eq.symm⟩
set_option maxHeartbeats 16000000 in
set_option maxRecDepth 100000 in
theorem refOuter_step (A0 : Option Addr) (c0 : Nat) (G : List Nat) (hG : Gr 9 G) (hc0 : G.length ≤ c0) (d : Nat)
  (ih : ∀ d', d = d' + 1 → ∀ (M : List Nat) (A : Option Addr) (cap B : Nat) (w : World), M.length + d' = G.length → (∀ x ∈ M, x < G.length) → B ≤ w.heap.size → Kd.C (Kd.int .i64) w A0 G.length (gi G) → w.ownsRow B 3 1 (.slice A M.length cap) M.length ((gi M).map (Value.int .i64)) →
   Calls Tryd.prog 84 #[.slice A0 G.length c0, .slice A M.length cap] w fun e w' => ∃ A' n' c', e = .returned (.slice A' n' c') ∧ ((rO G d' M = none ∧ A' = none ∧ n' = 0 ∧ c' = 0) ∨ ∃ R, rO G d' M = some R ∧ n' = R.length ∧ w'.ownsRow B 3 1 (.slice A' n' c') R.length ((gi R).map (Value.int .i64)) ∧ ∃ g, A' = some g) ∧ Below w.heap.size w w')
  (M : List Nat) (A : Option Addr) (cap B : Nat) (w : World) (hd : M.length + d = G.length) (hM : ∀ x ∈ M, x < G.length) (hB : B ≤ w.heap.size) (hr0 : Kd.C (Kd.int .i64) w A0 G.length (gi G)) (ho : w.ownsRow B 3 1 (.slice A M.length cap) M.length ((gi M).map (Value.int .i64))) :
  Calls Tryd.prog 84 #[.slice A0 G.length c0, .slice A M.length cap] w fun e w' => ∃ A' n' c', e = .returned (.slice A' n' c') ∧ ((rO G d M = none ∧ A' = none ∧ n' = 0 ∧ c' = 0) ∨ ∃ R, rO G d M = some R ∧ n' = R.length ∧ w'.ownsRow B 3 1 (.slice A' n' c') R.length ((gi R).map (Value.int .i64)) ∧ ∃ g, A' = some g) ∧ Below w.heap.size w w' := by
 have hn := hG.most
 have hn1 := hG.pos
 have IH := Aside0.mk ih
 have HM := Aside0.mk hM
 have HG := Aside0.mk hG
 have HR0 := Aside0.mk hr0
 have HO := Aside0.mk ho
 have HRM : Aside0 (∀ W, Below w.heap.size w W → Kd.C (Kd.int .i64) W A M.length (gi M)) := ⟨fun W hW => by
  have h := own_kept HO.out (grown_of_below hW none) (fun _ _ e => by cases e)
  rw [show M.length = (gi M).length from (gi_length M).symm] at h
  have := (C_of_row h).2
  rw [gi_length] at this
  exact this⟩
 obtain ⟨R, hR⟩ : ∃ R, rO G d M = R := ⟨_, rfl⟩
 have HR := Aside0.mk hR
 rw [hR]
 have hcapM : M.length ≤ cap := by
  rcases ho.2 with ⟨e, h0⟩ | ⟨g, cap', cur, e, _, _, h1, _⟩
  ·injection e with e1 e2 e3; omega
  ·injection e with e1 e2 e3; omega
 have hcm1 : decide ((M.length : Int) ≤ (cap : Int)) = true := decide_eq_true (by omega)
 have hcm2 : ((M.length : Int) ≤ (cap : Int)) = True := eq_true (by omega)
 have hnone := Aside0.mk (own_nil_or ho)
 obtain ⟨z, hz⟩ : ∃ z : Int, (M.length : Int) - 1 = z := ⟨_, rfl⟩
 have hzw : wrap64 ((M.length : Int) - 1) = z := by rw [w64_small _ (by omega) (by omega)]; exact hz
 have hzz : wrap64 z = z := w64_small _ (by omega) (by omega)
 have heq_ := fun (w : World) (a : Option Addr) (n c : Nat) => run_neq_slice_nil_any (P := Tryd.prog) w 22 3 a n c 0 0 Tryd.underlying22
 obtain ⟨i3, hi3, hq0, hq1, hq2⟩ := info_parts info3
 clear ih hM hG hr0 ho hR
 go_enter Tryd.func84, Tryd.ntmps84
 go_wp2
 go_loopg [18] (M.length - 1) (fun kq v18 w' => ∃ k : Nat, v18 = .int .i64 (k : Int) ∧ k + kq = M.length - 1 ∧ Aside0 (∀ i j k', i < j → j < k' → k' < k → cr G M i k' = true → cr G M j (M.length - 1) = false) ∧ Aside0 (Below w.heap.size w w'))
 case atStart => exact ⟨0, rfl, by omega, ⟨fun _ _ _ _ _ h => by omega⟩, ⟨Below.refl _ _⟩⟩
 case round =>
  obtain ⟨k, rfl, hk, HA, HBW⟩ := hrel
  by_cases hkl : k < M.length - 1
  ·have hk1 : ((k : Int) < z) = True := eq_true (by omega)
   have hk2 : decide ((k : Int) < z) = true := decide_eq_true (by omega)
   cases gk with
   | zero => omega
   | succ gk' =>
   go_wp2
   obtain ⟨wo, rfl⟩ : ∃ wo : World, wo = wr := ⟨_, rfl⟩
   go_loopg [22] k (fun jq v22 w' => ∃ j : Nat, v22 = .int .i64 (j : Int) ∧ j + jq = k ∧ Aside0 (∀ i j', i < j' → j' < j → cr G M i k = true → cr G M j' (M.length - 1) = false) ∧ Aside0 (Below wo.heap.size wo w'))
   case atStart => exact ⟨0, rfl, by omega, ⟨fun _ _ _ h => by omega⟩, ⟨Below.refl _ _⟩⟩
   case round =>
    obtain ⟨j, rfl, hj, HAJ, HBJ⟩ := hrel
    by_cases hjl : j < k
    ·have hj1 : ((j : Int) < (k : Int)) = True := eq_true (by omega)
     have hj2 : decide ((j : Int) < (k : Int)) = true := decide_eq_true (by omega)
     cases gk with
     | zero => omega
     | succ gj =>
     go_wp2
     obtain ⟨wp, rfl⟩ : ∃ wp : World, wp = wr := ⟨_, rfl⟩
     go_loopg [26] j (fun iq v26 w' => ∃ i : Nat, v26 = .int .i64 (i : Int) ∧ i + iq = j ∧ Aside0 (∀ i', i' < i → cr G M i' k = true → cr G M j (M.length - 1) = false) ∧ Aside0 (Below wp.heap.size wp w'))
     case atStart => exact ⟨0, rfl, by omega, ⟨fun _ h => by omega⟩, ⟨Below.refl _ _⟩⟩
     case round =>
      obtain ⟨i, rfl, hi, HAI, HBI⟩ := hrel
      by_cases hil : i < j
      ·have hi1 : ((i : Int) < (j : Int)) = True := eq_true (by omega)
       have hi2 : decide ((i : Int) < (j : Int)) = true := decide_eq_true (by omega)
       cases gk with
       | zero => omega
       | succ gi' =>
       have HBX := Aside0.mk (below_step (below_step HBW.out HBJ.out) HBI.out)
       have hCM := HRM.out wr HBX.out
       have hCG := Kd.C_below HR0.out HBX.out
       obtain ⟨adM, e1, _⟩ := Kd.at_int hCM (0 : Int) (by omega) (by omega)
       subst e1
       obtain ⟨adG, e2, _⟩ := Kd.at_int hCG (0 : Int) (by omega) (by omega)
       subst e2
       have fi : wr.drew.cell? (adM.add i) = _ := cellAt hCM (show i < M.length by omega)
       have fj : wr.drew.cell? (adM.add j) = _ := cellAt hCM (show j < M.length by omega)
       have fk : wr.drew.cell? (adM.add k) = _ := cellAt hCM (show k < M.length by omega)
       have fm : wr.drew.cell? (adM.add z.toNat) = _ := cellAt hCM (show z.toNat < M.length by omega)
       have gI : wr.drew.cell? (adG.add (M.getD i 0)) = _ := cellAt hCG (getD_in HM.out (by omega))
       have gJ : wr.drew.cell? (adG.add (M.getD j 0)) = _ := cellAt hCG (getD_in HM.out (by omega))
       have hb : ∀ q, q < M.length → M.getD q 0 < G.length := fun q hq => getD_in HM.out hq
       have hg : ∀ q, q < G.length → G.getD q 0 < 2 ^ 62 := fun q hq => by have := small G hn (HG.out.lt q hq); omega
       obtain ⟨J1, hJ1, hJ2, hJ3, hJ4, hJ5⟩ := bitJ (G.getD (M.getD i 0) 0) (M.getD k 0) (hg _ (hb i (by omega))) (by have := hb k (by omega); omega)
       obtain ⟨J2, hK1, hK2, hK3, hK4, hK5⟩ := bitJ (G.getD (M.getD j 0) 0) (M.getD z.toNat 0) (hg _ (hb j (by omega))) (by have := hb z.toNat (by omega); omega)
       have hcr1 : cr G M i k = (G.getD (M.getD i 0) 0).testBit (M.getD k 0) := rfl
       have hcr2 : cr G M j (M.length - 1) = (G.getD (M.getD j 0) 0).testBit (M.getD z.toNat 0) := by unfold cr; rw [show M.length - 1 = z.toNat by omega]
       rw [← hcr1] at hJ4
       rw [← hcr2] at hK4
       have b1 := hb i (by omega)
       have b2 := hb j (by omega)
       have b3 := hb k (by omega)
       have b4 := hb z.toNat (by omega)
       clear hJ5 hK5 hcr1 hcr2 hb hg hCM hCG
       generalize G.getD (M.getD i 0) 0 = gi_ at *
       generalize G.getD (M.getD j 0) 0 = gj_ at *
       generalize M.getD i 0 = xi at *
       generalize M.getD j 0 = xj at *
       generalize M.getD k 0 = xk at *
       generalize M.getD z.toNat 0 = xm at *
       have p1 : ((i : Int) < (M.length : Int)) = True := eq_true (by omega)
       have p2 : ((j : Int) < (M.length : Int)) = True := eq_true (by omega)
       have p3 : ((k : Int) < (M.length : Int)) = True := eq_true (by omega)
       have p4 : (z < (M.length : Int)) = True := eq_true (by omega)
       have p5 : (0 ≤ z) = True := eq_true (by omega)
       have p6 : ((xi : Int) < (G.length : Int)) = True := eq_true (by omega)
       have p7 : ((xj : Int) < (G.length : Int)) = True := eq_true (by omega)
       have q1 : decide ((i : Int) < (M.length : Int)) = true := decide_eq_true (by omega)
       have q2 : decide ((j : Int) < (M.length : Int)) = true := decide_eq_true (by omega)
       have q3 : decide ((k : Int) < (M.length : Int)) = true := decide_eq_true (by omega)
       have q4 : decide (z < (M.length : Int)) = true := decide_eq_true (by omega)
       have q5 : decide (0 ≤ z) = true := decide_eq_true (by omega)
       have q6 : decide ((xi : Int) < (G.length : Int)) = true := decide_eq_true (by omega)
       have q7 : decide ((xj : Int) < (G.length : Int)) = true := decide_eq_true (by omega)
       have bd : Below wp.heap.size wp wr.drew := below_drew HBI.out
       cases hc1 : cr G M i k
       ·have HAI2 : Aside0 (∀ i', i' < i + 1 → cr G M i' k = true → cr G M j (M.length - 1) = false) := ⟨fun i' h1 h2 => by
         by_cases e : i' = i
         ·subst e; rw [hc1] at h2; cases h2
         ·exact HAI.out i' (by omega) h2⟩
        rw [hc1] at hJ4
        clear hc1 HAI HA HAJ
        go_wp2
        refine start_ (n := 31) (S := fun w' => w'.cell? (adM.add i) = some (.int .i64 (xi : Int)) ∧ w'.cell? (adM.add k) = some (.int .i64 (xk : Int)) ∧ w'.cell? (adG.add xi) = some (.int .i64 (gi_ : Int)) ∧ Below wp.heap.size wp w') (ds := []) (Qbz 31 0) (by kernel_rfl) rfl rfl ⟨fi, fk, gI, bd⟩ (fun hHeld => ?_)
        refine pure_ (i := 0) (N := some 29) (v := ?_) (a' := ?_) (Qbz 31 1) rfl rfl (by kernel_rfl) (fun _ _ _ h => h) (Or.inl ⟨by rfl, ?_⟩) ?_ ?_
        rotate_left
        ·intro w'
         go_simp
         with_reducible rfl
        rotate_left
        ·simp only [Act.put, Qp1, Qp2, Qp3, i64_w, i32_w]
         rfl
        refine pure_ (i := 1) (N := some 30) (v := ?_) (a' := ?_) (Qbz 31 3) rfl rfl (by kernel_rfl) (fun _ _ _ h => h) (Or.inl ⟨by rfl, ?_⟩) ?_ ?_
        rotate_left
        ·intro w'
         go_simp
         with_reducible rfl
        rotate_left
        ·simp only [Act.put, Qp1, Qp2, Qp3, i64_w, i32_w]
         rfl
        refine pure_ (i := 2) (N := some 31) (v := ?_) (a' := ?_) (Qbz 31 7) rfl rfl (by kernel_rfl) (fun _ _ _ h => h) (Or.inl ⟨by rfl, ?_⟩) ?_ ?_
        rotate_left
        ·intro w'
         go_simp
         with_reducible rfl
        rotate_left
        ·simp only [Act.put, Qp1, Qp2, Qp3, i64_w, i32_w]
         rfl
        refine pure_ (i := 3) (N := some 32) (v := ?_) (a' := ?_) (Qbz 31 15) rfl rfl (by kernel_rfl) (fun _ _ _ h => h) (Or.inl ⟨by rfl, ?_⟩) ?_ ?_
        rotate_left
        ·intro w'
         go_simp
         with_reducible rfl
        rotate_left
        ·simp only [Act.put, Qp1, Qp2, Qp3, i64_w, i32_w]
         rfl
        refine pure_ (i := 7) (N := some 36) (v := ?_) (a' := ?_) (Qbz 31 143) rfl rfl (by kernel_rfl) (fun _ _ _ h => h) (Or.inl ⟨by rfl, ?_⟩) ?_ ?_
        rotate_left
        ·intro w'
         go_simp
         with_reducible rfl
        rotate_left
        ·simp only [Act.put, Qp1, Qp2, Qp3, i64_w, i32_w]
         rfl
        refine pure_ (i := 8) (N := some 37) (v := ?_) (a' := ?_) (Qbz 31 399) rfl rfl (by kernel_rfl) (fun _ _ _ h => h) (Or.inl ⟨by rfl, ?_⟩) ?_ ?_
        rotate_left
        ·intro w'
         go_simp
         with_reducible rfl
        rotate_left
        ·simp only [Act.put, Qp1, Qp2, Qp3, i64_w, i32_w]
         rfl
        refine pure_ (i := 9) (N := some 38) (v := ?_) (a' := ?_) (Qbz 31 911) rfl rfl (by kernel_rfl) (fun _ _ _ h => h) (Or.inl ⟨by rfl, ?_⟩) ?_ ?_
        rotate_left
        ·intro w'
         go_simp
         with_reducible rfl
        rotate_left
        ·simp only [Act.put, Qp1, Qp2, Qp3, i64_w, i32_w]
         rfl
        refine take_ (i := 4) (N := some 33) (v := ?_) (a' := ?_) (Qbz 31 927) rfl rfl (by kernel_rfl) (fun _ _ _ h => h) (Or.inl ⟨by rfl, ?_⟩) hHeld ?_ ?_
        rotate_left
        ·rintro w' ⟨s0, s1, s2, s3⟩
         go_simp
         with_reducible rfl
        rotate_left
        ·simp only [Act.put, Qp1, Qp2, Qp3, i64_w, i32_w]
         rfl
        refine pure_ (i := 5) (N := some 34) (v := ?_) (a' := ?_) (Qbz 31 959) rfl rfl (by kernel_rfl) (fun _ _ _ h => h) (Or.inl ⟨by rfl, ?_⟩) ?_ ?_
        rotate_left
        ·intro w'
         go_simp
         with_reducible rfl
        rotate_left
        ·simp only [Act.put, Qp1, Qp2, Qp3, i64_w, i32_w]
         rfl
        refine take_ (i := 6) (N := some 35) (v := ?_) (a' := ?_) (Qbz 31 1023) rfl rfl (by kernel_rfl) (fun _ _ _ h => h) (Or.inl ⟨by rfl, ?_⟩) hHeld ?_ ?_
        rotate_left
        ·rintro w' ⟨s0, s1, s2, s3⟩
         go_simp
         with_reducible rfl
        rotate_left
        ·simp only [Act.put, Qp1, Qp2, Qp3, i64_w, i32_w]
         rfl
        refine take_ (i := 10) (N := some 39) (v := ?_) (a' := ?_) (Qbz 31 2047) rfl rfl (by kernel_rfl) (fun _ _ _ h => h) (Or.inl ⟨by rfl, ?_⟩) hHeld ?_ ?_
        rotate_left
        ·rintro w' ⟨s0, s1, s2, s3⟩
         go_simp
         with_reducible rfl
        rotate_left
        ·simp only [Act.put, Qp1, Qp2, Qp3, i64_w, i32_w]
         rfl
        refine pure_ (i := 11) (N := some 40) (v := ?_) (a' := ?_) (Qbz 31 4095) rfl rfl (by kernel_rfl) (fun _ _ _ h => h) (Or.inl ⟨by rfl, ?_⟩) ?_ ?_
        rotate_left
        ·intro w'
         go_simp
         with_reducible rfl
        rotate_left
        ·simp only [Act.put, Qp1, Qp2, Qp3, i64_w, i32_w]
         rfl
        refine pure_ (i := 12) (N := some 41) (v := ?_) (a' := ?_) (Qbz 31 8191) rfl rfl (by kernel_rfl) (fun _ _ _ h => h) (Or.inl ⟨by rfl, ?_⟩) ?_ ?_
        rotate_left
        ·intro w'
         go_simp
         with_reducible rfl
        rotate_left
        ·simp only [Act.put, Qp1, Qp2, Qp3, i64_w, i32_w]
         rfl
        refine pure_ (i := 13) (N := some 42) (v := ?_) (a' := ?_) (Qbz 31 16383) rfl rfl (by kernel_rfl) (fun _ _ _ h => h) (Or.inl ⟨by rfl, ?_⟩) ?_ ?_
        rotate_left
        ·intro w'
         go_simp
         with_reducible rfl
        rotate_left
        ·simp only [Act.put, Qp1, Qp2, Qp3, i64_w, i32_w]
         rfl
        refine pure_ (i := 14) (N := some 43) (v := ?_) (a' := ?_) (Qbz 31 32767) rfl rfl (by kernel_rfl) (fun _ _ _ h => h) (Or.inl ⟨by rfl, ?_⟩) ?_ ?_
        rotate_left
        ·intro w'
         go_simp
         with_reducible rfl
        rotate_left
        ·simp only [Act.put, Qp1, Qp2, Qp3, i64_w, i32_w]
         rfl
        refine pure_ (i := 15) (N := some 44) (v := undef) (a' := ?_) (Qbz 31 65535) rfl rfl (by kernel_rfl) (fun _ _ _ h => h) (Or.inr ⟨by rfl, rfl⟩) ?_ ?_
        rotate_left
        ·simp only [Act.put, Qp1, Qp2, Qp3, i64_w, i32_w]
         rfl
        refine pure_ (i := 16) (N := some 45) (v := undef) (a' := ?_) (Qbz 31 131071) rfl rfl (by kernel_rfl) (fun _ _ _ h => h) (Or.inr ⟨by rfl, rfl⟩) ?_ ?_
        rotate_left
        ·simp only [Act.put, Qp1, Qp2, Qp3, i64_w, i32_w]
         rfl
        refine pure_ (i := 17) (N := some 46) (v := undef) (a' := ?_) (Qbz 31 262143) rfl rfl (by kernel_rfl) (fun _ _ _ h => h) (Or.inr ⟨by rfl, rfl⟩) ?_ ?_
        rotate_left
        ·simp only [Act.put, Qp1, Qp2, Qp3, i64_w, i32_w]
         rfl
        refine pure_ (i := 18) (N := some 47) (v := undef) (a' := ?_) (Qbz 31 524287) rfl rfl (by kernel_rfl) (fun _ _ _ h => h) (Or.inr ⟨by rfl, rfl⟩) ?_ ?_
        rotate_left
        ·simp only [Act.put, Qp1, Qp2, Qp3, i64_w, i32_w]
         rfl
        refine pure_ (i := 19) (N := some 48) (v := undef) (a' := ?_) (Qbz 31 1048575) rfl rfl (by kernel_rfl) (fun _ _ _ h => h) (Or.inr ⟨by rfl, rfl⟩) ?_ ?_
        rotate_left
        ·simp only [Act.put, Qp1, Qp2, Qp3, i64_w, i32_w]
         rfl
        refine pure_ (i := 20) (N := some 49) (v := undef) (a' := ?_) (Qbz 31 2097151) rfl rfl (by kernel_rfl) (fun _ _ _ h => h) (Or.inr ⟨by rfl, rfl⟩) ?_ ?_
        rotate_left
        ·simp only [Act.put, Qp1, Qp2, Qp3, i64_w, i32_w]
         rfl
        refine pure_ (i := 21) (N := some 50) (v := undef) (a' := ?_) (Qbz 31 4194303) rfl rfl (by kernel_rfl) (fun _ _ _ h => h) (Or.inr ⟨by rfl, rfl⟩) ?_ ?_
        rotate_left
        ·simp only [Act.put, Qp1, Qp2, Qp3, i64_w, i32_w]
         rfl
        refine pure_ (i := 22) (N := some 51) (v := undef) (a' := ?_) (Qbz 31 8388607) rfl rfl (by kernel_rfl) (fun _ _ _ h => h) (Or.inr ⟨by rfl, rfl⟩) ?_ ?_
        rotate_left
        ·simp only [Act.put, Qp1, Qp2, Qp3, i64_w, i32_w]
         rfl
        refine pure_ (i := 23) (N := some 52) (v := undef) (a' := ?_) (Qbz 31 16777215) rfl rfl (by kernel_rfl) (fun _ _ _ h => h) (Or.inr ⟨by rfl, rfl⟩) ?_ ?_
        rotate_left
        ·simp only [Act.put, Qp1, Qp2, Qp3, i64_w, i32_w]
         rfl
        refine pure_ (i := 24) (N := some 53) (v := undef) (a' := ?_) (Qbz 31 33554431) rfl rfl (by kernel_rfl) (fun _ _ _ h => h) (Or.inr ⟨by rfl, rfl⟩) ?_ ?_
        rotate_left
        ·simp only [Act.put, Qp1, Qp2, Qp3, i64_w, i32_w]
         rfl
        refine pure_ (i := 25) (N := some 54) (v := undef) (a' := ?_) (Qbz 31 67108863) rfl rfl (by kernel_rfl) (fun _ _ _ h => h) (Or.inr ⟨by rfl, rfl⟩) ?_ ?_
        rotate_left
        ·simp only [Act.put, Qp1, Qp2, Qp3, i64_w, i32_w]
         rfl
        refine pure_ (i := 26) (N := some 55) (v := undef) (a' := ?_) (Qbz 31 134217727) rfl rfl (by kernel_rfl) (fun _ _ _ h => h) (Or.inr ⟨by rfl, rfl⟩) ?_ ?_
        rotate_left
        ·simp only [Act.put, Qp1, Qp2, Qp3, i64_w, i32_w]
         rfl
        refine pure_ (i := 27) (N := some 56) (v := undef) (a' := ?_) (Qbz 31 268435455) rfl rfl (by kernel_rfl) (fun _ _ _ h => h) (Or.inr ⟨by rfl, rfl⟩) ?_ ?_
        rotate_left
        ·simp only [Act.put, Qp1, Qp2, Qp3, i64_w, i32_w]
         rfl
        refine pure_ (i := 28) (N := some 57) (v := undef) (a' := ?_) (Qbz 31 536870911) rfl rfl (by kernel_rfl) (fun _ _ _ h => h) (Or.inr ⟨by rfl, rfl⟩) ?_ ?_
        rotate_left
        ·simp only [Act.put, Qp1, Qp2, Qp3, i64_w, i32_w]
         rfl
        refine pure_ (i := 29) (N := some 58) (v := undef) (a' := ?_) (Qbz 31 1073741823) rfl rfl (by kernel_rfl) (fun _ _ _ h => h) (Or.inr ⟨by rfl, rfl⟩) ?_ ?_
        rotate_left
        ·simp only [Act.put, Qp1, Qp2, Qp3, i64_w, i32_w]
         rfl
        refine pure_ (i := 30) (N := some 59) (v := ?_) (a' := ?_) (Qbz 31 2147483647) rfl rfl (by kernel_rfl) (fun _ _ _ h => h) (Or.inl ⟨by rfl, ?_⟩) ?_ ?_
        rotate_left
        ·intro w'
         go_simp
         with_reducible rfl
        rotate_left
        ·simp only [Act.put, Qp1, Qp2, Qp3, i64_w, i32_w]
         rfl
        refine done_ (by kernel_rfl) ?_
        have HB2 := Aside0.mk hHeld.2.2.2
        go_wp2
        go_roundg gi'
        case measure => omega
        case rel => exact ⟨i + 1, by go_num, by omega, HAI2, HB2⟩
       ·rw [hc1] at hJ4
        cases hc2 : cr G M j (M.length - 1)
        ·have HAI2 : Aside0 (∀ i', i' < i + 1 → cr G M i' k = true → cr G M j (M.length - 1) = false) := ⟨fun i' h1 h2 => hc2⟩
         rw [hc2] at hK4
         clear hc1 hc2 HAI HA HAJ
         go_wp2
         refine start_ (n := 31) (S := fun w' => w'.cell? (adM.add i) = some (.int .i64 (xi : Int)) ∧ w'.cell? (adM.add k) = some (.int .i64 (xk : Int)) ∧ w'.cell? (adG.add xi) = some (.int .i64 (gi_ : Int)) ∧ w'.cell? (adM.add j) = some (.int .i64 (xj : Int)) ∧ w'.cell? (adM.add z.toNat) = some (.int .i64 (xm : Int)) ∧ w'.cell? (adG.add xj) = some (.int .i64 (gj_ : Int)) ∧ Below wp.heap.size wp w') (ds := []) (Qbz 31 0) (by kernel_rfl) rfl rfl ⟨fi, fk, gI, fj, fm, gJ, bd⟩ (fun hHeld => ?_)
         refine pure_ (i := 0) (N := some 29) (v := ?_) (a' := ?_) (Qbz 31 1) rfl rfl (by kernel_rfl) (fun _ _ _ h => h) (Or.inl ⟨by rfl, ?_⟩) ?_ ?_
         rotate_left
         ·intro w'
          go_simp
          with_reducible rfl
         rotate_left
         ·simp only [Act.put, Qp1, Qp2, Qp3, i64_w, i32_w]
          rfl
         refine pure_ (i := 1) (N := some 30) (v := ?_) (a' := ?_) (Qbz 31 3) rfl rfl (by kernel_rfl) (fun _ _ _ h => h) (Or.inl ⟨by rfl, ?_⟩) ?_ ?_
         rotate_left
         ·intro w'
          go_simp
          with_reducible rfl
         rotate_left
         ·simp only [Act.put, Qp1, Qp2, Qp3, i64_w, i32_w]
          rfl
         refine pure_ (i := 2) (N := some 31) (v := ?_) (a' := ?_) (Qbz 31 7) rfl rfl (by kernel_rfl) (fun _ _ _ h => h) (Or.inl ⟨by rfl, ?_⟩) ?_ ?_
         rotate_left
         ·intro w'
          go_simp
          with_reducible rfl
         rotate_left
         ·simp only [Act.put, Qp1, Qp2, Qp3, i64_w, i32_w]
          rfl
         refine pure_ (i := 3) (N := some 32) (v := ?_) (a' := ?_) (Qbz 31 15) rfl rfl (by kernel_rfl) (fun _ _ _ h => h) (Or.inl ⟨by rfl, ?_⟩) ?_ ?_
         rotate_left
         ·intro w'
          go_simp
          with_reducible rfl
         rotate_left
         ·simp only [Act.put, Qp1, Qp2, Qp3, i64_w, i32_w]
          rfl
         refine pure_ (i := 7) (N := some 36) (v := ?_) (a' := ?_) (Qbz 31 143) rfl rfl (by kernel_rfl) (fun _ _ _ h => h) (Or.inl ⟨by rfl, ?_⟩) ?_ ?_
         rotate_left
         ·intro w'
          go_simp
          with_reducible rfl
         rotate_left
         ·simp only [Act.put, Qp1, Qp2, Qp3, i64_w, i32_w]
          rfl
         refine pure_ (i := 8) (N := some 37) (v := ?_) (a' := ?_) (Qbz 31 399) rfl rfl (by kernel_rfl) (fun _ _ _ h => h) (Or.inl ⟨by rfl, ?_⟩) ?_ ?_
         rotate_left
         ·intro w'
          go_simp
          with_reducible rfl
         rotate_left
         ·simp only [Act.put, Qp1, Qp2, Qp3, i64_w, i32_w]
          rfl
         refine pure_ (i := 9) (N := some 38) (v := ?_) (a' := ?_) (Qbz 31 911) rfl rfl (by kernel_rfl) (fun _ _ _ h => h) (Or.inl ⟨by rfl, ?_⟩) ?_ ?_
         rotate_left
         ·intro w'
          go_simp
          with_reducible rfl
         rotate_left
         ·simp only [Act.put, Qp1, Qp2, Qp3, i64_w, i32_w]
          rfl
         refine take_ (i := 4) (N := some 33) (v := ?_) (a' := ?_) (Qbz 31 927) rfl rfl (by kernel_rfl) (fun _ _ _ h => h) (Or.inl ⟨by rfl, ?_⟩) hHeld ?_ ?_
         rotate_left
         ·rintro w' ⟨s0, s1, s2, s3, s4, s5, s6⟩
          go_simp
          with_reducible rfl
         rotate_left
         ·simp only [Act.put, Qp1, Qp2, Qp3, i64_w, i32_w]
          rfl
         refine pure_ (i := 5) (N := some 34) (v := ?_) (a' := ?_) (Qbz 31 959) rfl rfl (by kernel_rfl) (fun _ _ _ h => h) (Or.inl ⟨by rfl, ?_⟩) ?_ ?_
         rotate_left
         ·intro w'
          go_simp
          with_reducible rfl
         rotate_left
         ·simp only [Act.put, Qp1, Qp2, Qp3, i64_w, i32_w]
          rfl
         refine take_ (i := 6) (N := some 35) (v := ?_) (a' := ?_) (Qbz 31 1023) rfl rfl (by kernel_rfl) (fun _ _ _ h => h) (Or.inl ⟨by rfl, ?_⟩) hHeld ?_ ?_
         rotate_left
         ·rintro w' ⟨s0, s1, s2, s3, s4, s5, s6⟩
          go_simp
          with_reducible rfl
         rotate_left
         ·simp only [Act.put, Qp1, Qp2, Qp3, i64_w, i32_w]
          rfl
         refine take_ (i := 10) (N := some 39) (v := ?_) (a' := ?_) (Qbz 31 2047) rfl rfl (by kernel_rfl) (fun _ _ _ h => h) (Or.inl ⟨by rfl, ?_⟩) hHeld ?_ ?_
         rotate_left
         ·rintro w' ⟨s0, s1, s2, s3, s4, s5, s6⟩
          go_simp
          with_reducible rfl
         rotate_left
         ·simp only [Act.put, Qp1, Qp2, Qp3, i64_w, i32_w]
          rfl
         refine pure_ (i := 11) (N := some 40) (v := ?_) (a' := ?_) (Qbz 31 4095) rfl rfl (by kernel_rfl) (fun _ _ _ h => h) (Or.inl ⟨by rfl, ?_⟩) ?_ ?_
         rotate_left
         ·intro w'
          go_simp
          with_reducible rfl
         rotate_left
         ·simp only [Act.put, Qp1, Qp2, Qp3, i64_w, i32_w]
          rfl
         refine pure_ (i := 12) (N := some 41) (v := ?_) (a' := ?_) (Qbz 31 8191) rfl rfl (by kernel_rfl) (fun _ _ _ h => h) (Or.inl ⟨by rfl, ?_⟩) ?_ ?_
         rotate_left
         ·intro w'
          go_simp
          with_reducible rfl
         rotate_left
         ·simp only [Act.put, Qp1, Qp2, Qp3, i64_w, i32_w]
          rfl
         refine pure_ (i := 13) (N := some 42) (v := ?_) (a' := ?_) (Qbz 31 16383) rfl rfl (by kernel_rfl) (fun _ _ _ h => h) (Or.inl ⟨by rfl, ?_⟩) ?_ ?_
         rotate_left
         ·intro w'
          go_simp
          with_reducible rfl
         rotate_left
         ·simp only [Act.put, Qp1, Qp2, Qp3, i64_w, i32_w]
          rfl
         refine pure_ (i := 14) (N := some 43) (v := ?_) (a' := ?_) (Qbz 31 32767) rfl rfl (by kernel_rfl) (fun _ _ _ h => h) (Or.inl ⟨by rfl, ?_⟩) ?_ ?_
         rotate_left
         ·intro w'
          go_simp
          with_reducible rfl
         rotate_left
         ·simp only [Act.put, Qp1, Qp2, Qp3, i64_w, i32_w]
          rfl
         refine pure_ (i := 15) (N := some 44) (v := ?_) (a' := ?_) (Qbz 31 65535) rfl rfl (by kernel_rfl) (fun _ _ _ h => h) (Or.inl ⟨by rfl, ?_⟩) ?_ ?_
         rotate_left
         ·intro w'
          go_simp
          with_reducible rfl
         rotate_left
         ·simp only [Act.put, Qp1, Qp2, Qp3, i64_w, i32_w]
          rfl
         refine pure_ (i := 16) (N := some 45) (v := ?_) (a' := ?_) (Qbz 31 131071) rfl rfl (by kernel_rfl) (fun _ _ _ h => h) (Or.inl ⟨by rfl, ?_⟩) ?_ ?_
         rotate_left
         ·intro w'
          go_simp
          with_reducible rfl
         rotate_left
         ·simp only [Act.put, Qp1, Qp2, Qp3, i64_w, i32_w]
          rfl
         refine pure_ (i := 17) (N := some 46) (v := ?_) (a' := ?_) (Qbz 31 262143) rfl rfl (by kernel_rfl) (fun _ _ _ h => h) (Or.inl ⟨by rfl, ?_⟩) ?_ ?_
         rotate_left
         ·intro w'
          go_simp
          with_reducible rfl
         rotate_left
         ·simp only [Act.put, Qp1, Qp2, Qp3, i64_w, i32_w]
          rfl
         refine pure_ (i := 18) (N := some 47) (v := ?_) (a' := ?_) (Qbz 31 524287) rfl rfl (by kernel_rfl) (fun _ _ _ h => h) (Or.inl ⟨by rfl, ?_⟩) ?_ ?_
         rotate_left
         ·intro w'
          go_simp
          with_reducible rfl
         rotate_left
         ·simp only [Act.put, Qp1, Qp2, Qp3, i64_w, i32_w]
          rfl
         refine pure_ (i := 22) (N := some 51) (v := ?_) (a' := ?_) (Qbz 31 4718591) rfl rfl (by kernel_rfl) (fun _ _ _ h => h) (Or.inl ⟨by rfl, ?_⟩) ?_ ?_
         rotate_left
         ·intro w'
          go_simp
          with_reducible rfl
         rotate_left
         ·simp only [Act.put, Qp1, Qp2, Qp3, i64_w, i32_w]
          rfl
         refine pure_ (i := 23) (N := some 52) (v := ?_) (a' := ?_) (Qbz 31 13107199) rfl rfl (by kernel_rfl) (fun _ _ _ h => h) (Or.inl ⟨by rfl, ?_⟩) ?_ ?_
         rotate_left
         ·intro w'
          go_simp
          with_reducible rfl
         rotate_left
         ·simp only [Act.put, Qp1, Qp2, Qp3, i64_w, i32_w]
          rfl
         refine pure_ (i := 24) (N := some 53) (v := ?_) (a' := ?_) (Qbz 31 29884415) rfl rfl (by kernel_rfl) (fun _ _ _ h => h) (Or.inl ⟨by rfl, ?_⟩) ?_ ?_
         rotate_left
         ·intro w'
          go_simp
          with_reducible rfl
         rotate_left
         ·simp only [Act.put, Qp1, Qp2, Qp3, i64_w, i32_w]
          rfl
         refine pure_ (i := 25) (N := some 54) (v := ?_) (a' := ?_) (Qbz 31 63438847) rfl rfl (by kernel_rfl) (fun _ _ _ h => h) (Or.inl ⟨by rfl, ?_⟩) ?_ ?_
         rotate_left
         ·intro w'
          go_simp
          with_reducible rfl
         rotate_left
         ·simp only [Act.put, Qp1, Qp2, Qp3, i64_w, i32_w]
          rfl
         refine take_ (i := 19) (N := some 48) (v := ?_) (a' := ?_) (Qbz 31 63963135) rfl rfl (by kernel_rfl) (fun _ _ _ h => h) (Or.inl ⟨by rfl, ?_⟩) hHeld ?_ ?_
         rotate_left
         ·rintro w' ⟨s0, s1, s2, s3, s4, s5, s6⟩
          go_simp
          with_reducible rfl
         rotate_left
         ·simp only [Act.put, Qp1, Qp2, Qp3, i64_w, i32_w]
          rfl
         refine pure_ (i := 20) (N := some 49) (v := ?_) (a' := ?_) (Qbz 31 65011711) rfl rfl (by kernel_rfl) (fun _ _ _ h => h) (Or.inl ⟨by rfl, ?_⟩) ?_ ?_
         rotate_left
         ·intro w'
          go_simp
          with_reducible rfl
         rotate_left
         ·simp only [Act.put, Qp1, Qp2, Qp3, i64_w, i32_w]
          rfl
         refine take_ (i := 21) (N := some 50) (v := ?_) (a' := ?_) (Qbz 31 67108863) rfl rfl (by kernel_rfl) (fun _ _ _ h => h) (Or.inl ⟨by rfl, ?_⟩) hHeld ?_ ?_
         rotate_left
         ·rintro w' ⟨s0, s1, s2, s3, s4, s5, s6⟩
          go_simp
          with_reducible rfl
         rotate_left
         ·simp only [Act.put, Qp1, Qp2, Qp3, i64_w, i32_w]
          rfl
         refine take_ (i := 26) (N := some 55) (v := ?_) (a' := ?_) (Qbz 31 134217727) rfl rfl (by kernel_rfl) (fun _ _ _ h => h) (Or.inl ⟨by rfl, ?_⟩) hHeld ?_ ?_
         rotate_left
         ·rintro w' ⟨s0, s1, s2, s3, s4, s5, s6⟩
          go_simp
          with_reducible rfl
         rotate_left
         ·simp only [Act.put, Qp1, Qp2, Qp3, i64_w, i32_w]
          rfl
         refine pure_ (i := 27) (N := some 56) (v := ?_) (a' := ?_) (Qbz 31 268435455) rfl rfl (by kernel_rfl) (fun _ _ _ h => h) (Or.inl ⟨by rfl, ?_⟩) ?_ ?_
         rotate_left
         ·intro w'
          go_simp
          with_reducible rfl
         rotate_left
         ·simp only [Act.put, Qp1, Qp2, Qp3, i64_w, i32_w]
          rfl
         refine pure_ (i := 28) (N := some 57) (v := ?_) (a' := ?_) (Qbz 31 536870911) rfl rfl (by kernel_rfl) (fun _ _ _ h => h) (Or.inl ⟨by rfl, ?_⟩) ?_ ?_
         rotate_left
         ·intro w'
          go_simp
          with_reducible rfl
         rotate_left
         ·simp only [Act.put, Qp1, Qp2, Qp3, i64_w, i32_w]
          rfl
         refine pure_ (i := 29) (N := some 58) (v := ?_) (a' := ?_) (Qbz 31 1073741823) rfl rfl (by kernel_rfl) (fun _ _ _ h => h) (Or.inl ⟨by rfl, ?_⟩) ?_ ?_
         rotate_left
         ·intro w'
          go_simp
          with_reducible rfl
         rotate_left
         ·simp only [Act.put, Qp1, Qp2, Qp3, i64_w, i32_w]
          rfl
         refine pure_ (i := 30) (N := some 59) (v := ?_) (a' := ?_) (Qbz 31 2147483647) rfl rfl (by kernel_rfl) (fun _ _ _ h => h) (Or.inl ⟨by rfl, ?_⟩) ?_ ?_
         rotate_left
         ·intro w'
          go_simp
          with_reducible rfl
         rotate_left
         ·simp only [Act.put, Qp1, Qp2, Qp3, i64_w, i32_w]
          rfl
         refine done_ (by kernel_rfl) ?_
         have HB2 := Aside0.mk hHeld.2.2.2.2.2.2
         go_wp2
         go_roundg gi'
         case measure => omega
         case rel => exact ⟨i + 1, by go_num, by omega, HAI2, HB2⟩
        ·have hX : crossB G M = true := (crossB_iff G M).2 ⟨i, j, k, by omega, by omega, by omega, hc1, hc2⟩
         have hr2 : R = none := by
          rw [← HR.out]
          cases d <;> rw [rO, if_pos hX]
         subst hr2
         rw [hc2] at hK4
         clear hc1 hc2 HAI HA HAJ hX HR
         go_wp2
         refine start_ (n := 31) (S := fun w' => w'.cell? (adM.add i) = some (.int .i64 (xi : Int)) ∧ w'.cell? (adM.add k) = some (.int .i64 (xk : Int)) ∧ w'.cell? (adG.add xi) = some (.int .i64 (gi_ : Int)) ∧ w'.cell? (adM.add j) = some (.int .i64 (xj : Int)) ∧ w'.cell? (adM.add z.toNat) = some (.int .i64 (xm : Int)) ∧ w'.cell? (adG.add xj) = some (.int .i64 (gj_ : Int)) ∧ Below wp.heap.size wp w') (ds := []) (Qbz 31 0) (by kernel_rfl) rfl rfl ⟨fi, fk, gI, fj, fm, gJ, bd⟩ (fun hHeld => ?_)
         refine pure_ (i := 0) (N := some 29) (v := ?_) (a' := ?_) (Qbz 31 1) rfl rfl (by kernel_rfl) (fun _ _ _ h => h) (Or.inl ⟨by rfl, ?_⟩) ?_ ?_
         rotate_left
         ·intro w'
          go_simp
          with_reducible rfl
         rotate_left
         ·simp only [Act.put, Qp1, Qp2, Qp3, i64_w, i32_w]
          rfl
         refine pure_ (i := 1) (N := some 30) (v := ?_) (a' := ?_) (Qbz 31 3) rfl rfl (by kernel_rfl) (fun _ _ _ h => h) (Or.inl ⟨by rfl, ?_⟩) ?_ ?_
         rotate_left
         ·intro w'
          go_simp
          with_reducible rfl
         rotate_left
         ·simp only [Act.put, Qp1, Qp2, Qp3, i64_w, i32_w]
          rfl
         refine pure_ (i := 2) (N := some 31) (v := ?_) (a' := ?_) (Qbz 31 7) rfl rfl (by kernel_rfl) (fun _ _ _ h => h) (Or.inl ⟨by rfl, ?_⟩) ?_ ?_
         rotate_left
         ·intro w'
          go_simp
          with_reducible rfl
         rotate_left
         ·simp only [Act.put, Qp1, Qp2, Qp3, i64_w, i32_w]
          rfl
         refine pure_ (i := 3) (N := some 32) (v := ?_) (a' := ?_) (Qbz 31 15) rfl rfl (by kernel_rfl) (fun _ _ _ h => h) (Or.inl ⟨by rfl, ?_⟩) ?_ ?_
         rotate_left
         ·intro w'
          go_simp
          with_reducible rfl
         rotate_left
         ·simp only [Act.put, Qp1, Qp2, Qp3, i64_w, i32_w]
          rfl
         refine pure_ (i := 7) (N := some 36) (v := ?_) (a' := ?_) (Qbz 31 143) rfl rfl (by kernel_rfl) (fun _ _ _ h => h) (Or.inl ⟨by rfl, ?_⟩) ?_ ?_
         rotate_left
         ·intro w'
          go_simp
          with_reducible rfl
         rotate_left
         ·simp only [Act.put, Qp1, Qp2, Qp3, i64_w, i32_w]
          rfl
         refine pure_ (i := 8) (N := some 37) (v := ?_) (a' := ?_) (Qbz 31 399) rfl rfl (by kernel_rfl) (fun _ _ _ h => h) (Or.inl ⟨by rfl, ?_⟩) ?_ ?_
         rotate_left
         ·intro w'
          go_simp
          with_reducible rfl
         rotate_left
         ·simp only [Act.put, Qp1, Qp2, Qp3, i64_w, i32_w]
          rfl
         refine pure_ (i := 9) (N := some 38) (v := ?_) (a' := ?_) (Qbz 31 911) rfl rfl (by kernel_rfl) (fun _ _ _ h => h) (Or.inl ⟨by rfl, ?_⟩) ?_ ?_
         rotate_left
         ·intro w'
          go_simp
          with_reducible rfl
         rotate_left
         ·simp only [Act.put, Qp1, Qp2, Qp3, i64_w, i32_w]
          rfl
         refine take_ (i := 4) (N := some 33) (v := ?_) (a' := ?_) (Qbz 31 927) rfl rfl (by kernel_rfl) (fun _ _ _ h => h) (Or.inl ⟨by rfl, ?_⟩) hHeld ?_ ?_
         rotate_left
         ·rintro w' ⟨s0, s1, s2, s3, s4, s5, s6⟩
          go_simp
          with_reducible rfl
         rotate_left
         ·simp only [Act.put, Qp1, Qp2, Qp3, i64_w, i32_w]
          rfl
         refine pure_ (i := 5) (N := some 34) (v := ?_) (a' := ?_) (Qbz 31 959) rfl rfl (by kernel_rfl) (fun _ _ _ h => h) (Or.inl ⟨by rfl, ?_⟩) ?_ ?_
         rotate_left
         ·intro w'
          go_simp
          with_reducible rfl
         rotate_left
         ·simp only [Act.put, Qp1, Qp2, Qp3, i64_w, i32_w]
          rfl
         refine take_ (i := 6) (N := some 35) (v := ?_) (a' := ?_) (Qbz 31 1023) rfl rfl (by kernel_rfl) (fun _ _ _ h => h) (Or.inl ⟨by rfl, ?_⟩) hHeld ?_ ?_
         rotate_left
         ·rintro w' ⟨s0, s1, s2, s3, s4, s5, s6⟩
          go_simp
          with_reducible rfl
         rotate_left
         ·simp only [Act.put, Qp1, Qp2, Qp3, i64_w, i32_w]
          rfl
         refine take_ (i := 10) (N := some 39) (v := ?_) (a' := ?_) (Qbz 31 2047) rfl rfl (by kernel_rfl) (fun _ _ _ h => h) (Or.inl ⟨by rfl, ?_⟩) hHeld ?_ ?_
         rotate_left
         ·rintro w' ⟨s0, s1, s2, s3, s4, s5, s6⟩
          go_simp
          with_reducible rfl
         rotate_left
         ·simp only [Act.put, Qp1, Qp2, Qp3, i64_w, i32_w]
          rfl
         refine pure_ (i := 11) (N := some 40) (v := ?_) (a' := ?_) (Qbz 31 4095) rfl rfl (by kernel_rfl) (fun _ _ _ h => h) (Or.inl ⟨by rfl, ?_⟩) ?_ ?_
         rotate_left
         ·intro w'
          go_simp
          with_reducible rfl
         rotate_left
         ·simp only [Act.put, Qp1, Qp2, Qp3, i64_w, i32_w]
          rfl
         refine pure_ (i := 12) (N := some 41) (v := ?_) (a' := ?_) (Qbz 31 8191) rfl rfl (by kernel_rfl) (fun _ _ _ h => h) (Or.inl ⟨by rfl, ?_⟩) ?_ ?_
         rotate_left
         ·intro w'
          go_simp
          with_reducible rfl
         rotate_left
         ·simp only [Act.put, Qp1, Qp2, Qp3, i64_w, i32_w]
          rfl
         refine pure_ (i := 13) (N := some 42) (v := ?_) (a' := ?_) (Qbz 31 16383) rfl rfl (by kernel_rfl) (fun _ _ _ h => h) (Or.inl ⟨by rfl, ?_⟩) ?_ ?_
         rotate_left
         ·intro w'
          go_simp
          with_reducible rfl
         rotate_left
         ·simp only [Act.put, Qp1, Qp2, Qp3, i64_w, i32_w]
          rfl
         refine pure_ (i := 14) (N := some 43) (v := ?_) (a' := ?_) (Qbz 31 32767) rfl rfl (by kernel_rfl) (fun _ _ _ h => h) (Or.inl ⟨by rfl, ?_⟩) ?_ ?_
         rotate_left
         ·intro w'
          go_simp
          with_reducible rfl
         rotate_left
         ·simp only [Act.put, Qp1, Qp2, Qp3, i64_w, i32_w]
          rfl
         refine pure_ (i := 15) (N := some 44) (v := ?_) (a' := ?_) (Qbz 31 65535) rfl rfl (by kernel_rfl) (fun _ _ _ h => h) (Or.inl ⟨by rfl, ?_⟩) ?_ ?_
         rotate_left
         ·intro w'
          go_simp
          with_reducible rfl
         rotate_left
         ·simp only [Act.put, Qp1, Qp2, Qp3, i64_w, i32_w]
          rfl
         refine pure_ (i := 16) (N := some 45) (v := ?_) (a' := ?_) (Qbz 31 131071) rfl rfl (by kernel_rfl) (fun _ _ _ h => h) (Or.inl ⟨by rfl, ?_⟩) ?_ ?_
         rotate_left
         ·intro w'
          go_simp
          with_reducible rfl
         rotate_left
         ·simp only [Act.put, Qp1, Qp2, Qp3, i64_w, i32_w]
          rfl
         refine pure_ (i := 17) (N := some 46) (v := ?_) (a' := ?_) (Qbz 31 262143) rfl rfl (by kernel_rfl) (fun _ _ _ h => h) (Or.inl ⟨by rfl, ?_⟩) ?_ ?_
         rotate_left
         ·intro w'
          go_simp
          with_reducible rfl
         rotate_left
         ·simp only [Act.put, Qp1, Qp2, Qp3, i64_w, i32_w]
          rfl
         refine pure_ (i := 18) (N := some 47) (v := ?_) (a' := ?_) (Qbz 31 524287) rfl rfl (by kernel_rfl) (fun _ _ _ h => h) (Or.inl ⟨by rfl, ?_⟩) ?_ ?_
         rotate_left
         ·intro w'
          go_simp
          with_reducible rfl
         rotate_left
         ·simp only [Act.put, Qp1, Qp2, Qp3, i64_w, i32_w]
          rfl
         refine pure_ (i := 22) (N := some 51) (v := ?_) (a' := ?_) (Qbz 31 4718591) rfl rfl (by kernel_rfl) (fun _ _ _ h => h) (Or.inl ⟨by rfl, ?_⟩) ?_ ?_
         rotate_left
         ·intro w'
          go_simp
          with_reducible rfl
         rotate_left
         ·simp only [Act.put, Qp1, Qp2, Qp3, i64_w, i32_w]
          rfl
         refine pure_ (i := 23) (N := some 52) (v := ?_) (a' := ?_) (Qbz 31 13107199) rfl rfl (by kernel_rfl) (fun _ _ _ h => h) (Or.inl ⟨by rfl, ?_⟩) ?_ ?_
         rotate_left
         ·intro w'
          go_simp
          with_reducible rfl
         rotate_left
         ·simp only [Act.put, Qp1, Qp2, Qp3, i64_w, i32_w]
          rfl
         refine pure_ (i := 24) (N := some 53) (v := ?_) (a' := ?_) (Qbz 31 29884415) rfl rfl (by kernel_rfl) (fun _ _ _ h => h) (Or.inl ⟨by rfl, ?_⟩) ?_ ?_
         rotate_left
         ·intro w'
          go_simp
          with_reducible rfl
         rotate_left
         ·simp only [Act.put, Qp1, Qp2, Qp3, i64_w, i32_w]
          rfl
         refine pure_ (i := 25) (N := some 54) (v := ?_) (a' := ?_) (Qbz 31 63438847) rfl rfl (by kernel_rfl) (fun _ _ _ h => h) (Or.inl ⟨by rfl, ?_⟩) ?_ ?_
         rotate_left
         ·intro w'
          go_simp
          with_reducible rfl
         rotate_left
         ·simp only [Act.put, Qp1, Qp2, Qp3, i64_w, i32_w]
          rfl
         refine take_ (i := 19) (N := some 48) (v := ?_) (a' := ?_) (Qbz 31 63963135) rfl rfl (by kernel_rfl) (fun _ _ _ h => h) (Or.inl ⟨by rfl, ?_⟩) hHeld ?_ ?_
         rotate_left
         ·rintro w' ⟨s0, s1, s2, s3, s4, s5, s6⟩
          go_simp
          with_reducible rfl
         rotate_left
         ·simp only [Act.put, Qp1, Qp2, Qp3, i64_w, i32_w]
          rfl
         refine pure_ (i := 20) (N := some 49) (v := ?_) (a' := ?_) (Qbz 31 65011711) rfl rfl (by kernel_rfl) (fun _ _ _ h => h) (Or.inl ⟨by rfl, ?_⟩) ?_ ?_
         rotate_left
         ·intro w'
          go_simp
          with_reducible rfl
         rotate_left
         ·simp only [Act.put, Qp1, Qp2, Qp3, i64_w, i32_w]
          rfl
         refine take_ (i := 21) (N := some 50) (v := ?_) (a' := ?_) (Qbz 31 67108863) rfl rfl (by kernel_rfl) (fun _ _ _ h => h) (Or.inl ⟨by rfl, ?_⟩) hHeld ?_ ?_
         rotate_left
         ·rintro w' ⟨s0, s1, s2, s3, s4, s5, s6⟩
          go_simp
          with_reducible rfl
         rotate_left
         ·simp only [Act.put, Qp1, Qp2, Qp3, i64_w, i32_w]
          rfl
         refine take_ (i := 26) (N := some 55) (v := ?_) (a' := ?_) (Qbz 31 134217727) rfl rfl (by kernel_rfl) (fun _ _ _ h => h) (Or.inl ⟨by rfl, ?_⟩) hHeld ?_ ?_
         rotate_left
         ·rintro w' ⟨s0, s1, s2, s3, s4, s5, s6⟩
          go_simp
          with_reducible rfl
         rotate_left
         ·simp only [Act.put, Qp1, Qp2, Qp3, i64_w, i32_w]
          rfl
         refine pure_ (i := 27) (N := some 56) (v := ?_) (a' := ?_) (Qbz 31 268435455) rfl rfl (by kernel_rfl) (fun _ _ _ h => h) (Or.inl ⟨by rfl, ?_⟩) ?_ ?_
         rotate_left
         ·intro w'
          go_simp
          with_reducible rfl
         rotate_left
         ·simp only [Act.put, Qp1, Qp2, Qp3, i64_w, i32_w]
          rfl
         refine pure_ (i := 28) (N := some 57) (v := ?_) (a' := ?_) (Qbz 31 536870911) rfl rfl (by kernel_rfl) (fun _ _ _ h => h) (Or.inl ⟨by rfl, ?_⟩) ?_ ?_
         rotate_left
         ·intro w'
          go_simp
          with_reducible rfl
         rotate_left
         ·simp only [Act.put, Qp1, Qp2, Qp3, i64_w, i32_w]
          rfl
         refine pure_ (i := 29) (N := some 58) (v := ?_) (a' := ?_) (Qbz 31 1073741823) rfl rfl (by kernel_rfl) (fun _ _ _ h => h) (Or.inl ⟨by rfl, ?_⟩) ?_ ?_
         rotate_left
         ·intro w'
          go_simp
          with_reducible rfl
         rotate_left
         ·simp only [Act.put, Qp1, Qp2, Qp3, i64_w, i32_w]
          rfl
         refine pure_ (i := 30) (N := some 59) (v := ?_) (a' := ?_) (Qbz 31 2147483647) rfl rfl (by kernel_rfl) (fun _ _ _ h => h) (Or.inl ⟨by rfl, ?_⟩) ?_ ?_
         rotate_left
         ·intro w'
          go_simp
          with_reducible rfl
         rotate_left
         ·simp only [Act.put, Qp1, Qp2, Qp3, i64_w, i32_w]
          rfl
         refine done_ (by kernel_rfl) ?_
         have HB2 := Aside0.mk hHeld.2.2.2.2.2.2
         go_wp2
         go_ret
         exact ⟨_, _, _, rfl, ⟨rfl, rfl, rfl⟩, below_step (below_step HBW.out HBJ.out) HB2.out⟩
      ·have hi1 : ((i : Int) < (j : Int)) = False := eq_false (by omega)
       have hi2 : decide ((i : Int) < (j : Int)) = false := decide_eq_false (by omega)
       have HAJ2 : Aside0 (∀ i j', i < j' → j' < j + 1 → cr G M i k = true → cr G M j' (M.length - 1) = false) := ⟨fun i' j' h1 h2 h3 => by
        by_cases e : j' = j
        ·subst e; exact HAI.out i' (by omega) h3
        ·exact HAJ.out i' j' h1 (by omega) h3⟩
       clear HAI HAJ HA
       go_wp2
       go_roundg gj
       case measure => omega
       case rel => exact ⟨j + 1, by go_num, by omega, HAJ2, ⟨below_step HBJ.out HBI.out⟩⟩
    ·have hj1 : ((j : Int) < (k : Int)) = False := eq_false (by omega)
     have hj2 : decide ((j : Int) < (k : Int)) = false := decide_eq_false (by omega)
     have HA2 : Aside0 (∀ i j k', i < j → j < k' → k' < k + 1 → cr G M i k' = true → cr G M j (M.length - 1) = false) := ⟨fun i' j' k' h1 h2 h3 h4 => by
      by_cases e : k' = k
      ·subst e; exact HAJ.out i' j' h1 (by omega) h4
      ·exact HA.out i' j' k' h1 h2 (by omega) h4⟩
     clear HAJ HA
     go_wp2
     go_roundg gk'
     case measure => omega
     case rel => exact ⟨k + 1, by go_num, by omega, HA2, ⟨below_step HBW.out HBJ.out⟩⟩
  ·have hk1 : ((k : Int) < z) = False := eq_false (by omega)
   have hk2 : decide ((k : Int) < z) = false := decide_eq_false (by omega)
   have hX : crossB G M = false := by
    cases hc : crossB G M
    ·rfl
    ·obtain ⟨i, j, k', h1, h2, h3, h4, h5⟩ := (crossB_iff G M).1 hc
     rw [HA.out i j k' h1 h2 (by omega) h4] at h5
     cases h5
   have HX := Aside0.mk hX
   clear hX HA
   cases d with
   | zero =>
    have hd1 : ((M.length : Int) == (G.length : Int)) = true := beq_iff_eq.2 (by omega)
    have hr2 : R = some M := by rw [← HR.out, rO, if_neg (by rw [HX.out]; simp)]
    subst hr2
    have hO2 := own_kept HO.out (grown_of_below HBW.out none) (fun _ _ e => by cases e)
    have HO2 := Aside0.mk hO2
    have hsome : ∃ g, A = some g := by
     cases A with
     | none => have := (own_nil_or HO.out rfl).1; omega
     | some g => exact ⟨g, rfl⟩
    clear hO2
    go_wp2
    go_ret
    exact ⟨_, _, _, rfl, .inr ⟨M, rfl, rfl, HO2.out, hsome⟩, HBW.out⟩
   | succ d =>
    have hd1 : ((M.length : Int) == (G.length : Int)) = false := beq_eq_false_iff_ne.2 (by omega)
    obtain ⟨F, hF⟩ : ∃ F : Nat → Option (List Nat), F = fun v => if M.contains v then none else rO G d (M ++ [v]) := ⟨_, rfl⟩
    have hRF : ((List.range G.length).drop 0).findSome? F = R := by rw [← HR.out, hF, rO, if_neg (by rw [HX.out]; simp)]; rfl
    have HFE : Aside0 (∀ v, F v = if M.contains v then none else rO G d (M ++ [v])) := ⟨fun v => by rw [hF]⟩
    have HRF := Aside0.mk hRF
    clear hF hRF HR
    go_wp2
    obtain ⟨wo, rfl⟩ : ∃ wo : World, wo = wr := ⟨_, rfl⟩
    go_loopg [70] G.length (fun kq v70 w' => ∃ v : Nat, v70 = .int .i64 (v : Int) ∧ v + kq = G.length ∧ Aside0 (((List.range G.length).drop v).findSome? F = R) ∧ Aside0 (Below w.heap.size w w'))
    case atStart => exact ⟨0, rfl, by omega, HRF, HBW⟩
    case round =>
     clear HRF
     obtain ⟨v, rfl, hv, HA, HBV⟩ := hrel
     by_cases hvl : v < G.length
     ·have hv1 : ((v : Int) < (G.length : Int)) = True := eq_true (by omega)
      have hv2 : decide ((v : Int) < (G.length : Int)) = true := decide_eq_true (by omega)
      cases gk with
      | zero => omega
      | succ gv =>
      have ha := HA.out
      rw [List.drop_eq_getElem_cons (by simpa using hvl), List.getElem_range, List.findSome?_cons] at ha
      have HAH := Aside0.mk ha
      clear ha HA
      have HFV := Aside0.mk (HFE.out v)
      go_wp2
      obtain ⟨wq, rfl⟩ : ∃ wq : World, wq = wr := ⟨_, rfl⟩
      go_loopg [75, 10] M.length (fun iq v75 v10 w' => ∃ (i : Nat) (b : Bool), v75 = .int .i64 (i : Int) ∧ v10 = .bool b ∧ i + iq = M.length ∧ Aside0 (b = (M.take i).contains v) ∧ w' = wq)
      case atStart => exact ⟨0, false, rfl, rfl, by omega, ⟨by simp⟩, rfl⟩
      case round =>
       obtain ⟨i, b, rfl, rfl, hi, HBC, rfl⟩ := hrel
       by_cases hil : i < M.length
       ·have hi1 : ((i : Int) < (M.length : Int)) = True := eq_true (by omega)
        have hi2 : decide ((i : Int) < (M.length : Int)) = true := decide_eq_true (by omega)
        cases gk with
        | zero => omega
        | succ gi' =>
        obtain ⟨adM, e1, hx⟩ := Kd.at_int (HRM.out wr HBV.out) (i : Int) (by omega) (by omega)
        subst e1
        rw [rd_gi, Int.toNat_natCast] at hx
        have hstep := contains_take M i v hil
        generalize M.getD i 0 = x at *
        cases b
        ·cases hxv : ((x : Int) == (v : Int))
         ·have HBC2 : Aside0 (false = (M.take (i + 1)).contains v) := ⟨by
           rw [hstep, ← HBC.out]
           have : x ≠ v := fun e => by rw [e] at hxv; simp at hxv
           simp [this]⟩
          clear HBC hstep
          go_wp2
          go_roundg gi'
          case measure => omega
          case rel => exact ⟨i + 1, false, by go_num, rfl, by omega, HBC2, rfl⟩
         ·have HBC2 : Aside0 (true = (M.take (i + 1)).contains v) := ⟨by
           rw [hstep, ← HBC.out]
           have : x = v := by have := beq_iff_eq.1 hxv; omega
           simp [this]⟩
          clear HBC hstep
          go_wp2
          go_roundg gi'
          case measure => omega
          case rel => exact ⟨i + 1, true, by go_num, rfl, by omega, HBC2, rfl⟩
        ·have HBC2 : Aside0 (true = (M.take (i + 1)).contains v) := ⟨by rw [hstep, ← HBC.out]; rfl⟩
         clear HBC hstep
         go_wp2
         go_roundg gi'
         case measure => omega
         case rel => exact ⟨i + 1, true, by go_num, rfl, by omega, HBC2, rfl⟩
       ·have hi1 : ((i : Int) < (M.length : Int)) = False := eq_false (by omega)
        have hi2 : decide ((i : Int) < (M.length : Int)) = false := decide_eq_false (by omega)
        have hb := HBC.out
        rw [List.take_of_length_le (by omega)] at hb
        clear HBC
        cases b
        ·have hFx : F v = rO G d (M ++ [v]) := by rw [HFV.out, ← hb]; rfl
         have ha2 := HAH.out
         have hFv := HFV.out
         have HREC : Aside0 (∀ W B' g c', Below w.heap.size w W → B' ≤ W.heap.size → W.ownsRow B' 3 1 (.slice (some g) (M.length + 1) c') (M.length + 1) ((gi M).map (Value.int .i64) ++ [.int .i64 (v : Int)]) → Calls Tryd.prog 84 #[.slice A0 G.length c0, .slice (some g) (M.length + 1) c'] W fun e w' => ∃ A' n' c', e = .returned (.slice A' n' c') ∧ ((F v = none ∧ A' = none ∧ n' = 0 ∧ c' = 0) ∨ ∃ R, F v = some R ∧ n' = R.length ∧ w'.ownsRow B' 3 1 (.slice A' n' c') R.length ((gi R).map (Value.int .i64)) ∧ ∃ g, A' = some g) ∧ Below W.heap.size W w') := ⟨fun W B' g c' hW hB' hoW => by
          rw [hFx]
          have e1 : (M ++ [v]).length = M.length + 1 := by simp
          have := IH.out d rfl (M ++ [v]) (some g) c' B' W (by simp; omega) (fun y hy => by
           rcases List.mem_append.1 hy with hy | hy
           ·exact HM.out y hy
           ·rw [List.mem_singleton.1 hy]; exact hvl) hB' (Kd.C_below HR0.out hW) (by rw [e1, show (gi (M ++ [v])).map (Value.int .i64) = (gi M).map (Value.int .i64) ++ [.int .i64 (v : Int)] by simp [gi]]; exact hoW)
          rw [e1] at this
          exact this⟩
         have hreadW : Aside0 (∀ W, Below w.heap.size w W → ∀ b, A = some b → ∀ (q : Nat) u, ((gi M).map (Value.int .i64))[q]? = some u → (W.alloc (.cells #[.int .i64 (v : Int)] 3)).cell? (b.add q) = some u) := ⟨fun W hW b hb q u hu => by
          have hq : q < (gi M).length := by have := (List.getElem?_eq_some_iff.1 hu).1; simpa using this
          have hro := own_kept HO.out (grown_of_below (below_alloc hW (.cells #[.int .i64 (v : Int)] 3)) none) (fun _ _ e => by cases e)
          rw [show M.length = (gi M).length from (gi_length M).symm] at hro
          obtain ⟨ad, e, hx⟩ := Kd.at_int (C_of_row hro).2 (q : Int) (by omega) (by omega)
          rw [hb] at e
          cases e
          rw [Int.toNat_natCast] at hx
          rw [hx]
          rw [List.getElem?_map, List.getElem?_eq_getElem hq] at hu
          unfold rd
          rw [Int.toNat_natCast, List.getD_eq_getElem?_getD, List.getElem?_eq_getElem hq]
          exact hu⟩
         clear hFx hb HAH HFV HFE IH HM hFv
         cases hfx : F v with
         | none =>
          rw [hfx] at HREC ha2
          have HA2 : Aside0 (((List.range G.length).drop (v + 1)).findSome? F = R) := ⟨ha2⟩
          clear ha2 hfx
          go_wp2_with (first
           | (at_builtin; refine wpList_append_grows _ rfl _ _ 22 rfl 3 i3 (.int .i64 0) 1 8 Tryd.underlying22 hi3 hq0 hq1 hq2 rfl (by decide) A M.length M.length ((gi M).map (Value.int .i64)) rfl hnone.out (by simp [gi]) (hreadW.out _ HBV.out) ⟨wr.heap.size, 0, none⟩ 1 1 [.int .i64 (v : Int)] rfl rfl (cell_one_new _ _ _) (by simp [Value.oneCell']) (by omega) (by unfold maxLen; omega) (by omega) ?_; intro v1 w1 hown1 hg1; obtain ⟨g1, cap1, rfl⟩ := own_succ hown1; have HB1 : Aside0 (Below w.heap.size w w1) := ⟨(below_alloc HBV.out (.cells #[.int .i64 (v : Int)] 3)).grown hg1 (by have := HBV.out.size; simp; omega) (fun k e => by cases e)⟩; have HW1 := Aside0.mk hown1; clear hown1 hg1)
           | (go_at_call 84; refine (HREC.out _ _ _ _ HB1.out (own_le HW1.out) HW1.out).mono ?_; rintro e w9 ⟨A9, n9, c9, rfl, hv9, hb9⟩; obtain ⟨rfl, rfl, rfl⟩ : A9 = none ∧ n9 = 0 ∧ c9 = 0 := hv9.elim (fun h => h.2) (fun ⟨R, h, _⟩ => by cases h); have HB9 := Aside0.mk (below_step HB1.out hb9); clear hb9 hv9))
          go_roundg gv
          case measure => omega
          case rel => exact ⟨v + 1, by go_num, by omega, HA2, HB9⟩
         | some Rr =>
          rw [hfx] at HREC ha2
          have hr2 : R = some Rr := ha2.symm
          subst hr2
          clear ha2 hfx
          go_wp2_with (first
           | (at_builtin; refine wpList_append_grows _ rfl _ _ 22 rfl 3 i3 (.int .i64 0) 1 8 Tryd.underlying22 hi3 hq0 hq1 hq2 rfl (by decide) A M.length M.length ((gi M).map (Value.int .i64)) rfl hnone.out (by simp [gi]) (hreadW.out _ HBV.out) ⟨wr.heap.size, 0, none⟩ 1 1 [.int .i64 (v : Int)] rfl rfl (cell_one_new _ _ _) (by simp [Value.oneCell']) (by omega) (by unfold maxLen; omega) (by omega) ?_; intro v1 w1 hown1 hg1; obtain ⟨g1, cap1, rfl⟩ := own_succ hown1; have HB1 : Aside0 (Below w.heap.size w w1) := ⟨(below_alloc HBV.out (.cells #[.int .i64 (v : Int)] 3)).grown hg1 (by have := HBV.out.size; simp; omega) (fun k e => by cases e)⟩; have HW1 := Aside0.mk hown1; clear hown1 hg1)
           | (go_at_call 84; refine (HREC.out _ _ _ _ HB1.out (own_le HW1.out) HW1.out).mono ?_; rintro e w9 ⟨A9, n9, c9, rfl, hv9, hb9⟩; obtain ⟨R9, h9, h9n, h9o, g9, rfl⟩ : ∃ R, some Rr = some R ∧ n9 = R.length ∧ w9.ownsRow _ 3 1 (.slice A9 n9 c9) R.length ((gi R).map (Value.int .i64)) ∧ ∃ g, A9 = some g := hv9.elim (fun h => by cases h.1) id; cases h9; subst h9n; have HB9 := Aside0.mk (below_step HB1.out hb9); have HO9 := Aside0.mk h9o; clear hb9 hv9 h9o))
          go_ret
          refine ⟨_, _, _, rfl, .inr ⟨Rr, rfl, rfl, ?_, _, rfl⟩, HB9.out⟩
          exact own_low HO9.out (by have := HBV.out.size; simp; omega)
        ·have HA2 : Aside0 (((List.range G.length).drop (v + 1)).findSome? F = R) := ⟨by
          have := HAH.out
          rw [HFV.out, ← hb] at this
          exact this⟩
         clear hb HAH HFV
         go_wp2
         go_roundg gv
         case measure => omega
         case rel => exact ⟨v + 1, by go_num, by omega, HA2, HBV⟩
     ·have hv1 : ((v : Int) < (G.length : Int)) = False := eq_false (by omega)
      have hv2 : decide ((v : Int) < (G.length : Int)) = false := decide_eq_false (by omega)
      have ha := HA.out
      rw [List.drop_eq_nil_of_le (by simp; omega)] at ha
      have hr2 : R = none := ha.symm
      subst hr2
      clear ha HA
      go_wp2
      go_ret
      exact ⟨_, _, _, rfl, ⟨rfl, rfl, rfl⟩, HBV.out⟩
theorem refOuter_calls (A0 : Option Addr) (c0 : Nat) (G : List Nat) (hG : Gr 9 G) (hc0 : G.length ≤ c0) : ∀ (d : Nat) (M : List Nat) (A : Option Addr) (cap B : Nat) (w : World), M.length + d = G.length → (∀ x ∈ M, x < G.length) → B ≤ w.heap.size → Kd.C (Kd.int .i64) w A0 G.length (gi G) → w.ownsRow B 3 1 (.slice A M.length cap) M.length ((gi M).map (Value.int .i64)) →
   Calls Tryd.prog 84 #[.slice A0 G.length c0, .slice A M.length cap] w fun e w' => ∃ A' n' c', e = .returned (.slice A' n' c') ∧ ((rO G d M = none ∧ A' = none ∧ n' = 0 ∧ c' = 0) ∨ ∃ R, rO G d M = some R ∧ n' = R.length ∧ w'.ownsRow B 3 1 (.slice A' n' c') R.length ((gi R).map (Value.int .i64)) ∧ ∃ g, A' = some g) ∧ Below w.heap.size w w'
 | 0, M, A, cap, B, w, h1, h2, h3, h4, h5 => refOuter_step A0 c0 G hG hc0 0 (fun d' e => by omega) M A cap B w h1 h2 h3 h4 h5
 | d + 1, M, A, cap, B, w, h1, h2, h3, h4, h5 => refOuter_step A0 c0 G hG hc0 (d + 1) (fun d' e => by
   obtain rfl : d = d' := by omega
   exact refOuter_calls A0 c0 G hG hc0 d) M A cap B w h1 h2 h3 h4 h5
def lampblackref07_Outer.f (g : List Int) : Option (List Int × Int) :=
 if chk 9 g = true then some ((rO (g.map Int.toNat) g.length []).elim ([], 4) fun M => (gi M, 0)) else none
set_option maxHeartbeats 4000000 in
set_option maxRecDepth 100000 in
theorem lampblackref07_Outer.calls (A0 : Option Addr) (c0 : Nat) (l0 : List Int) (r1 : List Int) (r2 : Int) (w : World) (hr0 : Kd.C (Kd.int .i64) w A0 l0.length l0) (hc0 : l0.length ≤ c0) (h : lampblackref07_Outer.f l0 = some (r1, r2)) :
  Calls Tryd.prog 49 #[.slice A0 l0.length c0] w fun e w' => ∃ v, e = .returned (.tuple #[v, .int .i64 r2]) ∧ Kd.R (Kd.int .i64) 3 w' w.heap.size (fun _ => True) v r1 ∧ Below w.heap.size w w' := by
 unfold lampblackref07_Outer.f at h
 by_cases hgp : chk 9 l0 = true
 ·rw [if_pos hgp] at h
  have h := Option.some.inj h
  obtain ⟨G, rfl, hG⟩ := (chk_iff 9 (by omega) _).1 hgp
  rw [gi_toNat] at h
  simp only [gi_length] at hr0 hc0 h ⊢
  have HREC : Aside0 (Calls Tryd.prog 84 #[.slice A0 G.length c0, .slice none 0 0] w fun e w' => ∃ A' n' c', e = .returned (.slice A' n' c') ∧ ((rO G G.length [] = none ∧ A' = none ∧ n' = 0 ∧ c' = 0) ∨ ∃ R, rO G G.length [] = some R ∧ n' = R.length ∧ w'.ownsRow w.heap.size 3 1 (.slice A' n' c') R.length ((gi R).map (Value.int .i64)) ∧ ∃ g, A' = some g) ∧ Below w.heap.size w w') := ⟨refOuter_calls A0 c0 G hG hc0 G.length [] none 0 w.heap.size w (by simp) (fun _ h => by cases h) (Nat.le_refl _) hr0 (World.ownsRow_nil _ _ _ _)⟩
  have heq_ := fun (w : World) (a : Option Addr) (n c : Nat) => run_neq_slice_nil_any (P := Tryd.prog) w 22 3 a n c 0 0 Tryd.underlying22
  clear hr0 hgp hG
  cases hf : rO G G.length [] with
  | none =>
   rw [hf] at HREC h
   injection h with h1 h2
   subst h1 h2
   clear hf
   go_enter Tryd.func49, Tryd.ntmps49
   go_wp2_with (go_at_call 84; refine HREC.out.mono ?_; rintro e w9 ⟨A9, n9, c9, rfl, hv9, hb9⟩; obtain ⟨rfl, rfl, rfl⟩ : A9 = none ∧ n9 = 0 ∧ c9 = 0 := hv9.elim (fun h => h.2) (fun ⟨R, h, _⟩ => by cases h); have HB9 := Aside0.mk hb9; clear hb9 hv9)
   go_ret2
   exact ⟨_, rfl, Kd.R_nil _ _ _ _ _, HB9.out⟩
  | some Rr =>
   rw [hf] at HREC h
   injection h with h1 h2
   subst h1 h2
   clear hf
   go_enter Tryd.func49, Tryd.ntmps49
   go_wp2_with (go_at_call 84; refine HREC.out.mono ?_; rintro e w9 ⟨A9, n9, c9, rfl, hv9, hb9⟩; obtain ⟨R9, h9, h9n, h9o, g9, rfl⟩ : ∃ R, some Rr = some R ∧ n9 = R.length ∧ w9.ownsRow w.heap.size 3 1 (.slice A9 n9 c9) R.length ((gi R).map (Value.int .i64)) ∧ ∃ g, A9 = some g := hv9.elim (fun h => by cases h.1) id; cases h9; subst h9n; have HB9 := Aside0.mk hb9; have HO9 := Aside0.mk h9o; clear hb9 hv9 h9o)
   go_ret2
   refine ⟨_, rfl, ?_, HB9.out⟩
   have h2 : w9.ownsRow w.heap.size 3 1 (.slice (some g9) Rr.length c9) (gi Rr).length ((gi Rr).map (Value.int .i64)) := by rw [gi_length]; exact HO9.out
   exact Kd.R_of_own (ok := fun _ => True) h2 (fun _ _ => trivial)
 ·rw [if_neg hgp] at h
  cases h
end Go.Proofs.YtjloppfdagfpmaaDoor.X
end
section
namespace Go.Proofs.YtjloppfdagfpmaaDoor.X
open Go.RowKit YtjloppfdagfpmaaDoorW.PrintWords YtjloppfdagfpmaaDoorW.PrintLast YtjloppfdagfpmaaDoorW.PrintMore
attribute [local go_sem] max2_int min2_int max_two min_two max_three min_three max_four min_four
/-! ### lampblackref07_Apex: function 55 -/
def lampblackref07_Apex.l0 : Nat → List Int → Int → Int → Option (Int × Int)
 | 0, _, _, _ => none
 | k + 1, x0, x11, x12 => if x12 < x11 then ((lampblackref07_Delete.f k x0 x12).bind fun t630 => ((lampblackref07_Outer.f t630).bind fun bt633 => (if bt633.2 = 0 then (some (x12, 0)) else (lampblackref07_Apex.l0 k x0 x11 (wrap64 (x12 + 1)))))) else (some (0, 4))
def lampblackref07_Apex.f (k : Nat) (l0 : List Int) : Option (Int × Int) := if (l0.length : Int) = 1 then (some (0, 0)) else (lampblackref07_Apex.l0 k l0 (l0.length : Int) 0)
set_option maxHeartbeats 8000000 in
set_option maxRecDepth 100000 in
theorem lampblackref07_Apex.calls (k : Nat) (A0 : Option Addr) (c0 : Nat) (l0 : List Int) (r1 : Int) (r2 : Int) (w : World) (hr0 : Kd.C (Kd.int .i64) w A0 l0.length l0) (hc0 : l0.length ≤ c0) (h : lampblackref07_Apex.f k l0 = some (r1, r2)) :
  Calls Tryd.prog 55 #[.slice A0 l0.length c0] w fun e w' => e = .returned (.tuple #[.int .i64 r1, .int .i64 r2]) ∧ Below w.heap.size w w' := by
 have HR0 := Aside0.mk hr0
 have HC0 := Aside0.mk hc0
 clear hr0 hc0
 have HB := Aside0.mk (Below.refl w.heap.size w)
 have H : (if (l0.length : Int) = 1 then (some (0, 0)) else (lampblackref07_Apex.l0 k l0 (l0.length : Int) 0)) = some (r1, r2) := h
 clear h
 by_cases c2 : (l0.length : Int) = 1
 ·rw [if_pos c2] at H
  have c2b0 : ((l0.length : Int) == 1) = true := beq_iff_eq.mpr c2
  have c2b1 : ((l0.length : Int) != 1) = false := bne_eq_false_iff_eq.mpr c2
  clear c2
  simp only [Option.some.injEq, Prod.mk.injEq] at H
  obtain ⟨rfl, rfl⟩ := H
  go_enter Tryd.func55, Tryd.ntmps55
  go_wp2
  go_ret2
  exact ⟨by first | rfl | (simp [errW_none, errW_some] <;> rfl) | (simp [*, errW_none, errW_some] <;> rfl), by repeat (first | (with_reducible first | exact HB.out | apply below_alloc | apply pw_below_drewN | apply below_drew1) | exact HB.out)⟩
 ·rw [if_neg c2] at H
  have c2b0 : ((l0.length : Int) == 1) = false := beq_eq_false_iff_ne.mpr c2
  have c2b1 : ((l0.length : Int) != 1) = true := bne_iff_ne.mpr c2
  have H' := Aside0.mk H
  clear H
  go_enter Tryd.func55, Tryd.ntmps55
  go_wp2
  go_loopg [12] k (fun kq v12 w' => ∃ (x12_1 : Int), v12 = .int .i64 x12_1 ∧ Aside0 (lampblackref07_Apex.l0 kq l0 (l0.length : Int) x12_1 = some (r1, r2)) ∧ Aside0 (kq ≤ k) ∧ Aside0 (Below w.heap.size w w'))
  case atStart => exact ⟨(0), (by first | rfl | (simp; done) | (simp [*]; done)), H', ⟨Nat.le_refl _⟩, ⟨by repeat (first | (with_reducible first | exact HB.out | apply below_alloc | apply pw_below_drewN | apply below_drew1) | exact HB.out)⟩⟩
  case round =>
   clear H'
   try clear c2
   try clear c2b0
   try clear c2b1
   try clear p2
   obtain ⟨x12_1, rfl, HA, HK1, HB⟩ := hrel
   cases gk with
   | zero => exact absurd HA.out (by simp [lampblackref07_Apex.l0])
   | succ k1 =>
    have H := HA.out
    clear HA
    simp only [lampblackref07_Apex.l0] at H
    by_cases c3 : x12_1 < (l0.length : Int)
    ·rw [if_pos c3] at H
     have c3b0 : decide (x12_1 < (l0.length : Int)) = true := decide_eq_true c3
     clear c3
     replace H := Option.bind_eq_some_iff.mp H
     obtain ⟨t630, A40, H⟩ := H
     replace H : ((lampblackref07_Outer.f t630).bind fun bt633 => (if bt633.2 = 0 then (some (x12_1, 0)) else (lampblackref07_Apex.l0 k1 l0 (l0.length : Int) (wrap64 (x12_1 + 1))))) = some (r1, r2) := H
     have A4 := Aside0.mk A40
     clear A40
     replace H := Option.bind_eq_some_iff.mp H
     obtain ⟨⟨t633, t634⟩, A50, H⟩ := H
     replace H : (if t634 = 0 then (some (x12_1, 0)) else (lampblackref07_Apex.l0 k1 l0 (l0.length : Int) (wrap64 (x12_1 + 1)))) = some (r1, r2) := H
     have A5 := Aside0.mk A50
     clear A50
     by_cases c6 : t634 = 0
     ·rw [if_pos c6] at H
      have c6b0 : (t634 == 0) = true := beq_iff_eq.mpr c6
      have c6b1 : (t634 != 0) = false := bne_eq_false_iff_eq.mpr c6
      clear c6
      simp only [Option.some.injEq, Prod.mk.injEq] at H
      obtain ⟨rfl, rfl⟩ := H
      go_wp2_with (first | ((with_reducible refine gate_callee (f := 37) rfl ?_); refine goesL_ (some 18) rfl rfl Tryd.func37 (by kernel_rfl) rfl #[.slice A0 l0.length c0, .int .i64 x12_1] rfl (Qls) ?_; (with_reducible refine (lampblackref07_Delete.calls k1 _ _ l0 x12_1 t630 _ ?side1 ?side2 A4.out).mono ?_); (case side1 => exact Qsc (Kd.C_below HR0.out HB.out)); (case side2 => exact HC0.out); rintro e w7 ⟨v631, rfl, ho0, hb⟩; refine ⟨_, rfl, ?_⟩; have n0_ := Aside0.mk (Kd.R_lower ho0 (below_size (Qaw))); have n1_ := Aside0.mk (below_step (Qaw) hb); clear HB; have HO632 := n0_; have HB := n1_; clear n0_ n1_; (try clear hb); (try clear hb2); (try clear hk); (try clear hi); (try clear ho0); obtain ⟨Ao8, co8, eo8⟩ := Kd.R_slice HO632.out; subst eo8) | ((with_reducible refine gate_callee (f := 49) rfl ?_); refine goesL_ (some 19) rfl rfl Tryd.func49 (by kernel_rfl) rfl #[.slice Ao8 t630.length co8] rfl (Qls) ?_; (with_reducible refine (lampblackref07_Outer.calls _ _ t630 t633 t634 _ ?side1 ?side2 A5.out).mono ?_); (case side1 => exact Qsc (Kd.R_reads' HO632.out).2.2); (case side2 => exact (Kd.R_reads' HO632.out).2.1); rintro e w9 ⟨v635, rfl, ho0, hb⟩; refine ⟨_, rfl, ?_⟩; have n0_ := Aside0.mk (Kd.R_elder' (Qro HO632.out) (Kd.R_base ho0) hb); have n1_ := Aside0.mk (Kd.R_lower (Kd.R_new' ho0 (Kd.R_lt (Qro HO632.out))) (below_size (Qaw))); have n2_ := Aside0.mk (below_step (Qaw) hb); clear HO632; clear HB; have HO632 := n0_; have HO636 := n1_; have HB := n2_; clear n0_ n1_ n2_; (try clear hb); (try clear hb2); (try clear hk); (try clear hi); (try clear ho0)))
      go_ret2
      exact ⟨by first | rfl | (simp [errW_none, errW_some] <;> rfl) | (simp [*, errW_none, errW_some] <;> rfl), by repeat (first | (with_reducible first | exact HB.out | apply below_alloc | apply pw_below_drewN | apply below_drew1) | exact HB.out)⟩
     ·rw [if_neg c6] at H
      have c6b0 : (t634 == 0) = false := beq_eq_false_iff_ne.mpr c6
      have c6b1 : (t634 != 0) = true := bne_iff_ne.mpr c6
      have H' := Aside0.mk H
      clear H
      go_wp2_with (first | ((with_reducible refine gate_callee (f := 37) rfl ?_); refine goesL_ (some 18) rfl rfl Tryd.func37 (by kernel_rfl) rfl #[.slice A0 l0.length c0, .int .i64 x12_1] rfl (Qls) ?_; (with_reducible refine (lampblackref07_Delete.calls k1 _ _ l0 x12_1 t630 _ ?side1 ?side2 A4.out).mono ?_); (case side1 => exact Qsc (Kd.C_below HR0.out HB.out)); (case side2 => exact HC0.out); rintro e w10 ⟨v631, rfl, ho0, hb⟩; refine ⟨_, rfl, ?_⟩; have n0_ := Aside0.mk (Kd.R_lower ho0 (below_size (Qaw))); have n1_ := Aside0.mk (below_step (Qaw) hb); clear HB; have HO632 := n0_; have HB := n1_; clear n0_ n1_; (try clear hb); (try clear hb2); (try clear hk); (try clear hi); (try clear ho0); obtain ⟨Ao11, co11, eo11⟩ := Kd.R_slice HO632.out; subst eo11) | ((with_reducible refine gate_callee (f := 49) rfl ?_); refine goesL_ (some 19) rfl rfl Tryd.func49 (by kernel_rfl) rfl #[.slice Ao11 t630.length co11] rfl (Qls) ?_; (with_reducible refine (lampblackref07_Outer.calls _ _ t630 t633 t634 _ ?side1 ?side2 A5.out).mono ?_); (case side1 => exact Qsc (Kd.R_reads' HO632.out).2.2); (case side2 => exact (Kd.R_reads' HO632.out).2.1); rintro e w12 ⟨v635, rfl, ho0, hb⟩; refine ⟨_, rfl, ?_⟩; have n0_ := Aside0.mk (Kd.R_elder' (Qro HO632.out) (Kd.R_base ho0) hb); have n1_ := Aside0.mk (Kd.R_lower (Kd.R_new' ho0 (Kd.R_lt (Qro HO632.out))) (below_size (Qaw))); have n2_ := Aside0.mk (below_step (Qaw) hb); clear HO632; clear HB; have HO632 := n0_; have HO636 := n1_; have HB := n2_; clear n0_ n1_ n2_; (try clear hb); (try clear hb2); (try clear hk); (try clear hi); (try clear ho0)))
      go_roundg k1
      case measure => have := HK1.out; omega
      case rel => exact ⟨(wrap64 (x12_1 + 1)), (by first | rfl | (simp; done) | (simp [*]; done)), H', ⟨by have := HK1.out; omega⟩, ⟨by repeat (first | (with_reducible first | exact HB.out | apply below_alloc | apply pw_below_drewN | apply below_drew1) | exact HB.out)⟩⟩
    ·rw [if_neg c3] at H
     have c3b0 : decide (x12_1 < (l0.length : Int)) = false := decide_eq_false c3
     clear c3
     simp only [Option.some.injEq, Prod.mk.injEq] at H
     obtain ⟨rfl, rfl⟩ := H
     go_wp2
     go_ret2
     exact ⟨by first | rfl | (simp [errW_none, errW_some] <;> rfl) | (simp [*, errW_none, errW_some] <;> rfl), by repeat (first | (with_reducible first | exact HB.out | apply below_alloc | apply pw_below_drewN | apply below_drew1) | exact HB.out)⟩
end Go.Proofs.YtjloppfdagfpmaaDoor.X
end
section
namespace Go.Proofs.YtjloppfdagfpmaaDoor.X
open Go.RowKit YtjloppfdagfpmaaDoorW.PrintWords YtjloppfdagfpmaaDoorW.PrintLast YtjloppfdagfpmaaDoorW.PrintMore
attribute [local go_sem] max2_int min2_int max_two min_two max_three min_three max_four min_four
/-! ### lampblackref07_Greatest: function 56 -/
def lampblackref07_Greatest.l0 : Nat → List Int → Int → Option (Int)
 | 0, _, _ => none
 | k + 1, x0, x3 => if x3 < 6 then ((lampblackref07_K.f k (wrap64 (x3 + 1))).bind fun t637 => ((lampblackref07_Model.f x0 t637).bind fun bt640 => (if bt640.2 = 0 then (lampblackref07_Greatest.l0 k x0 (wrap64 (x3 + 1))) else (some x3)))) else (some x3)
def lampblackref07_Greatest.f (k : Nat) (l0 : List Int) : Option (Int) := lampblackref07_Greatest.l0 k l0 1
set_option maxHeartbeats 8000000 in
set_option maxRecDepth 100000 in
theorem lampblackref07_Greatest.calls (k : Nat) (A0 : Option Addr) (c0 : Nat) (l0 : List Int) (r : Int) (w : World) (hr0 : Kd.C (Kd.int .i64) w A0 l0.length l0) (hc0 : l0.length ≤ c0) (h : lampblackref07_Greatest.f k l0 = some r) :
  Calls Tryd.prog 56 #[.slice A0 l0.length c0] w fun e w' => e = .returned (.int .i64 r) ∧ Below w.heap.size w w' := by
 have HR0 := Aside0.mk hr0
 have HC0 := Aside0.mk hc0
 clear hr0 hc0
 have HB := Aside0.mk (Below.refl w.heap.size w)
 have H : (lampblackref07_Greatest.l0 k l0 1) = some r := h
 clear h
 have H' := Aside0.mk H
 clear H
 go_enter Tryd.func56, Tryd.ntmps56
 go_wp2
 go_loopg [3] k (fun kq v3 w' => ∃ (x3_1 : Int), v3 = .int .i64 x3_1 ∧ Aside0 (lampblackref07_Greatest.l0 kq l0 x3_1 = some r) ∧ Aside0 (kq ≤ k) ∧ Aside0 (Below w.heap.size w w'))
 case atStart => exact ⟨(1), (by first | rfl | (simp; done) | (simp [*]; done)), H', ⟨Nat.le_refl _⟩, ⟨by repeat (first | (with_reducible first | exact HB.out | apply below_alloc | apply pw_below_drewN | apply below_drew1) | exact HB.out)⟩⟩
 case round =>
  clear H'
  obtain ⟨x3_1, rfl, HA, HK1, HB⟩ := hrel
  cases gk with
  | zero => exact absurd HA.out (by simp [lampblackref07_Greatest.l0])
  | succ k1 =>
   have H := HA.out
   clear HA
   simp only [lampblackref07_Greatest.l0] at H
   by_cases c2 : x3_1 < 6
   ·rw [if_pos c2] at H
    have c2b0 : decide (x3_1 < 6) = true := decide_eq_true c2
    clear c2
    replace H := Option.bind_eq_some_iff.mp H
    obtain ⟨t637, A30, H⟩ := H
    replace H : ((lampblackref07_Model.f l0 t637).bind fun bt640 => (if bt640.2 = 0 then (lampblackref07_Greatest.l0 k1 l0 (wrap64 (x3_1 + 1))) else (some x3_1))) = some r := H
    have A3 := Aside0.mk A30
    clear A30
    replace H := Option.bind_eq_some_iff.mp H
    obtain ⟨⟨t640, t641⟩, A40, H⟩ := H
    replace H : (if t641 = 0 then (lampblackref07_Greatest.l0 k1 l0 (wrap64 (x3_1 + 1))) else (some x3_1)) = some r := H
    have A4 := Aside0.mk A40
    clear A40
    by_cases c5 : t641 = 0
    ·rw [if_pos c5] at H
     have c5b0 : (t641 == 0) = true := beq_iff_eq.mpr c5
     have c5b1 : (t641 != 0) = false := bne_eq_false_iff_eq.mpr c5
     clear c5
     have H' := Aside0.mk H
     clear H
     go_wp2_with (first | ((with_reducible refine gate_callee (f := 33) rfl ?_); refine goesL_ (some 12) rfl rfl Tryd.func33 (by kernel_rfl) rfl #[.int .i64 (wrap64 (x3_1 + 1))] rfl (Qls) ?_; (with_reducible refine (lampblackref07_K.calls k1 (wrap64 (x3_1 + 1)) t637 _ A3.out).mono ?_); rintro e w6 ⟨v638, rfl, ho0, hb⟩; refine ⟨_, rfl, ?_⟩; have n0_ := Aside0.mk (Kd.R_lower ho0 (below_size (Qaw))); have n1_ := Aside0.mk (below_step (Qaw) hb); clear HB; have HO639 := n0_; have HB := n1_; clear n0_ n1_; (try clear hb); (try clear hb2); (try clear hk); (try clear hi); (try clear ho0); obtain ⟨Ao7, co7, eo7⟩ := Kd.R_slice HO639.out; subst eo7) | ((with_reducible refine gate_callee (f := 26) rfl ?_); refine goesL_ (some 13) rfl rfl Tryd.func26 (by kernel_rfl) rfl #[.slice A0 l0.length c0, .slice Ao7 t637.length co7] rfl (Qls) ?_; (with_reducible refine (lampblackref07_Model.calls _ _ l0 _ _ t637 t640 t641 _ ?side1 ?side2 ?side3 ?side4 A4.out).mono ?_); (case side1 => exact Qsc (Kd.C_below HR0.out HB.out)); (case side2 => exact HC0.out); (case side3 => exact Qsc (Kd.R_reads' HO639.out).2.2); (case side4 => exact (Kd.R_reads' HO639.out).2.1); rintro e w8 ⟨v642, rfl, ho0, hb⟩; refine ⟨_, rfl, ?_⟩; have n0_ := Aside0.mk (Kd.R_elder' (Qro HO639.out) (Kd.R_base ho0) hb); have n1_ := Aside0.mk (Kd.R_lower (Kd.R_new' ho0 (Kd.R_lt (Qro HO639.out))) (below_size (Qaw))); have n2_ := Aside0.mk (below_step (Qaw) hb); clear HO639; clear HB; have HO639 := n0_; have HO643 := n1_; have HB := n2_; clear n0_ n1_ n2_; (try clear hb); (try clear hb2); (try clear hk); (try clear hi); (try clear ho0)))
     go_roundg k1
     case measure => have := HK1.out; omega
     case rel => exact ⟨(wrap64 (x3_1 + 1)), (by first | rfl | (simp; done) | (simp [*]; done)), H', ⟨by have := HK1.out; omega⟩, ⟨by repeat (first | (with_reducible first | exact HB.out | apply below_alloc | apply pw_below_drewN | apply below_drew1) | exact HB.out)⟩⟩
    ·rw [if_neg c5] at H
     have c5b0 : (t641 == 0) = false := beq_eq_false_iff_ne.mpr c5
     have c5b1 : (t641 != 0) = true := bne_iff_ne.mpr c5
     obtain rfl := Option.some.inj H
     go_wp2_with (first | ((with_reducible refine gate_callee (f := 33) rfl ?_); refine goesL_ (some 12) rfl rfl Tryd.func33 (by kernel_rfl) rfl #[.int .i64 (wrap64 (x3_1 + 1))] rfl (Qls) ?_; (with_reducible refine (lampblackref07_K.calls k1 (wrap64 (x3_1 + 1)) t637 _ A3.out).mono ?_); rintro e w9 ⟨v638, rfl, ho0, hb⟩; refine ⟨_, rfl, ?_⟩; have n0_ := Aside0.mk (Kd.R_lower ho0 (below_size (Qaw))); have n1_ := Aside0.mk (below_step (Qaw) hb); clear HB; have HO639 := n0_; have HB := n1_; clear n0_ n1_; (try clear hb); (try clear hb2); (try clear hk); (try clear hi); (try clear ho0); obtain ⟨Ao10, co10, eo10⟩ := Kd.R_slice HO639.out; subst eo10) | ((with_reducible refine gate_callee (f := 26) rfl ?_); refine goesL_ (some 13) rfl rfl Tryd.func26 (by kernel_rfl) rfl #[.slice A0 l0.length c0, .slice Ao10 t637.length co10] rfl (Qls) ?_; (with_reducible refine (lampblackref07_Model.calls _ _ l0 _ _ t637 t640 t641 _ ?side1 ?side2 ?side3 ?side4 A4.out).mono ?_); (case side1 => exact Qsc (Kd.C_below HR0.out HB.out)); (case side2 => exact HC0.out); (case side3 => exact Qsc (Kd.R_reads' HO639.out).2.2); (case side4 => exact (Kd.R_reads' HO639.out).2.1); rintro e w11 ⟨v642, rfl, ho0, hb⟩; refine ⟨_, rfl, ?_⟩; have n0_ := Aside0.mk (Kd.R_elder' (Qro HO639.out) (Kd.R_base ho0) hb); have n1_ := Aside0.mk (Kd.R_lower (Kd.R_new' ho0 (Kd.R_lt (Qro HO639.out))) (below_size (Qaw))); have n2_ := Aside0.mk (below_step (Qaw) hb); clear HO639; clear HB; have HO639 := n0_; have HO643 := n1_; have HB := n2_; clear n0_ n1_ n2_; (try clear hb); (try clear hb2); (try clear hk); (try clear hi); (try clear ho0)))
     go_ret
     exact ⟨by first | rfl | (simp [errW_none, errW_some] <;> rfl) | (simp [*, errW_none, errW_some] <;> rfl), by repeat (first | (with_reducible first | exact HB.out | apply below_alloc | apply pw_below_drewN | apply below_drew1) | exact HB.out)⟩
   ·rw [if_neg c2] at H
    have c2b0 : decide (x3_1 < 6) = false := decide_eq_false c2
    clear c2
    obtain rfl := Option.some.inj H
    go_wp2
    go_ret
    exact ⟨by first | rfl | (simp [errW_none, errW_some] <;> rfl) | (simp [*, errW_none, errW_some] <;> rfl), by repeat (first | (with_reducible first | exact HB.out | apply below_alloc | apply pw_below_drewN | apply below_drew1) | exact HB.out)⟩
end Go.Proofs.YtjloppfdagfpmaaDoor.X
end
section
/- (minor.town).outer and its closure, by hand. -/
namespace Go.Proofs.YtjloppfdagfpmaaDoor.X
open Go.RowKit YtjloppfdagfpmaaDoorW.PrintWords YtjloppfdagfpmaaDoorW.PrintLast YtjloppfdagfpmaaDoorW.PrintMore YtjloppfdagfpmaaDoor.T
attribute [local go_sem] max2_int min2_int max_two min_two max_three min_three max_four min_four
theorem goesC_ {P : Program} {ops : Array Oper} {Q : Exit → Act → World → Prop} {oi : Oper} {N : Option Tmp} {a : Act} {w : World} {K : Act → World → Prop} {f : FuncId} {fn : Func} {as_ : Array Operand} {ts : Array TypeId} (hf : P.funcs[f]? = some fn) (hname : (fn.name == "runtime.NumGoroutine") = false) (hb : fn.body.isSome = true) (args caps all : Array Value) (s : Operand)
  (hw : Region.wanted oi (yielded ops a.tmps) = true) (hN : oi.dst = N) (hop : oi.op = .call { callee := .value s, args := as_, argTypes := ts }) (hs : a.eval s = .func (.func f) #[] caps) (hargs : as_.map a.eval = args) (hall : args ++ caps = all)
  (h : Calls P f all w fun e w' => ∃ v, e = .returned v ∧ K (a.put N v) w') : if Region.wanted oi (yielded ops a.tmps) = true then Oper.wp P oi a w K Q else K (a.put N undef) w := by
 subst hall
 refine call_ f (args ++ caps) hw hN ?_ h
 have he := enters_ hf hname hb (args ++ caps) w
 unfold execOp
 simp [hop, resolve, Deferred.ofValue, invoke, hs, hargs, he]
structure Keep2 (a b : World) (l r : Option Nat) : Prop where
 os : b.os = a.os
 tape : b.tape = a.tape
 output : b.output = a.output
 size : a.heap.size ≤ b.heap.size
 block : ∀ k, k < a.heap.size → some k ≠ l → some k ≠ r → b.heap[k]? = a.heap[k]?
theorem Keep2.of_grown {a b : World} {q : Option Nat} (h : a.grownBy b q) : Keep2 a b q none := ⟨h.os, h.tape, h.output, h.size, fun k hk h1 _ => h.block k hk h1⟩
theorem Keep2.of_below {a b : World} (h : Below a.heap.size a b) (l r : Option Nat) : Keep2 a b l r := ⟨h.os, h.tape, h.output, h.size, fun k hk _ _ => h.block k hk⟩
theorem Keep2.step {a b c : World} {l r p q : Option Nat} (h : Keep2 a b l r) (k : Keep2 b c p q) (hp : ∀ j, p = some j → a.heap.size ≤ j ∨ some j = l ∨ some j = r) (hq : ∀ j, q = some j → a.heap.size ≤ j ∨ some j = l ∨ some j = r) : Keep2 a c l r :=
 ⟨k.os.trans h.os, k.tape.trans h.tape, k.output.trans h.output, Nat.le_trans h.size k.size, fun i hi h1 h2 => (k.block i (Nat.lt_of_lt_of_le hi h.size) (fun e => by rcases hp i e.symm with h3 | h3 | h3 <;> first | omega | exact h1 h3 | exact h2 h3) (fun e => by rcases hq i e.symm with h3 | h3 | h3 <;> first | omega | exact h1 h3 | exact h2 h3)).trans (h.block i hi h1 h2)⟩
def FB (s : Nat) (u v : Value) : Prop := v.ownBlock = u.ownBlock ∨ ∀ b, v.ownBlock = some b → s ≤ b
theorem FB.refl (s : Nat) (u : Value) : FB s u u := .inl rfl
theorem FB.trans {s t : Nat} {u v z : Value} (h : FB s u v) (k : FB t v z) (hst : s ≤ t) : FB s u z := by
 rcases k with k | k
 ·rcases h with h | h
  ·exact .inl (k.trans h)
  ·exact .inr fun b hb => h b (by rw [← k]; exact hb)
 ·exact .inr fun b hb => Nat.le_trans hst (k b hb)
theorem FB.row {s : Nat} {l r : Option Nat} {u v : Value} (h : FB s u v) (hr : r = u.ownBlock) : ∀ j, v.ownBlock = some j → s ≤ j ∨ some j = l ∨ some j = r := by
 intro j hj
 rcases h with h | h
 ·exact .inr (.inr (by rw [← hj, h, hr]))
 ·exact .inl (h j hj)
structure OI (W0 W : World) (lB : Nat) (M : List Nat) (v : Value) : Prop where
 blk : W.heap[lB]? = some (.cells #[v] 22 (0, 0))
 own : W.ownsRow W0.heap.size 3 1 v M.length ((gi M).map (Value.int .i64))
 grown : W0.grownBy W (some lB)
theorem OI.low {W0 W V : World} {lB : Nat} {M : List Nat} {v : Value} (h : OI W0 W lB M v) (hb : Below W.heap.size W V) : OI W0 V lB M v :=
 ⟨blk_below h.blk hb, own_kept h.own (grown_of_below hb none) (fun _ _ e => by cases e), grown_new h.grown (grown_of_below hb none) (fun _ e => by cases e)⟩
theorem OI.cell {W0 W : World} {lB : Nat} {M : List Nat} {v : Value} (h : OI W0 W lB M v) : W.cell? ⟨lB, 0, none⟩ = some v := (blk_cell h.blk 0).trans rfl
theorem OI.push {W0 W w8 : World} {lB x : Nat} {M : List Nat} {v : Value} {o : Obj} {g c : Nat} (h : OI W0 W lB M v) (hlB : lB < W0.heap.size) (hg : (W.alloc o).grownBy w8 v.ownBlock)
  (ho : w8.ownsRow W0.heap.size 3 1 (.slice (some ⟨g, 0, none⟩) (M.length + 1) c) (M.length + 1) ((gi M).map (Value.int .i64) ++ [.int .i64 (x : Int)])) :
  OI W0 (w8.setCell ⟨lB, 0, none⟩ (.slice (some ⟨g, 0, none⟩) (M.length + 1) c)) lB (M ++ [x]) (.slice (some ⟨g, 0, none⟩) (M.length + 1) c) := by
 have h1 := h.grown.size
 have hne : some lB ≠ v.ownBlock := fun e => by have := own_base2 h.own lB e.symm; omega
 have hb8 := blk_grown (blk_alloc h.blk o) hg hne
 refine ⟨?_, ?_, ?_⟩
 ·have := blk_set hb8 0 (.slice (some ⟨g, 0, none⟩) (M.length + 1) c)
  rw [this]
  rfl
 ·have e : (M ++ [x]).length = M.length + 1 := by simp
  rw [e, show (gi (M ++ [x])).map (Value.int .i64) = (gi M).map (Value.int .i64) ++ [.int .i64 (x : Int)] by simp [gi]]
  exact own_kept ho (grownBy_set w8 ⟨lB, 0, none⟩ _) (fun b hb e => by
   have := own_base2 ho b hb
   have e2 : b = lB := Option.some.inj e
   omega)
 ·refine grown_new (grown_new (grown_new h.grown (World.grownBy_alloc W o none) (fun _ e => by cases e)) hg (fun j e => .inl (own_base2 h.own j e))) (grownBy_set w8 ⟨lB, 0, none⟩ _) (fun j e => .inr e.symm)
theorem OI.pop {W0 W : World} {lB x : Nat} {M : List Nat} {g n c : Nat} (h : OI W0 W lB (M ++ [x]) (.slice (some ⟨g, 0, none⟩) n c)) (hlB : lB < W0.heap.size) (hn : n = M.length + 1) :
  OI W0 (W.setCell ⟨lB, 0, none⟩ (.slice (some ⟨g, 0, none⟩) M.length c)) lB M (.slice (some ⟨g, 0, none⟩) M.length c) := by
 subst hn
 refine ⟨?_, ?_, ?_⟩
 ·have := blk_set h.blk 0 (.slice (some ⟨g, 0, none⟩) M.length c)
  rw [this]
  rfl
 ·have h2 := h.own
  rw [show (M ++ [x]).length = M.length + 1 by simp, show (gi (M ++ [x])).map (Value.int .i64) = (gi M).map (Value.int .i64) ++ [.int .i64 (x : Int)] by simp [gi]] at h2
  have h3 := ownsRow_pop (xs := (gi M).map (Value.int .i64)) (by simp [gi]) h2
  exact own_kept h3 (grownBy_set W ⟨lB, 0, none⟩ _) (fun b hb e => by
   have := own_base2 h3 b hb
   have e2 : b = lB := Option.some.inj e
   omega)
 ·exact grown_new h.grown (grownBy_set W ⟨lB, 0, none⟩ _) (fun j e => .inr e.symm)
theorem OI.cap {W0 W : World} {lB x : Nat} {M : List Nat} {v : Value} (h : OI W0 W lB (M ++ [x]) v) : ∃ g c, v = .slice (some ⟨g, 0, none⟩) (M.length + 1) c ∧ M.length + 1 ≤ c := by
 have h2 := h.own
 rw [show (M ++ [x]).length = M.length + 1 by simp] at h2
 rcases h2.2 with ⟨_, h0⟩ | ⟨g, cap, cur, e, _, _, hc, _⟩
 ·omega
 ·exact ⟨g, cap, e, hc⟩
theorem OI.row {W0 W : World} {lB : Nat} {M : List Nat} {A : Option Addr} {c : Nat} (h : OI W0 W lB M (.slice A M.length c)) : M.length ≤ c ∧ Kd.C (Kd.int .i64) W A M.length (gi M) := by
 have hro := h.own
 have hlen : M.length = (gi M).length := (gi_length M).symm
 rw [hlen] at hro ⊢
 exact C_of_row hro
theorem diff_pcO {left v : Nat} (hv : left.testBit v = true) (hv9 : v < 9) : pc (diff left (2 ^ v)) 9 + 1 = pc left 9 := by
 rw [diff_pc (v := v) (n := 9) hv hv9]
theorem pc_none : ∀ x : Fin 512, pc x.val 9 = 0 → x.val = 0 := by decide +kernel
theorem crosses_calls {G M : List Nat} (hG : Gr 9 G) (hM : ∀ x ∈ M, x < G.length) (hM2 : M.length ≤ 1000) (h0 : 0 < M.length) (Ag : Option Addr) (cg : Nat) (hcg : G.length ≤ cg) (A : Option Addr) (c : Nat) (hc : M.length ≤ c) (w : World) (h1 : Kd.C (Kd.int .i64) w Ag (gi G).length (gi G)) (h2 : Kd.C (Kd.int .i64) w A M.length (gi M)) :
  Calls Tryd.prog 83 #[.slice Ag G.length cg, .slice A M.length c] w fun e w' => e = .returned (.bool (crossB G M)) ∧ Drawn0 w w' := by
 obtain ⟨K, hK⟩ := crosses_ev hG.most (fun x hx => by
  obtain ⟨i, hi, rfl⟩ := List.mem_iff_getElem.1 hx
  have := hG.lt i hi
  rw [List.getD_eq_getElem?_getD, List.getElem?_eq_getElem hi] at this
  exact small G hG.most this) hM hM2 h0
 have := minor_town_crosses.calls K Ag cg (gi G) A c (gi M) _ w h1 (by rw [gi_length]; exact hcg) (by rw [gi_length]; exact h2) (by rw [gi_length]; exact hc) (hK K (Nat.le_refl _))
 rw [gi_length, gi_length] at this
 exact this
set_option maxHeartbeats 16000000 in
set_option maxRecDepth 100000 in
theorem outer_grow (lB tB gB : Nat) (W0 : World) (hlB : lB < W0.heap.size) (Ag : Option Addr) (cg : Nat) (G : List Nat) (hG : Gr 9 G) (hcg : G.length ≤ cg)
  (hlow : ∀ W, W0.grownBy W (some lB) → GL W ∧ Kd.C (Kd.int .i64) W Ag (gi G).length (gi G) ∧ W.cell? ⟨tB, 0, none⟩ = some (.slice Ag G.length cg) ∧ W.cell? ⟨gB, 0, none⟩ = some (.func (.func 96) #[] #[.pointer (some ⟨lB, 0, none⟩), .pointer (some ⟨tB, 0, none⟩), .pointer (some ⟨gB, 0, none⟩)])) :
  ∀ (d : Nat) (M : List Nat) (left : Nat) (v : Value) (w : World), pc left 9 = d → left < 2 ^ G.length → (∀ x ∈ M, x < G.length) → M.length + d ≤ 100 → OI W0 w lB M v →
  Calls Tryd.prog 96 #[.int .i64 (left : Int), .pointer (some ⟨lB, 0, none⟩), .pointer (some ⟨tB, 0, none⟩), .pointer (some ⟨gB, 0, none⟩)] w fun e w' => e = .returned (.bool (outN G d M left).isSome) ∧ ∃ v', OI W0 w' lB ((outN G d M left).getD M) v' ∧ FB w.heap.size v v' ∧ Keep2 w w' (some lB) v.ownBlock := by
 intro d
 induction d with
 | zero =>
  intro M left v w hd hl hM hML hI
  have h0 : left = 0 := by
   exact pc_none ⟨left, small G hG.most hl⟩ hd
  subst h0
  have HI := Aside0.mk hI
  have HLOW := Aside0.mk hlow
  clear hI hlow hM
  go_enter Tryd.func96, Tryd.ntmps96
  go_wp2
  go_ret
  exact ⟨rfl, _, HI.out, FB.refl _ _, Keep2.of_below (Below.refl _ _) _ _⟩
 | succ d ih =>
  intro M left v w hd hl hM hML hI
  have hlne : left ≠ 0 := by
   rintro rfl
   rw [show pc 0 9 = 0 from rfl] at hd
   omega
  have hl512 := small G hG.most hl
  have hel : (els left 9).length ≤ 9 := by rw [els_length]; exact pc_le _ 9
  have hk0 : ((left : Int) == 0) = false := beq_eq_false_iff_ne.2 (by omega)
  have IH := Aside0.mk ih
  have HI := Aside0.mk hI
  have HLOW := Aside0.mk hlow
  have HM := Aside0.mk hM
  have HG := Aside0.mk hG
  have HL := Aside0.mk hl
  obtain ⟨R, hR⟩ : ∃ R, outN G (d + 1) M left = R := ⟨_, rfl⟩
  obtain ⟨F, hF⟩ : ∃ F : Nat → Option (List Nat), F = fun x => if crossB G (M ++ [x]) = true then none else outN G d (M ++ [x]) (diff left (2 ^ x)) := ⟨_, rfl⟩
  have hRF : ((els left 9).drop 0).findSome? F = R := by rw [← hR, hF]; rfl
  have HFE : Aside0 (∀ x, F x = if crossB G (M ++ [x]) = true then none else outN G d (M ++ [x]) (diff left (2 ^ x))) := ⟨fun x => by rw [hF]⟩
  have HRF := Aside0.mk hRF
  have HND : Aside0 (∀ W, Below w.heap.size w W → Calls Tryd.prog 69 #[.int .i64 (left : Int)] W fun e w' => ∃ A c, e = .returned (.slice A (els left 9).length c) ∧ (∀ V, Keep2 w' V (some lB) v.ownBlock → Kd.C (Kd.int .i64) V A (els left 9).length (gi (els left 9))) ∧ Below W.heap.size W w') := ⟨fun W hW => by
   obtain ⟨K, hK⟩ := nodes_ev left hl512
   refine (minor_nodes.calls K (left : Int) _ W (HLOW.out W (HI.out.low hW).grown).1 (hK K (Nat.le_refl _))).mono ?_
   rintro e w' ⟨u, rfl, hu, hb⟩
   obtain ⟨A, c, eu, hc, hC⟩ := Kd.R_reads hu
   subst eu
   rw [gi_length] at hu
   refine ⟨A, c, by rw [gi_length], fun V hV => ?_, hb⟩
   have hs := HI.out.grown.size
   have hs2 := hW.size
   have h3 := Kd.R_step (w1 := V) (Kd.R_bound hu) (fun k hk hk2 => hV.block k hk2 (fun e => by have := hk.2.1; have e2 := Option.some.inj e; omega) (fun e => by have := own_lt2 HI.out.own k e.symm; have := hk.2.1; omega))
   obtain ⟨A2, c2, e2, _, hC2⟩ := Kd.R_reads h3
   injection e2 with e3 e4 e5
   rw [gi_length] at hC2
   rw [e3]; exact hC2⟩
  rw [hR]
  clear hI hlow hM hG hl hF hRF hR ih hlne
  go_enter Tryd.func96, Tryd.ntmps96
  go_wp2_with (go_at_call 69; refine (HND.out _ (by repeat (first | exact Below.refl _ _ | refine pw_below_drewN ?_ _))).mono ?_; rintro e w1 ⟨An, cn, rfl, hCn, hb1⟩; have HCN := Aside0.mk hCn; have HB1 := Aside0.mk hb1; clear hCn hb1)
  go_loopg [13] (els left 9).length (fun kq v13 w' => ∃ (i : Nat) (v1 : Value), v13 = .int .i64 (i : Int) ∧ i + kq = (els left 9).length ∧ Aside0 (((els left 9).drop i).findSome? F = R) ∧ Aside0 (OI W0 w' lB M v1 ∧ FB w1.heap.size v v1 ∧ Keep2 w1 w' (some lB) v.ownBlock))
  case atStart => exact ⟨0, v, rfl, by omega, HRF, ⟨HI.out.low HB1.out, FB.refl _ _, Keep2.of_below (Below.refl _ _) _ _⟩⟩
  case round =>
   clear HRF
   obtain ⟨i, v1, rfl, hi, HA, HX⟩ := hrel
   by_cases hil : i < (els left 9).length
   ·have hi1 : ((i : Int) < ((els left 9).length : Int)) = True := eq_true (by omega)
    have hi2 : decide ((i : Int) < ((els left 9).length : Int)) = true := decide_eq_true (by omega)
    cases gk with
    | zero => omega
    | succ gi' =>
    obtain ⟨hX1, hX2, hX3⟩ := HX.out
    obtain ⟨ad, e1, hgx⟩ := Kd.at_int (HCN.out wr hX3) (i : Int) (by omega) (by omega)
    subst e1
    rw [rd_gi, Int.toNat_natCast] at hgx
    have ha := HA.out
    rw [List.drop_eq_getElem_cons hil, List.findSome?_cons] at ha
    have hxm : (els left 9)[i] ∈ els left 9 := List.getElem_mem hil
    have hxe : (els left 9).getD i 0 = (els left 9)[i] := by rw [List.getD_eq_getElem?_getD, List.getElem?_eq_getElem hil]; rfl
    rw [hxe] at hgx
    generalize (els left 9)[i] = x at *
    obtain ⟨hx9, hxb⟩ := mem_els.1 hxm
    have hxG : x < G.length := bit_lt HL.out hxb
    have HFX := Aside0.mk (HFE.out x)
    obtain ⟨A4, c4, e4⟩ := ownsRow_form2 hX1.own
    subst e4
    have hy0 : wr.cell? ⟨lB, 0, none⟩ = some (.slice A4 M.length c4) := hX1.cell
    have hgr := hX1.grown.size
    obtain ⟨N, ⟨hS1, hS2, hS3⟩, hNv⟩ := shJ x (by omega)
    have hdl : diff left (2 ^ x) < 2 ^ G.length := Nat.lt_of_le_of_lt (diff_le _ _) HL.out
    have hand : Go.bits .andNot .i64 (left : Int) N = ((diff left (2 ^ x) : Nat) : Int) := by
     rw [hNv, b_andNot _ _ (by omega) (Nat.pow_lt_pow_right (by omega) (by omega))]
    have hpc := diff_pcO hxb hx9
    have hMx : ∀ y ∈ M ++ [x], y < G.length := fun y hy => by
     rcases List.mem_append.1 hy with hy | hy
     ·exact HM.out y hy
     ·rw [List.mem_singleton.1 hy]; exact hxG
    have hMl : (M ++ [x]).length = M.length + 1 := by simp
    have HCR : Aside0 (∀ W A c, OI W0 W lB (M ++ [x]) (.slice A (M.length + 1) c) → Calls Tryd.prog 83 #[.slice Ag G.length cg, .slice A (M.length + 1) c] W fun e w' => e = .returned (.bool (crossB G (M ++ [x]))) ∧ Drawn0 W w') := ⟨fun W A c hW => by
     obtain ⟨q1, q2, q3, q4⟩ := HLOW.out W hW.grown
     rw [← hMl] at hW ⊢
     exact crosses_calls HG.out hMx (by omega) (by omega) Ag cg hcg A c hW.row.1 W q2 hW.row.2⟩
    have HREC : Aside0 (∀ W u, OI W0 W lB (M ++ [x]) u → Calls Tryd.prog 96 #[.int .i64 ((diff left (2 ^ x) : Nat) : Int), .pointer (some ⟨lB, 0, none⟩), .pointer (some ⟨tB, 0, none⟩), .pointer (some ⟨gB, 0, none⟩)] W fun e w' => e = .returned (.bool (outN G d (M ++ [x]) (diff left (2 ^ x))).isSome) ∧ ∃ v', OI W0 w' lB ((outN G d (M ++ [x]) (diff left (2 ^ x))).getD (M ++ [x])) v' ∧ FB W.heap.size u v' ∧ Keep2 W w' (some lB) u.ownBlock) := ⟨fun W u hW => IH.out (M ++ [x]) (diff left (2 ^ x)) u W (by omega) hdl hMx (by omega) hW⟩
    have HAH := Aside0.mk ha
    have HX1 := Aside0.mk hX1
    have HX2 := Aside0.mk hX2
    have HX3 := Aside0.mk hX3
    generalize diff left (2 ^ x) = left' at *
    clear ha hxm hxe HA HX hX1 hX2 hX3 hpc hdl hNv hxG hxb hMx
    obtain ⟨i3, hi3, hq0, hq1, hq2⟩ := info_parts info3
    cases hcb : crossB G (M ++ [x])
    ·rw [hcb] at HCR
     have HFY := Aside0.mk (show F x = outN G d (M ++ [x]) left' by rw [HFX.out, hcb, if_neg (by simp)])
     clear hcb HFX IH HG HM HFE HL
     cases hrec : outN G d (M ++ [x]) left' with
     | none =>
      rw [hrec] at HREC HFY
      have HA2 : Aside0 (((els left 9).drop (i + 1)).findSome? F = R) := ⟨by
       have := HAH.out
       rw [HFY.out] at this
       exact this⟩
      clear HFY HAH hrec
      go_wp2_with (at_builtin; refine wpList_append_own_at _ rfl _ _ 22 rfl W0.heap.size 3 i3 (.int .i64 0) 1 8 Tryd.underlying22 hi3 hq0 hq1 hq2 rfl (by decide) (.slice A4 M.length c4) M.length ((gi M).map (Value.int .i64)) rfl (HX1.out.own.alloc _) ⟨wr.heap.size, 0, none⟩ 1 1 [.int .i64 (x : Int)] rfl rfl (cell_one_new _ _ _) (by simp [Value.oneCell']) (by unfold maxLen; omega) (by omega) (by have := HX1.out.grown.size; simp; omega) ?_; intro v8 w8 hown8 hg8 _ hfb8; obtain ⟨g8, cap8, rfl⟩ := own_succ hown8; have hne8 : some lB ≠ (Value.slice A4 M.length c4).ownBlock := (fun e => by have := own_base2 HX1.out.own lB e.symm; omega); have hb8 := blk_grown (blk_alloc HX1.out.blk _) hg8 hne8; have hc8 : w8.cell? ⟨lB, 0, none⟩ = some (.slice A4 M.length c4) := (blk_cell hb8 0).trans rfl; have hf8 := blk_frozen hb8 0; have HX8 := Aside0.mk (HX1.out.push hlB hg8 hown8); have HG8 := Aside0.mk hg8; have HFB8 := Aside0.mk hfb8; clear hb8 hown8 hg8 hfb8)
      obtain ⟨wS, hwS⟩ : ∃ W : World, W = w8.setCell ⟨lB, 0, none⟩ (.slice (some ⟨g8, 0, none⟩) (M.length + 1) cap8) := ⟨_, rfl⟩
      rw [← hwS] at HX8
      rw [← hwS]
      have HK8 : Aside0 (Keep2 wr wS (some lB) (Value.slice A4 M.length c4).ownBlock) := ⟨((Keep2.of_below (below_alloc (Below.refl _ wr) _) (some lB) (Value.slice A4 M.length c4).ownBlock).step (Keep2.of_grown HG8.out) (fun j e => .inr (.inr e.symm)) (fun j e => by cases e)).step (by rw [hwS]; exact Keep2.of_grown (grownBy_set _ _ _)) (fun j e => .inr (.inl e.symm)) (fun j e => by cases e)⟩
      have HF8 : Aside0 (FB wr.heap.size (.slice A4 M.length c4) (.slice (some ⟨g8, 0, none⟩) (M.length + 1) cap8)) := ⟨by
       rcases HFB8.out with h | h
       ·exact .inl h
       ·exact .inr fun b' hb' => by
         have hb' := h.symm.trans hb'
         have := Option.some.inj hb'
         simp at this
         omega⟩
      obtain ⟨q1, q2, q3, q4⟩ := HLOW.out wS HX8.out.grown
      have q5 := HX8.out.cell
      have t0d : wS.drew.cell? ⟨tB, 0, none⟩ = some (.slice Ag G.length cg) := q3
      have l0d : wS.drew.cell? ⟨lB, 0, none⟩ = some (.slice (some ⟨g8, 0, none⟩) (M.length + 1) cap8) := q5
      have g0d : wS.drew.cell? ⟨gB, 0, none⟩ = some (.func (.func 96) #[] #[.pointer (some ⟨lB, 0, none⟩), .pointer (some ⟨tB, 0, none⟩), .pointer (some ⟨gB, 0, none⟩)]) := q4
      have bSd : Below wS.heap.size wS wS.drew := below_drew (Below.refl _ _)
      have CCR : Aside0 (∀ W, (W.cell? ⟨tB, 0, none⟩ = some (.slice Ag G.length cg) ∧ W.cell? ⟨lB, 0, none⟩ = some (.slice (some ⟨g8, 0, none⟩) (M.length + 1) cap8) ∧ W.cell? ⟨gB, 0, none⟩ = some (.func (.func 96) #[] #[.pointer (some ⟨lB, 0, none⟩), .pointer (some ⟨tB, 0, none⟩), .pointer (some ⟨gB, 0, none⟩)]) ∧ Below wS.heap.size wS W) → Calls Tryd.prog 83 #[.slice Ag G.length cg, .slice (some ⟨g8, 0, none⟩) (M.length + 1) cap8] W fun e w' => e = .returned (.bool false) ∧ w'.cell? ⟨tB, 0, none⟩ = some (.slice Ag G.length cg) ∧ w'.cell? ⟨lB, 0, none⟩ = some (.slice (some ⟨g8, 0, none⟩) (M.length + 1) cap8) ∧ w'.cell? ⟨gB, 0, none⟩ = some (.func (.func 96) #[] #[.pointer (some ⟨lB, 0, none⟩), .pointer (some ⟨tB, 0, none⟩), .pointer (some ⟨gB, 0, none⟩)]) ∧ Below wS.heap.size wS w') := ⟨by
       rintro W ⟨s0, s1, s2, s3⟩
       refine (HCR.out W _ _ (HX8.out.low s3)).mono ?_
       rintro e w' ⟨rfl, hdr⟩
       have hb := hdr.below
       exact ⟨rfl, (hb.cell (World.block_lt_of_cell? W _ s0)).trans s0, (hb.cell (World.block_lt_of_cell? W _ s1)).trans s1, (hb.cell (World.block_lt_of_cell? W _ s2)).trans s2, below_step s3 hb⟩⟩
      clear hwS hc8 hf8 HG8 HFB8 hy0 hgx q1 q2 q3 q4 q5
      refine start_ (n := 12) (S := fun w' => w'.cell? ⟨tB, 0, none⟩ = some (.slice Ag G.length cg) ∧ w'.cell? ⟨lB, 0, none⟩ = some (.slice (some ⟨g8, 0, none⟩) (M.length + 1) cap8) ∧ w'.cell? ⟨gB, 0, none⟩ = some (.func (.func 96) #[] #[.pointer (some ⟨lB, 0, none⟩), .pointer (some ⟨tB, 0, none⟩), .pointer (some ⟨gB, 0, none⟩)]) ∧ Below wS.heap.size wS w') (ds := [10]) (Qbz 12 0) (by kernel_rfl) rfl rfl ⟨t0d, l0d, g0d, bSd⟩ (fun hHeld => ?_)
      refine take_ (i := 0) (N := some 21) (v := ?_) (a' := ?_) (Qbz 12 1) rfl rfl (by kernel_rfl) (fun _ _ _ h => h) (Or.inl ⟨by rfl, ?_⟩) hHeld ?_ ?_
      rotate_left
      ·rintro w' ⟨s0, s1, s2, s3⟩
       go_simp
       with_reducible rfl
      rotate_left
      ·simp only [Act.put, Qp1, Qp2, Qp3, i64_w, i32_w]
       rfl
      refine take_ (i := 1) (N := some 22) (v := ?_) (a' := ?_) (Qbz 12 3) rfl rfl (by kernel_rfl) (fun _ _ _ h => h) (Or.inl ⟨by rfl, ?_⟩) hHeld ?_ ?_
      rotate_left
      ·rintro w' ⟨s0, s1, s2, s3⟩
       go_simp
       with_reducible rfl
      rotate_left
      ·simp only [Act.put, Qp1, Qp2, Qp3, i64_w, i32_w]
       rfl
      refine one_ (i := 2) (N := some 23) (Qbz 12 7) rfl rfl (by kernel_rfl) (by decide) (fun K hK => ?_)
      refine goes_ Tryd.func83 (by kernel_rfl) rfl #[.slice Ag G.length cg, .slice (some ⟨g8, 0, none⟩) (M.length + 1) cap8] (by rfl) rfl rfl (by simp only [List.map_toArray, List.map_cons, List.map_nil]; rfl) ?_
      with_reducible refine (CCR.out _ hHeld).mono ?_
      rintro e w9 ⟨rfl, k0, k1, k2, kB⟩
      refine ⟨_, rfl, ?_⟩
      refine hK.out _ _ ⟨k0, k1, k2, kB⟩ (fun hHeld => ?_)
      clear hK K
      refine norm_ (a' := ?_) ?_ ?_
      rotate_left
      ·show Act.put _ (some 23) _ = _
       simp only [Act.put, Qp1, Qp2, Qp3, i64_w, i32_w]
       rfl
      refine pure_ (i := 3) (N := some 24) (v := ?_) (a' := ?_) (Qbz 12 15) rfl rfl (by kernel_rfl) (fun _ _ _ h => h) (Or.inl ⟨by rfl, ?_⟩) ?_ ?_
      rotate_left
      ·intro w'
       go_simp
       with_reducible rfl
      rotate_left
      ·simp only [Act.put, Qp1, Qp2, Qp3, i64_w, i32_w]
       rfl
      refine pure_ (i := 4) (N := some 25) (v := ?_) (a' := ?_) (Qbz 12 31) rfl rfl (by kernel_rfl) (fun _ _ _ h => h) (Or.inl ⟨by rfl, ?_⟩) ?_ ?_
      rotate_left
      ·intro w'
       go_simp
       with_reducible rfl
      rotate_left
      ·simp only [Act.put, Qp1, Qp2, Qp3, i64_w, i32_w]
       rfl
      refine pure_ (i := 6) (N := some 27) (v := ?_) (a' := ?_) (Qbz 12 95) rfl rfl (by kernel_rfl) (fun _ _ _ h => h) (Or.inl ⟨by rfl, ?_⟩) ?_ ?_
      rotate_left
      ·intro w'
       go_simp
       with_reducible rfl
      rotate_left
      ·simp only [Act.put, Qp1, Qp2, Qp3, i64_w, i32_w]
       rfl
      refine pure_ (i := 7) (N := some 28) (v := ?_) (a' := ?_) (Qbz 12 223) rfl rfl (by kernel_rfl) (fun _ _ _ h => h) (Or.inl ⟨by rfl, ?_⟩) ?_ ?_
      rotate_left
      ·intro w'
       go_simp
       with_reducible rfl
      rotate_left
      ·simp only [Act.put, Qp1, Qp2, Qp3, i64_w, i32_w]
       rfl
      refine pure_ (i := 8) (N := some 29) (v := ?_) (a' := ?_) (Qbz 12 479) rfl rfl (by kernel_rfl) (fun _ _ _ h => h) (Or.inl ⟨by rfl, ?_⟩) ?_ ?_
      rotate_left
      ·intro w'
       go_simp
       with_reducible rfl
      rotate_left
      ·simp only [Act.put, Qp1, Qp2, Qp3, i64_w, i32_w]
       rfl
      refine pure_ (i := 9) (N := some 30) (v := ?_) (a' := ?_) (Qbz 12 991) rfl rfl (by kernel_rfl) (fun _ _ _ h => h) (Or.inl ⟨by rfl, ?_⟩) ?_ ?_
      rotate_left
      ·intro w'
       go_simp
       with_reducible rfl
      rotate_left
      ·simp only [Act.put, Qp1, Qp2, Qp3, i64_w, i32_w]
       rfl
      refine take_ (i := 5) (N := some 26) (v := ?_) (a' := ?_) (Qbz 12 1023) rfl rfl (by kernel_rfl) (fun _ _ _ h => h) (Or.inl ⟨by rfl, ?_⟩) hHeld ?_ ?_
      rotate_left
      ·rintro w' ⟨s0, s1, s2, s3⟩
       go_simp
       with_reducible rfl
      rotate_left
      ·simp only [Act.put, Qp1, Qp2, Qp3, i64_w, i32_w]
       rfl
      refine last_ (i := 10) (N := some 31) (Qbz 12 2047) rfl rfl (by kernel_rfl) (by decide) (fun K hK => ?_)
      refine goesC_ Tryd.func96 (by kernel_rfl) rfl #[.int .i64 (left' : Int)] #[.pointer (some ⟨lB, 0, none⟩), .pointer (some ⟨tB, 0, none⟩), .pointer (some ⟨gB, 0, none⟩)] #[.int .i64 (left' : Int), .pointer (some ⟨lB, 0, none⟩), .pointer (some ⟨tB, 0, none⟩), .pointer (some ⟨gB, 0, none⟩)] (.tmp 26) (by rfl) rfl rfl (by rfl) (by simp only [List.map_toArray, List.map_cons, List.map_nil]; rfl) rfl ?_
      with_reducible refine (HREC.out _ _ (HX8.out.low hHeld.2.2.2)).mono ?_
      rintro e w10 ⟨rfl, v10, hO10, hF10, hK10⟩
      have hbl10 := (World.block_lt_of_cell? w9 _ k1)
      have hS9 := kB.size
      obtain ⟨g10, c10, rfl, hcap10⟩ := hO10.cap
      have hl10 : w10.cell? ⟨lB, 0, none⟩ = some (.slice (some ⟨g10, 0, none⟩) (M.length + 1) c10) := hO10.cell
      have hf10 := blk_frozen hO10.blk 0
      have HO10 := Aside0.mk hO10
      have HF10 := Aside0.mk hF10
      have HK10 := Aside0.mk hK10
      have HB9 := Aside0.mk kB
      clear hO10 hF10 hK10 kB
      have hkc1 : decide ((M.length : Int) ≤ (c10 : Int)) = true := decide_eq_true (by omega)
      have hkc2 : ((M.length : Int) ≤ (c10 : Int)) = True := eq_true (by omega)
      refine ⟨_, rfl, ?_⟩
      refine hK.out _ _ ?_
      clear hK K
      refine norm_ (a' := ?_) ?_ ?_
      rotate_left
      ·show Act.put _ (some 31) _ = _
       simp only [Act.put, Qp1, Qp2, Qp3, i64_w, i32_w]
       rfl
      refine pure_ (i := 11) (N := some 32) (v := ?_) (a' := ?_) (Qbz 12 4095) rfl rfl (by kernel_rfl) (fun _ _ _ h => h) (Or.inl ⟨by rfl, ?_⟩) ?_ ?_
      rotate_left
      ·intro w'
       go_simp
       with_reducible rfl
      rotate_left
      ·simp only [Act.put, Qp1, Qp2, Qp3, i64_w, i32_w]
       rfl
      refine done_ (by kernel_rfl) ?_
      go_wp2
      go_roundg gi'
      case measure => omega
      case rel =>
       have k1 := HX3.out.step HK8.out (fun j e => .inr (.inl e.symm)) (FB.row HX2.out rfl)
       have k2 := k1.step (Keep2.of_below HB9.out none none) (fun j e => by cases e) (fun j e => by cases e)
       have f1 := HX2.out.trans HF8.out HX3.out.size
       have k3 := k2.step HK10.out (fun j e => .inr (.inl e.symm)) (f1.row rfl)
       have k4 := k3.step (Keep2.of_grown (grownBy_set w10 ⟨lB, 0, none⟩ (Value.slice (some ⟨g10, 0, none⟩) M.length c10))) (fun j e => .inr (.inl e.symm)) (fun j e => by cases e)
       have f2 := f1.trans HF10.out k2.size
       exact ⟨i + 1, _, by go_num, by omega, HA2, ⟨⟨HO10.out.pop hlB rfl, f2, k4⟩⟩⟩
     | some Rr =>
      rw [hrec] at HREC HFY
      have hr2 : R = some Rr := by
       have := HAH.out
       rw [HFY.out] at this
       exact this.symm
      subst hr2
      clear HFY HAH hrec
      go_wp2_with (at_builtin; refine wpList_append_own_at _ rfl _ _ 22 rfl W0.heap.size 3 i3 (.int .i64 0) 1 8 Tryd.underlying22 hi3 hq0 hq1 hq2 rfl (by decide) (.slice A4 M.length c4) M.length ((gi M).map (Value.int .i64)) rfl (HX1.out.own.alloc _) ⟨wr.heap.size, 0, none⟩ 1 1 [.int .i64 (x : Int)] rfl rfl (cell_one_new _ _ _) (by simp [Value.oneCell']) (by unfold maxLen; omega) (by omega) (by have := HX1.out.grown.size; simp; omega) ?_; intro v8 w8 hown8 hg8 _ hfb8; obtain ⟨g8, cap8, rfl⟩ := own_succ hown8; have hne8 : some lB ≠ (Value.slice A4 M.length c4).ownBlock := (fun e => by have := own_base2 HX1.out.own lB e.symm; omega); have hb8 := blk_grown (blk_alloc HX1.out.blk _) hg8 hne8; have hc8 : w8.cell? ⟨lB, 0, none⟩ = some (.slice A4 M.length c4) := (blk_cell hb8 0).trans rfl; have hf8 := blk_frozen hb8 0; have HX8 := Aside0.mk (HX1.out.push hlB hg8 hown8); have HG8 := Aside0.mk hg8; have HFB8 := Aside0.mk hfb8; clear hb8 hown8 hg8 hfb8)
      obtain ⟨wS, hwS⟩ : ∃ W : World, W = w8.setCell ⟨lB, 0, none⟩ (.slice (some ⟨g8, 0, none⟩) (M.length + 1) cap8) := ⟨_, rfl⟩
      rw [← hwS] at HX8
      rw [← hwS]
      have HK8 : Aside0 (Keep2 wr wS (some lB) (Value.slice A4 M.length c4).ownBlock) := ⟨((Keep2.of_below (below_alloc (Below.refl _ wr) _) (some lB) (Value.slice A4 M.length c4).ownBlock).step (Keep2.of_grown HG8.out) (fun j e => .inr (.inr e.symm)) (fun j e => by cases e)).step (by rw [hwS]; exact Keep2.of_grown (grownBy_set _ _ _)) (fun j e => .inr (.inl e.symm)) (fun j e => by cases e)⟩
      have HF8 : Aside0 (FB wr.heap.size (.slice A4 M.length c4) (.slice (some ⟨g8, 0, none⟩) (M.length + 1) cap8)) := ⟨by
       rcases HFB8.out with h | h
       ·exact .inl h
       ·exact .inr fun b' hb' => by
         have hb' := h.symm.trans hb'
         have := Option.some.inj hb'
         simp at this
         omega⟩
      obtain ⟨q1, q2, q3, q4⟩ := HLOW.out wS HX8.out.grown
      have q5 := HX8.out.cell
      have t0d : wS.drew.cell? ⟨tB, 0, none⟩ = some (.slice Ag G.length cg) := q3
      have l0d : wS.drew.cell? ⟨lB, 0, none⟩ = some (.slice (some ⟨g8, 0, none⟩) (M.length + 1) cap8) := q5
      have g0d : wS.drew.cell? ⟨gB, 0, none⟩ = some (.func (.func 96) #[] #[.pointer (some ⟨lB, 0, none⟩), .pointer (some ⟨tB, 0, none⟩), .pointer (some ⟨gB, 0, none⟩)]) := q4
      have bSd : Below wS.heap.size wS wS.drew := below_drew (Below.refl _ _)
      have CCR : Aside0 (∀ W, (W.cell? ⟨tB, 0, none⟩ = some (.slice Ag G.length cg) ∧ W.cell? ⟨lB, 0, none⟩ = some (.slice (some ⟨g8, 0, none⟩) (M.length + 1) cap8) ∧ W.cell? ⟨gB, 0, none⟩ = some (.func (.func 96) #[] #[.pointer (some ⟨lB, 0, none⟩), .pointer (some ⟨tB, 0, none⟩), .pointer (some ⟨gB, 0, none⟩)]) ∧ Below wS.heap.size wS W) → Calls Tryd.prog 83 #[.slice Ag G.length cg, .slice (some ⟨g8, 0, none⟩) (M.length + 1) cap8] W fun e w' => e = .returned (.bool false) ∧ w'.cell? ⟨tB, 0, none⟩ = some (.slice Ag G.length cg) ∧ w'.cell? ⟨lB, 0, none⟩ = some (.slice (some ⟨g8, 0, none⟩) (M.length + 1) cap8) ∧ w'.cell? ⟨gB, 0, none⟩ = some (.func (.func 96) #[] #[.pointer (some ⟨lB, 0, none⟩), .pointer (some ⟨tB, 0, none⟩), .pointer (some ⟨gB, 0, none⟩)]) ∧ Below wS.heap.size wS w') := ⟨by
       rintro W ⟨s0, s1, s2, s3⟩
       refine (HCR.out W _ _ (HX8.out.low s3)).mono ?_
       rintro e w' ⟨rfl, hdr⟩
       have hb := hdr.below
       exact ⟨rfl, (hb.cell (World.block_lt_of_cell? W _ s0)).trans s0, (hb.cell (World.block_lt_of_cell? W _ s1)).trans s1, (hb.cell (World.block_lt_of_cell? W _ s2)).trans s2, below_step s3 hb⟩⟩
      clear hwS hc8 hf8 HG8 HFB8 hy0 hgx q1 q2 q3 q4 q5
      refine start_ (n := 12) (S := fun w' => w'.cell? ⟨tB, 0, none⟩ = some (.slice Ag G.length cg) ∧ w'.cell? ⟨lB, 0, none⟩ = some (.slice (some ⟨g8, 0, none⟩) (M.length + 1) cap8) ∧ w'.cell? ⟨gB, 0, none⟩ = some (.func (.func 96) #[] #[.pointer (some ⟨lB, 0, none⟩), .pointer (some ⟨tB, 0, none⟩), .pointer (some ⟨gB, 0, none⟩)]) ∧ Below wS.heap.size wS w') (ds := [10]) (Qbz 12 0) (by kernel_rfl) rfl rfl ⟨t0d, l0d, g0d, bSd⟩ (fun hHeld => ?_)
      refine take_ (i := 0) (N := some 21) (v := ?_) (a' := ?_) (Qbz 12 1) rfl rfl (by kernel_rfl) (fun _ _ _ h => h) (Or.inl ⟨by rfl, ?_⟩) hHeld ?_ ?_
      rotate_left
      ·rintro w' ⟨s0, s1, s2, s3⟩
       go_simp
       with_reducible rfl
      rotate_left
      ·simp only [Act.put, Qp1, Qp2, Qp3, i64_w, i32_w]
       rfl
      refine take_ (i := 1) (N := some 22) (v := ?_) (a' := ?_) (Qbz 12 3) rfl rfl (by kernel_rfl) (fun _ _ _ h => h) (Or.inl ⟨by rfl, ?_⟩) hHeld ?_ ?_
      rotate_left
      ·rintro w' ⟨s0, s1, s2, s3⟩
       go_simp
       with_reducible rfl
      rotate_left
      ·simp only [Act.put, Qp1, Qp2, Qp3, i64_w, i32_w]
       rfl
      refine one_ (i := 2) (N := some 23) (Qbz 12 7) rfl rfl (by kernel_rfl) (by decide) (fun K hK => ?_)
      refine goes_ Tryd.func83 (by kernel_rfl) rfl #[.slice Ag G.length cg, .slice (some ⟨g8, 0, none⟩) (M.length + 1) cap8] (by rfl) rfl rfl (by simp only [List.map_toArray, List.map_cons, List.map_nil]; rfl) ?_
      with_reducible refine (CCR.out _ hHeld).mono ?_
      rintro e w9 ⟨rfl, k0, k1, k2, kB⟩
      refine ⟨_, rfl, ?_⟩
      refine hK.out _ _ ⟨k0, k1, k2, kB⟩ (fun hHeld => ?_)
      clear hK K
      refine norm_ (a' := ?_) ?_ ?_
      rotate_left
      ·show Act.put _ (some 23) _ = _
       simp only [Act.put, Qp1, Qp2, Qp3, i64_w, i32_w]
       rfl
      refine pure_ (i := 3) (N := some 24) (v := ?_) (a' := ?_) (Qbz 12 15) rfl rfl (by kernel_rfl) (fun _ _ _ h => h) (Or.inl ⟨by rfl, ?_⟩) ?_ ?_
      rotate_left
      ·intro w'
       go_simp
       with_reducible rfl
      rotate_left
      ·simp only [Act.put, Qp1, Qp2, Qp3, i64_w, i32_w]
       rfl
      refine pure_ (i := 4) (N := some 25) (v := ?_) (a' := ?_) (Qbz 12 31) rfl rfl (by kernel_rfl) (fun _ _ _ h => h) (Or.inl ⟨by rfl, ?_⟩) ?_ ?_
      rotate_left
      ·intro w'
       go_simp
       with_reducible rfl
      rotate_left
      ·simp only [Act.put, Qp1, Qp2, Qp3, i64_w, i32_w]
       rfl
      refine pure_ (i := 6) (N := some 27) (v := ?_) (a' := ?_) (Qbz 12 95) rfl rfl (by kernel_rfl) (fun _ _ _ h => h) (Or.inl ⟨by rfl, ?_⟩) ?_ ?_
      rotate_left
      ·intro w'
       go_simp
       with_reducible rfl
      rotate_left
      ·simp only [Act.put, Qp1, Qp2, Qp3, i64_w, i32_w]
       rfl
      refine pure_ (i := 7) (N := some 28) (v := ?_) (a' := ?_) (Qbz 12 223) rfl rfl (by kernel_rfl) (fun _ _ _ h => h) (Or.inl ⟨by rfl, ?_⟩) ?_ ?_
      rotate_left
      ·intro w'
       go_simp
       with_reducible rfl
      rotate_left
      ·simp only [Act.put, Qp1, Qp2, Qp3, i64_w, i32_w]
       rfl
      refine pure_ (i := 8) (N := some 29) (v := ?_) (a' := ?_) (Qbz 12 479) rfl rfl (by kernel_rfl) (fun _ _ _ h => h) (Or.inl ⟨by rfl, ?_⟩) ?_ ?_
      rotate_left
      ·intro w'
       go_simp
       with_reducible rfl
      rotate_left
      ·simp only [Act.put, Qp1, Qp2, Qp3, i64_w, i32_w]
       rfl
      refine pure_ (i := 9) (N := some 30) (v := ?_) (a' := ?_) (Qbz 12 991) rfl rfl (by kernel_rfl) (fun _ _ _ h => h) (Or.inl ⟨by rfl, ?_⟩) ?_ ?_
      rotate_left
      ·intro w'
       go_simp
       with_reducible rfl
      rotate_left
      ·simp only [Act.put, Qp1, Qp2, Qp3, i64_w, i32_w]
       rfl
      refine take_ (i := 5) (N := some 26) (v := ?_) (a' := ?_) (Qbz 12 1023) rfl rfl (by kernel_rfl) (fun _ _ _ h => h) (Or.inl ⟨by rfl, ?_⟩) hHeld ?_ ?_
      rotate_left
      ·rintro w' ⟨s0, s1, s2, s3⟩
       go_simp
       with_reducible rfl
      rotate_left
      ·simp only [Act.put, Qp1, Qp2, Qp3, i64_w, i32_w]
       rfl
      refine last_ (i := 10) (N := some 31) (Qbz 12 2047) rfl rfl (by kernel_rfl) (by decide) (fun K hK => ?_)
      refine goesC_ Tryd.func96 (by kernel_rfl) rfl #[.int .i64 (left' : Int)] #[.pointer (some ⟨lB, 0, none⟩), .pointer (some ⟨tB, 0, none⟩), .pointer (some ⟨gB, 0, none⟩)] #[.int .i64 (left' : Int), .pointer (some ⟨lB, 0, none⟩), .pointer (some ⟨tB, 0, none⟩), .pointer (some ⟨gB, 0, none⟩)] (.tmp 26) (by rfl) rfl rfl (by rfl) (by simp only [List.map_toArray, List.map_cons, List.map_nil]; rfl) rfl ?_
      with_reducible refine (HREC.out _ _ (HX8.out.low hHeld.2.2.2)).mono ?_
      rintro e w10 ⟨rfl, v10, hO10, hF10, hK10⟩
      have HO10 := Aside0.mk hO10
      have HF10 := Aside0.mk hF10
      have HK10 := Aside0.mk hK10
      have HB9 := Aside0.mk kB
      clear hO10 hF10 hK10 kB
      refine ⟨_, rfl, ?_⟩
      refine hK.out _ _ ?_
      clear hK K
      refine norm_ (a' := ?_) ?_ ?_
      rotate_left
      ·show Act.put _ (some 31) _ = _
       simp only [Act.put, Qp1, Qp2, Qp3, i64_w, i32_w]
       rfl
      refine pure_ (i := 11) (N := some 32) (v := ?_) (a' := ?_) (Qbz 12 4095) rfl rfl (by kernel_rfl) (fun _ _ _ h => h) (Or.inl ⟨by rfl, ?_⟩) ?_ ?_
      rotate_left
      ·intro w'
       go_simp
       with_reducible rfl
      rotate_left
      ·simp only [Act.put, Qp1, Qp2, Qp3, i64_w, i32_w]
       rfl
      refine done_ (by kernel_rfl) ?_
      go_wp2
      go_ret
      have k0 := (Keep2.of_below HB1.out (some lB) v.ownBlock).step HX3.out (fun j e => .inr (.inl e.symm)) (fun j e => .inr (.inr e.symm))
      have f0 := (FB.refl w.heap.size v).trans HX2.out HB1.out.size
      have k1 := k0.step HK8.out (fun j e => .inr (.inl e.symm)) (f0.row rfl)
      have k2 := k1.step (Keep2.of_below HB9.out none none) (fun j e => by cases e) (fun j e => by cases e)
      have f1 := f0.trans HF8.out k0.size
      have k3 := k2.step HK10.out (fun j e => .inr (.inl e.symm)) (f1.row rfl)
      have f2 := f1.trans HF10.out k2.size
      exact ⟨rfl, v10, HO10.out, f2, k3⟩
    ·rw [hcb] at HCR
     have HA2 : Aside0 (((els left 9).drop (i + 1)).findSome? F = R) := ⟨by
      have := HAH.out
      rw [HFX.out, hcb] at this
      simpa using this⟩
     clear hcb HFX HAH HREC IH HG HM HFE HL
     go_wp2_with (at_builtin; refine wpList_append_own_at _ rfl _ _ 22 rfl W0.heap.size 3 i3 (.int .i64 0) 1 8 Tryd.underlying22 hi3 hq0 hq1 hq2 rfl (by decide) (.slice A4 M.length c4) M.length ((gi M).map (Value.int .i64)) rfl (HX1.out.own.alloc _) ⟨wr.heap.size, 0, none⟩ 1 1 [.int .i64 (x : Int)] rfl rfl (cell_one_new _ _ _) (by simp [Value.oneCell']) (by unfold maxLen; omega) (by omega) (by have := HX1.out.grown.size; simp; omega) ?_; intro v8 w8 hown8 hg8 _ hfb8; obtain ⟨g8, cap8, rfl⟩ := own_succ hown8; have hne8 : some lB ≠ (Value.slice A4 M.length c4).ownBlock := (fun e => by have := own_base2 HX1.out.own lB e.symm; omega); have hb8 := blk_grown (blk_alloc HX1.out.blk _) hg8 hne8; have hc8 : w8.cell? ⟨lB, 0, none⟩ = some (.slice A4 M.length c4) := (blk_cell hb8 0).trans rfl; have hf8 := blk_frozen hb8 0; have HX8 := Aside0.mk (HX1.out.push hlB hg8 hown8); have HG8 := Aside0.mk hg8; have HFB8 := Aside0.mk hfb8; clear hb8 hown8 hg8 hfb8)
     obtain ⟨wS, hwS⟩ : ∃ W : World, W = w8.setCell ⟨lB, 0, none⟩ (.slice (some ⟨g8, 0, none⟩) (M.length + 1) cap8) := ⟨_, rfl⟩
     rw [← hwS] at HX8
     rw [← hwS]
     have HK8 : Aside0 (Keep2 wr wS (some lB) (Value.slice A4 M.length c4).ownBlock) := ⟨((Keep2.of_below (below_alloc (Below.refl _ wr) _) (some lB) (Value.slice A4 M.length c4).ownBlock).step (Keep2.of_grown HG8.out) (fun j e => .inr (.inr e.symm)) (fun j e => by cases e)).step (by rw [hwS]; exact Keep2.of_grown (grownBy_set _ _ _)) (fun j e => .inr (.inl e.symm)) (fun j e => by cases e)⟩
     have HF8 : Aside0 (FB wr.heap.size (.slice A4 M.length c4) (.slice (some ⟨g8, 0, none⟩) (M.length + 1) cap8)) := ⟨by
      rcases HFB8.out with h | h
      ·exact .inl h
      ·exact .inr fun b' hb' => by
        have hb' := h.symm.trans hb'
        have := Option.some.inj hb'
        simp at this
        omega⟩
     obtain ⟨q1, q2, q3, q4⟩ := HLOW.out wS HX8.out.grown
     have q5 := HX8.out.cell
     have t0d : wS.drew.cell? ⟨tB, 0, none⟩ = some (.slice Ag G.length cg) := q3
     have l0d : wS.drew.cell? ⟨lB, 0, none⟩ = some (.slice (some ⟨g8, 0, none⟩) (M.length + 1) cap8) := q5
     have g0d : wS.drew.cell? ⟨gB, 0, none⟩ = some (.func (.func 96) #[] #[.pointer (some ⟨lB, 0, none⟩), .pointer (some ⟨tB, 0, none⟩), .pointer (some ⟨gB, 0, none⟩)]) := q4
     have bSd : Below wS.heap.size wS wS.drew := below_drew (Below.refl _ _)
     have CCR : Aside0 (∀ W, (W.cell? ⟨tB, 0, none⟩ = some (.slice Ag G.length cg) ∧ W.cell? ⟨lB, 0, none⟩ = some (.slice (some ⟨g8, 0, none⟩) (M.length + 1) cap8) ∧ W.cell? ⟨gB, 0, none⟩ = some (.func (.func 96) #[] #[.pointer (some ⟨lB, 0, none⟩), .pointer (some ⟨tB, 0, none⟩), .pointer (some ⟨gB, 0, none⟩)]) ∧ Below wS.heap.size wS W) → Calls Tryd.prog 83 #[.slice Ag G.length cg, .slice (some ⟨g8, 0, none⟩) (M.length + 1) cap8] W fun e w' => e = .returned (.bool true) ∧ w'.cell? ⟨tB, 0, none⟩ = some (.slice Ag G.length cg) ∧ w'.cell? ⟨lB, 0, none⟩ = some (.slice (some ⟨g8, 0, none⟩) (M.length + 1) cap8) ∧ w'.cell? ⟨gB, 0, none⟩ = some (.func (.func 96) #[] #[.pointer (some ⟨lB, 0, none⟩), .pointer (some ⟨tB, 0, none⟩), .pointer (some ⟨gB, 0, none⟩)]) ∧ Below wS.heap.size wS w') := ⟨by
      rintro W ⟨s0, s1, s2, s3⟩
      refine (HCR.out W _ _ (HX8.out.low s3)).mono ?_
      rintro e w' ⟨rfl, hdr⟩
      have hb := hdr.below
      exact ⟨rfl, (hb.cell (World.block_lt_of_cell? W _ s0)).trans s0, (hb.cell (World.block_lt_of_cell? W _ s1)).trans s1, (hb.cell (World.block_lt_of_cell? W _ s2)).trans s2, below_step s3 hb⟩⟩
     clear hwS hc8 hf8 HG8 HFB8 hy0 hgx q1 q2 q3 q4 q5
     refine start_ (n := 12) (S := fun w' => w'.cell? ⟨tB, 0, none⟩ = some (.slice Ag G.length cg) ∧ w'.cell? ⟨lB, 0, none⟩ = some (.slice (some ⟨g8, 0, none⟩) (M.length + 1) cap8) ∧ w'.cell? ⟨gB, 0, none⟩ = some (.func (.func 96) #[] #[.pointer (some ⟨lB, 0, none⟩), .pointer (some ⟨tB, 0, none⟩), .pointer (some ⟨gB, 0, none⟩)]) ∧ Below wS.heap.size wS w') (ds := []) (Qbz 12 0) (by kernel_rfl) rfl rfl ⟨t0d, l0d, g0d, bSd⟩ (fun hHeld => ?_)
     refine take_ (i := 0) (N := some 21) (v := ?_) (a' := ?_) (Qbz 12 1) rfl rfl (by kernel_rfl) (fun _ _ _ h => h) (Or.inl ⟨by rfl, ?_⟩) hHeld ?_ ?_
     rotate_left
     ·rintro w' ⟨s0, s1, s2, s3⟩
      go_simp
      with_reducible rfl
     rotate_left
     ·simp only [Act.put, Qp1, Qp2, Qp3, i64_w, i32_w]
      rfl
     refine take_ (i := 1) (N := some 22) (v := ?_) (a' := ?_) (Qbz 12 3) rfl rfl (by kernel_rfl) (fun _ _ _ h => h) (Or.inl ⟨by rfl, ?_⟩) hHeld ?_ ?_
     rotate_left
     ·rintro w' ⟨s0, s1, s2, s3⟩
      go_simp
      with_reducible rfl
     rotate_left
     ·simp only [Act.put, Qp1, Qp2, Qp3, i64_w, i32_w]
      rfl
     refine one_ (i := 2) (N := some 23) (Qbz 12 7) rfl rfl (by kernel_rfl) (by decide) (fun K hK => ?_)
     refine goes_ Tryd.func83 (by kernel_rfl) rfl #[.slice Ag G.length cg, .slice (some ⟨g8, 0, none⟩) (M.length + 1) cap8] (by rfl) rfl rfl (by simp only [List.map_toArray, List.map_cons, List.map_nil]; rfl) ?_
     with_reducible refine (CCR.out _ hHeld).mono ?_
     rintro e w9 ⟨rfl, k0, k1, k2, kB⟩
     refine ⟨_, rfl, ?_⟩
     refine hK.out _ _ ⟨k0, k1, k2, kB⟩ (fun hHeld => ?_)
     clear hK K
     refine norm_ (a' := ?_) ?_ ?_
     rotate_left
     ·show Act.put _ (some 23) _ = _
      simp only [Act.put, Qp1, Qp2, Qp3, i64_w, i32_w]
      rfl
     refine pure_ (i := 3) (N := some 24) (v := ?_) (a' := ?_) (Qbz 12 15) rfl rfl (by kernel_rfl) (fun _ _ _ h => h) (Or.inl ⟨by rfl, ?_⟩) ?_ ?_
     rotate_left
     ·intro w'
      go_simp
      with_reducible rfl
     rotate_left
     ·simp only [Act.put, Qp1, Qp2, Qp3, i64_w, i32_w]
      rfl
     refine pure_ (i := 4) (N := some 25) (v := ?_) (a' := ?_) (Qbz 12 31) rfl rfl (by kernel_rfl) (fun _ _ _ h => h) (Or.inl ⟨by rfl, ?_⟩) ?_ ?_
     rotate_left
     ·intro w'
      go_simp
      with_reducible rfl
     rotate_left
     ·simp only [Act.put, Qp1, Qp2, Qp3, i64_w, i32_w]
      rfl
     refine pure_ (i := 5) (N := some 26) (v := undef) (a' := ?_) (Qbz 12 63) rfl rfl (by kernel_rfl) (fun _ _ _ h => h) (Or.inr ⟨by rfl, rfl⟩) ?_ ?_
     rotate_left
     ·simp only [Act.put, Qp1, Qp2, Qp3, i64_w, i32_w]
      rfl
     refine pure_ (i := 6) (N := some 27) (v := undef) (a' := ?_) (Qbz 12 127) rfl rfl (by kernel_rfl) (fun _ _ _ h => h) (Or.inr ⟨by rfl, rfl⟩) ?_ ?_
     rotate_left
     ·simp only [Act.put, Qp1, Qp2, Qp3, i64_w, i32_w]
      rfl
     refine pure_ (i := 7) (N := some 28) (v := undef) (a' := ?_) (Qbz 12 255) rfl rfl (by kernel_rfl) (fun _ _ _ h => h) (Or.inr ⟨by rfl, rfl⟩) ?_ ?_
     rotate_left
     ·simp only [Act.put, Qp1, Qp2, Qp3, i64_w, i32_w]
      rfl
     refine pure_ (i := 8) (N := some 29) (v := undef) (a' := ?_) (Qbz 12 511) rfl rfl (by kernel_rfl) (fun _ _ _ h => h) (Or.inr ⟨by rfl, rfl⟩) ?_ ?_
     rotate_left
     ·simp only [Act.put, Qp1, Qp2, Qp3, i64_w, i32_w]
      rfl
     refine pure_ (i := 9) (N := some 30) (v := undef) (a' := ?_) (Qbz 12 1023) rfl rfl (by kernel_rfl) (fun _ _ _ h => h) (Or.inr ⟨by rfl, rfl⟩) ?_ ?_
     rotate_left
     ·simp only [Act.put, Qp1, Qp2, Qp3, i64_w, i32_w]
      rfl
     refine pure_ (i := 10) (N := some 31) (v := undef) (a' := ?_) (Qbz 12 2047) rfl rfl (by kernel_rfl) (fun _ _ _ h => h) (Or.inr ⟨by rfl, rfl⟩) ?_ ?_
     rotate_left
     ·simp only [Act.put, Qp1, Qp2, Qp3, i64_w, i32_w]
      rfl
     refine pure_ (i := 11) (N := some 32) (v := ?_) (a' := ?_) (Qbz 12 4095) rfl rfl (by kernel_rfl) (fun _ _ _ h => h) (Or.inl ⟨by rfl, ?_⟩) ?_ ?_
     rotate_left
     ·intro w'
      go_simp
      with_reducible rfl
     rotate_left
     ·simp only [Act.put, Qp1, Qp2, Qp3, i64_w, i32_w]
      rfl
     refine done_ (by kernel_rfl) ?_
     obtain ⟨s0, s1, s2, s3⟩ := hHeld
     have HB9 := Aside0.mk s3
     have hO9 := HX8.out.low s3
     obtain ⟨g10, c10, e10, hcap10⟩ := hO9.cap
     injection e10 with e11 e12 e13
     obtain rfl : g8 = g10 := by injection e11 with e11; injection e11
     subst e13
     have hl10 := s1
     have hf10 := blk_frozen hO9.blk 0
     have HO9 := Aside0.mk hO9
     have hkc1 : decide ((M.length : Int) ≤ (cap8 : Int)) = true := decide_eq_true (by omega)
     have hkc2 : ((M.length : Int) ≤ (cap8 : Int)) = True := eq_true (by omega)
     clear s0 s1 s2 s3 hO9 e11 e12
     go_wp2
     go_roundg gi'
     case measure => omega
     case rel =>
      have k1 := HX3.out.step HK8.out (fun j e => .inr (.inl e.symm)) (FB.row HX2.out rfl)
      have k2 := k1.step (Keep2.of_below HB9.out none none) (fun j e => by cases e) (fun j e => by cases e)
      have f1 := HX2.out.trans HF8.out HX3.out.size
      have k4 := k2.step (Keep2.of_grown (grownBy_set w9 ⟨lB, 0, none⟩ (Value.slice (some ⟨g8, 0, none⟩) M.length cap8))) (fun j e => .inr (.inl e.symm)) (fun j e => by cases e)
      exact ⟨i + 1, _, by go_num, by omega, HA2, ⟨⟨HO9.out.pop hlB rfl, f1, k4⟩⟩⟩
   ·have hi1 : ((i : Int) < ((els left 9).length : Int)) = False := eq_false (by omega)
    have hi2 : decide ((i : Int) < ((els left 9).length : Int)) = false := decide_eq_false (by omega)
    have ha := HA.out
    rw [List.drop_eq_nil_of_le (by omega)] at ha
    have hr : R = none := ha.symm
    subst hr
    clear ha HA
    obtain ⟨hX1, hX2, hX3⟩ := HX.out
    have HF := Aside0.mk (show OI W0 wr lB M v1 ∧ FB w.heap.size v v1 ∧ Keep2 w wr (some lB) v.ownBlock from ⟨hX1, (FB.refl w.heap.size v).trans hX2 HB1.out.size, (Keep2.of_below HB1.out (some lB) v.ownBlock).step hX3 (fun j e => .inr (.inl e.symm)) (fun j e => .inr (.inr e.symm))⟩)
    clear hX1 hX2 hX3 HX
    go_wp2
    go_ret
    exact ⟨rfl, v1, HF.out⟩
def outF (G : List Nat) (s : Nat) : Option (List Nat) := outN G (pc s 9) [] s
theorem outN_len (G : List Nat) : ∀ d M left l, outN G d M left = some l → l.length = M.length + d
 | 0, M, left, l, h => by
  rw [outN] at h
  rw [← Option.some.inj h]; rfl
 | d + 1, M, left, l, h => by
  rw [outN] at h
  obtain ⟨v, hv, hf⟩ := List.exists_of_findSome?_eq_some h
  split at hf
  ·cases hf
  ·have := outN_len G d _ _ l hf
   simp at this
   omega
set_option maxHeartbeats 8000000 in
set_option maxRecDepth 100000 in
theorem outer_calls (Ag : Option Addr) (cg : Nat) (G : List Nat) (hG : Gr 9 G) (hcg : G.length ≤ cg) (s : Nat) (hs : s < 2 ^ G.length) (hs0 : s ≠ 0) (w : World) (hGL : GL w) (hrg : Kd.C (Kd.int .i64) w Ag (gi G).length (gi G)) :
  Calls Tryd.prog 82 #[.slice Ag G.length cg, .int .i64 (s : Int)] w fun e w' => ∃ v, e = .returned v ∧ (match outF G s with | none => v = .slice none 0 0 | some l => l ≠ [] ∧ v ≠ .slice none 0 0 ∧ Kd.R (Kd.int .i64) 3 w' w.heap.size (fun _ => True) v (gi l)) ∧ Below w.heap.size w w' := by
 have hs512 := small G hG.most hs
 have hpc0 : 0 < pc s 9 := Nat.pos_of_ne_zero fun h => hs0 (pc_none ⟨s, hs512⟩ h)
 have hpc9 := pc_le s 9
 have hk0 : ((s : Int) == 0) = false := beq_eq_false_iff_ne.2 (by omega)
 obtain ⟨lB, hlB⟩ : ∃ lB, lB = w.heap.size + 1 := ⟨_, rfl⟩
 obtain ⟨W0, hW0⟩ : ∃ W0 : World, W0 = ((w.alloc (.cells #[.slice Ag G.length cg] 79)).alloc (.cells #[.slice none 0 0] 22)).alloc (.cells #[.func (.func 96) #[] #[.pointer (some ⟨w.heap.size + 1, 0, none⟩), .pointer (some ⟨w.heap.size, 0, none⟩), .pointer (some ⟨w.heap.size + 1 + 1, 0, none⟩)]] 43) := ⟨_, rfl⟩
 have hsz : W0.heap.size = w.heap.size + 3 := by rw [hW0]; simp
 have hb0 : W0.heap[w.heap.size]? = some (.cells #[.slice Ag G.length cg] 79 (0, 0)) := by
  rw [hW0]
  exact blk_alloc (blk_alloc (show (w.heap.push _)[w.heap.size]? = _ from Array.getElem?_push_size) _) _
 have hb1 : W0.heap[w.heap.size + 1]? = some (.cells #[.slice none 0 0] 22 (0, 0)) := by
  rw [hW0]
  refine blk_alloc ?_ _
  have : (w.alloc (.cells #[.slice Ag G.length cg] 79)).heap.size = w.heap.size + 1 := by simp
  rw [← this]
  exact (show (Array.push _ _)[_]? = _ from Array.getElem?_push_size)
 have hb2 : W0.heap[w.heap.size + 1 + 1]? = some (.cells #[.func (.func 96) #[] #[.pointer (some ⟨w.heap.size + 1, 0, none⟩), .pointer (some ⟨w.heap.size, 0, none⟩), .pointer (some ⟨w.heap.size + 1 + 1, 0, none⟩)]] 43 (0, 0)) := by
  rw [hW0]
  have : ((w.alloc (.cells #[.slice Ag G.length cg] 79)).alloc (.cells #[.slice none 0 0] 22)).heap.size = w.heap.size + 1 + 1 := by simp
  rw [← this]
  exact (show (Array.push _ _)[_]? = _ from Array.getElem?_push_size)
 have hBW : Below w.heap.size w W0 := by
  rw [hW0]
  exact below_alloc (below_alloc (below_alloc (Below.refl _ _) _) _) _
 have HOG : Aside0 (Calls Tryd.prog 96 #[.int .i64 (s : Int), .pointer (some ⟨w.heap.size + 1, 0, none⟩), .pointer (some ⟨w.heap.size, 0, none⟩), .pointer (some ⟨w.heap.size + 1 + 1, 0, none⟩)] W0 fun e w' => e = .returned (.bool (outF G s).isSome) ∧ ∃ v', OI W0 w' (w.heap.size + 1) ((outF G s).getD []) v') := ⟨by
  refine (outer_grow (w.heap.size + 1) w.heap.size (w.heap.size + 1 + 1) W0 (by omega) Ag cg G hG hcg (fun W hW => ?_) (pc s 9) [] s (.slice none 0 0) W0 rfl hs (fun x hx => by cases hx) (by simp; omega) ⟨hb1, ⟨rfl, .inl ⟨rfl, rfl⟩⟩, World.grownBy.refl _ _⟩).mono ?_
  ·have hB : Below w.heap.size w W := ⟨hW.os.trans hBW.os, hW.tape.trans hBW.tape, hW.output.trans hBW.output, Nat.le_trans hBW.size hW.size, fun k hk => (hW.block k (by omega) (fun e => by have := Option.some.inj e; omega)).trans (hBW.block k hk)⟩
   have c0 := blk_grown hb0 hW (fun e => by have := Option.some.inj e; omega)
   have c2 := blk_grown hb2 hW (fun e => by have := Option.some.inj e; omega)
   exact ⟨GL_below hGL hB, Kd.C_below hrg hB, (blk_cell c0 0).trans rfl, (blk_cell c2 0).trans rfl⟩
  ·rintro e w' ⟨rfl, v', h, _, _⟩
   exact ⟨rfl, v', h⟩⟩
 rw [hW0] at HOG
 have HFIN : Aside0 (∀ w' v', OI W0 w' (w.heap.size + 1) ((outF G s).getD []) v' → Below w.heap.size w w' ∧ (∀ l, outF G s = some l → l ≠ [] ∧ v' ≠ .slice none 0 0 ∧ Kd.R (Kd.int .i64) 3 w' w.heap.size (fun _ => True) v' (gi l))) := ⟨fun w' v' h => by
  refine ⟨⟨h.grown.os.trans hBW.os, h.grown.tape.trans hBW.tape, h.grown.output.trans hBW.output, Nat.le_trans hBW.size h.grown.size, fun k hk => (h.grown.block k (by omega) (fun e => by have := Option.some.inj e; omega)).trans (hBW.block k hk)⟩, fun l hl => ?_⟩
  have hlen := outN_len G _ _ _ _ hl
  rw [hl] at h
  have ho := h.own
  simp only [Option.getD_some] at ho
  refine ⟨fun e => by rw [e] at hlen; simp at hlen; omega, fun e => ?_, ?_⟩
  ·rcases ho.2 with ⟨_, h0⟩ | ⟨g, cap, cur, e2, _⟩
   ·simp at hlen; omega
   ·rw [e] at e2; cases e2
  ·rw [← gi_length l] at ho
   exact Kd.R_lower (Kd.R_of_own (ok := fun _ => True) ho (fun _ _ => trivial)) (by omega)⟩
 rw [hW0] at HFIN
 clear hb0 hb1 hb2 hBW hsz hW0 hlB lB hs hG hGL hrg
 cases hout : outF G s with
 | none =>
  rw [hout] at HOG HFIN
  go_enter Tryd.func82, Tryd.ntmps82
  go_wp2_with (go_at_call 96; refine HOG.out.mono ?_; rintro e w9 ⟨rfl, v9, hO9⟩; have hl9 := hO9.cell; have HO9 := Aside0.mk hO9; clear hO9)
  go_ret
  exact ⟨_, rfl, rfl, (HFIN.out _ _ HO9.out).1⟩
 | some l =>
  rw [hout] at HOG HFIN
  go_enter Tryd.func82, Tryd.ntmps82
  go_wp2_with (go_at_call 96; refine HOG.out.mono ?_; rintro e w9 ⟨rfl, v9, hO9⟩; have hl9 := hO9.cell; have HO9 := Aside0.mk hO9; clear hO9)
  go_ret
  exact ⟨_, rfl, (HFIN.out _ _ HO9.out).2 l rfl, (HFIN.out _ _ HO9.out).1⟩
end Go.Proofs.YtjloppfdagfpmaaDoor.X
end
section
/- minor.Outer and minor.Apex, by hand. -/
namespace Go.Proofs.YtjloppfdagfpmaaDoor.X
open Go.RowKit YtjloppfdagfpmaaDoorW.PrintWords YtjloppfdagfpmaaDoorW.PrintLast YtjloppfdagfpmaaDoorW.PrintMore YtjloppfdagfpmaaDoor.T
theorem outer_calls2 (Ag : Option Addr) (cg : Nat) (G : List Nat) (hG : Gr 9 G) (hcg : G.length ≤ cg) (s : Nat) (hs : s < 2 ^ G.length) (hs0 : s ≠ 0) (w : World) (hGL : GL w) (hrg : Kd.C (Kd.int .i64) w Ag (gi G).length (gi G)) :
  Calls Tryd.prog 82 #[.slice Ag G.length cg, .int .i64 (s : Int)] w fun e w' => ∃ v, e = .returned v ∧ Kd.R (Kd.int .i64) 3 w' w.heap.size (fun _ => True) v ((outF G s).elim [] gi) ∧ ((outF G s = none ∧ v = .slice none 0 0) ∨ ((outF G s).isSome = true ∧ ∃ a n c, v = .slice (some a) n c)) ∧ Below w.heap.size w w' := by
 refine (outer_calls Ag cg G hG hcg s hs hs0 w hGL hrg).mono ?_
 rintro e w' ⟨v, rfl, h, hb⟩
 cases ho : outF G s with
 | none =>
  rw [ho] at h
  simp only at h
  subst h
  exact ⟨_, rfl, Kd.R_nil _ _ _ _ _, .inl ⟨rfl, rfl⟩, hb⟩
 | some l =>
  rw [ho] at h
  obtain ⟨h1, h2, h3⟩ := h
  refine ⟨v, rfl, h3, .inr ⟨rfl, ?_⟩, hb⟩
  obtain ⟨A, c, rfl, hc, hC⟩ := Kd.R_reads h3
  cases A with
  | none =>
   obtain ⟨_, inner, ho2, _⟩ := h3
   rcases ho2.2 with ⟨e1, _⟩ | ⟨g, cap, cur, e2, _⟩
   ·exact absurd e1 h2
   ·cases e2
  | some a => exact ⟨a, _, c, rfl⟩
def apexB (G : List Nat) (v : Nat) : Bool := decide (diff (2 ^ G.length - 1) (2 ^ v) = 0) || (outF G (diff (2 ^ G.length - 1) (2 ^ v))).isSome
def minor_Apex.f (g : List Int) : Option (Int × Int) :=
 if g.length < 1000 then some (if chk 8 g = true then (((List.range g.length).find? (apexB (g.map Int.toNat))).elim (0, 4) fun v => ((v : Int), 0)) else (0, 2)) else none
set_option maxHeartbeats 4000000 in
set_option maxRecDepth 100000 in
theorem minor_Apex.calls (A0 : Option Addr) (c0 : Nat) (l0 : List Int) (r1 : Int) (r2 : Int) (w : World) (hGL : GL w) (hr0 : Kd.C (Kd.int .i64) w A0 l0.length l0) (hc0 : l0.length ≤ c0) (h : minor_Apex.f l0 = some (r1, r2)) :
  Calls Tryd.prog 54 #[.slice A0 l0.length c0] w fun e w' => e = .returned (.tuple #[.int .i64 r1, .int .i64 r2]) ∧ Below w.heap.size w w' := by
 unfold minor_Apex.f at h
 by_cases hlen : l0.length < 1000
 ·rw [if_pos hlen] at h
  have h := Option.some.inj h
  have HC1 : Aside0 (∀ W, Below w.heap.size w W → Calls Tryd.prog 63 #[.slice A0 l0.length c0, .int .i64 8] W fun e w' => ∃ v, e = .returned (.tuple #[v, .bool (chk 8 l0)]) ∧ (chk 8 l0 = true → ∃ A1 c1, v = .slice A1 l0.length c1 ∧ l0.length ≤ c1 ∧ Kd.C (Kd.int .i64) w' A1 l0.length l0) ∧ Below W.heap.size W w') := ⟨fun W hW => read_any 8 (by omega) (by omega) A0 c0 W (Kd.C_below hr0 hW) hc0⟩
  have HGL := Aside0.mk hGL
  cases hg : chk 8 l0
  ·rw [hg] at h HC1
   injection h with h1 h2
   subst h1 h2
   clear hg hr0
   go_enter Tryd.func54, Tryd.ntmps54
   go_wp2_with (go_at_call 63; refine (HC1.out _ (Below.refl _ _)).mono ?_; rintro e w1 ⟨v1, rfl, _, hb1⟩; have HB1 := Aside0.mk hb1; clear hb1)
   go_ret2
   exact ⟨rfl, HB1.out⟩
  ·rw [hg] at h HC1
   obtain ⟨G, rfl, hG⟩ := (chk_iff 8 (by omega) _).1 hg
   rw [gi_toNat] at h
   simp only [gi_length] at HC1 hr0 hc0 h ⊢
   have hn := hG.most
   have hn1 := hG.pos
   have h2n := Nat.two_pow_pos G.length
   obtain ⟨A, hA⟩ : ∃ A, 2 ^ G.length - 1 = A := ⟨_, rfl⟩
   have hAlt : A < 2 ^ G.length := by omega
   have hA512 : A < 512 := small G (by omega) hAlt
   have HAL : Aside0 (∀ W B c, G.length ≤ c → Kd.C (Kd.int .i64) W B G.length (gi G) → Calls Tryd.prog 66 #[.slice B G.length c] W fun e w' => e = .returned (.int .i64 (A : Int)) ∧ Drawn0 W w') := ⟨fun W B c hc hB => by
    have := minor_town_all.calls B c (gi G) _ W (by rw [gi_length]; exact hB) (by rw [gi_length]; exact hc) (all_eq G (by omega))
    rw [gi_length, hA] at this
    exact this⟩
   have HOU : Aside0 (∀ W B c q, q ≤ A → q ≠ 0 → Below w.heap.size w W → G.length ≤ c → Kd.C (Kd.int .i64) W B G.length (gi G) → Calls Tryd.prog 82 #[.slice B G.length c, .int .i64 (q : Int)] W fun e w' => ∃ v, e = .returned v ∧ ((outF G q = none ∧ v = .slice none 0 0) ∨ ((outF G q).isSome = true ∧ ∃ a n c, v = .slice (some a) n c)) ∧ Below W.heap.size W w') := ⟨fun W B c q hq hq0 hW hc hB => by
    refine (outer_calls2 B c G (gr_mono hG (by omega)) hc q (by omega) hq0 W (GL_below HGL.out hW) (by rw [gi_length]; exact hB)).mono ?_
    rintro e w' ⟨v, rfl, _, h3, h4⟩
    exact ⟨v, rfl, h3, h4⟩⟩
   obtain ⟨F, hF⟩ : ∃ F : Nat → Bool, F = apexB G := ⟨_, rfl⟩
   have HF : Aside0 (∀ v, F v = (decide (diff A (2 ^ v) = 0) || (outF G (diff A (2 ^ v))).isSome)) := ⟨fun v => by rw [hF, ← hA]; rfl⟩
   rw [← hF] at h
   have hr2 : (((List.range G.length).drop 0).find? F).elim ((0 : Int), (4 : Int)) (fun v => ((v : Int), 0)) = (r1, r2) := h
   have HR := Aside0.mk hr2
   clear hg hr0 hG hGL hA hAlt h2n hF h hr2
   have hneq_ := fun (w : World) (a : Option Addr) (n c : Nat) => run_neq_slice_nil_any (P := Tryd.prog) w 22 3 a n c 0 0 Tryd.underlying22
   go_enter Tryd.func54, Tryd.ntmps54
   go_wp2_with (go_at_call 63; refine (HC1.out _ (Below.refl _ _)).mono ?_; rintro e w1 ⟨v1, rfl, hv1, hb1⟩; obtain ⟨A5, c5, rfl, hc5, hC5⟩ := hv1 trivial; have HB1 := Aside0.mk hb1; have HC5 := Aside0.mk hC5; clear hb1 hv1 hC5)
   go_loopg [17] G.length (fun kq v17 w' => ∃ i : Nat, v17 = .int .i64 (i : Int) ∧ i + kq = G.length ∧ Aside0 ((((List.range G.length).drop i).find? F).elim ((0 : Int), (4 : Int)) (fun v => ((v : Int), 0)) = (r1, r2)) ∧ Aside0 (Below w1.heap.size w1 w'))
   case atStart => exact ⟨0, rfl, by omega, HR, ⟨Below.refl _ _⟩⟩
   case round =>
    clear HR
    obtain ⟨i, rfl, hi, HA, HBW⟩ := hrel
    by_cases hil : i < G.length
    ·have hi1 : ((i : Int) < (G.length : Int)) = True := eq_true (by omega)
     have hi2 : decide ((i : Int) < (G.length : Int)) = true := decide_eq_true (by omega)
     cases gk with
     | zero => omega
     | succ gi' =>
     have ha := HA.out
     rw [List.drop_eq_getElem_cons (by simpa using hil), List.getElem_range, List.find?_cons] at ha
     obtain ⟨N, ⟨hS1, hS2, hS3⟩, hNv⟩ := shJ i (by omega)
     have hand : Go.bits .andNot .i64 (A : Int) N = ((diff A (2 ^ i) : Nat) : Int) := by
      rw [hNv, b_andNot _ _ (by omega) (Nat.pow_lt_pow_right (by omega) (by omega))]
     have hdl := diff_le A (2 ^ i)
     have HFI := Aside0.mk (HF.out i)
     generalize diff A (2 ^ i) = q at *
     have HAH := Aside0.mk ha
     clear ha HA hNv HF
     have bWd : Below wr.heap.size wr wr.drew := below_drew (Below.refl _ _)
     have CALL : Aside0 (∀ W, Below wr.heap.size wr W → Calls Tryd.prog 66 #[.slice A5 G.length c5] W fun e w' => e = .returned (.int .i64 (A : Int)) ∧ Below wr.heap.size wr w') := ⟨fun W hW => by
      refine (HAL.out W A5 c5 hc5 (Kd.C_below HC5.out (below_step HBW.out hW))).mono ?_
      rintro e w' ⟨rfl, hd⟩
      exact ⟨rfl, below_step hW hd.below⟩⟩
     by_cases hq0 : q = 0
     ·have hq1 : ((q : Int) == 0) = true := beq_iff_eq.2 (by omega)
      have hFt : F i = true := by rw [HFI.out, decide_eq_true hq0]; rfl
      have hr := HAH.out
      rw [hFt] at hr
      injection hr with hr1 hr2
      subst hr1 hr2
      clear HAH HFI hFt hq0
      go_wp2
      refine start_ (n := 6) (S := fun w' => Below wr.heap.size wr w') (ds := []) (Qbz 6 0) (by kernel_rfl) rfl rfl (bWd) (fun hHeld => ?_)
      refine pure_ (i := 0) (N := some 20) (v := ?_) (a' := ?_) (Qbz 6 1) rfl rfl (by kernel_rfl) (fun _ _ _ h => h) (Or.inl ⟨by rfl, ?_⟩) ?_ ?_
      rotate_left
      ·intro w'
       go_simp
       with_reducible rfl
      rotate_left
      ·simp only [Act.put, Qp1, Qp2, Qp3, i64_w, i32_w]
       rfl
      refine pure_ (i := 2) (N := some 22) (v := ?_) (a' := ?_) (Qbz 6 5) rfl rfl (by kernel_rfl) (fun _ _ _ h => h) (Or.inl ⟨by rfl, ?_⟩) ?_ ?_
      rotate_left
      ·intro w'
       go_simp
       with_reducible rfl
      rotate_left
      ·simp only [Act.put, Qp1, Qp2, Qp3, i64_w, i32_w]
       rfl
      refine pure_ (i := 3) (N := some 23) (v := ?_) (a' := ?_) (Qbz 6 13) rfl rfl (by kernel_rfl) (fun _ _ _ h => h) (Or.inl ⟨by rfl, ?_⟩) ?_ ?_
      rotate_left
      ·intro w'
       go_simp
       with_reducible rfl
      rotate_left
      ·simp only [Act.put, Qp1, Qp2, Qp3, i64_w, i32_w]
       rfl
      refine one_ (i := 1) (N := some 21) (Qbz 6 15) rfl rfl (by kernel_rfl) (by decide) (fun K hK => ?_)
      refine goes_ Tryd.func66 (by kernel_rfl) rfl #[.slice A5 G.length c5] (by rfl) rfl rfl (by simp only [List.map_toArray, List.map_cons, List.map_nil]; rfl) ?_
      with_reducible refine (CALL.out _ hHeld).mono ?_
      rintro e w3 ⟨rfl, gB⟩
      refine ⟨_, rfl, ?_⟩
      refine hK.out _ _ (gB) (fun hHeld => ?_)
      clear hK K
      refine norm_ (a' := ?_) ?_ ?_
      rotate_left
      ·show Act.put _ (some 21) _ = _
       simp only [Act.put, Qp1, Qp2, Qp3, i64_w, i32_w]
       rfl
      refine pure_ (i := 4) (N := some 24) (v := ?_) (a' := ?_) (Qbz 6 31) rfl rfl (by kernel_rfl) (fun _ _ _ h => h) (Or.inl ⟨by rfl, ?_⟩) ?_ ?_
      rotate_left
      ·intro w'
       go_simp
       with_reducible rfl
      rotate_left
      ·simp only [Act.put, Qp1, Qp2, Qp3, i64_w, i32_w]
       rfl
      refine pure_ (i := 5) (N := some 7) (v := ?_) (a' := ?_) (Qbz 6 63) rfl rfl (by kernel_rfl) (fun _ _ _ h => h) (Or.inl ⟨by rfl, ?_⟩) ?_ ?_
      rotate_left
      ·intro w'
       go_simp
       with_reducible rfl
      rotate_left
      ·simp only [Act.put, Qp1, Qp2, Qp3, i64_w, i32_w]
       rfl
      refine done_ (by kernel_rfl) ?_
      have HB3 := Aside0.mk hHeld
      go_wp2
      go_ret2
      exact ⟨rfl, below_step HB1.out (below_step HBW.out HB3.out)⟩
     ·have hq1 : ((q : Int) == 0) = false := beq_eq_false_iff_ne.2 (by omega)
      have HOV : Aside0 (∀ W, Below wr.heap.size wr W → Calls Tryd.prog 82 #[.slice A5 G.length c5, .int .i64 (q : Int)] W fun e w' => ∃ v, e = .returned v ∧ ((outF G q = none ∧ v = .slice none 0 0) ∨ ((outF G q).isSome = true ∧ ∃ a n c, v = .slice (some a) n c)) ∧ Below W.heap.size W w') := ⟨fun W hW => HOU.out W A5 c5 q hdl hq0 (below_step HB1.out (below_step HBW.out hW)) hc5 (Kd.C_below HC5.out (below_step HBW.out hW))⟩
      cases hf : outF G q with
      | none =>
       rw [hf] at HOV
       have HA2 : Aside0 ((((List.range G.length).drop (i + 1)).find? F).elim ((0 : Int), (4 : Int)) (fun v => ((v : Int), 0)) = (r1, r2)) := ⟨by
        have := HAH.out
        rw [HFI.out, decide_eq_false hq0, hf] at this
        exact this⟩
       clear HAH HFI hq0 hf HOU
       go_wp2
       refine start_ (n := 6) (S := fun w' => Below wr.heap.size wr w') (ds := []) (Qbz 6 0) (by kernel_rfl) rfl rfl (bWd) (fun hHeld => ?_)
       refine pure_ (i := 0) (N := some 20) (v := ?_) (a' := ?_) (Qbz 6 1) rfl rfl (by kernel_rfl) (fun _ _ _ h => h) (Or.inl ⟨by rfl, ?_⟩) ?_ ?_
       rotate_left
       ·intro w'
        go_simp
        with_reducible rfl
       rotate_left
       ·simp only [Act.put, Qp1, Qp2, Qp3, i64_w, i32_w]
        rfl
       refine pure_ (i := 2) (N := some 22) (v := ?_) (a' := ?_) (Qbz 6 5) rfl rfl (by kernel_rfl) (fun _ _ _ h => h) (Or.inl ⟨by rfl, ?_⟩) ?_ ?_
       rotate_left
       ·intro w'
        go_simp
        with_reducible rfl
       rotate_left
       ·simp only [Act.put, Qp1, Qp2, Qp3, i64_w, i32_w]
        rfl
       refine pure_ (i := 3) (N := some 23) (v := ?_) (a' := ?_) (Qbz 6 13) rfl rfl (by kernel_rfl) (fun _ _ _ h => h) (Or.inl ⟨by rfl, ?_⟩) ?_ ?_
       rotate_left
       ·intro w'
        go_simp
        with_reducible rfl
       rotate_left
       ·simp only [Act.put, Qp1, Qp2, Qp3, i64_w, i32_w]
        rfl
       refine one_ (i := 1) (N := some 21) (Qbz 6 15) rfl rfl (by kernel_rfl) (by decide) (fun K hK => ?_)
       refine goes_ Tryd.func66 (by kernel_rfl) rfl #[.slice A5 G.length c5] (by rfl) rfl rfl (by simp only [List.map_toArray, List.map_cons, List.map_nil]; rfl) ?_
       with_reducible refine (CALL.out _ hHeld).mono ?_
       rintro e w3 ⟨rfl, gB⟩
       refine ⟨_, rfl, ?_⟩
       refine hK.out _ _ (gB) (fun hHeld => ?_)
       clear hK K
       refine norm_ (a' := ?_) ?_ ?_
       rotate_left
       ·show Act.put _ (some 21) _ = _
        simp only [Act.put, Qp1, Qp2, Qp3, i64_w, i32_w]
        rfl
       refine pure_ (i := 4) (N := some 24) (v := ?_) (a' := ?_) (Qbz 6 31) rfl rfl (by kernel_rfl) (fun _ _ _ h => h) (Or.inl ⟨by rfl, ?_⟩) ?_ ?_
       rotate_left
       ·intro w'
        go_simp
        with_reducible rfl
       rotate_left
       ·simp only [Act.put, Qp1, Qp2, Qp3, i64_w, i32_w]
        rfl
       refine pure_ (i := 5) (N := some 7) (v := ?_) (a' := ?_) (Qbz 6 63) rfl rfl (by kernel_rfl) (fun _ _ _ h => h) (Or.inl ⟨by rfl, ?_⟩) ?_ ?_
       rotate_left
       ·intro w'
        go_simp
        with_reducible rfl
       rotate_left
       ·simp only [Act.put, Qp1, Qp2, Qp3, i64_w, i32_w]
        rfl
       refine done_ (by kernel_rfl) ?_
       have HB3 := Aside0.mk hHeld
       go_wp2_with (go_at_call 82; refine (HOV.out _ HB3.out).mono ?_; rintro e w4 ⟨v4, rfl, hv4, hb4⟩; have hv5 : v4 = .slice none 0 0 := hv4.elim (fun h => h.2) (fun h => by cases h.1); subst hv5; have HB4 := Aside0.mk (below_step HB3.out hb4); clear hb4 hv4)
       go_roundg gi'
       case measure => omega
       case rel => exact ⟨i + 1, by go_num, by omega, HA2, ⟨below_step HBW.out HB4.out⟩⟩
      | some M =>
       rw [hf] at HOV
       have hr := HAH.out
       rw [HFI.out, decide_eq_false hq0, hf] at hr
       injection hr with hr1 hr2
       subst hr1 hr2
       clear HAH HFI hq0 hf HOU
       go_wp2
       refine start_ (n := 6) (S := fun w' => Below wr.heap.size wr w') (ds := []) (Qbz 6 0) (by kernel_rfl) rfl rfl (bWd) (fun hHeld => ?_)
       refine pure_ (i := 0) (N := some 20) (v := ?_) (a' := ?_) (Qbz 6 1) rfl rfl (by kernel_rfl) (fun _ _ _ h => h) (Or.inl ⟨by rfl, ?_⟩) ?_ ?_
       rotate_left
       ·intro w'
        go_simp
        with_reducible rfl
       rotate_left
       ·simp only [Act.put, Qp1, Qp2, Qp3, i64_w, i32_w]
        rfl
       refine pure_ (i := 2) (N := some 22) (v := ?_) (a' := ?_) (Qbz 6 5) rfl rfl (by kernel_rfl) (fun _ _ _ h => h) (Or.inl ⟨by rfl, ?_⟩) ?_ ?_
       rotate_left
       ·intro w'
        go_simp
        with_reducible rfl
       rotate_left
       ·simp only [Act.put, Qp1, Qp2, Qp3, i64_w, i32_w]
        rfl
       refine pure_ (i := 3) (N := some 23) (v := ?_) (a' := ?_) (Qbz 6 13) rfl rfl (by kernel_rfl) (fun _ _ _ h => h) (Or.inl ⟨by rfl, ?_⟩) ?_ ?_
       rotate_left
       ·intro w'
        go_simp
        with_reducible rfl
       rotate_left
       ·simp only [Act.put, Qp1, Qp2, Qp3, i64_w, i32_w]
        rfl
       refine one_ (i := 1) (N := some 21) (Qbz 6 15) rfl rfl (by kernel_rfl) (by decide) (fun K hK => ?_)
       refine goes_ Tryd.func66 (by kernel_rfl) rfl #[.slice A5 G.length c5] (by rfl) rfl rfl (by simp only [List.map_toArray, List.map_cons, List.map_nil]; rfl) ?_
       with_reducible refine (CALL.out _ hHeld).mono ?_
       rintro e w3 ⟨rfl, gB⟩
       refine ⟨_, rfl, ?_⟩
       refine hK.out _ _ (gB) (fun hHeld => ?_)
       clear hK K
       refine norm_ (a' := ?_) ?_ ?_
       rotate_left
       ·show Act.put _ (some 21) _ = _
        simp only [Act.put, Qp1, Qp2, Qp3, i64_w, i32_w]
        rfl
       refine pure_ (i := 4) (N := some 24) (v := ?_) (a' := ?_) (Qbz 6 31) rfl rfl (by kernel_rfl) (fun _ _ _ h => h) (Or.inl ⟨by rfl, ?_⟩) ?_ ?_
       rotate_left
       ·intro w'
        go_simp
        with_reducible rfl
       rotate_left
       ·simp only [Act.put, Qp1, Qp2, Qp3, i64_w, i32_w]
        rfl
       refine pure_ (i := 5) (N := some 7) (v := ?_) (a' := ?_) (Qbz 6 63) rfl rfl (by kernel_rfl) (fun _ _ _ h => h) (Or.inl ⟨by rfl, ?_⟩) ?_ ?_
       rotate_left
       ·intro w'
        go_simp
        with_reducible rfl
       rotate_left
       ·simp only [Act.put, Qp1, Qp2, Qp3, i64_w, i32_w]
        rfl
       refine done_ (by kernel_rfl) ?_
       have HB3 := Aside0.mk hHeld
       go_wp2_with (go_at_call 82; refine (HOV.out _ HB3.out).mono ?_; rintro e w4 ⟨v4, rfl, hv4, hb4⟩; obtain ⟨a4, n4, c4, rfl⟩ : ∃ a n c, v4 = .slice (some a) n c := hv4.elim (fun h => by cases h.1) (fun h => h.2); have HB4 := Aside0.mk (below_step HB3.out hb4); clear hb4 hv4)
       go_ret2
       exact ⟨rfl, below_step HB1.out (below_step HBW.out HB4.out)⟩
    ·have hi1 : ((i : Int) < (G.length : Int)) = False := eq_false (by omega)
     have hi2 : decide ((i : Int) < (G.length : Int)) = false := decide_eq_false (by omega)
     have hr := HA.out
     rw [List.drop_eq_nil_of_le (by simp; omega)] at hr
     injection hr with hr1 hr2
     subst hr1 hr2
     clear HA
     go_wp2
     go_ret2
     exact ⟨rfl, below_step HB1.out HBW.out⟩
 ·rw [if_neg hlen] at h
  cases h
end Go.Proofs.YtjloppfdagfpmaaDoor.X
end
section
namespace Go.Proofs.YtjloppfdagfpmaaDoor.X
open Go.RowKit YtjloppfdagfpmaaDoorW.PrintWords YtjloppfdagfpmaaDoorW.PrintLast YtjloppfdagfpmaaDoorW.PrintMore
attribute [local go_sem] max2_int min2_int max_two min_two max_three min_three max_four min_four
/-! ### lampblacklaw07_MinorGreatest: function 11 -/
def lampblacklaw07_MinorGreatest.f (k : Nat) (l0 : List Int) : Option (Bool) := (lampblacklaw07_Few.f l0).bind fun t644 => ((minor_Greatest.f t644).bind fun bt647 => ((lampblacklaw07_Few.f l0).bind fun t649 => ((minor_Apex.f t649).bind fun bt652 => ((lampblackref07_Valid.f k l0).bind fun t654 => (if t654 = true then ((lampblackref07_Apex.f k l0).bind fun bt655 => ((lampblackref07_Greatest.f k l0).bind fun t657 => (if bt647.1 = t657 then (if bt647.2 = 0 then (if bt652.1 = bt655.1 then (if bt652.2 = bt655.2 then ((lampblacklaw07_awake.f k).bind fun t658 => (some t658)) else (some false)) else (some false)) else (some false)) else (some false)))) else (if bt647.1 = 0 then (if bt652.1 = 0 then (if bt647.2 = 2 then (if bt652.2 = 2 then ((lampblacklaw07_awake.f k).bind fun t659 => (some t659)) else (some false)) else (some false)) else (some false)) else (some false)))))))
set_option maxHeartbeats 8000000 in
set_option maxRecDepth 100000 in
theorem lampblacklaw07_MinorGreatest.calls (k : Nat) (A0 : Option Addr) (c0 : Nat) (l0 : List Int) (r : Bool) (w : World) (hGL : GL w) (hr0 : Kd.C (Kd.int .i64) w A0 l0.length l0) (hc0 : l0.length ≤ c0) (h : lampblacklaw07_MinorGreatest.f k l0 = some r) :
  Calls Tryd.prog 11 #[.slice A0 l0.length c0] w fun e w' => e = .returned (.bool r) ∧ Below w.heap.size w w' := by
 have HGL := Aside0.mk hGL
 clear hGL
 have HR0 := Aside0.mk hr0
 have HC0 := Aside0.mk hc0
 clear hr0 hc0
 have HB := Aside0.mk (Below.refl w.heap.size w)
 have H : ((lampblacklaw07_Few.f l0).bind fun t644 => ((minor_Greatest.f t644).bind fun bt647 => ((lampblacklaw07_Few.f l0).bind fun t649 => ((minor_Apex.f t649).bind fun bt652 => ((lampblackref07_Valid.f k l0).bind fun t654 => (if t654 = true then ((lampblackref07_Apex.f k l0).bind fun bt655 => ((lampblackref07_Greatest.f k l0).bind fun t657 => (if bt647.1 = t657 then (if bt647.2 = 0 then (if bt652.1 = bt655.1 then (if bt652.2 = bt655.2 then ((lampblacklaw07_awake.f k).bind fun t658 => (some t658)) else (some false)) else (some false)) else (some false)) else (some false)))) else (if bt647.1 = 0 then (if bt652.1 = 0 then (if bt647.2 = 2 then (if bt652.2 = 2 then ((lampblacklaw07_awake.f k).bind fun t659 => (some t659)) else (some false)) else (some false)) else (some false)) else (some false)))))))) = some r := h
 clear h
 replace H := Option.bind_eq_some_iff.mp H
 obtain ⟨t644, A20, H⟩ := H
 replace H : ((minor_Greatest.f t644).bind fun bt647 => ((lampblacklaw07_Few.f l0).bind fun t649 => ((minor_Apex.f t649).bind fun bt652 => ((lampblackref07_Valid.f k l0).bind fun t654 => (if t654 = true then ((lampblackref07_Apex.f k l0).bind fun bt655 => ((lampblackref07_Greatest.f k l0).bind fun t657 => (if bt647.1 = t657 then (if bt647.2 = 0 then (if bt652.1 = bt655.1 then (if bt652.2 = bt655.2 then ((lampblacklaw07_awake.f k).bind fun t658 => (some t658)) else (some false)) else (some false)) else (some false)) else (some false)))) else (if bt647.1 = 0 then (if bt652.1 = 0 then (if bt647.2 = 2 then (if bt652.2 = 2 then ((lampblacklaw07_awake.f k).bind fun t659 => (some t659)) else (some false)) else (some false)) else (some false)) else (some false))))))) = some r := H
 have A2 := Aside0.mk A20
 clear A20
 replace H := Option.bind_eq_some_iff.mp H
 obtain ⟨⟨t647, t648⟩, A30, H⟩ := H
 replace H : ((lampblacklaw07_Few.f l0).bind fun t649 => ((minor_Apex.f t649).bind fun bt652 => ((lampblackref07_Valid.f k l0).bind fun t654 => (if t654 = true then ((lampblackref07_Apex.f k l0).bind fun bt655 => ((lampblackref07_Greatest.f k l0).bind fun t657 => (if t647 = t657 then (if t648 = 0 then (if bt652.1 = bt655.1 then (if bt652.2 = bt655.2 then ((lampblacklaw07_awake.f k).bind fun t658 => (some t658)) else (some false)) else (some false)) else (some false)) else (some false)))) else (if t647 = 0 then (if bt652.1 = 0 then (if t648 = 2 then (if bt652.2 = 2 then ((lampblacklaw07_awake.f k).bind fun t659 => (some t659)) else (some false)) else (some false)) else (some false)) else (some false)))))) = some r := H
 have A3 := Aside0.mk A30
 clear A30
 replace H := Option.bind_eq_some_iff.mp H
 obtain ⟨t649, A40, H⟩ := H
 replace H : ((minor_Apex.f t649).bind fun bt652 => ((lampblackref07_Valid.f k l0).bind fun t654 => (if t654 = true then ((lampblackref07_Apex.f k l0).bind fun bt655 => ((lampblackref07_Greatest.f k l0).bind fun t657 => (if t647 = t657 then (if t648 = 0 then (if bt652.1 = bt655.1 then (if bt652.2 = bt655.2 then ((lampblacklaw07_awake.f k).bind fun t658 => (some t658)) else (some false)) else (some false)) else (some false)) else (some false)))) else (if t647 = 0 then (if bt652.1 = 0 then (if t648 = 2 then (if bt652.2 = 2 then ((lampblacklaw07_awake.f k).bind fun t659 => (some t659)) else (some false)) else (some false)) else (some false)) else (some false))))) = some r := H
 have A4 := Aside0.mk A40
 clear A40
 replace H := Option.bind_eq_some_iff.mp H
 obtain ⟨⟨t652, t653⟩, A50, H⟩ := H
 replace H : ((lampblackref07_Valid.f k l0).bind fun t654 => (if t654 = true then ((lampblackref07_Apex.f k l0).bind fun bt655 => ((lampblackref07_Greatest.f k l0).bind fun t657 => (if t647 = t657 then (if t648 = 0 then (if t652 = bt655.1 then (if t653 = bt655.2 then ((lampblacklaw07_awake.f k).bind fun t658 => (some t658)) else (some false)) else (some false)) else (some false)) else (some false)))) else (if t647 = 0 then (if t652 = 0 then (if t648 = 2 then (if t653 = 2 then ((lampblacklaw07_awake.f k).bind fun t659 => (some t659)) else (some false)) else (some false)) else (some false)) else (some false)))) = some r := H
 have A5 := Aside0.mk A50
 clear A50
 replace H := Option.bind_eq_some_iff.mp H
 obtain ⟨t654, A60, H⟩ := H
 replace H : (if t654 = true then ((lampblackref07_Apex.f k l0).bind fun bt655 => ((lampblackref07_Greatest.f k l0).bind fun t657 => (if t647 = t657 then (if t648 = 0 then (if t652 = bt655.1 then (if t653 = bt655.2 then ((lampblacklaw07_awake.f k).bind fun t658 => (some t658)) else (some false)) else (some false)) else (some false)) else (some false)))) else (if t647 = 0 then (if t652 = 0 then (if t648 = 2 then (if t653 = 2 then ((lampblacklaw07_awake.f k).bind fun t659 => (some t659)) else (some false)) else (some false)) else (some false)) else (some false))) = some r := H
 have A6 := Aside0.mk A60
 clear A60
 by_cases c7 : t654 = true
 ·subst c7
  have H1 : ((lampblackref07_Apex.f k l0).bind fun bt655 => ((lampblackref07_Greatest.f k l0).bind fun t657 => (if t647 = t657 then (if t648 = 0 then (if t652 = bt655.1 then (if t653 = bt655.2 then ((lampblacklaw07_awake.f k).bind fun t658 => (some t658)) else (some false)) else (some false)) else (some false)) else (some false)))) = some r := by rw [if_pos rfl] at H; exact H
  clear H
  have H := H1
  clear H1
  replace H := Option.bind_eq_some_iff.mp H
  obtain ⟨⟨t655, t656⟩, A80, H⟩ := H
  replace H : ((lampblackref07_Greatest.f k l0).bind fun t657 => (if t647 = t657 then (if t648 = 0 then (if t652 = t655 then (if t653 = t656 then ((lampblacklaw07_awake.f k).bind fun t658 => (some t658)) else (some false)) else (some false)) else (some false)) else (some false))) = some r := H
  have A8 := Aside0.mk A80
  clear A80
  replace H := Option.bind_eq_some_iff.mp H
  obtain ⟨t657, A90, H⟩ := H
  replace H : (if t647 = t657 then (if t648 = 0 then (if t652 = t655 then (if t653 = t656 then ((lampblacklaw07_awake.f k).bind fun t658 => (some t658)) else (some false)) else (some false)) else (some false)) else (some false)) = some r := H
  have A9 := Aside0.mk A90
  clear A90
  by_cases c10 : t647 = t657
  ·rw [if_pos c10] at H
   have c10b0 : (t647 == t657) = true := beq_iff_eq.mpr c10
   have c10b1 : (t647 != t657) = false := bne_eq_false_iff_eq.mpr c10
   clear c10
   by_cases c11 : t648 = 0
   ·rw [if_pos c11] at H
    have c11b0 : (t648 == 0) = true := beq_iff_eq.mpr c11
    have c11b1 : (t648 != 0) = false := bne_eq_false_iff_eq.mpr c11
    clear c11
    by_cases c12 : t652 = t655
    ·rw [if_pos c12] at H
     have c12b0 : (t652 == t655) = true := beq_iff_eq.mpr c12
     have c12b1 : (t652 != t655) = false := bne_eq_false_iff_eq.mpr c12
     clear c12
     by_cases c13 : t653 = t656
     ·rw [if_pos c13] at H
      have c13b0 : (t653 == t656) = true := beq_iff_eq.mpr c13
      have c13b1 : (t653 != t656) = false := bne_eq_false_iff_eq.mpr c13
      clear c13
      replace H := Option.bind_eq_some_iff.mp H
      obtain ⟨t658, A140, H⟩ := H
      replace H : (some t658) = some r := H
      have A14 := Aside0.mk A140
      clear A140
      obtain rfl := Option.some.inj H
      go_enter Tryd.func11, Tryd.ntmps11
      go_wp2_with (first | ((with_reducible refine gate_callee (f := 22) rfl ?_); refine goesL_ (some 11) rfl rfl Tryd.func22 (by kernel_rfl) rfl #[.slice A0 l0.length c0] rfl (Qls) ?_; (with_reducible refine (lampblacklaw07_Few.calls _ _ l0 t644 _ ?side1 ?side2 A2.out).mono ?_); (case side1 => exact Qsc HR0.out); (case side2 => exact HC0.out); rintro e w15 ⟨v645, rfl, ho0, hb⟩; refine ⟨_, rfl, ?_⟩; have n0_ := Aside0.mk (Kd.R_lower ho0 (below_size (Qaw))); have n1_ := Aside0.mk (below_step (Qaw) hb); clear HB; have HO646 := n0_; have HB := n1_; clear n0_ n1_; (try clear hb); (try clear hb2); (try clear hk); (try clear hi); (try clear ho0); obtain ⟨Ao16, co16, eo16⟩ := Kd.R_slice HO646.out; subst eo16) | ((with_reducible refine gate_callee (f := 53) rfl ?_); refine goesL_ (some 12) rfl rfl Tryd.func53 (by kernel_rfl) rfl #[.slice Ao16 t644.length co16] rfl (Qls) ?_; (with_reducible refine (minor_Greatest.calls (hGL := (Qlg)) _ _ t644 t647 t648 _ ?side1 ?side2 A3.out).mono ?_); (case side1 => exact Qsc (Kd.R_reads' HO646.out).2.2); (case side2 => exact (Kd.R_reads' HO646.out).2.1); rintro e w17 ⟨rfl, hb⟩; refine ⟨_, rfl, ?_⟩; have n0_ := Aside0.mk (Kd.R_below (Qro HO646.out) hb); have n1_ := Aside0.mk (below_step (Qaw) hb); clear HO646; clear HB; have HO646 := n0_; have HB := n1_; clear n0_ n1_; (try clear hb); (try clear hb2); (try clear hk); (try clear hi)) | ((with_reducible refine gate_callee (f := 22) rfl ?_); refine goesL_ (some 17) rfl rfl Tryd.func22 (by kernel_rfl) rfl #[.slice A0 l0.length c0] rfl (Qls) ?_; (with_reducible refine (lampblacklaw07_Few.calls _ _ l0 t649 _ ?side1 ?side2 A4.out).mono ?_); (case side1 => exact Qsc (Kd.C_below HR0.out HB.out)); (case side2 => exact HC0.out); rintro e w18 ⟨v650, rfl, ho0, hb⟩; refine ⟨_, rfl, ?_⟩; have n0_ := Aside0.mk (Kd.R_elder' (Qro HO646.out) (Kd.R_base ho0) hb); have n1_ := Aside0.mk (Kd.R_lower (Kd.R_new' ho0 (Kd.R_lt (Qro HO646.out))) (below_size (Qaw))); have n2_ := Aside0.mk (below_step (Qaw) hb); clear HO646; clear HB; have HO646 := n0_; have HO651 := n1_; have HB := n2_; clear n0_ n1_ n2_; (try clear hb); (try clear hb2); (try clear hk); (try clear hi); (try clear ho0); obtain ⟨Ao19, co19, eo19⟩ := Kd.R_slice HO651.out; subst eo19) | ((with_reducible refine gate_callee (f := 54) rfl ?_); refine goesL_ (some 18) rfl rfl Tryd.func54 (by kernel_rfl) rfl #[.slice Ao19 t649.length co19] rfl (Qls) ?_; (with_reducible refine (minor_Apex.calls (hGL := (Qlg)) _ _ t649 t652 t653 _ ?side1 ?side2 A5.out).mono ?_); (case side1 => exact Qsc (Kd.R_reads' HO651.out).2.2); (case side2 => exact (Kd.R_reads' HO651.out).2.1); rintro e w20 ⟨rfl, hb⟩; refine ⟨_, rfl, ?_⟩; have n0_ := Aside0.mk (Kd.R_below (Qro HO646.out) hb); have n1_ := Aside0.mk (Kd.R_below (Qro HO651.out) hb); have n2_ := Aside0.mk (below_step (Qaw) hb); clear HO646; clear HO651; clear HB; have HO646 := n0_; have HO651 := n1_; have HB := n2_; clear n0_ n1_ n2_; (try clear hb); (try clear hb2); (try clear hk); (try clear hi)) | ((with_reducible refine gate_callee (f := 16) rfl ?_); refine goesL_ (some 22) rfl rfl Tryd.func16 (by kernel_rfl) rfl #[.slice A0 l0.length c0] rfl (Qls) ?_; (with_reducible refine (lampblackref07_Valid.calls k _ _ l0 true _ ?side1 ?side2 A6.out).mono ?_); (case side1 => exact Qsc (Kd.C_below HR0.out HB.out)); (case side2 => exact HC0.out); rintro e w' ⟨rfl, ⟨nd, rfl⟩⟩; refine ⟨_, rfl, ?_⟩) | ((with_reducible refine gate_callee (f := 55) rfl ?_); refine goesL_ (some 43) rfl rfl Tryd.func55 (by kernel_rfl) rfl #[.slice A0 l0.length c0] rfl (Qls) ?_; (with_reducible refine (lampblackref07_Apex.calls k _ _ l0 t655 t656 _ ?side1 ?side2 A8.out).mono ?_); (case side1 => repeat (first | exact (Kd.C_below HR0.out (Qaw)) | (with_reducible refine Kd.C_alloc ?_ _) | (with_reducible refine Kd.C_drewN ?_ _) | (with_reducible refine Kd.C_drew ?_))); (case side2 => exact HC0.out); rintro e w21 ⟨rfl, hb⟩; refine ⟨_, rfl, ?_⟩; have n0_ := Aside0.mk (Kd.R_below (Qro HO646.out) hb); have n1_ := Aside0.mk (Kd.R_below (Qro HO651.out) hb); have n2_ := Aside0.mk (below_step (Qaw) hb); clear HO646; clear HO651; clear HB; have HO646 := n0_; have HO651 := n1_; have HB := n2_; clear n0_ n1_ n2_; (try clear hb); (try clear hb2); (try clear hk); (try clear hi)) | ((with_reducible refine gate_callee (f := 56) rfl ?_); refine goesL_ (some 48) rfl rfl Tryd.func56 (by kernel_rfl) rfl #[.slice A0 l0.length c0] rfl (Qls) ?_; (with_reducible refine (lampblackref07_Greatest.calls k _ _ l0 t657 _ ?side1 ?side2 A9.out).mono ?_); (case side1 => exact Qsc (Kd.C_below HR0.out HB.out)); (case side2 => exact HC0.out); rintro e w22 ⟨rfl, hb⟩; refine ⟨_, rfl, ?_⟩; have n0_ := Aside0.mk (Kd.R_below (Qro HO646.out) hb); have n1_ := Aside0.mk (Kd.R_below (Qro HO651.out) hb); have n2_ := Aside0.mk (below_step (Qaw) hb); clear HO646; clear HO651; clear HB; have HO646 := n0_; have HO651 := n1_; have HB := n2_; clear n0_ n1_ n2_; (try clear hb); (try clear hb2); (try clear hk); (try clear hi)) | (go_at_call 17; (with_reducible refine (lampblacklaw07_awake.calls (hGL := (Qlg)) k  t658 _ A14.out).mono ?_); rintro e w23 ⟨rfl, hb⟩; have n0_ := Aside0.mk (Kd.R_below (Qro HO646.out) hb); have n1_ := Aside0.mk (Kd.R_below (Qro HO651.out) hb); have n2_ := Aside0.mk (below_step (Qaw) hb); clear HO646; clear HO651; clear HB; have HO646 := n0_; have HO651 := n1_; have HB := n2_; clear n0_ n1_ n2_; (try clear hb); (try clear hb2); (try clear hk); (try clear hi)))
      go_ret
      exact ⟨by first | rfl | (simp [errW_none, errW_some] <;> rfl) | (simp [*, errW_none, errW_some] <;> rfl), by repeat (first | (with_reducible first | exact HB.out | apply below_alloc | apply pw_below_drewN | apply below_drew1) | exact HB.out)⟩
     ·rw [if_neg c13] at H
      have c13b0 : (t653 == t656) = false := beq_eq_false_iff_ne.mpr c13
      have c13b1 : (t653 != t656) = true := bne_iff_ne.mpr c13
      obtain rfl := Option.some.inj H
      go_enter Tryd.func11, Tryd.ntmps11
      go_wp2_with (first | ((with_reducible refine gate_callee (f := 22) rfl ?_); refine goesL_ (some 11) rfl rfl Tryd.func22 (by kernel_rfl) rfl #[.slice A0 l0.length c0] rfl (Qls) ?_; (with_reducible refine (lampblacklaw07_Few.calls _ _ l0 t644 _ ?side1 ?side2 A2.out).mono ?_); (case side1 => exact Qsc HR0.out); (case side2 => exact HC0.out); rintro e w24 ⟨v645, rfl, ho0, hb⟩; refine ⟨_, rfl, ?_⟩; have n0_ := Aside0.mk (Kd.R_lower ho0 (below_size (Qaw))); have n1_ := Aside0.mk (below_step (Qaw) hb); clear HB; have HO646 := n0_; have HB := n1_; clear n0_ n1_; (try clear hb); (try clear hb2); (try clear hk); (try clear hi); (try clear ho0); obtain ⟨Ao25, co25, eo25⟩ := Kd.R_slice HO646.out; subst eo25) | ((with_reducible refine gate_callee (f := 53) rfl ?_); refine goesL_ (some 12) rfl rfl Tryd.func53 (by kernel_rfl) rfl #[.slice Ao25 t644.length co25] rfl (Qls) ?_; (with_reducible refine (minor_Greatest.calls (hGL := (Qlg)) _ _ t644 t647 t648 _ ?side1 ?side2 A3.out).mono ?_); (case side1 => exact Qsc (Kd.R_reads' HO646.out).2.2); (case side2 => exact (Kd.R_reads' HO646.out).2.1); rintro e w26 ⟨rfl, hb⟩; refine ⟨_, rfl, ?_⟩; have n0_ := Aside0.mk (Kd.R_below (Qro HO646.out) hb); have n1_ := Aside0.mk (below_step (Qaw) hb); clear HO646; clear HB; have HO646 := n0_; have HB := n1_; clear n0_ n1_; (try clear hb); (try clear hb2); (try clear hk); (try clear hi)) | ((with_reducible refine gate_callee (f := 22) rfl ?_); refine goesL_ (some 17) rfl rfl Tryd.func22 (by kernel_rfl) rfl #[.slice A0 l0.length c0] rfl (Qls) ?_; (with_reducible refine (lampblacklaw07_Few.calls _ _ l0 t649 _ ?side1 ?side2 A4.out).mono ?_); (case side1 => exact Qsc (Kd.C_below HR0.out HB.out)); (case side2 => exact HC0.out); rintro e w27 ⟨v650, rfl, ho0, hb⟩; refine ⟨_, rfl, ?_⟩; have n0_ := Aside0.mk (Kd.R_elder' (Qro HO646.out) (Kd.R_base ho0) hb); have n1_ := Aside0.mk (Kd.R_lower (Kd.R_new' ho0 (Kd.R_lt (Qro HO646.out))) (below_size (Qaw))); have n2_ := Aside0.mk (below_step (Qaw) hb); clear HO646; clear HB; have HO646 := n0_; have HO651 := n1_; have HB := n2_; clear n0_ n1_ n2_; (try clear hb); (try clear hb2); (try clear hk); (try clear hi); (try clear ho0); obtain ⟨Ao28, co28, eo28⟩ := Kd.R_slice HO651.out; subst eo28) | ((with_reducible refine gate_callee (f := 54) rfl ?_); refine goesL_ (some 18) rfl rfl Tryd.func54 (by kernel_rfl) rfl #[.slice Ao28 t649.length co28] rfl (Qls) ?_; (with_reducible refine (minor_Apex.calls (hGL := (Qlg)) _ _ t649 t652 t653 _ ?side1 ?side2 A5.out).mono ?_); (case side1 => exact Qsc (Kd.R_reads' HO651.out).2.2); (case side2 => exact (Kd.R_reads' HO651.out).2.1); rintro e w29 ⟨rfl, hb⟩; refine ⟨_, rfl, ?_⟩; have n0_ := Aside0.mk (Kd.R_below (Qro HO646.out) hb); have n1_ := Aside0.mk (Kd.R_below (Qro HO651.out) hb); have n2_ := Aside0.mk (below_step (Qaw) hb); clear HO646; clear HO651; clear HB; have HO646 := n0_; have HO651 := n1_; have HB := n2_; clear n0_ n1_ n2_; (try clear hb); (try clear hb2); (try clear hk); (try clear hi)) | ((with_reducible refine gate_callee (f := 16) rfl ?_); refine goesL_ (some 22) rfl rfl Tryd.func16 (by kernel_rfl) rfl #[.slice A0 l0.length c0] rfl (Qls) ?_; (with_reducible refine (lampblackref07_Valid.calls k _ _ l0 true _ ?side1 ?side2 A6.out).mono ?_); (case side1 => exact Qsc (Kd.C_below HR0.out HB.out)); (case side2 => exact HC0.out); rintro e w' ⟨rfl, ⟨nd, rfl⟩⟩; refine ⟨_, rfl, ?_⟩) | ((with_reducible refine gate_callee (f := 55) rfl ?_); refine goesL_ (some 43) rfl rfl Tryd.func55 (by kernel_rfl) rfl #[.slice A0 l0.length c0] rfl (Qls) ?_; (with_reducible refine (lampblackref07_Apex.calls k _ _ l0 t655 t656 _ ?side1 ?side2 A8.out).mono ?_); (case side1 => repeat (first | exact (Kd.C_below HR0.out (Qaw)) | (with_reducible refine Kd.C_alloc ?_ _) | (with_reducible refine Kd.C_drewN ?_ _) | (with_reducible refine Kd.C_drew ?_))); (case side2 => exact HC0.out); rintro e w30 ⟨rfl, hb⟩; refine ⟨_, rfl, ?_⟩; have n0_ := Aside0.mk (Kd.R_below (Qro HO646.out) hb); have n1_ := Aside0.mk (Kd.R_below (Qro HO651.out) hb); have n2_ := Aside0.mk (below_step (Qaw) hb); clear HO646; clear HO651; clear HB; have HO646 := n0_; have HO651 := n1_; have HB := n2_; clear n0_ n1_ n2_; (try clear hb); (try clear hb2); (try clear hk); (try clear hi)) | ((with_reducible refine gate_callee (f := 56) rfl ?_); refine goesL_ (some 48) rfl rfl Tryd.func56 (by kernel_rfl) rfl #[.slice A0 l0.length c0] rfl (Qls) ?_; (with_reducible refine (lampblackref07_Greatest.calls k _ _ l0 t657 _ ?side1 ?side2 A9.out).mono ?_); (case side1 => exact Qsc (Kd.C_below HR0.out HB.out)); (case side2 => exact HC0.out); rintro e w31 ⟨rfl, hb⟩; refine ⟨_, rfl, ?_⟩; have n0_ := Aside0.mk (Kd.R_below (Qro HO646.out) hb); have n1_ := Aside0.mk (Kd.R_below (Qro HO651.out) hb); have n2_ := Aside0.mk (below_step (Qaw) hb); clear HO646; clear HO651; clear HB; have HO646 := n0_; have HO651 := n1_; have HB := n2_; clear n0_ n1_ n2_; (try clear hb); (try clear hb2); (try clear hk); (try clear hi)))
      go_ret
      exact ⟨by first | rfl | (simp [errW_none, errW_some] <;> rfl) | (simp [*, errW_none, errW_some] <;> rfl), by repeat (first | (with_reducible first | exact HB.out | apply below_alloc | apply pw_below_drewN | apply below_drew1) | exact HB.out)⟩
    ·rw [if_neg c12] at H
     have c12b0 : (t652 == t655) = false := beq_eq_false_iff_ne.mpr c12
     have c12b1 : (t652 != t655) = true := bne_iff_ne.mpr c12
     obtain rfl := Option.some.inj H
     go_enter Tryd.func11, Tryd.ntmps11
     go_wp2_with (first | ((with_reducible refine gate_callee (f := 22) rfl ?_); refine goesL_ (some 11) rfl rfl Tryd.func22 (by kernel_rfl) rfl #[.slice A0 l0.length c0] rfl (Qls) ?_; (with_reducible refine (lampblacklaw07_Few.calls _ _ l0 t644 _ ?side1 ?side2 A2.out).mono ?_); (case side1 => exact Qsc HR0.out); (case side2 => exact HC0.out); rintro e w32 ⟨v645, rfl, ho0, hb⟩; refine ⟨_, rfl, ?_⟩; have n0_ := Aside0.mk (Kd.R_lower ho0 (below_size (Qaw))); have n1_ := Aside0.mk (below_step (Qaw) hb); clear HB; have HO646 := n0_; have HB := n1_; clear n0_ n1_; (try clear hb); (try clear hb2); (try clear hk); (try clear hi); (try clear ho0); obtain ⟨Ao33, co33, eo33⟩ := Kd.R_slice HO646.out; subst eo33) | ((with_reducible refine gate_callee (f := 53) rfl ?_); refine goesL_ (some 12) rfl rfl Tryd.func53 (by kernel_rfl) rfl #[.slice Ao33 t644.length co33] rfl (Qls) ?_; (with_reducible refine (minor_Greatest.calls (hGL := (Qlg)) _ _ t644 t647 t648 _ ?side1 ?side2 A3.out).mono ?_); (case side1 => exact Qsc (Kd.R_reads' HO646.out).2.2); (case side2 => exact (Kd.R_reads' HO646.out).2.1); rintro e w34 ⟨rfl, hb⟩; refine ⟨_, rfl, ?_⟩; have n0_ := Aside0.mk (Kd.R_below (Qro HO646.out) hb); have n1_ := Aside0.mk (below_step (Qaw) hb); clear HO646; clear HB; have HO646 := n0_; have HB := n1_; clear n0_ n1_; (try clear hb); (try clear hb2); (try clear hk); (try clear hi)) | ((with_reducible refine gate_callee (f := 22) rfl ?_); refine goesL_ (some 17) rfl rfl Tryd.func22 (by kernel_rfl) rfl #[.slice A0 l0.length c0] rfl (Qls) ?_; (with_reducible refine (lampblacklaw07_Few.calls _ _ l0 t649 _ ?side1 ?side2 A4.out).mono ?_); (case side1 => exact Qsc (Kd.C_below HR0.out HB.out)); (case side2 => exact HC0.out); rintro e w35 ⟨v650, rfl, ho0, hb⟩; refine ⟨_, rfl, ?_⟩; have n0_ := Aside0.mk (Kd.R_elder' (Qro HO646.out) (Kd.R_base ho0) hb); have n1_ := Aside0.mk (Kd.R_lower (Kd.R_new' ho0 (Kd.R_lt (Qro HO646.out))) (below_size (Qaw))); have n2_ := Aside0.mk (below_step (Qaw) hb); clear HO646; clear HB; have HO646 := n0_; have HO651 := n1_; have HB := n2_; clear n0_ n1_ n2_; (try clear hb); (try clear hb2); (try clear hk); (try clear hi); (try clear ho0); obtain ⟨Ao36, co36, eo36⟩ := Kd.R_slice HO651.out; subst eo36) | ((with_reducible refine gate_callee (f := 54) rfl ?_); refine goesL_ (some 18) rfl rfl Tryd.func54 (by kernel_rfl) rfl #[.slice Ao36 t649.length co36] rfl (Qls) ?_; (with_reducible refine (minor_Apex.calls (hGL := (Qlg)) _ _ t649 t652 t653 _ ?side1 ?side2 A5.out).mono ?_); (case side1 => exact Qsc (Kd.R_reads' HO651.out).2.2); (case side2 => exact (Kd.R_reads' HO651.out).2.1); rintro e w37 ⟨rfl, hb⟩; refine ⟨_, rfl, ?_⟩; have n0_ := Aside0.mk (Kd.R_below (Qro HO646.out) hb); have n1_ := Aside0.mk (Kd.R_below (Qro HO651.out) hb); have n2_ := Aside0.mk (below_step (Qaw) hb); clear HO646; clear HO651; clear HB; have HO646 := n0_; have HO651 := n1_; have HB := n2_; clear n0_ n1_ n2_; (try clear hb); (try clear hb2); (try clear hk); (try clear hi)) | ((with_reducible refine gate_callee (f := 16) rfl ?_); refine goesL_ (some 22) rfl rfl Tryd.func16 (by kernel_rfl) rfl #[.slice A0 l0.length c0] rfl (Qls) ?_; (with_reducible refine (lampblackref07_Valid.calls k _ _ l0 true _ ?side1 ?side2 A6.out).mono ?_); (case side1 => exact Qsc (Kd.C_below HR0.out HB.out)); (case side2 => exact HC0.out); rintro e w' ⟨rfl, ⟨nd, rfl⟩⟩; refine ⟨_, rfl, ?_⟩) | ((with_reducible refine gate_callee (f := 55) rfl ?_); refine goesL_ (some 43) rfl rfl Tryd.func55 (by kernel_rfl) rfl #[.slice A0 l0.length c0] rfl (Qls) ?_; (with_reducible refine (lampblackref07_Apex.calls k _ _ l0 t655 t656 _ ?side1 ?side2 A8.out).mono ?_); (case side1 => repeat (first | exact (Kd.C_below HR0.out (Qaw)) | (with_reducible refine Kd.C_alloc ?_ _) | (with_reducible refine Kd.C_drewN ?_ _) | (with_reducible refine Kd.C_drew ?_))); (case side2 => exact HC0.out); rintro e w38 ⟨rfl, hb⟩; refine ⟨_, rfl, ?_⟩; have n0_ := Aside0.mk (Kd.R_below (Qro HO646.out) hb); have n1_ := Aside0.mk (Kd.R_below (Qro HO651.out) hb); have n2_ := Aside0.mk (below_step (Qaw) hb); clear HO646; clear HO651; clear HB; have HO646 := n0_; have HO651 := n1_; have HB := n2_; clear n0_ n1_ n2_; (try clear hb); (try clear hb2); (try clear hk); (try clear hi)) | ((with_reducible refine gate_callee (f := 56) rfl ?_); refine goesL_ (some 48) rfl rfl Tryd.func56 (by kernel_rfl) rfl #[.slice A0 l0.length c0] rfl (Qls) ?_; (with_reducible refine (lampblackref07_Greatest.calls k _ _ l0 t657 _ ?side1 ?side2 A9.out).mono ?_); (case side1 => exact Qsc (Kd.C_below HR0.out HB.out)); (case side2 => exact HC0.out); rintro e w39 ⟨rfl, hb⟩; refine ⟨_, rfl, ?_⟩; have n0_ := Aside0.mk (Kd.R_below (Qro HO646.out) hb); have n1_ := Aside0.mk (Kd.R_below (Qro HO651.out) hb); have n2_ := Aside0.mk (below_step (Qaw) hb); clear HO646; clear HO651; clear HB; have HO646 := n0_; have HO651 := n1_; have HB := n2_; clear n0_ n1_ n2_; (try clear hb); (try clear hb2); (try clear hk); (try clear hi)))
     go_ret
     exact ⟨by first | rfl | (simp [errW_none, errW_some] <;> rfl) | (simp [*, errW_none, errW_some] <;> rfl), by repeat (first | (with_reducible first | exact HB.out | apply below_alloc | apply pw_below_drewN | apply below_drew1) | exact HB.out)⟩
   ·rw [if_neg c11] at H
    have c11b0 : (t648 == 0) = false := beq_eq_false_iff_ne.mpr c11
    have c11b1 : (t648 != 0) = true := bne_iff_ne.mpr c11
    obtain rfl := Option.some.inj H
    go_enter Tryd.func11, Tryd.ntmps11
    go_wp2_with (first | ((with_reducible refine gate_callee (f := 22) rfl ?_); refine goesL_ (some 11) rfl rfl Tryd.func22 (by kernel_rfl) rfl #[.slice A0 l0.length c0] rfl (Qls) ?_; (with_reducible refine (lampblacklaw07_Few.calls _ _ l0 t644 _ ?side1 ?side2 A2.out).mono ?_); (case side1 => exact Qsc HR0.out); (case side2 => exact HC0.out); rintro e w40 ⟨v645, rfl, ho0, hb⟩; refine ⟨_, rfl, ?_⟩; have n0_ := Aside0.mk (Kd.R_lower ho0 (below_size (Qaw))); have n1_ := Aside0.mk (below_step (Qaw) hb); clear HB; have HO646 := n0_; have HB := n1_; clear n0_ n1_; (try clear hb); (try clear hb2); (try clear hk); (try clear hi); (try clear ho0); obtain ⟨Ao41, co41, eo41⟩ := Kd.R_slice HO646.out; subst eo41) | ((with_reducible refine gate_callee (f := 53) rfl ?_); refine goesL_ (some 12) rfl rfl Tryd.func53 (by kernel_rfl) rfl #[.slice Ao41 t644.length co41] rfl (Qls) ?_; (with_reducible refine (minor_Greatest.calls (hGL := (Qlg)) _ _ t644 t647 t648 _ ?side1 ?side2 A3.out).mono ?_); (case side1 => exact Qsc (Kd.R_reads' HO646.out).2.2); (case side2 => exact (Kd.R_reads' HO646.out).2.1); rintro e w42 ⟨rfl, hb⟩; refine ⟨_, rfl, ?_⟩; have n0_ := Aside0.mk (Kd.R_below (Qro HO646.out) hb); have n1_ := Aside0.mk (below_step (Qaw) hb); clear HO646; clear HB; have HO646 := n0_; have HB := n1_; clear n0_ n1_; (try clear hb); (try clear hb2); (try clear hk); (try clear hi)) | ((with_reducible refine gate_callee (f := 22) rfl ?_); refine goesL_ (some 17) rfl rfl Tryd.func22 (by kernel_rfl) rfl #[.slice A0 l0.length c0] rfl (Qls) ?_; (with_reducible refine (lampblacklaw07_Few.calls _ _ l0 t649 _ ?side1 ?side2 A4.out).mono ?_); (case side1 => exact Qsc (Kd.C_below HR0.out HB.out)); (case side2 => exact HC0.out); rintro e w43 ⟨v650, rfl, ho0, hb⟩; refine ⟨_, rfl, ?_⟩; have n0_ := Aside0.mk (Kd.R_elder' (Qro HO646.out) (Kd.R_base ho0) hb); have n1_ := Aside0.mk (Kd.R_lower (Kd.R_new' ho0 (Kd.R_lt (Qro HO646.out))) (below_size (Qaw))); have n2_ := Aside0.mk (below_step (Qaw) hb); clear HO646; clear HB; have HO646 := n0_; have HO651 := n1_; have HB := n2_; clear n0_ n1_ n2_; (try clear hb); (try clear hb2); (try clear hk); (try clear hi); (try clear ho0); obtain ⟨Ao44, co44, eo44⟩ := Kd.R_slice HO651.out; subst eo44) | ((with_reducible refine gate_callee (f := 54) rfl ?_); refine goesL_ (some 18) rfl rfl Tryd.func54 (by kernel_rfl) rfl #[.slice Ao44 t649.length co44] rfl (Qls) ?_; (with_reducible refine (minor_Apex.calls (hGL := (Qlg)) _ _ t649 t652 t653 _ ?side1 ?side2 A5.out).mono ?_); (case side1 => exact Qsc (Kd.R_reads' HO651.out).2.2); (case side2 => exact (Kd.R_reads' HO651.out).2.1); rintro e w45 ⟨rfl, hb⟩; refine ⟨_, rfl, ?_⟩; have n0_ := Aside0.mk (Kd.R_below (Qro HO646.out) hb); have n1_ := Aside0.mk (Kd.R_below (Qro HO651.out) hb); have n2_ := Aside0.mk (below_step (Qaw) hb); clear HO646; clear HO651; clear HB; have HO646 := n0_; have HO651 := n1_; have HB := n2_; clear n0_ n1_ n2_; (try clear hb); (try clear hb2); (try clear hk); (try clear hi)) | ((with_reducible refine gate_callee (f := 16) rfl ?_); refine goesL_ (some 22) rfl rfl Tryd.func16 (by kernel_rfl) rfl #[.slice A0 l0.length c0] rfl (Qls) ?_; (with_reducible refine (lampblackref07_Valid.calls k _ _ l0 true _ ?side1 ?side2 A6.out).mono ?_); (case side1 => exact Qsc (Kd.C_below HR0.out HB.out)); (case side2 => exact HC0.out); rintro e w' ⟨rfl, ⟨nd, rfl⟩⟩; refine ⟨_, rfl, ?_⟩) | ((with_reducible refine gate_callee (f := 55) rfl ?_); refine goesL_ (some 43) rfl rfl Tryd.func55 (by kernel_rfl) rfl #[.slice A0 l0.length c0] rfl (Qls) ?_; (with_reducible refine (lampblackref07_Apex.calls k _ _ l0 t655 t656 _ ?side1 ?side2 A8.out).mono ?_); (case side1 => repeat (first | exact (Kd.C_below HR0.out (Qaw)) | (with_reducible refine Kd.C_alloc ?_ _) | (with_reducible refine Kd.C_drewN ?_ _) | (with_reducible refine Kd.C_drew ?_))); (case side2 => exact HC0.out); rintro e w46 ⟨rfl, hb⟩; refine ⟨_, rfl, ?_⟩; have n0_ := Aside0.mk (Kd.R_below (Qro HO646.out) hb); have n1_ := Aside0.mk (Kd.R_below (Qro HO651.out) hb); have n2_ := Aside0.mk (below_step (Qaw) hb); clear HO646; clear HO651; clear HB; have HO646 := n0_; have HO651 := n1_; have HB := n2_; clear n0_ n1_ n2_; (try clear hb); (try clear hb2); (try clear hk); (try clear hi)) | ((with_reducible refine gate_callee (f := 56) rfl ?_); refine goesL_ (some 48) rfl rfl Tryd.func56 (by kernel_rfl) rfl #[.slice A0 l0.length c0] rfl (Qls) ?_; (with_reducible refine (lampblackref07_Greatest.calls k _ _ l0 t657 _ ?side1 ?side2 A9.out).mono ?_); (case side1 => exact Qsc (Kd.C_below HR0.out HB.out)); (case side2 => exact HC0.out); rintro e w47 ⟨rfl, hb⟩; refine ⟨_, rfl, ?_⟩; have n0_ := Aside0.mk (Kd.R_below (Qro HO646.out) hb); have n1_ := Aside0.mk (Kd.R_below (Qro HO651.out) hb); have n2_ := Aside0.mk (below_step (Qaw) hb); clear HO646; clear HO651; clear HB; have HO646 := n0_; have HO651 := n1_; have HB := n2_; clear n0_ n1_ n2_; (try clear hb); (try clear hb2); (try clear hk); (try clear hi)))
    go_ret
    exact ⟨by first | rfl | (simp [errW_none, errW_some] <;> rfl) | (simp [*, errW_none, errW_some] <;> rfl), by repeat (first | (with_reducible first | exact HB.out | apply below_alloc | apply pw_below_drewN | apply below_drew1) | exact HB.out)⟩
  ·rw [if_neg c10] at H
   have c10b0 : (t647 == t657) = false := beq_eq_false_iff_ne.mpr c10
   have c10b1 : (t647 != t657) = true := bne_iff_ne.mpr c10
   obtain rfl := Option.some.inj H
   go_enter Tryd.func11, Tryd.ntmps11
   go_wp2_with (first | ((with_reducible refine gate_callee (f := 22) rfl ?_); refine goesL_ (some 11) rfl rfl Tryd.func22 (by kernel_rfl) rfl #[.slice A0 l0.length c0] rfl (Qls) ?_; (with_reducible refine (lampblacklaw07_Few.calls _ _ l0 t644 _ ?side1 ?side2 A2.out).mono ?_); (case side1 => exact Qsc HR0.out); (case side2 => exact HC0.out); rintro e w48 ⟨v645, rfl, ho0, hb⟩; refine ⟨_, rfl, ?_⟩; have n0_ := Aside0.mk (Kd.R_lower ho0 (below_size (Qaw))); have n1_ := Aside0.mk (below_step (Qaw) hb); clear HB; have HO646 := n0_; have HB := n1_; clear n0_ n1_; (try clear hb); (try clear hb2); (try clear hk); (try clear hi); (try clear ho0); obtain ⟨Ao49, co49, eo49⟩ := Kd.R_slice HO646.out; subst eo49) | ((with_reducible refine gate_callee (f := 53) rfl ?_); refine goesL_ (some 12) rfl rfl Tryd.func53 (by kernel_rfl) rfl #[.slice Ao49 t644.length co49] rfl (Qls) ?_; (with_reducible refine (minor_Greatest.calls (hGL := (Qlg)) _ _ t644 t647 t648 _ ?side1 ?side2 A3.out).mono ?_); (case side1 => exact Qsc (Kd.R_reads' HO646.out).2.2); (case side2 => exact (Kd.R_reads' HO646.out).2.1); rintro e w50 ⟨rfl, hb⟩; refine ⟨_, rfl, ?_⟩; have n0_ := Aside0.mk (Kd.R_below (Qro HO646.out) hb); have n1_ := Aside0.mk (below_step (Qaw) hb); clear HO646; clear HB; have HO646 := n0_; have HB := n1_; clear n0_ n1_; (try clear hb); (try clear hb2); (try clear hk); (try clear hi)) | ((with_reducible refine gate_callee (f := 22) rfl ?_); refine goesL_ (some 17) rfl rfl Tryd.func22 (by kernel_rfl) rfl #[.slice A0 l0.length c0] rfl (Qls) ?_; (with_reducible refine (lampblacklaw07_Few.calls _ _ l0 t649 _ ?side1 ?side2 A4.out).mono ?_); (case side1 => exact Qsc (Kd.C_below HR0.out HB.out)); (case side2 => exact HC0.out); rintro e w51 ⟨v650, rfl, ho0, hb⟩; refine ⟨_, rfl, ?_⟩; have n0_ := Aside0.mk (Kd.R_elder' (Qro HO646.out) (Kd.R_base ho0) hb); have n1_ := Aside0.mk (Kd.R_lower (Kd.R_new' ho0 (Kd.R_lt (Qro HO646.out))) (below_size (Qaw))); have n2_ := Aside0.mk (below_step (Qaw) hb); clear HO646; clear HB; have HO646 := n0_; have HO651 := n1_; have HB := n2_; clear n0_ n1_ n2_; (try clear hb); (try clear hb2); (try clear hk); (try clear hi); (try clear ho0); obtain ⟨Ao52, co52, eo52⟩ := Kd.R_slice HO651.out; subst eo52) | ((with_reducible refine gate_callee (f := 54) rfl ?_); refine goesL_ (some 18) rfl rfl Tryd.func54 (by kernel_rfl) rfl #[.slice Ao52 t649.length co52] rfl (Qls) ?_; (with_reducible refine (minor_Apex.calls (hGL := (Qlg)) _ _ t649 t652 t653 _ ?side1 ?side2 A5.out).mono ?_); (case side1 => exact Qsc (Kd.R_reads' HO651.out).2.2); (case side2 => exact (Kd.R_reads' HO651.out).2.1); rintro e w53 ⟨rfl, hb⟩; refine ⟨_, rfl, ?_⟩; have n0_ := Aside0.mk (Kd.R_below (Qro HO646.out) hb); have n1_ := Aside0.mk (Kd.R_below (Qro HO651.out) hb); have n2_ := Aside0.mk (below_step (Qaw) hb); clear HO646; clear HO651; clear HB; have HO646 := n0_; have HO651 := n1_; have HB := n2_; clear n0_ n1_ n2_; (try clear hb); (try clear hb2); (try clear hk); (try clear hi)) | ((with_reducible refine gate_callee (f := 16) rfl ?_); refine goesL_ (some 22) rfl rfl Tryd.func16 (by kernel_rfl) rfl #[.slice A0 l0.length c0] rfl (Qls) ?_; (with_reducible refine (lampblackref07_Valid.calls k _ _ l0 true _ ?side1 ?side2 A6.out).mono ?_); (case side1 => exact Qsc (Kd.C_below HR0.out HB.out)); (case side2 => exact HC0.out); rintro e w' ⟨rfl, ⟨nd, rfl⟩⟩; refine ⟨_, rfl, ?_⟩) | ((with_reducible refine gate_callee (f := 55) rfl ?_); refine goesL_ (some 43) rfl rfl Tryd.func55 (by kernel_rfl) rfl #[.slice A0 l0.length c0] rfl (Qls) ?_; (with_reducible refine (lampblackref07_Apex.calls k _ _ l0 t655 t656 _ ?side1 ?side2 A8.out).mono ?_); (case side1 => repeat (first | exact (Kd.C_below HR0.out (Qaw)) | (with_reducible refine Kd.C_alloc ?_ _) | (with_reducible refine Kd.C_drewN ?_ _) | (with_reducible refine Kd.C_drew ?_))); (case side2 => exact HC0.out); rintro e w54 ⟨rfl, hb⟩; refine ⟨_, rfl, ?_⟩; have n0_ := Aside0.mk (Kd.R_below (Qro HO646.out) hb); have n1_ := Aside0.mk (Kd.R_below (Qro HO651.out) hb); have n2_ := Aside0.mk (below_step (Qaw) hb); clear HO646; clear HO651; clear HB; have HO646 := n0_; have HO651 := n1_; have HB := n2_; clear n0_ n1_ n2_; (try clear hb); (try clear hb2); (try clear hk); (try clear hi)) | ((with_reducible refine gate_callee (f := 56) rfl ?_); refine goesL_ (some 48) rfl rfl Tryd.func56 (by kernel_rfl) rfl #[.slice A0 l0.length c0] rfl (Qls) ?_; (with_reducible refine (lampblackref07_Greatest.calls k _ _ l0 t657 _ ?side1 ?side2 A9.out).mono ?_); (case side1 => exact Qsc (Kd.C_below HR0.out HB.out)); (case side2 => exact HC0.out); rintro e w55 ⟨rfl, hb⟩; refine ⟨_, rfl, ?_⟩; have n0_ := Aside0.mk (Kd.R_below (Qro HO646.out) hb); have n1_ := Aside0.mk (Kd.R_below (Qro HO651.out) hb); have n2_ := Aside0.mk (below_step (Qaw) hb); clear HO646; clear HO651; clear HB; have HO646 := n0_; have HO651 := n1_; have HB := n2_; clear n0_ n1_ n2_; (try clear hb); (try clear hb2); (try clear hk); (try clear hi)))
   go_ret
   exact ⟨by first | rfl | (simp [errW_none, errW_some] <;> rfl) | (simp [*, errW_none, errW_some] <;> rfl), by repeat (first | (with_reducible first | exact HB.out | apply below_alloc | apply pw_below_drewN | apply below_drew1) | exact HB.out)⟩
 ·replace c7 := Bool.eq_false_iff.mpr c7
  subst c7
  have H1 : (if t647 = 0 then (if t652 = 0 then (if t648 = 2 then (if t653 = 2 then ((lampblacklaw07_awake.f k).bind fun t659 => (some t659)) else (some false)) else (some false)) else (some false)) else (some false)) = some r := by rw [if_neg (show ¬ (false = true) by decide)] at H; exact H
  clear H
  have H := H1
  clear H1
  by_cases c56 : t647 = 0
  ·rw [if_pos c56] at H
   have c56b0 : (t647 == 0) = true := beq_iff_eq.mpr c56
   have c56b1 : (t647 != 0) = false := bne_eq_false_iff_eq.mpr c56
   clear c56
   by_cases c57 : t652 = 0
   ·rw [if_pos c57] at H
    have c57b0 : (t652 == 0) = true := beq_iff_eq.mpr c57
    have c57b1 : (t652 != 0) = false := bne_eq_false_iff_eq.mpr c57
    clear c57
    by_cases c58 : t648 = 2
    ·rw [if_pos c58] at H
     have c58b0 : (t648 == 2) = true := beq_iff_eq.mpr c58
     have c58b1 : (t648 != 2) = false := bne_eq_false_iff_eq.mpr c58
     clear c58
     by_cases c59 : t653 = 2
     ·rw [if_pos c59] at H
      have c59b0 : (t653 == 2) = true := beq_iff_eq.mpr c59
      have c59b1 : (t653 != 2) = false := bne_eq_false_iff_eq.mpr c59
      clear c59
      replace H := Option.bind_eq_some_iff.mp H
      obtain ⟨t659, A600, H⟩ := H
      replace H : (some t659) = some r := H
      have A60 := Aside0.mk A600
      clear A600
      obtain rfl := Option.some.inj H
      go_enter Tryd.func11, Tryd.ntmps11
      go_wp2_with (first | ((with_reducible refine gate_callee (f := 22) rfl ?_); refine goesL_ (some 11) rfl rfl Tryd.func22 (by kernel_rfl) rfl #[.slice A0 l0.length c0] rfl (Qls) ?_; (with_reducible refine (lampblacklaw07_Few.calls _ _ l0 t644 _ ?side1 ?side2 A2.out).mono ?_); (case side1 => exact Qsc HR0.out); (case side2 => exact HC0.out); rintro e w61 ⟨v645, rfl, ho0, hb⟩; refine ⟨_, rfl, ?_⟩; have n0_ := Aside0.mk (Kd.R_lower ho0 (below_size (Qaw))); have n1_ := Aside0.mk (below_step (Qaw) hb); clear HB; have HO646 := n0_; have HB := n1_; clear n0_ n1_; (try clear hb); (try clear hb2); (try clear hk); (try clear hi); (try clear ho0); obtain ⟨Ao62, co62, eo62⟩ := Kd.R_slice HO646.out; subst eo62) | ((with_reducible refine gate_callee (f := 53) rfl ?_); refine goesL_ (some 12) rfl rfl Tryd.func53 (by kernel_rfl) rfl #[.slice Ao62 t644.length co62] rfl (Qls) ?_; (with_reducible refine (minor_Greatest.calls (hGL := (Qlg)) _ _ t644 t647 t648 _ ?side1 ?side2 A3.out).mono ?_); (case side1 => exact Qsc (Kd.R_reads' HO646.out).2.2); (case side2 => exact (Kd.R_reads' HO646.out).2.1); rintro e w63 ⟨rfl, hb⟩; refine ⟨_, rfl, ?_⟩; have n0_ := Aside0.mk (Kd.R_below (Qro HO646.out) hb); have n1_ := Aside0.mk (below_step (Qaw) hb); clear HO646; clear HB; have HO646 := n0_; have HB := n1_; clear n0_ n1_; (try clear hb); (try clear hb2); (try clear hk); (try clear hi)) | ((with_reducible refine gate_callee (f := 22) rfl ?_); refine goesL_ (some 17) rfl rfl Tryd.func22 (by kernel_rfl) rfl #[.slice A0 l0.length c0] rfl (Qls) ?_; (with_reducible refine (lampblacklaw07_Few.calls _ _ l0 t649 _ ?side1 ?side2 A4.out).mono ?_); (case side1 => exact Qsc (Kd.C_below HR0.out HB.out)); (case side2 => exact HC0.out); rintro e w64 ⟨v650, rfl, ho0, hb⟩; refine ⟨_, rfl, ?_⟩; have n0_ := Aside0.mk (Kd.R_elder' (Qro HO646.out) (Kd.R_base ho0) hb); have n1_ := Aside0.mk (Kd.R_lower (Kd.R_new' ho0 (Kd.R_lt (Qro HO646.out))) (below_size (Qaw))); have n2_ := Aside0.mk (below_step (Qaw) hb); clear HO646; clear HB; have HO646 := n0_; have HO651 := n1_; have HB := n2_; clear n0_ n1_ n2_; (try clear hb); (try clear hb2); (try clear hk); (try clear hi); (try clear ho0); obtain ⟨Ao65, co65, eo65⟩ := Kd.R_slice HO651.out; subst eo65) | ((with_reducible refine gate_callee (f := 54) rfl ?_); refine goesL_ (some 18) rfl rfl Tryd.func54 (by kernel_rfl) rfl #[.slice Ao65 t649.length co65] rfl (Qls) ?_; (with_reducible refine (minor_Apex.calls (hGL := (Qlg)) _ _ t649 t652 t653 _ ?side1 ?side2 A5.out).mono ?_); (case side1 => exact Qsc (Kd.R_reads' HO651.out).2.2); (case side2 => exact (Kd.R_reads' HO651.out).2.1); rintro e w66 ⟨rfl, hb⟩; refine ⟨_, rfl, ?_⟩; have n0_ := Aside0.mk (Kd.R_below (Qro HO646.out) hb); have n1_ := Aside0.mk (Kd.R_below (Qro HO651.out) hb); have n2_ := Aside0.mk (below_step (Qaw) hb); clear HO646; clear HO651; clear HB; have HO646 := n0_; have HO651 := n1_; have HB := n2_; clear n0_ n1_ n2_; (try clear hb); (try clear hb2); (try clear hk); (try clear hi)) | ((with_reducible refine gate_callee (f := 16) rfl ?_); refine goesL_ (some 22) rfl rfl Tryd.func16 (by kernel_rfl) rfl #[.slice A0 l0.length c0] rfl (Qls) ?_; (with_reducible refine (lampblackref07_Valid.calls k _ _ l0 false _ ?side1 ?side2 A6.out).mono ?_); (case side1 => exact Qsc (Kd.C_below HR0.out HB.out)); (case side2 => exact HC0.out); rintro e w' ⟨rfl, ⟨nd, rfl⟩⟩; refine ⟨_, rfl, ?_⟩) | (go_at_call 17; (with_reducible refine (lampblacklaw07_awake.calls (hGL := (Qlg)) k  t659 _ A60.out).mono ?_); rintro e w67 ⟨rfl, hb⟩; have n0_ := Aside0.mk (Kd.R_below (Qro HO646.out) hb); have n1_ := Aside0.mk (Kd.R_below (Qro HO651.out) hb); have n2_ := Aside0.mk (below_step (Qaw) hb); clear HO646; clear HO651; clear HB; have HO646 := n0_; have HO651 := n1_; have HB := n2_; clear n0_ n1_ n2_; (try clear hb); (try clear hb2); (try clear hk); (try clear hi)))
      go_ret
      exact ⟨by first | rfl | (simp [errW_none, errW_some] <;> rfl) | (simp [*, errW_none, errW_some] <;> rfl), by repeat (first | (with_reducible first | exact HB.out | apply below_alloc | apply pw_below_drewN | apply below_drew1) | exact HB.out)⟩
     ·rw [if_neg c59] at H
      have c59b0 : (t653 == 2) = false := beq_eq_false_iff_ne.mpr c59
      have c59b1 : (t653 != 2) = true := bne_iff_ne.mpr c59
      obtain rfl := Option.some.inj H
      go_enter Tryd.func11, Tryd.ntmps11
      go_wp2_with (first | ((with_reducible refine gate_callee (f := 22) rfl ?_); refine goesL_ (some 11) rfl rfl Tryd.func22 (by kernel_rfl) rfl #[.slice A0 l0.length c0] rfl (Qls) ?_; (with_reducible refine (lampblacklaw07_Few.calls _ _ l0 t644 _ ?side1 ?side2 A2.out).mono ?_); (case side1 => exact Qsc HR0.out); (case side2 => exact HC0.out); rintro e w68 ⟨v645, rfl, ho0, hb⟩; refine ⟨_, rfl, ?_⟩; have n0_ := Aside0.mk (Kd.R_lower ho0 (below_size (Qaw))); have n1_ := Aside0.mk (below_step (Qaw) hb); clear HB; have HO646 := n0_; have HB := n1_; clear n0_ n1_; (try clear hb); (try clear hb2); (try clear hk); (try clear hi); (try clear ho0); obtain ⟨Ao69, co69, eo69⟩ := Kd.R_slice HO646.out; subst eo69) | ((with_reducible refine gate_callee (f := 53) rfl ?_); refine goesL_ (some 12) rfl rfl Tryd.func53 (by kernel_rfl) rfl #[.slice Ao69 t644.length co69] rfl (Qls) ?_; (with_reducible refine (minor_Greatest.calls (hGL := (Qlg)) _ _ t644 t647 t648 _ ?side1 ?side2 A3.out).mono ?_); (case side1 => exact Qsc (Kd.R_reads' HO646.out).2.2); (case side2 => exact (Kd.R_reads' HO646.out).2.1); rintro e w70 ⟨rfl, hb⟩; refine ⟨_, rfl, ?_⟩; have n0_ := Aside0.mk (Kd.R_below (Qro HO646.out) hb); have n1_ := Aside0.mk (below_step (Qaw) hb); clear HO646; clear HB; have HO646 := n0_; have HB := n1_; clear n0_ n1_; (try clear hb); (try clear hb2); (try clear hk); (try clear hi)) | ((with_reducible refine gate_callee (f := 22) rfl ?_); refine goesL_ (some 17) rfl rfl Tryd.func22 (by kernel_rfl) rfl #[.slice A0 l0.length c0] rfl (Qls) ?_; (with_reducible refine (lampblacklaw07_Few.calls _ _ l0 t649 _ ?side1 ?side2 A4.out).mono ?_); (case side1 => exact Qsc (Kd.C_below HR0.out HB.out)); (case side2 => exact HC0.out); rintro e w71 ⟨v650, rfl, ho0, hb⟩; refine ⟨_, rfl, ?_⟩; have n0_ := Aside0.mk (Kd.R_elder' (Qro HO646.out) (Kd.R_base ho0) hb); have n1_ := Aside0.mk (Kd.R_lower (Kd.R_new' ho0 (Kd.R_lt (Qro HO646.out))) (below_size (Qaw))); have n2_ := Aside0.mk (below_step (Qaw) hb); clear HO646; clear HB; have HO646 := n0_; have HO651 := n1_; have HB := n2_; clear n0_ n1_ n2_; (try clear hb); (try clear hb2); (try clear hk); (try clear hi); (try clear ho0); obtain ⟨Ao72, co72, eo72⟩ := Kd.R_slice HO651.out; subst eo72) | ((with_reducible refine gate_callee (f := 54) rfl ?_); refine goesL_ (some 18) rfl rfl Tryd.func54 (by kernel_rfl) rfl #[.slice Ao72 t649.length co72] rfl (Qls) ?_; (with_reducible refine (minor_Apex.calls (hGL := (Qlg)) _ _ t649 t652 t653 _ ?side1 ?side2 A5.out).mono ?_); (case side1 => exact Qsc (Kd.R_reads' HO651.out).2.2); (case side2 => exact (Kd.R_reads' HO651.out).2.1); rintro e w73 ⟨rfl, hb⟩; refine ⟨_, rfl, ?_⟩; have n0_ := Aside0.mk (Kd.R_below (Qro HO646.out) hb); have n1_ := Aside0.mk (Kd.R_below (Qro HO651.out) hb); have n2_ := Aside0.mk (below_step (Qaw) hb); clear HO646; clear HO651; clear HB; have HO646 := n0_; have HO651 := n1_; have HB := n2_; clear n0_ n1_ n2_; (try clear hb); (try clear hb2); (try clear hk); (try clear hi)) | ((with_reducible refine gate_callee (f := 16) rfl ?_); refine goesL_ (some 22) rfl rfl Tryd.func16 (by kernel_rfl) rfl #[.slice A0 l0.length c0] rfl (Qls) ?_; (with_reducible refine (lampblackref07_Valid.calls k _ _ l0 false _ ?side1 ?side2 A6.out).mono ?_); (case side1 => exact Qsc (Kd.C_below HR0.out HB.out)); (case side2 => exact HC0.out); rintro e w' ⟨rfl, ⟨nd, rfl⟩⟩; refine ⟨_, rfl, ?_⟩))
      go_ret
      exact ⟨by first | rfl | (simp [errW_none, errW_some] <;> rfl) | (simp [*, errW_none, errW_some] <;> rfl), by repeat (first | (with_reducible first | exact HB.out | apply below_alloc | apply pw_below_drewN | apply below_drew1) | exact HB.out)⟩
    ·rw [if_neg c58] at H
     have c58b0 : (t648 == 2) = false := beq_eq_false_iff_ne.mpr c58
     have c58b1 : (t648 != 2) = true := bne_iff_ne.mpr c58
     obtain rfl := Option.some.inj H
     go_enter Tryd.func11, Tryd.ntmps11
     go_wp2_with (first | ((with_reducible refine gate_callee (f := 22) rfl ?_); refine goesL_ (some 11) rfl rfl Tryd.func22 (by kernel_rfl) rfl #[.slice A0 l0.length c0] rfl (Qls) ?_; (with_reducible refine (lampblacklaw07_Few.calls _ _ l0 t644 _ ?side1 ?side2 A2.out).mono ?_); (case side1 => exact Qsc HR0.out); (case side2 => exact HC0.out); rintro e w74 ⟨v645, rfl, ho0, hb⟩; refine ⟨_, rfl, ?_⟩; have n0_ := Aside0.mk (Kd.R_lower ho0 (below_size (Qaw))); have n1_ := Aside0.mk (below_step (Qaw) hb); clear HB; have HO646 := n0_; have HB := n1_; clear n0_ n1_; (try clear hb); (try clear hb2); (try clear hk); (try clear hi); (try clear ho0); obtain ⟨Ao75, co75, eo75⟩ := Kd.R_slice HO646.out; subst eo75) | ((with_reducible refine gate_callee (f := 53) rfl ?_); refine goesL_ (some 12) rfl rfl Tryd.func53 (by kernel_rfl) rfl #[.slice Ao75 t644.length co75] rfl (Qls) ?_; (with_reducible refine (minor_Greatest.calls (hGL := (Qlg)) _ _ t644 t647 t648 _ ?side1 ?side2 A3.out).mono ?_); (case side1 => exact Qsc (Kd.R_reads' HO646.out).2.2); (case side2 => exact (Kd.R_reads' HO646.out).2.1); rintro e w76 ⟨rfl, hb⟩; refine ⟨_, rfl, ?_⟩; have n0_ := Aside0.mk (Kd.R_below (Qro HO646.out) hb); have n1_ := Aside0.mk (below_step (Qaw) hb); clear HO646; clear HB; have HO646 := n0_; have HB := n1_; clear n0_ n1_; (try clear hb); (try clear hb2); (try clear hk); (try clear hi)) | ((with_reducible refine gate_callee (f := 22) rfl ?_); refine goesL_ (some 17) rfl rfl Tryd.func22 (by kernel_rfl) rfl #[.slice A0 l0.length c0] rfl (Qls) ?_; (with_reducible refine (lampblacklaw07_Few.calls _ _ l0 t649 _ ?side1 ?side2 A4.out).mono ?_); (case side1 => exact Qsc (Kd.C_below HR0.out HB.out)); (case side2 => exact HC0.out); rintro e w77 ⟨v650, rfl, ho0, hb⟩; refine ⟨_, rfl, ?_⟩; have n0_ := Aside0.mk (Kd.R_elder' (Qro HO646.out) (Kd.R_base ho0) hb); have n1_ := Aside0.mk (Kd.R_lower (Kd.R_new' ho0 (Kd.R_lt (Qro HO646.out))) (below_size (Qaw))); have n2_ := Aside0.mk (below_step (Qaw) hb); clear HO646; clear HB; have HO646 := n0_; have HO651 := n1_; have HB := n2_; clear n0_ n1_ n2_; (try clear hb); (try clear hb2); (try clear hk); (try clear hi); (try clear ho0); obtain ⟨Ao78, co78, eo78⟩ := Kd.R_slice HO651.out; subst eo78) | ((with_reducible refine gate_callee (f := 54) rfl ?_); refine goesL_ (some 18) rfl rfl Tryd.func54 (by kernel_rfl) rfl #[.slice Ao78 t649.length co78] rfl (Qls) ?_; (with_reducible refine (minor_Apex.calls (hGL := (Qlg)) _ _ t649 t652 t653 _ ?side1 ?side2 A5.out).mono ?_); (case side1 => exact Qsc (Kd.R_reads' HO651.out).2.2); (case side2 => exact (Kd.R_reads' HO651.out).2.1); rintro e w79 ⟨rfl, hb⟩; refine ⟨_, rfl, ?_⟩; have n0_ := Aside0.mk (Kd.R_below (Qro HO646.out) hb); have n1_ := Aside0.mk (Kd.R_below (Qro HO651.out) hb); have n2_ := Aside0.mk (below_step (Qaw) hb); clear HO646; clear HO651; clear HB; have HO646 := n0_; have HO651 := n1_; have HB := n2_; clear n0_ n1_ n2_; (try clear hb); (try clear hb2); (try clear hk); (try clear hi)) | ((with_reducible refine gate_callee (f := 16) rfl ?_); refine goesL_ (some 22) rfl rfl Tryd.func16 (by kernel_rfl) rfl #[.slice A0 l0.length c0] rfl (Qls) ?_; (with_reducible refine (lampblackref07_Valid.calls k _ _ l0 false _ ?side1 ?side2 A6.out).mono ?_); (case side1 => exact Qsc (Kd.C_below HR0.out HB.out)); (case side2 => exact HC0.out); rintro e w' ⟨rfl, ⟨nd, rfl⟩⟩; refine ⟨_, rfl, ?_⟩))
     go_ret
     exact ⟨by first | rfl | (simp [errW_none, errW_some] <;> rfl) | (simp [*, errW_none, errW_some] <;> rfl), by repeat (first | (with_reducible first | exact HB.out | apply below_alloc | apply pw_below_drewN | apply below_drew1) | exact HB.out)⟩
   ·rw [if_neg c57] at H
    have c57b0 : (t652 == 0) = false := beq_eq_false_iff_ne.mpr c57
    have c57b1 : (t652 != 0) = true := bne_iff_ne.mpr c57
    obtain rfl := Option.some.inj H
    go_enter Tryd.func11, Tryd.ntmps11
    go_wp2_with (first | ((with_reducible refine gate_callee (f := 22) rfl ?_); refine goesL_ (some 11) rfl rfl Tryd.func22 (by kernel_rfl) rfl #[.slice A0 l0.length c0] rfl (Qls) ?_; (with_reducible refine (lampblacklaw07_Few.calls _ _ l0 t644 _ ?side1 ?side2 A2.out).mono ?_); (case side1 => exact Qsc HR0.out); (case side2 => exact HC0.out); rintro e w80 ⟨v645, rfl, ho0, hb⟩; refine ⟨_, rfl, ?_⟩; have n0_ := Aside0.mk (Kd.R_lower ho0 (below_size (Qaw))); have n1_ := Aside0.mk (below_step (Qaw) hb); clear HB; have HO646 := n0_; have HB := n1_; clear n0_ n1_; (try clear hb); (try clear hb2); (try clear hk); (try clear hi); (try clear ho0); obtain ⟨Ao81, co81, eo81⟩ := Kd.R_slice HO646.out; subst eo81) | ((with_reducible refine gate_callee (f := 53) rfl ?_); refine goesL_ (some 12) rfl rfl Tryd.func53 (by kernel_rfl) rfl #[.slice Ao81 t644.length co81] rfl (Qls) ?_; (with_reducible refine (minor_Greatest.calls (hGL := (Qlg)) _ _ t644 t647 t648 _ ?side1 ?side2 A3.out).mono ?_); (case side1 => exact Qsc (Kd.R_reads' HO646.out).2.2); (case side2 => exact (Kd.R_reads' HO646.out).2.1); rintro e w82 ⟨rfl, hb⟩; refine ⟨_, rfl, ?_⟩; have n0_ := Aside0.mk (Kd.R_below (Qro HO646.out) hb); have n1_ := Aside0.mk (below_step (Qaw) hb); clear HO646; clear HB; have HO646 := n0_; have HB := n1_; clear n0_ n1_; (try clear hb); (try clear hb2); (try clear hk); (try clear hi)) | ((with_reducible refine gate_callee (f := 22) rfl ?_); refine goesL_ (some 17) rfl rfl Tryd.func22 (by kernel_rfl) rfl #[.slice A0 l0.length c0] rfl (Qls) ?_; (with_reducible refine (lampblacklaw07_Few.calls _ _ l0 t649 _ ?side1 ?side2 A4.out).mono ?_); (case side1 => exact Qsc (Kd.C_below HR0.out HB.out)); (case side2 => exact HC0.out); rintro e w83 ⟨v650, rfl, ho0, hb⟩; refine ⟨_, rfl, ?_⟩; have n0_ := Aside0.mk (Kd.R_elder' (Qro HO646.out) (Kd.R_base ho0) hb); have n1_ := Aside0.mk (Kd.R_lower (Kd.R_new' ho0 (Kd.R_lt (Qro HO646.out))) (below_size (Qaw))); have n2_ := Aside0.mk (below_step (Qaw) hb); clear HO646; clear HB; have HO646 := n0_; have HO651 := n1_; have HB := n2_; clear n0_ n1_ n2_; (try clear hb); (try clear hb2); (try clear hk); (try clear hi); (try clear ho0); obtain ⟨Ao84, co84, eo84⟩ := Kd.R_slice HO651.out; subst eo84) | ((with_reducible refine gate_callee (f := 54) rfl ?_); refine goesL_ (some 18) rfl rfl Tryd.func54 (by kernel_rfl) rfl #[.slice Ao84 t649.length co84] rfl (Qls) ?_; (with_reducible refine (minor_Apex.calls (hGL := (Qlg)) _ _ t649 t652 t653 _ ?side1 ?side2 A5.out).mono ?_); (case side1 => exact Qsc (Kd.R_reads' HO651.out).2.2); (case side2 => exact (Kd.R_reads' HO651.out).2.1); rintro e w85 ⟨rfl, hb⟩; refine ⟨_, rfl, ?_⟩; have n0_ := Aside0.mk (Kd.R_below (Qro HO646.out) hb); have n1_ := Aside0.mk (Kd.R_below (Qro HO651.out) hb); have n2_ := Aside0.mk (below_step (Qaw) hb); clear HO646; clear HO651; clear HB; have HO646 := n0_; have HO651 := n1_; have HB := n2_; clear n0_ n1_ n2_; (try clear hb); (try clear hb2); (try clear hk); (try clear hi)) | ((with_reducible refine gate_callee (f := 16) rfl ?_); refine goesL_ (some 22) rfl rfl Tryd.func16 (by kernel_rfl) rfl #[.slice A0 l0.length c0] rfl (Qls) ?_; (with_reducible refine (lampblackref07_Valid.calls k _ _ l0 false _ ?side1 ?side2 A6.out).mono ?_); (case side1 => exact Qsc (Kd.C_below HR0.out HB.out)); (case side2 => exact HC0.out); rintro e w' ⟨rfl, ⟨nd, rfl⟩⟩; refine ⟨_, rfl, ?_⟩))
    go_ret
    exact ⟨by first | rfl | (simp [errW_none, errW_some] <;> rfl) | (simp [*, errW_none, errW_some] <;> rfl), by repeat (first | (with_reducible first | exact HB.out | apply below_alloc | apply pw_below_drewN | apply below_drew1) | exact HB.out)⟩
  ·rw [if_neg c56] at H
   have c56b0 : (t647 == 0) = false := beq_eq_false_iff_ne.mpr c56
   have c56b1 : (t647 != 0) = true := bne_iff_ne.mpr c56
   obtain rfl := Option.some.inj H
   go_enter Tryd.func11, Tryd.ntmps11
   go_wp2_with (first | ((with_reducible refine gate_callee (f := 22) rfl ?_); refine goesL_ (some 11) rfl rfl Tryd.func22 (by kernel_rfl) rfl #[.slice A0 l0.length c0] rfl (Qls) ?_; (with_reducible refine (lampblacklaw07_Few.calls _ _ l0 t644 _ ?side1 ?side2 A2.out).mono ?_); (case side1 => exact Qsc HR0.out); (case side2 => exact HC0.out); rintro e w86 ⟨v645, rfl, ho0, hb⟩; refine ⟨_, rfl, ?_⟩; have n0_ := Aside0.mk (Kd.R_lower ho0 (below_size (Qaw))); have n1_ := Aside0.mk (below_step (Qaw) hb); clear HB; have HO646 := n0_; have HB := n1_; clear n0_ n1_; (try clear hb); (try clear hb2); (try clear hk); (try clear hi); (try clear ho0); obtain ⟨Ao87, co87, eo87⟩ := Kd.R_slice HO646.out; subst eo87) | ((with_reducible refine gate_callee (f := 53) rfl ?_); refine goesL_ (some 12) rfl rfl Tryd.func53 (by kernel_rfl) rfl #[.slice Ao87 t644.length co87] rfl (Qls) ?_; (with_reducible refine (minor_Greatest.calls (hGL := (Qlg)) _ _ t644 t647 t648 _ ?side1 ?side2 A3.out).mono ?_); (case side1 => exact Qsc (Kd.R_reads' HO646.out).2.2); (case side2 => exact (Kd.R_reads' HO646.out).2.1); rintro e w88 ⟨rfl, hb⟩; refine ⟨_, rfl, ?_⟩; have n0_ := Aside0.mk (Kd.R_below (Qro HO646.out) hb); have n1_ := Aside0.mk (below_step (Qaw) hb); clear HO646; clear HB; have HO646 := n0_; have HB := n1_; clear n0_ n1_; (try clear hb); (try clear hb2); (try clear hk); (try clear hi)) | ((with_reducible refine gate_callee (f := 22) rfl ?_); refine goesL_ (some 17) rfl rfl Tryd.func22 (by kernel_rfl) rfl #[.slice A0 l0.length c0] rfl (Qls) ?_; (with_reducible refine (lampblacklaw07_Few.calls _ _ l0 t649 _ ?side1 ?side2 A4.out).mono ?_); (case side1 => exact Qsc (Kd.C_below HR0.out HB.out)); (case side2 => exact HC0.out); rintro e w89 ⟨v650, rfl, ho0, hb⟩; refine ⟨_, rfl, ?_⟩; have n0_ := Aside0.mk (Kd.R_elder' (Qro HO646.out) (Kd.R_base ho0) hb); have n1_ := Aside0.mk (Kd.R_lower (Kd.R_new' ho0 (Kd.R_lt (Qro HO646.out))) (below_size (Qaw))); have n2_ := Aside0.mk (below_step (Qaw) hb); clear HO646; clear HB; have HO646 := n0_; have HO651 := n1_; have HB := n2_; clear n0_ n1_ n2_; (try clear hb); (try clear hb2); (try clear hk); (try clear hi); (try clear ho0); obtain ⟨Ao90, co90, eo90⟩ := Kd.R_slice HO651.out; subst eo90) | ((with_reducible refine gate_callee (f := 54) rfl ?_); refine goesL_ (some 18) rfl rfl Tryd.func54 (by kernel_rfl) rfl #[.slice Ao90 t649.length co90] rfl (Qls) ?_; (with_reducible refine (minor_Apex.calls (hGL := (Qlg)) _ _ t649 t652 t653 _ ?side1 ?side2 A5.out).mono ?_); (case side1 => exact Qsc (Kd.R_reads' HO651.out).2.2); (case side2 => exact (Kd.R_reads' HO651.out).2.1); rintro e w91 ⟨rfl, hb⟩; refine ⟨_, rfl, ?_⟩; have n0_ := Aside0.mk (Kd.R_below (Qro HO646.out) hb); have n1_ := Aside0.mk (Kd.R_below (Qro HO651.out) hb); have n2_ := Aside0.mk (below_step (Qaw) hb); clear HO646; clear HO651; clear HB; have HO646 := n0_; have HO651 := n1_; have HB := n2_; clear n0_ n1_ n2_; (try clear hb); (try clear hb2); (try clear hk); (try clear hi)) | ((with_reducible refine gate_callee (f := 16) rfl ?_); refine goesL_ (some 22) rfl rfl Tryd.func16 (by kernel_rfl) rfl #[.slice A0 l0.length c0] rfl (Qls) ?_; (with_reducible refine (lampblackref07_Valid.calls k _ _ l0 false _ ?side1 ?side2 A6.out).mono ?_); (case side1 => exact Qsc (Kd.C_below HR0.out HB.out)); (case side2 => exact HC0.out); rintro e w' ⟨rfl, ⟨nd, rfl⟩⟩; refine ⟨_, rfl, ?_⟩))
   go_ret
   exact ⟨by first | rfl | (simp [errW_none, errW_some] <;> rfl) | (simp [*, errW_none, errW_some] <;> rfl), by repeat (first | (with_reducible first | exact HB.out | apply below_alloc | apply pw_below_drewN | apply below_drew1) | exact HB.out)⟩
end Go.Proofs.YtjloppfdagfpmaaDoor.X
end
section
namespace Go.Proofs.YtjloppfdagfpmaaDoor.X
open Go.RowKit YtjloppfdagfpmaaDoorW.PrintWords YtjloppfdagfpmaaDoorW.PrintLast YtjloppfdagfpmaaDoorW.PrintMore
attribute [local go_sem] max2_int min2_int max_two min_two max_three min_three max_four min_four
/-! ### minor_town_without: function 76 -/
def minor_town_without.l0 : Nat → Int → List Int → List Int → Int → Int → Option (List Int)
 | 0, _, _, _, _, _ => none
 | k + 1, x1, x5, x8, x9, x10 => if x10 < x9 then (if 0 ≤ x10 then (if x10 < (x8.length : Int) then (if x10 = x1 then (minor_town_without.l0 k x1 x5 x8 x9 (wrap64 (x10 + 1))) else (if 0 ≤ x1 then (if 0 ≤ (wrap64 (x1 + 1)) then (if x5.length < 17592186044416 then (minor_town_without.l0 k x1 (x5 ++ [Go.bits .or .i64 (Go.bits .and .i64 (rd x8 x10) (wrap64 ((shl .i64 1 x1) - 1))) (shl .i64 (shr .i64 (rd x8 x10) (wrap64 (x1 + 1))) x1)]) x8 x9 (wrap64 (x10 + 1))) else (none)) else (none)) else (none))) else (none)) else (none)) else (some x5)
def minor_town_without.f (k : Nat) (l0 : List Int) (a1 : Int) : Option (List Int) := minor_town_without.l0 k a1 ([] : List Int) l0 (l0.length : Int) 0
def minor_town_without.T6 : Bool × List (List Nat × List Nat) := (true, [([], []), ([], []), ([], []), ([2], [2]), ([3], [3]), ([1, 4], [1, 4]), ([], []), ([], []), ([7], [7]), ([6, 8], [6, 8]), ([], []), ([9, 10], [9, 10]), ([5, 11], [5, 11]), ([12], [12]), ([0, 13], [0, 13]), ([14, 14, 0, 1, 2, 3, 4, 5, 6, 7, 8, 9, 10, 11, 12, 13, 14], [0, 14])])
def minor_town_without.B6 : List Nat := [0, 0, 0, 4, 12, 30, 0, 0, 128, 448, 0, 1984, 4094, 8190, 16383, 32767]
theorem minor_town_without.tab6 : rtab .any (opsOf Tryd.f76 6) = minor_town_without.T6 := by kernel_rfl
theorem minor_town_without.bits6 : waitsOk minor_town_without.T6.2 minor_town_without.B6 = true := by kernel_rfl
end Go.Proofs.YtjloppfdagfpmaaDoor.X
end
section
namespace Go.Proofs.YtjloppfdagfpmaaDoor.X
open Go.RowKit YtjloppfdagfpmaaDoorW.PrintWords YtjloppfdagfpmaaDoorW.PrintLast YtjloppfdagfpmaaDoorW.PrintMore
attribute [local go_sem] max2_int min2_int max_two min_two max_three min_three max_four min_four
/-! ### minor_town_int: function 77 -/
def minor_town_int.f (l0 : List Int) : Option (List Int) := (some (([] : List Int) : List Int)).bind fun y302 => (if y302.length + l0.length < 17592186044416 then (some (y302 ++ l0)) else (none))
end Go.Proofs.YtjloppfdagfpmaaDoor.X
end
section
namespace Go.Proofs.YtjloppfdagfpmaaDoor.X
open Go.RowKit YtjloppfdagfpmaaDoorW.PrintWords YtjloppfdagfpmaaDoorW.PrintLast YtjloppfdagfpmaaDoorW.PrintMore
attribute [local go_sem] max2_int min2_int max_two min_two max_three min_three max_four min_four
/-! ### minor_Contract: function 36 -/
mutual
def minor_Contract.j0 : Nat → Int → Int → List Int → Bool → Option (List Int × Int)
 | 0, _, _, _, _ => none
 | k + 1, x1, x2, x8, x44 => if x44 = true then (some (([] : List Int), 2)) else ((minor_town_int.f x8).bind fun t313 => (if 0 ≤ x2 then (if x2 < (x8.length : Int) then (if 0 ≤ x1 then ((minor_nodes.f k (Go.bits .andNot .i64 (rd x8 x2) (shl .i64 1 x1))).bind fun t317 => (minor_Contract.l0 k x1 x2 t313 t317 (t317.length : Int) 0)) else (none)) else (none)) else (none)))
def minor_Contract.l0 : Nat → Int → Int → List Int → List Int → Int → Int → Option (List Int × Int)
 | 0, _, _, _, _, _, _ => none
 | k + 1, x1, x2, x10, x54, x55, x56 => if x56 < x55 then (if 0 ≤ x56 then (if x56 < (x54.length : Int) then ((minor_town_join.f x10 x1 (rd x54 x56)).bind fun t321 => (minor_Contract.l0 k x1 x2 t321 x54 x55 (wrap64 (x56 + 1)))) else (none)) else (none)) else ((minor_town_without.f k x10 x2).bind fun t322 => (some (t322, 0)))
end
end Go.Proofs.YtjloppfdagfpmaaDoor.X
end
section
namespace Go.Proofs.YtjloppfdagfpmaaDoor.X
open Go.RowKit YtjloppfdagfpmaaDoorW.PrintWords YtjloppfdagfpmaaDoorW.PrintLast YtjloppfdagfpmaaDoorW.PrintMore
attribute [local go_sem] max2_int min2_int max_two min_two max_three min_three max_four min_four
/-! ### lampblackref07_Contract: function 38 -/
def lampblackref07_Contract.l0 : Nat → List Int → Int → Int → List Int → Int → Int → Option (List Int)
 | 0, _, _, _, _, _, _ => none
 | k + 1, x0, x1, x2, x7, x13, x14 => if x14 < x13 then (if 0 ≤ x2 then (if x2 < (x0.length : Int) then (if 0 ≤ x14 then (if (Go.bits .and .i64 (shr .i64 (rd x0 x2) x14) 1) = 1 then (if x14 = x1 then (lampblackref07_Contract.l0 k x0 x1 x2 x7 x13 (wrap64 (x14 + 1))) else ((lampblackref07_join.f x7 x1 x14).bind fun t336 => (lampblackref07_Contract.l0 k x0 x1 x2 t336 x13 (wrap64 (x14 + 1))))) else (lampblackref07_Contract.l0 k x0 x1 x2 x7 x13 (wrap64 (x14 + 1)))) else (none)) else (none)) else (none)) else ((lampblackref07_Delete.f k x7 x2).bind fun t337 => (some t337))
end Go.Proofs.YtjloppfdagfpmaaDoor.X
end
section
/- (minor) A node less, and two neighbours made one. -/
namespace Go.Proofs.YtjloppfdagfpmaaDoor.X
open Go.RowKit YtjloppfdagfpmaaDoorW.PrintWords YtjloppfdagfpmaaDoorW.PrintLast YtjloppfdagfpmaaDoorW.PrintMore YtjloppfdagfpmaaDoor.T
theorem delete_l0 (G : List Nat) (hn : G.length ≤ 9) (hrw : ∀ i, G.getD i 0 < 2 ^ G.length) (v : Nat) (hv : v < G.length) : ∀ d i, i + d = G.length →
  Ev (fun k => lampblackref07_Delete.l0 k (v : Int) (gi (delTo G v i)) (gi G) (G.length : Int) (i : Int)) (gi (del G v)) := by
 have h9 : 2 ^ G.length ≤ 2 ^ 9 := Nat.pow_le_pow_right (by omega) hn
 have hv1 : 2 ^ v < 2 ^ G.length := Nat.pow_lt_pow_right (by omega) hv
 have hvp := Nat.two_pow_pos v
 intro d
 induction d with
 | zero =>
  intro i hi
  obtain rfl : i = G.length := by omega
  exact Ev.step (f := fun _ => some (gi (delTo G v G.length))) (fun k => by rw [lampblackref07_Delete.l0, if_neg (by omega)]) (Ev.some rfl)
 | succ d ih =>
  intro i hi
  have hwi : wrap64 ((i : Int) + 1) = ((i + 1 : Nat) : Int) := wrap_succ i (by omega)
  have next := ih (i + 1) (by omega)
  have hll : (gi (delTo G v i)).length ≤ 9 := by
   have := delTo_length G v i
   rw [gi_length]
   by_cases h : i ≤ v
   ·rw [if_pos h] at this; omega
   ·rw [if_neg h] at this; omega
  by_cases e : i = v
  ·subst e
   refine Ev.step (fun k => by rw [lampblackref07_Delete.l0, if_pos (by omega), if_pos (by omega), if_pos (by rw [gi_length]; omega), if_pos rfl, hwi]) ?_
   simpa only [delTo, if_true] using next
  ·have hrow := hrw i
   have hwv : wrap64 ((v : Int) + 1) = ((v + 1 : Nat) : Int) := wrap_succ v (by omega)
   have hs5 := small G hn hrow
   have hdiv : G.getD i 0 / 2 ^ (v + 1) ≤ G.getD i 0 := Nat.div_le_self _ _
   have hmul : G.getD i 0 / 2 ^ (v + 1) * 2 ^ v < 2 ^ 62 := Nat.lt_of_le_of_lt (Nat.mul_le_mul hdiv (Nat.le_of_lt hv1)) (Nat.lt_of_le_of_lt (Nat.mul_le_mul (Nat.le_of_lt hs5) h9) (by omega))
   have hel : Go.bits .or .i64 (Go.bits .and .i64 ((G.getD i 0 : Nat) : Int) (wrap64 ((shl .i64 1 (v : Int)) - 1))) (shl .i64 (shr .i64 ((G.getD i 0 : Nat) : Int) ((v + 1 : Nat) : Int)) (v : Int)) = ((delbits v (G.getD i 0) : Nat) : Int) := by
    rw [s_one v (by omega), w64_small _ (by omega) (by omega), show (((2 ^ v : Nat) : Int) - 1) = ((2 ^ v - 1 : Nat) : Int) by omega, b_and _ _ (big hs5) (by omega), s_shr _ _ (by omega), s_shl _ _ hmul (by omega),
     b_or _ _ (Nat.lt_of_le_of_lt Nat.and_le_left (big hs5)) hmul]
    rfl
   refine Ev.step (fun k => by rw [lampblackref07_Delete.l0, if_pos (by omega), if_pos (by omega), if_pos (by rw [gi_length]; omega), if_neg (by omega), if_pos (by omega), hwv, if_pos (by omega), if_pos (by omega), rd_gi, hel, hwi]) ?_
   have h2 : gi (delTo G v i) ++ [((delbits v (G.getD i 0) : Nat) : Int)] = gi (delTo G v (i + 1)) := by
    simp only [delTo, if_neg e]; simp [gi]
   rw [h2]
   exact next
theorem refDelete_ev (G : List Nat) (hn : G.length ≤ 9) (hrw : ∀ i, G.getD i 0 < 2 ^ G.length) (v : Nat) (hv : v < G.length) : Ev (fun k => lampblackref07_Delete.f k (gi G) (v : Int)) (gi (del G v)) := by
 unfold lampblackref07_Delete.f
 rw [gi_length]
 exact delete_l0 G hn hrw v hv G.length 0 (by omega)
end Go.Proofs.YtjloppfdagfpmaaDoor.X
end
section
/- Lists that have the numbers below n, each once. -/
namespace Go.Proofs.YtjloppfdagfpmaaDoor.T
open Go.RowKit YtjloppfdagfpmaaDoorW.PrintWords YtjloppfdagfpmaaDoorW.PrintLast YtjloppfdagfpmaaDoorW.PrintMore
def IsOrd (n : Nat) (l : List Int) : Prop := ∃ P : List Nat, l = gi P ∧ P.Nodup ∧ (∀ v ∈ P, v < n) ∧ P.length = n
theorem gi_inj {a b : List Nat} (h : gi a = gi b) : a = b := by
 induction a generalizing b with
 | nil => cases b with
  | nil => rfl
  | cons => simp [gi] at h
 | cons x a ih => cases b with
  | nil => simp [gi] at h
  | cons y b =>
   simp only [gi, List.map_cons, List.cons.injEq] at h
   rw [ih (show gi a = gi b from h.2)]
   congr 1
   omega
theorem IsOrd.of {n : Nat} {P : List Nat} (h1 : P.Nodup) (h2 : ∀ v ∈ P, v < n) : IsOrd n (gi P) ↔ P.length = n := by
 constructor
 ·rintro ⟨Q, e, _, _, h⟩
  rw [gi_inj e]; exact h
 ·intro h; exact ⟨P, rfl, h1, h2, h⟩
theorem IsOrd.length {n : Nat} {l : List Int} (h : IsOrd n l) : l.length = n := by
 obtain ⟨P, rfl, _, _, h⟩ := h
 rw [gi_length, h]
end Go.Proofs.YtjloppfdagfpmaaDoor.T
end
section
namespace Go.Proofs.YtjloppfdagfpmaaDoor.X
open Go.RowKit YtjloppfdagfpmaaDoorW.PrintWords YtjloppfdagfpmaaDoorW.PrintLast YtjloppfdagfpmaaDoorW.PrintMore
attribute [local go_sem] max2_int min2_int max_two min_two max_three min_three max_four min_four
/-! ### minor_CheckOuter: function 48 -/
def minor_CheckOuter.l0 : Nat → List Int → List Int → Int → List Int → Int → Int → Option (Bool × Int)
 | 0, _, _, _, _, _, _ => none
 | k + 1, x1, x6, x8, x18, x19, x20 => if x20 < x19 then (if 0 ≤ x20 then (if x20 < (x18.length : Int) then (if (rd x18 x20) < 0 then (some (false, 0)) else (if (rd x18 x20) ≥ (x6.length : Int) then (some (false, 0)) else (if 0 ≤ (rd x18 x20) then (if (Go.bits .and .i64 (shr .i64 x8 (rd x18 x20)) 1) = 1 then (some (false, 0)) else (if 0 ≤ (wrap64 (x20 + 1)) then (if (wrap64 (x20 + 1)) ≤ (x1.length : Int) then ((minor_town_crosses.f k x6 (x1.take ((wrap64 (x20 + 1)) : Int).toNat)).bind fun t534 => (if t534 = true then (some (false, 0)) else (minor_CheckOuter.l0 k x1 x6 (Go.bits .or .i64 x8 (shl .i64 1 (rd x18 x20))) x18 x19 (wrap64 (x20 + 1))))) else (none)) else (none))) else (none)))) else (none)) else (none)) else ((minor_town_all.f x6).bind fun t535 => (some ((x8 == t535), 0)))
end Go.Proofs.YtjloppfdagfpmaaDoor.X
end
section
/- (minor) IsOrder, IsOuter and CheckOuter: what they compute; the reference's search is the program's. -/
namespace Go.Proofs.YtjloppfdagfpmaaDoor.X
open Go.RowKit YtjloppfdagfpmaaDoorW.PrintWords YtjloppfdagfpmaaDoorW.PrintLast YtjloppfdagfpmaaDoorW.PrintMore YtjloppfdagfpmaaDoor.T
theorem cr_take {G P : List Nat} {t i j : Nat} (hi : i < t) (hj : j < t) : cr G (P.take t) i j = cr G P i j := by
 unfold cr
 simp only [List.getD_eq_getElem?_getD, List.getElem?_take_of_lt hi, List.getElem?_take_of_lt hj]
theorem cross_take {G P : List Nat} {t m : Nat} (hm : m < t) : CrossAt G (P.take t) m ↔ CrossAt G P m := by
 constructor
 ·rintro ⟨i, j, k, h1, h2, h3, h4, h5⟩
  exact ⟨i, j, k, h1, h2, h3, by rwa [cr_take (by omega) (by omega)] at h4, by rwa [cr_take (by omega) (by omega)] at h5⟩
 ·rintro ⟨i, j, k, h1, h2, h3, h4, h5⟩
  exact ⟨i, j, k, h1, h2, h3, by rwa [cr_take (by omega) (by omega)], by rwa [cr_take (by omega) (by omega)]⟩
section
variable {G l : List Nat} (hn : G.length ≤ 9) (hG : ∀ x ∈ G, x < 512) (hl : ∀ x ∈ l, x < G.length) (hll : l.length ≤ 1000)
include hn hG hl hll
end
/-! The reference's search is the program's. -/
theorem findSome_filterO {α β : Type} (p : α → Bool) (f : α → Option β) : ∀ l : List α, (l.filter p).findSome? f = l.findSome? fun v => if p v = true then f v else none
 | [] => rfl
 | a :: l => by
  cases h : p a
  ·rw [List.filter_cons_of_neg (by simp [h]), List.findSome?_cons, h, findSome_filterO p f l]
   rfl
  ·rw [List.filter_cons_of_pos h, List.findSome?_cons, List.findSome?_cons, h, findSome_filterO p f l]
   rfl
theorem findSome_congrO {α β : Type} {f g : α → Option β} : ∀ {l : List α}, (∀ v ∈ l, f v = g v) → l.findSome? f = l.findSome? g
 | [], _ => rfl
 | a :: l, h => by
  rw [List.findSome?_cons, List.findSome?_cons, h a List.mem_cons_self, findSome_congrO fun v hv => h v (List.mem_cons_of_mem _ hv)]
theorem els_nine {q n : Nat} (h : q < 2 ^ n) (hn : n ≤ 9) : els q 9 = els q n := by
 have : ∀ d, els q (n + d) = els q n := by
  intro d
  induction d with
  | zero => rfl
  | succ d ih =>
   have hb : q.testBit (n + d) = false := Nat.testBit_lt_two_pow (Nat.lt_of_lt_of_le h (Nat.pow_le_pow_right (by omega) (by omega)))
   rw [← ih]
   unfold els
   rw [show n + (d + 1) = n + d + 1 by omega, List.range_succ, List.filter_append]
   simp [hb]
 have := this (9 - n)
 rwa [show n + (9 - n) = 9 by omega] at this
theorem rO_out {G : List Nat} (hn : G.length ≤ 9) : ∀ (d : Nat) (M : List Nat) (left : Nat), left < 2 ^ G.length → (∀ v, v < G.length → (left.testBit v = true ↔ v ∉ M)) → rO G d M = if crossB G M = true then none else outN G d M left
 | 0, M, left, _, _ => by rw [rO, outN]
 | d + 1, M, left, hl, hM => by
  rw [rO, outN]
  congr 1
  rw [els_nine hl hn]
  unfold els
  rw [findSome_filterO]
  refine findSome_congrO fun v hv => ?_
  have hvn := List.mem_range.1 hv
  by_cases hb : left.testBit v = true
  ·have hvM := (hM v hvn).1 hb
   rw [if_neg (by rw [List.contains_iff_mem]; exact hvM), if_pos hb]
   refine rO_out hn d (M ++ [v]) (diff left (2 ^ v)) (Nat.lt_of_le_of_lt (diff_le _ _) hl) fun u hu => ?_
   have := diff_bset left (2 ^ v) u
   unfold bset at this
   rw [this, hM u hu, List.mem_append, List.mem_singleton]
   have h2 := two_pow_bit v u
   unfold bset at h2
   rw [h2]
   exact ⟨fun ⟨a, b⟩ c => c.elim a b, fun h => ⟨fun a => h (.inl a), fun b => h (.inr b)⟩⟩
  ·have hvM : v ∈ M := Classical.byContradiction fun h => hb ((hM v hvn).2 h)
   rw [if_pos (by rw [List.contains_iff_mem]; exact hvM), if_neg hb]
theorem pc_all : ∀ i : Fin 10, pc (2 ^ i.val - 1) 9 = i.val := by decide
theorem refOut_eq {m : Nat} {G : List Nat} (hG : Gr m G) (hm : m ≤ 9) : rO G G.length [] = outF G (2 ^ G.length - 1) := by
 have hn := hG.most
 have h0 : crossB G [] = false := by
  cases h : crossB G []
  ·rfl
  ·obtain ⟨i, j, k, _, _, h3, _⟩ := (crossB_iff G []).1 h
   simp at h3
 rw [rO_out (by omega) G.length [] (2 ^ G.length - 1) (by have := Nat.two_pow_pos G.length; omega) (fun v hv => ?_), h0]
 ·unfold outF
  have := pc_all ⟨G.length, by omega⟩
  simp only at this
  rw [this]
  rfl
 ·have := all_bit G.length v
  unfold bset at this
  rw [this]
  simp [hv]
end Go.Proofs.YtjloppfdagfpmaaDoor.X
end
section
/- (minor) Which outer orders the search finds. -/
namespace Go.Proofs.YtjloppfdagfpmaaDoor.X
open Go.RowKit YtjloppfdagfpmaaDoorW.PrintWords YtjloppfdagfpmaaDoorW.PrintLast YtjloppfdagfpmaaDoorW.PrintMore YtjloppfdagfpmaaDoor.T
theorem pc_noneO {s : Nat} (hs : s < 512) (h : pc s 9 = 0) (v : Nat) : ¬ bset s v := fun hv => by
 have hv9 : v < 9 := bit_lt hs hv
 have h2 := els_length s 9
 rw [h] at h2
 have h3 : v ∈ els s 9 := mem_els.2 ⟨hv9, hv⟩
 rw [List.length_eq_zero_iff.1 h2] at h3
 cases h3
theorem pc_less {s v d : Nat} (hs : s < 512) (h : pc s 9 = d + 1) (hv : bset s v) : diff s (2 ^ v) < 512 ∧ pc (diff s (2 ^ v)) 9 = d := by
 have hv9 : v < 9 := bit_lt hs hv
 have := diff_pc hv hv9
 exact ⟨Nat.lt_of_le_of_lt (diff_le _ _) hs, by omega⟩
theorem diff_mem {s v x : Nat} : bset (diff s (2 ^ v)) x ↔ bset s x ∧ x ≠ v := by
 rw [diff_bset, two_pow_bit]
theorem cross_last (G M : List Nat) (v : Nat) (Q : List Nat) : CrossAt G (M ++ v :: Q) M.length ↔ crossB G (M ++ [v]) = true := by
 rw [crossB_iff, List.length_append, List.length_singleton, show M.length + 1 - 1 = M.length by omega, ← cross_take (P := M ++ v :: Q) (t := M.length + 1) (by omega)]
 rw [show M ++ v :: Q = (M ++ [v]) ++ Q by simp, List.take_left' (by simp)]
theorem outN_some (G : List Nat) : ∀ (d : Nat) (M : List Nat) (left : Nat) (l : List Nat), left < 512 → pc left 9 = d → outN G d M left = some l →
  ∃ Q : List Nat, l = M ++ Q ∧ Q.Nodup ∧ (∀ v, v ∈ Q ↔ bset left v) ∧ ∀ m, M.length ≤ m → m < l.length → ¬ CrossAt G l m
 | 0, M, left, l, hs, hp, h => by
  rw [outN] at h
  obtain rfl := Option.some.inj h
  exact ⟨[], by simp, List.nodup_nil, fun v => ⟨fun h => (by cases h), fun h => absurd h (pc_noneO hs hp v)⟩, fun m h1 h2 => by omega⟩
 | d + 1, M, left, l, hs, hp, h => by
  rw [outN] at h
  obtain ⟨v, hv, h⟩ := List.exists_of_findSome?_eq_some h
  have hvb := (mem_els.1 hv).2
  by_cases hc : crossB G (M ++ [v]) = true
  ·rw [if_pos hc] at h; cases h
  ·rw [if_neg hc] at h
   obtain ⟨h1, h2⟩ := pc_less hs hp hvb
   obtain ⟨Q, rfl, h3, h4, h5⟩ := outN_some G d (M ++ [v]) (diff left (2 ^ v)) l h1 h2 h
   refine ⟨v :: Q, by simp, List.nodup_cons.2 ⟨fun hm => ((diff_mem.1 ((h4 v).1 hm)).2 rfl), h3⟩, fun x => ?_, fun m h6 h7 hx => ?_⟩
   ·rw [List.mem_cons, h4, diff_mem]
    constructor
    ·rintro (rfl | h)
     ·exact hvb
     ·exact h.1
    ·intro h
     by_cases e : x = v
     ·exact .inl e
     ·exact .inr ⟨h, e⟩
   ·by_cases e : m = M.length
    ·subst e
     rw [List.append_assoc] at hx
     exact hc ((cross_last G M v Q).1 hx)
    ·exact h5 m (by simp; omega) h7 hx
theorem outN_none (G : List Nat) : ∀ (d : Nat) (M : List Nat) (left : Nat), left < 512 → pc left 9 = d → outN G d M left = none →
  ∀ Q : List Nat, Q.Nodup → (∀ v, v ∈ Q ↔ bset left v) → ∃ m, M.length ≤ m ∧ m < (M ++ Q).length ∧ CrossAt G (M ++ Q) m
 | 0, M, left, hs, hp, h, Q, h1, h2 => by rw [outN] at h; cases h
 | d + 1, M, left, hs, hp, h, Q, h1, h2 => by
  rw [outN, List.findSome?_eq_none_iff] at h
  match Q, h1, h2 with
  | [], h1, h2 =>
   have h3 : els left 9 = [] := List.eq_nil_iff_forall_not_mem.2 fun v hv => by
    have := (h2 v).2 (mem_els.1 hv).2
    cases this
   have h4 := els_length left 9
   rw [h3, hp] at h4
   simp at h4
  | v :: Q, h1, h2 =>
   have hvb := (h2 v).1 List.mem_cons_self
   have hv9 : v < 9 := bit_lt hs hvb
   have h := h v (mem_els.2 ⟨hv9, hvb⟩)
   by_cases hc : crossB G (M ++ [v]) = true
   ·exact ⟨M.length, Nat.le_refl _, by simp, (cross_last G M v Q).2 hc⟩
   ·rw [if_neg hc] at h
    obtain ⟨h3, h4⟩ := pc_less hs hp hvb
    rw [List.nodup_cons] at h1
    obtain ⟨m, h5, h6, h7⟩ := outN_none G d (M ++ [v]) (diff left (2 ^ v)) h3 h4 h Q h1.2 fun x => by
     rw [diff_mem, ← h2 x, List.mem_cons]
     constructor
     ·intro hx; exact ⟨.inr hx, fun e => h1.1 (e ▸ hx)⟩
     ·rintro ⟨rfl | hx, e⟩
      ·exact absurd rfl e
      ·exact hx
    rw [List.append_assoc] at h6 h7
    simp at h5
    exact ⟨m, by omega, h6, h7⟩
def OO (G : List Nat) (S : Nat → Prop) : Prop := ∃ Q : List Nat, Q.Nodup ∧ (∀ v, v ∈ Q ↔ S v) ∧ ∀ m, m < Q.length → ¬ CrossAt G Q m
theorem outF_iff (G : List Nat) {s : Nat} (hs : s < 512) : (outF G s).isSome = true ↔ OO G (bset s) := by
 unfold outF
 constructor
 ·intro h
  obtain ⟨l, hl⟩ := Option.isSome_iff_exists.1 h
  obtain ⟨Q, h1, h2, h3, h4⟩ := outN_some G _ [] s l hs rfl hl
  rw [List.nil_append] at h1
  subst h1
  exact ⟨l, h2, h3, fun m hm => h4 m (by simp) hm⟩
 ·rintro ⟨Q, h1, h2, h3⟩
  cases h : outN G (pc s 9) [] s with
  | some l => rfl
  | none =>
   obtain ⟨m, _, h5, h6⟩ := outN_none G _ [] s hs rfl h Q h1 h2
   exact absurd h6 (h3 m (by simpa using h5))
theorem cr_adj {G Q : List Nat} {i j : Nat} : cr G Q i j = true ↔ Adj G (Q.getD i 0) (Q.getD j 0) := Iff.rfl
theorem cross_map {G G' Q : List Nat} {f : Nat → Nat} (h : ∀ u ∈ Q, ∀ w ∈ Q, Adj G (f u) (f w) ↔ Adj G' u w) {m : Nat} (hm : m < Q.length) : CrossAt G (Q.map f) m ↔ CrossAt G' Q m := by
 have key : ∀ i j, i < Q.length → j < Q.length → (cr G (Q.map f) i j = true ↔ cr G' Q i j = true) := fun i j hi hj => by
  rw [cr_adj, cr_adj]
  simp only [List.getD_eq_getElem?_getD, List.getElem?_map, List.getElem?_eq_getElem hi, List.getElem?_eq_getElem hj, Option.map_some, Option.getD_some]
  exact h _ (List.getElem_mem hi) _ (List.getElem_mem hj)
 constructor
 ·rintro ⟨i, j, k, h1, h2, h3, h4, h5⟩
  exact ⟨i, j, k, h1, h2, h3, (key i k (by omega) (by omega)).1 h4, (key j m (by omega) hm).1 h5⟩
 ·rintro ⟨i, j, k, h1, h2, h3, h4, h5⟩
  exact ⟨i, j, k, h1, h2, h3, (key i k (by omega) (by omega)).2 h4, (key j m (by omega) hm).2 h5⟩
theorem OO_del {G : List Nat} {v : Nat} (hv : v < G.length) : OO (del G v) (fun u => u < G.length - 1) ↔ OO G (fun u => u < G.length ∧ u ≠ v) := by
 constructor
 ·rintro ⟨Q, h1, h2, h3⟩
  refine ⟨Q.map (T.up v), ?_, fun x => ?_, fun m hm => ?_⟩
  ·exact List.Pairwise.map _ (fun a b hab e => hab (up_inj v a b e)) h1
  ·rw [List.mem_map]
   constructor
   ·rintro ⟨u, hu, rfl⟩
    have := (h2 u).1 hu
    refine ⟨?_, up_ne v u⟩
    unfold T.up; split <;> omega
   ·rintro ⟨hx, hne⟩
    refine ⟨down v x, (h2 _).2 ?_, ?_⟩
    ·unfold down; split <;> omega
    ·exact up_onto hne
  ·rw [List.length_map] at hm
   rw [cross_map (G' := del G v) (fun u hu w hw => ?_) hm]
   ·exact h3 m hm
   ·rw [del_adj hv]
    exact ⟨fun h => ⟨(h2 u).1 hu, h⟩, fun h => h.2⟩
 ·rintro ⟨Q, h1, h2, h3⟩
  have hud : ∀ x, x ∈ Q → T.up v (down v x) = x := fun x hx => by
   exact up_onto ((h2 x).1 hx).2
  refine ⟨Q.map (down v), ?_, fun x => ?_, fun m hm => ?_⟩
  ·refine List.pairwise_map.2 (h1.imp_of_mem fun {a b} ha hb hab e => hab ?_)
   rw [← hud a ha, ← hud b hb, e]
  ·rw [List.mem_map]
   constructor
   ·rintro ⟨u, hu, rfl⟩
    have := (h2 u).1 hu
    unfold down; split <;> omega
   ·intro hx
    refine ⟨T.up v x, (h2 _).2 ⟨?_, up_ne v x⟩, ?_⟩
    ·unfold T.up; split <;> omega
    ·exact down_up v x
  ·rw [List.length_map] at hm
   rw [cross_map (G' := G) (fun u hu w hw => ?_) hm]
   ·exact h3 m hm
   ·have := (h2 u).1 hu
    rw [del_adj hv, hud u hu, hud w hw]
    exact ⟨fun h => h.2, fun h => ⟨by unfold down; split <;> omega, h⟩⟩
end Go.Proofs.YtjloppfdagfpmaaDoor.X
end
section
/- MinorGreatest, without Go and memory: Greatest returns the greatest complete graph that is a minor, and Apex the least node without which there is an outer order, or the documented error. -/
namespace Go.Proofs.YtjloppfdagfpmaaDoor.Pure
open Go.RowKit YtjloppfdagfpmaaDoorW.PrintWords YtjloppfdagfpmaaDoorW.PrintLast YtjloppfdagfpmaaDoorW.PrintMore YtjloppfdagfpmaaDoor.T YtjloppfdagfpmaaDoor.X
theorem great_spec (G : List Nat) : ∀ z, greatN G z ≤ z ∧ (greatN G z = 0 ∨ (findN G (kN (greatN G z))).isSome = true) ∧ ∀ m, greatN G z < m → m ≤ z → findN G (kN m) = none
 | 0 => ⟨Nat.le_refl _, .inl rfl, fun m h1 h2 => by simp only [greatN] at h1; omega⟩
 | z + 1 => by
  have ih := great_spec G z
  simp only [greatN]
  by_cases h : (findN G (kN (z + 1))).isSome = true
  ·rw [if_pos h]
   exact ⟨Nat.le_refl _, .inr h, fun m h1 h2 => by omega⟩
  ·rw [if_neg h]
   refine ⟨by omega, ih.2.1, fun m h1 h2 => ?_⟩
   by_cases e : m = z + 1
   ·subst e
    simpa using h
   ·exact ih.2.2 m h1 (by omega)
theorem Greatest_eq {G : List Nat} (hG : Gr 8 G) : minor_Greatest.f (gi G) = some ((greatN G (min 6 G.length) : Int), 0) := by
 have h1 := hG.most
 unfold minor_Greatest.f
 rw [gi_length, if_pos (by omega), (chk_iff 8 (by omega) _).2 ⟨G, rfl, hG⟩, gi_toNat]
 rfl
theorem Greatest_bad (g : List Int) (hl : g.length < 1000) (h : chk 8 g = false) : minor_Greatest.f g = some (0, 2) := by
 unfold minor_Greatest.f
 rw [if_pos hl, h]
 rfl
theorem great_is {G : List Nat} (hG : Gr 8 G) : ∃ n, greatN G (min 6 G.length) = n ∧ 1 ≤ n ∧ n ≤ 6 ∧ IsMnr G (kN n) ∧ (n < 6 → ¬ IsMnr G (kN (n + 1))) := by
 obtain ⟨h1, h2, h3⟩ := great_spec G (min 6 G.length)
 have hp := hG.pos
 refine ⟨_, rfl, ?_⟩
 generalize greatN G (min 6 G.length) = n at *
 have hn1 : 1 ≤ n := by
  apply Classical.byContradiction
  intro h
  have := h3 1 (by omega) (by omega)
  have h4 := find_one hG
  rw [this] at h4; cases h4
 refine ⟨hn1, by omega, ?_, fun h6 hm => ?_⟩
 ·rcases h2 with h2 | h2
  ·omega
  ·exact (find_mnr hG (by omega) (kN_gr hn1 (by omega)) (by omega)).1 h2
 ·have hl := mnr_len (mnr_k.1 hm)
  have := h3 (n + 1) (by omega) (by omega)
  have h4 := (find_mnr hG (by omega) (kN_gr (n := n + 1) (by omega) (by omega)) (by omega)).2 hm
  rw [this] at h4; cases h4
theorem k_less {G : List Nat} {m n : Nat} (h : m ≤ n) (hm : IsMnr G (kN n)) : IsMnr G (kN m) := by
 rw [mnr_k] at hm ⊢
 obtain ⟨M, h1, h2, h3⟩ := hm
 exact ⟨M, fun i hi => h1 i (by omega), fun i j x hi hj => h2 i j x (by omega) (by omega), fun i j hi hj => h3 i j (by omega) (by omega)⟩
theorem refGreat_l0 {G : List Nat} (hG : Gr 8 G) {n : Nat} (hn6 : n ≤ 6) (hm : IsMnr G (kN n)) (hno : n < 6 → ¬ IsMnr G (kN (n + 1))) : ∀ d i, 1 ≤ i → i + d = n → Ev (fun k => lampblackref07_Greatest.l0 k (gi G) (i : Int)) (n : Int) := by
 have hmod : ∀ i, 1 ≤ i → i ≤ 6 → lampblackref07_Model.f (gi G) (gi (kN i)) = some ((findN G (kN i)).elim ([], 4) fun M => (gi M, 0)) := fun i h1 h6 => by
  unfold lampblackref07_Model.f
  rw [(chk_iff 8 (by omega) _).2 ⟨G, rfl, hG⟩, (chk_iff 6 (by omega) _).2 ⟨kN i, rfl, kN_gr h1 h6⟩, gi_toNat, gi_toNat]
  rfl
 intro d
 induction d with
 | zero =>
  intro i h1 hi
  obtain rfl : i = n := by omega
  by_cases h6 : i < 6
  ·have hf : findN G (kN (i + 1)) = none := by
    cases h : findN G (kN (i + 1)) with
    | none => rfl
    | some l => exact absurd ((find_mnr hG (by omega) (kN_gr (n := i + 1) (by omega) (by omega)) (by omega)).1 (by rw [h]; rfl)) (hno h6)
   have hmo := hmod (i + 1) (by omega) (by omega)
   rw [hf] at hmo
   have hK := refK_ev (n := i + 1) (by omega) (by omega)
   refine Ev.step (fun k => by rw [lampblackref07_Greatest.l0, if_pos (by omega), wrap_succ i (by omega)]) ?_
   exact Ev.bind hK (Ev.bind1 hmo (Ev.if_neg (by simp) (Ev.some rfl)))
  ·exact Ev.step (f := fun _ => some (i : Int)) (fun k => by rw [lampblackref07_Greatest.l0, if_neg (by omega)]) (Ev.some rfl)
 | succ d ih =>
  intro i h1 hi
  obtain ⟨l, hl⟩ : ∃ l, findN G (kN (i + 1)) = some l := Option.isSome_iff_exists.1 ((find_mnr hG (by omega) (kN_gr (n := i + 1) (by omega) (by omega)) (by omega)).2 (k_less (by omega) hm))
  have hmo := hmod (i + 1) (by omega) (by omega)
  rw [hl] at hmo
  have hK := refK_ev (n := i + 1) (by omega) (by omega)
  refine Ev.step (fun k => by rw [lampblackref07_Greatest.l0, if_pos (by omega), wrap_succ i (by omega)]) ?_
  exact Ev.bind hK (Ev.bind1 hmo (Ev.if_pos rfl (ih (i + 1) (by omega) (by omega))))
/-! Apex. -/
def apexP (G : List Nat) : Int × Int := ((List.range G.length).find? (apexB G)).elim (0, 4) fun v => ((v : Int), 0)
theorem Apex_eq {G : List Nat} (hG : Gr 8 G) : minor_Apex.f (gi G) = some (apexP G) := by
 have h1 := hG.most
 unfold minor_Apex.f
 rw [gi_length, if_pos (by omega), (chk_iff 8 (by omega) _).2 ⟨G, rfl, hG⟩, gi_toNat]
 rfl
theorem Apex_bad (g : List Int) (hl : g.length < 1000) (h : chk 8 g = false) : minor_Apex.f g = some (0, 2) := by
 unfold minor_Apex.f
 rw [if_pos hl, h]
 rfl
theorem all_small {n : Nat} (hn : n ≤ 9) : 2 ^ n - 1 < 512 := by
 have : 2 ^ n ≤ 2 ^ 9 := Nat.pow_le_pow_right (by omega) hn
 have := Nat.two_pow_pos n
 omega
theorem oo_ext {G : List Nat} {S S' : Nat → Prop} (h : ∀ u, S u ↔ S' u) : OO G S ↔ OO G S' := by
 rw [show S = S' from funext fun u => propext (h u)]
theorem apex_iff {G : List Nat} (hG : Gr 8 G) (hn : 2 ≤ G.length) {v : Nat} (hv : v < G.length) : apexB G v = (outF (del G v) (2 ^ (del G v).length - 1)).isSome := by
 have h8 := hG.most
 have hne : diff (2 ^ G.length - 1) (2 ^ v) ≠ 0 := fun h => by
  have h2 : bset (diff (2 ^ G.length - 1) (2 ^ v)) (if v = 0 then 1 else 0) := by
   rw [diff_mem, all_bit]
   split <;> omega
  rw [h] at h2
  simp [bset] at h2
 have hs : diff (2 ^ G.length - 1) (2 ^ v) < 512 := Nat.lt_of_le_of_lt (diff_le _ _) (all_small (by omega))
 have hdl := del_length hv
 unfold apexB
 rw [decide_eq_false hne, Bool.false_or, Bool.eq_iff_iff, outF_iff G hs, outF_iff (del G v) (all_small (by omega))]
 rw [oo_ext (S := bset (diff (2 ^ G.length - 1) (2 ^ v))) (S' := fun u => u < G.length ∧ u ≠ v) (fun u => by rw [diff_mem, all_bit])]
 rw [oo_ext (S := bset (2 ^ (del G v).length - 1)) (S' := fun u => u < G.length - 1) (fun u => by rw [all_bit, hdl])]
 exact (OO_del hv).symm
theorem refApex_l0 {G : List Nat} (hG : Gr 8 G) (hn : 2 ≤ G.length) : ∀ d v, v + d = G.length → (∀ u, u < v → apexB G u = false) → Ev (fun k => lampblackref07_Apex.l0 k (gi G) (G.length : Int) (v : Int)) (apexP G) := by
 have h8 := hG.most
 intro d
 induction d with
 | zero =>
  intro v hv hb
  have : (List.range G.length).find? (apexB G) = none := by
   rw [List.find?_eq_none]
   intro u hu
   rw [hb u (by rw [List.mem_range] at hu; omega)]
   simp
  refine Ev.step (f := fun _ => some ((0 : Int), (4 : Int))) (fun k => by rw [lampblackref07_Apex.l0, if_neg (by omega)]) (Ev.some ?_)
  unfold apexP
  rw [this]
  rfl
 | succ d ih =>
  intro v hv hb
  have hvn : v < G.length := by omega
  have hD := del_gr hG hvn hn
  have hD9 := gr_mono hD (show 8 ≤ 9 by omega)
  have hout : lampblackref07_Outer.f (gi (del G v)) = some ((outF (del G v) (2 ^ (del G v).length - 1)).elim ([], 4) fun M => (gi M, 0)) := by
   unfold lampblackref07_Outer.f
   rw [gi_length, (chk_iff 9 (by omega) _).2 ⟨_, rfl, hD9⟩, gi_toNat, refOut_eq hD9 (by omega)]
   rfl
  have hap := apex_iff hG hn hvn
  refine Ev.step (fun k => by rw [lampblackref07_Apex.l0, if_pos (by omega), wrap_succ v (by omega)]) (Ev.bind (refDelete_ev G (by omega) hG.row v hvn) (Ev.bind1 hout ?_))
  cases h : outF (del G v) (2 ^ (del G v).length - 1) with
  | none =>
   rw [h] at hap
   refine Ev.if_neg (by simp) (ih (v + 1) (by omega) fun u hu => ?_)
   by_cases e : u = v
   ·subst e; exact hap
   ·exact hb u (by omega)
  | some l =>
   rw [h] at hap
   refine Ev.if_pos rfl (Ev.some ?_)
   have : (List.range G.length).find? (apexB G) = some v := by
    rw [List.find?_range_eq_some]
    exact ⟨hap, List.mem_range.2 hvn, fun u hu => by rw [hb u hu]; rfl⟩
   unfold apexP
   rw [this]
   rfl
theorem refApex_ev {G : List Nat} (hG : Gr 8 G) : Ev (fun k => lampblackref07_Apex.f k (gi G)) (apexP G) := by
 unfold lampblackref07_Apex.f
 rw [gi_length]
 by_cases h : G.length = 1
 ·refine Ev.if_pos (by omega) (Ev.some ?_)
  have : apexB G 0 = true := by
   unfold apexB
   rw [h]
   rfl
  unfold apexP
  rw [h]
  simp [List.range_succ, this]
 ·have := hG.pos
  exact Ev.if_neg (by omega) (refApex_l0 hG (by omega) G.length 0 (by omega) fun u h => by omega)
theorem greatest_law (g : List Int) (hg : g.length < 2 ^ 44) : Ev (fun k => lampblacklaw07_MinorGreatest.f k g) true := by
 obtain ⟨h, e, e1, e2, e3⟩ := few_eq g hg
 have hv := valid_ev g (by omega)
 unfold lampblacklaw07_MinorGreatest.f
 refine Ev.bind1 e ?_
 by_cases hc : chk 8 g = true
 ·obtain ⟨G, rfl, hG⟩ := (chk_iff 8 (by omega) _).1 hc
  rw [e1 hc] at e ⊢
  rw [hc] at hv
  obtain ⟨n, h0, h1, h6, hm, hno⟩ := great_is hG
  have hg2 := refGreat_l0 hG h6 hm hno (n - 1) 1 (by omega) (by omega)
  have hgr := Greatest_eq hG
  rw [h0] at hgr
  exact Ev.bind1 hgr (Ev.bind1 e (Ev.bind1 (Apex_eq hG) (Ev.bind hv (Ev.if_pos rfl (Ev.bind (refApex_ev hG) (Ev.bind hg2 (Ev.if_pos rfl (Ev.if_pos rfl (Ev.if_pos rfl (Ev.if_pos rfl (Ev.bind awake_ev (Ev.some rfl))))))))))))
 ·have hc' : chk 8 g = false := by simpa using hc
  rw [hc'] at hv
  exact Ev.bind1 (Greatest_bad h (by omega) (e2 hc')) (Ev.bind1 e (Ev.bind1 (Apex_bad h (by omega) (e2 hc')) (Ev.bind hv (Ev.if_neg (by simp) (Ev.if_pos rfl (Ev.if_pos rfl (Ev.if_pos rfl (Ev.if_pos rfl (Ev.bind awake_ev (Ev.some rfl))))))))))
theorem MinorGreatest : ∀ (l0 : List Int), l0.length ≤ maxLen → l0.length * 8 ≤ 140737488351232 → (∀ x ∈ l0, (Lit.int .i64 x).wf = true) → ∃ k, lampblacklaw07_MinorGreatest.f k l0 = some true := by
 intro g _ hg _
 exact Ev.rounds (greatest_law g (by omega))
end Go.Proofs.YtjloppfdagfpmaaDoor.Pure
end
