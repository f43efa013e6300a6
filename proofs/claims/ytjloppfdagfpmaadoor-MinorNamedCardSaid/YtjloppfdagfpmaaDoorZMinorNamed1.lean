/- Part 1 of what MinorNamed rests on: contracts of the functions that it reaches, and what they compute, in plain words. -/
import Derived.Test.YtjloppfdagfpmaaDoorZMinorNamed0
import Derived.WalkSpells
set_option linter.unusedVariables false
set_option linter.unusedSimpArgs false
section
namespace Go.Proofs.YtjloppfdagfpmaaDoor.X
open Go.RowKit YtjloppfdagfpmaaDoorW.PrintWords YtjloppfdagfpmaaDoorW.PrintLast YtjloppfdagfpmaaDoorW.PrintMore
attribute [local go_sem] max2_int min2_int max_two min_two max_three min_three max_four min_four
/-! ### minor_town_join: function 62 -/
def minor_town_join.f (l0 : List Int) (a1 : Int) (a2 : Int) : Option (List Int) := if 0 ≤ a1 then (if a1 < (l0.length : Int) then (if 0 ≤ a2 then ((some (l0.set (a1 : Int).toNat (Go.bits .or .i64 (rd l0 a1) (shl .i64 1 a2)) : List Int)).bind fun y146 => (if a2 < (l0.length : Int) then (some (y146.set (a2 : Int).toNat (Go.bits .or .i64 (rd y146 a2) (shl .i64 1 a1)))) else (none))) else (none)) else (none)) else (none)
def minor_town_join.T0 : Bool × List (List Nat × List Nat) := (true, [([], []), ([], []), ([0, 1], [0, 1]), ([2], [2]), ([], []), ([4], [4]), ([3, 5], [3, 5]), ([0, 1, 0, 1, 2, 3, 4, 5, 6], [0, 1]), ([7, 6, 0, 1, 2, 3, 4, 5, 6], [6, 7])])
def minor_town_join.B0 : List Nat := [0, 0, 3, 7, 0, 16, 63, 127, 255]
theorem minor_town_join.tab0 : rtab .any (opsOf Tryd.f62 0) = minor_town_join.T0 := by kernel_rfl
theorem minor_town_join.bits0 : waitsOk minor_town_join.T0.2 minor_town_join.B0 = true := by kernel_rfl
def minor_town_join.T1 : Bool × List (List Nat × List Nat) := (true, [([], []), ([], []), ([0, 1], [0, 1]), ([2], [2]), ([], []), ([4], [4]), ([3, 5], [3, 5]), ([0, 1, 0, 1, 2, 3, 4, 5, 6], [0, 1]), ([7, 6, 0, 1, 2, 3, 4, 5, 6], [6, 7])])
def minor_town_join.B1 : List Nat := [0, 0, 3, 7, 0, 16, 63, 127, 255]
theorem minor_town_join.tab1 : rtab .any (opsOf Tryd.f62 1) = minor_town_join.T1 := by kernel_rfl
theorem minor_town_join.bits1 : waitsOk minor_town_join.T1.2 minor_town_join.B1 = true := by kernel_rfl
set_option maxHeartbeats 8000000 in
set_option maxRecDepth 100000 in
theorem minor_town_join.calls (P0_ : Nat → Prop) (u9000_ : Value) (l0 : List Int) (a1 : Int) (a2 : Int) (r : List Int) (w0 w : World) (hB : Below w0.heap.size w0 w) (ho0 : Kd.R (Kd.int .i64) 3 w w0.heap.size P0_ u9000_ l0) (h : minor_town_join.f l0 a1 a2 = some r) :
  Calls Tryd.prog 62 #[u9000_, .int .i64 a1, .int .i64 a2] w fun e w' => e = .returned (.tuple #[]) ∧ Kd.R (Kd.int .i64) 3 w' w0.heap.size (fun k_ => (P0_ k_ ∨ w.heap.size ≤ k_)) u9000_ r ∧ Below w0.heap.size w0 w' ∧ Kept w w' (fun k_ => P0_ k_) := by
 have HO0 := Aside0.mk (show Kd.R (Kd.int .i64) 3 w w0.heap.size (fun k_ => (P0_ k_ ∨ w.heap.size ≤ k_)) u9000_ l0 from Kd.R_mono ho0 (fun k_ hk => (.inl hk)))
 have HK := Aside0.mk (Kept.refl w (fun k_ => P0_ k_))
 have HW0 := Aside0.mk hB.size
 have HB := Aside0.mk hB
 clear hB
 have H : (if 0 ≤ a1 then (if a1 < (l0.length : Int) then (if 0 ≤ a2 then ((some (l0.set (a1 : Int).toNat (Go.bits .or .i64 (rd l0 a1) (shl .i64 1 a2)) : List Int)).bind fun y146 => (if a2 < (l0.length : Int) then (some (y146.set (a2 : Int).toNat (Go.bits .or .i64 (rd y146 a2) (shl .i64 1 a1)))) else (none))) else (none)) else (none)) else (none)) = some r := h
 clear h
 by_cases c4 : 0 ≤ a1
 ·rw [if_pos c4] at H
  have c4b0 : decide (0 ≤ a1) = true := decide_eq_true c4
  clear c4
  by_cases c5 : a1 < (l0.length : Int)
  ·rw [if_pos c5] at H
   have c5b0 : decide (a1 < (l0.length : Int)) = true := decide_eq_true c5
   clear c5
   by_cases c6 : 0 ≤ a2
   ·rw [if_pos c6] at H
    have c6b0 := eq_true c6
    have c6b1 : decide (0 ≤ a2) = true := decide_eq_true c6
    clear c6
    obtain ⟨ji7, hji7⟩ : ∃ j_ : Int, (shl .i64 1 a2) = j_ := ⟨_, rfl⟩
    replace H : ((some (l0.set (a1 : Int).toNat (Go.bits .or .i64 (rd l0 a1) (ji7)) : List Int)).bind fun y146 => (if a2 < (l0.length : Int) then (some (y146.set (a2 : Int).toNat (Go.bits .or .i64 (rd y146 a2) (shl .i64 1 a1)))) else (none))) = some r := by first | (rw [hji7] at H; exact H) | (simp only [hji7] at H ⊢; exact H)
    have hji7_ : (IntKind.i64.wrap (1 * 2 ^ min a2.toNat 64)) = ji7 := hji7
    have hji7z : a2 ≤ 64 → (IntKind.i64.wrap (1 * 2 ^ a2.toNat)) = ji7 := shl_small hji7
    have hji7u : (IntKind.i64.wrap (2 ^ min a2.toNat 64)) = ji7 := by have h_ := hji7_; rw [Int.one_mul] at h_; exact h_
    have hji7v : a2 ≤ 64 → (IntKind.i64.wrap (2 ^ a2.toNat)) = ji7 := fun hle_ => by have h_ := hji7z hle_; rw [Int.one_mul] at h_; exact h_
    have hji7y : (wrap64 (1 * 2 ^ min a2.toNat 64)) = ji7 := (i64_w _).symm.trans hji7_
    have hji7x : a2 ≤ 64 → (wrap64 (1 * 2 ^ a2.toNat)) = ji7 := fun h_ => (i64_w _).symm.trans (hji7z h_)
    obtain ⟨y146, hy146⟩ : ∃ y_ : List Int, y_ = (l0.set (a1 : Int).toNat (Go.bits .or .i64 (rd l0 a1) (ji7))) := ⟨_, rfl⟩
    replace H : (if a2 < (l0.length : Int) then (some (y146.set (a2 : Int).toNat (Go.bits .or .i64 (rd y146 a2) (shl .i64 1 a1)))) else (none)) = some r := by first | (rw [hy146]; with_reducible exact H) | (have H2_ := (Option.bind_some _ _).symm.trans H; rw [hy146]; with_reducible exact H2_) | (have H2_ := (Option.bind_some _ _).symm.trans H; with_reducible exact H2_) | with_reducible exact H | (rw [hy146]; exact H) | exact H
    have Ny146 := Aside0.mk hy146
    clear hy146
    by_cases c9 : a2 < (l0.length : Int)
    ·rw [if_pos c9] at H
     have c9b0 : decide (a2 < (l0.length : Int)) = true := decide_eq_true c9
     clear c9
     have c10b0 := eq_true (of_decide_eq_true (by first | (with_reducible assumption) | assumption) : 0 ≤ a1)
     obtain ⟨ji11, hji11⟩ : ∃ j_ : Int, (shl .i64 1 a1) = j_ := ⟨_, rfl⟩
     replace H : (some (y146.set (a2 : Int).toNat (Go.bits .or .i64 (rd y146 a2) (ji11)))) = some r := by first | (rw [hji11] at H; exact H) | (simp only [hji11] at H ⊢; exact H)
     have hji11_ : (IntKind.i64.wrap (1 * 2 ^ min a1.toNat 64)) = ji11 := hji11
     have hji11z : a1 ≤ 64 → (IntKind.i64.wrap (1 * 2 ^ a1.toNat)) = ji11 := shl_small hji11
     have hji11u : (IntKind.i64.wrap (2 ^ min a1.toNat 64)) = ji11 := by have h_ := hji11_; rw [Int.one_mul] at h_; exact h_
     have hji11v : a1 ≤ 64 → (IntKind.i64.wrap (2 ^ a1.toNat)) = ji11 := fun hle_ => by have h_ := hji11z hle_; rw [Int.one_mul] at h_; exact h_
     have hji11y : (wrap64 (1 * 2 ^ min a1.toNat 64)) = ji11 := (i64_w _).symm.trans hji11_
     have hji11x : a1 ≤ 64 → (wrap64 (1 * 2 ^ a1.toNat)) = ji11 := fun h_ => (i64_w _).symm.trans (hji11z h_)
     obtain ⟨y148, hy148⟩ : ∃ y_ : List Int, y_ = (y146.set (a2 : Int).toNat (Go.bits .or .i64 (rd y146 a2) (ji11))) := ⟨_, rfl⟩
     replace H : (some y148) = some r := by first | (rw [hy148]; with_reducible exact H) | (have H2_ := (Option.bind_some _ _).symm.trans H; rw [hy148]; with_reducible exact H2_) | (have H2_ := (Option.bind_some _ _).symm.trans H; with_reducible exact H2_) | with_reducible exact H | (rw [hy148]; exact H) | exact H
     have Ny148 := Aside0.mk hy148
     clear hy148
     obtain rfl := Option.some.inj H
     go_enter Tryd.func62, Tryd.ntmps62
     try go_wp2
     have n0_ := Aside0.mk (Kd.R_drew HO0.out)
     have n1_ := Aside0.mk (Kept.drew HK.out)
     have n2_ := Aside0.mk (below_drew1 HB.out)
     clear HO0
     clear HK
     clear HB
     have HO0 := n0_
     have HK := n1_
     have HB := n2_
     clear n0_ n1_ n2_
     obtain ⟨Ao14, co14, eo14⟩ := Kd.R_slice HO0.out
     (first | subst eo14 | (injection eo14 with f1_ f2_ f3_; have f4_ := f1_.symm; have f5_ := f3_.symm; clear f1_ f2_ f3_; subst f4_; subst f5_))
     have p145 : 0 ≤ (a1 : Int) := of_decide_eq_true (by first | (with_reducible assumption) | assumption)
     have q145 : a1 < (l0.length : Int) := of_decide_eq_true (by first | (with_reducible assumption) | assumption)
     obtain ⟨ad145, e145, hx145_0⟩ := Kd.at_int (Kd.R_reads' HO0.out).2.2 a1 p145 q145
     cases e145
     replace p145 := eq_true p145
     replace q145 := eq_true q145
     have p8 : 0 ≤ (a1 : Int) := of_decide_eq_true (by first | (with_reducible assumption) | assumption)
     have q8 : (a1 : Int) < ((l0.length : Int) : Int) := of_decide_eq_true (by first | (with_reducible assumption) | assumption)
     obtain ⟨go8, co8, eo8, gb8, gl8, cl8, HG8⟩ := Kd.R_form HO0.out (by omega)
     (first | cases eo8 | (injection eo8 with ea_ en_ ec_; (first | subst ea_ | (injection ea_ with ea_; subst ea_)); subst ec_; clear en_))
     have GB8 := Aside0.mk gb8
     have GG8 := Aside0.mk HG8
     clear gb8 gl8 HG8
     have HMgo8 := Aside0.mk (show (P0_ go8 ∨ w.heap.size ≤ go8) from (HO0.out.1 _ rfl))
     (first | simp only [add_plain] at hx145_0 | skip)
     obtain ⟨hx8_0, hf8_0⟩ := Kd.R_celln 0 HO0.out (a1 : Int) p8 q8
     replace p8 := eq_true p8
     replace q8 := eq_true q8
     have HP15 := Kd.R_putn HO0.out (a1 : Int) (Go.bits .or .i64 (rd l0 a1) (ji7))
     rw [← Ny146.out] at HP15
     have HQ15 := Aside0.mk HP15
     clear HP15
     refine start_ (n := 9) (S := fun w' => w'.cell? ⟨go8, (a1).toNat, none⟩ = some (.int .i64 (rd l0 a1))) (ds := [8]) (Qbz 9 0) (by kernel_rfl) rfl rfl (hx145_0) (fun hHeld => ?_); refine with_tabW minor_town_join.tab0 minor_town_join.bits0 (fun HT_ HW_ => ?_)
     generalize w.drew = w13 at HO0 HK HB GG8 HQ15 hf8_0 hx145_0 hx8_0 hHeld ⊢
     refine pure_ (i := 0) (N := some 6) (v := ?_) (a' := ?_) (Qbz 9 1) rfl rfl (any_of HT_.out (by kernel_rfl)) (fun _ _ _ h => h) (Or.inl ⟨by rfl, ?_⟩) ?_ ?_
     rotate_left
     ·intro w'
      go_simp
      with_reducible rfl
     rotate_left
     ·simp only [Act.put, Qp1, Qp2, Qp3, i64_w, i32_w]
      rfl
     refine pure_ (i := 1) (N := some 7) (v := ?_) (a' := ?_) (Qbz 9 3) rfl rfl (any_of HT_.out (by kernel_rfl)) (fun _ _ _ h => h) (Or.inl ⟨by rfl, ?_⟩) ?_ ?_
     rotate_left
     ·intro w'
      go_simp
      with_reducible rfl
     rotate_left
     ·simp only [Act.put, Qp1, Qp2, Qp3, i64_w, i32_w]
      rfl
     refine pure_ (i := 2) (N := some 8) (v := ?_) (a' := ?_) (Qbz 9 7) rfl rfl (any_of HT_.out (by kernel_rfl)) (fun _ _ _ h => h) (Or.inl ⟨by rfl, ?_⟩) ?_ ?_
     rotate_left
     ·intro w'
      go_simp
      with_reducible rfl
     rotate_left
     ·simp only [Act.put, Qp1, Qp2, Qp3, i64_w, i32_w]
      rfl
     refine pure_ (i := 4) (N := some 10) (v := ?_) (a' := ?_) (Qbz 9 23) rfl rfl (any_of HT_.out (by kernel_rfl)) (fun _ _ _ h => h) (Or.inl ⟨by rfl, ?_⟩) ?_ ?_
     rotate_left
     ·intro w'
      go_simp
      with_reducible rfl
     rotate_left
     ·simp only [Act.put, Qp1, Qp2, Qp3, i64_w, i32_w]
      rfl
     refine pure_ (i := 5) (N := some 11) (v := ?_) (a' := ?_) (Qbz 9 55) rfl rfl (any_of HT_.out (by kernel_rfl)) (fun _ _ _ h => h) (Or.inl ⟨by rfl, ?_⟩) ?_ ?_
     rotate_left
     ·intro w'
      go_simp
      with_reducible rfl
     rotate_left
     ·simp only [Act.put, Qp1, Qp2, Qp3, i64_w, i32_w]
      rfl
     refine take_ (i := 3) (N := some 9) (v := ?_) (a' := ?_) (Qbz 9 63) rfl rfl (take_ofW HT_.out HW_.out (by kernel_rfl)) (fun _ _ _ h => h) (Or.inl ⟨by rfl, ?_⟩) hHeld ?_ ?_
     rotate_left
     ·intro w' s0
      go_simp
      with_reducible rfl
     rotate_left
     ·simp only [Act.put, Qp1, Qp2, Qp3, i64_w, i32_w]
      rfl
     refine pure_ (i := 6) (N := some 12) (v := ?_) (a' := ?_) (Qbz 9 127) rfl rfl (any_of HT_.out (by kernel_rfl)) (fun _ _ _ h => h) (Or.inl ⟨by rfl, ?_⟩) ?_ ?_
     rotate_left
     ·intro w'
      go_simp
      with_reducible rfl
     rotate_left
     ·simp only [Act.put, Qp1, Qp2, Qp3, i64_w, i32_w]
      rfl
     refine pure_ (i := 7) (N := some 13) (v := ?_) (a' := ?_) (Qbz 9 255) rfl rfl (any_of HT_.out (by kernel_rfl)) (fun _ _ _ h => h) (Or.inl ⟨by rfl, ?_⟩) ?_ ?_
     rotate_left
     ·intro w'
      go_simp
      with_reducible rfl
     rotate_left
     ·simp only [Act.put, Qp1, Qp2, Qp3, i64_w, i32_w]
      rfl
     refine last_ (i := 8) (N := none) (Qbz 9 511) rfl rfl (one_of HT_.out (by kernel_rfl)) (by decide) (fun K hK => ?_)
     refine skip_ (w1 := ?_) (by rfl) rfl ?_ ?_
     rotate_left
     ·go_simp
      rfl
     refine hK.out _ _ ?_
     clear hK K
     refine done_ (done_of HT_.out (by kernel_rfl)) ?_
     try go_wp2
     have n0_ : Aside0 (Kd.R (Kd.int .i64) 3 (w13.setCell ⟨go8, (a1 : Int).toNat, none⟩ (.int .i64 (Go.bits .or .i64 (rd l0 a1) (ji7)))) w0.heap.size (fun k_ => (P0_ k_ ∨ w.heap.size ≤ k_)) (.slice (some ⟨go8, 0, none⟩) l0.length co14) y146) := ⟨by (with_reducible repeat (first | apply Kd.R_alloc | apply Kd.R_drewN | apply Kd.R_drew)); exact HQ15.out⟩
     have n1_ : Aside0 (Kept w (w13.setCell ⟨go8, (a1 : Int).toNat, none⟩ (.int .i64 (Go.bits .or .i64 (rd l0 a1) (ji7)))) (fun k_ => P0_ k_)) := ⟨by repeat (first | (with_reducible first | exact HK.out | apply Kept.alloc | apply Kept.drewN | apply Kept.drew | refine Kept.setCell ?_ HMgo8.out _) | exact HK.out)⟩
     have n2_ : Aside0 (Below w0.heap.size w0 (w13.setCell ⟨go8, (a1 : Int).toNat, none⟩ (.int .i64 (Go.bits .or .i64 (rd l0 a1) (ji7))))) := ⟨by repeat (first | (with_reducible first | exact HB.out | apply below_alloc | apply pw_below_drewN | apply below_drew1 | refine below_set ?_ GB8.out) | exact HB.out)⟩
     (try clear HO0)
     (try clear HK)
     (try clear HB)
     generalize (w13.setCell ⟨go8, (a1 : Int).toNat, none⟩ (.int .i64 (Go.bits .or .i64 (rd l0 a1) (ji7)))) = w16 at n0_ n1_ n2_ ⊢
     have HO0 := n0_
     have HK := n1_
     have HB := n2_
     clear n0_ n1_ n2_
     have n0_ := Aside0.mk (Kd.R_drew HO0.out)
     have n1_ := Aside0.mk (Kept.drew HK.out)
     have n2_ := Aside0.mk (below_drew1 HB.out)
     clear HO0
     clear HK
     clear HB
     have HO0 := n0_
     have HK := n1_
     have HB := n2_
     clear n0_ n1_ n2_
     have p147 : 0 ≤ (a2 : Int) := of_decide_eq_true (by first | (with_reducible assumption) | assumption)
     have q147 : a2 < (y146.length : Int) := (by have h_ : (a2 : Int) < ((l0.length : Int) : Int) := of_decide_eq_true (by first | (with_reducible assumption) | assumption); first | (have e_ := (Kd.R_reads' HO0.out).1; omega) | simpa only [Ny146.out, List.length_set] using h_)
     have ql147 : ((a2 : Int) < ((l0.length : Int) : Int)) = True := eq_true (of_decide_eq_true (by first | (with_reducible assumption) | assumption))
     obtain ⟨ad147, e147, hx147_0⟩ := Kd.at_int (Kd.R_reads' HO0.out).2.2 a2 p147 q147
     obtain rfl : (⟨go8, 0, none⟩ : Addr) = ad147 := (by injection e147)
     (first | simp only [add_plain] at hx147_0 | simp only [add_at] at hx147_0 | simp only [Addr.add, Nat.zero_add] at hx147_0 | skip)
     replace p147 := eq_true p147
     replace q147 := eq_true q147
     have p12 : 0 ≤ (a2 : Int) := of_decide_eq_true (by first | (with_reducible assumption) | assumption)
     have q12 : (a2 : Int) < ((l0.length : Int) : Int) := of_decide_eq_true (by first | (with_reducible assumption) | assumption)
     obtain ⟨hx12_0, hf12_0⟩ := Kd.R_celln 0 HO0.out (a2 : Int) p12 q12
     replace p12 := eq_true p12
     replace q12 := eq_true q12
     have HP18 := Kd.R_putn HO0.out (a2 : Int) (Go.bits .or .i64 (rd y146 a2) (ji11))
     rw [← Ny148.out] at HP18
     have HQ18 := Aside0.mk HP18
     clear HP18
     refine start_ (n := 9) (S := fun w' => w'.cell? ⟨go8, (a2).toNat, none⟩ = some (.int .i64 (rd y146 a2))) (ds := [8]) (Qbz 9 0) (by kernel_rfl) rfl rfl (hx147_0) (fun hHeld => ?_); refine with_tabW minor_town_join.tab1 minor_town_join.bits1 (fun HT_ HW_ => ?_)
     generalize w16.drew = w17 at HO0 HK HB HQ15 HQ18 hf12_0 hx12_0 hx147_0 hHeld ⊢
     refine pure_ (i := 0) (N := some 14) (v := ?_) (a' := ?_) (Qbz 9 1) rfl rfl (any_of HT_.out (by kernel_rfl)) (fun _ _ _ h => h) (Or.inl ⟨by rfl, ?_⟩) ?_ ?_
     rotate_left
     ·intro w'
      go_simp
      with_reducible rfl
     rotate_left
     ·simp only [Act.put, Qp1, Qp2, Qp3, i64_w, i32_w]
      rfl
     refine pure_ (i := 1) (N := some 15) (v := ?_) (a' := ?_) (Qbz 9 3) rfl rfl (any_of HT_.out (by kernel_rfl)) (fun _ _ _ h => h) (Or.inl ⟨by rfl, ?_⟩) ?_ ?_
     rotate_left
     ·intro w'
      go_simp
      with_reducible rfl
     rotate_left
     ·simp only [Act.put, Qp1, Qp2, Qp3, i64_w, i32_w]
      rfl
     refine pure_ (i := 2) (N := some 16) (v := ?_) (a' := ?_) (Qbz 9 7) rfl rfl (any_of HT_.out (by kernel_rfl)) (fun _ _ _ h => h) (Or.inl ⟨by rfl, ?_⟩) ?_ ?_
     rotate_left
     ·intro w'
      go_simp
      with_reducible rfl
     rotate_left
     ·simp only [Act.put, Qp1, Qp2, Qp3, i64_w, i32_w]
      rfl
     refine pure_ (i := 4) (N := some 18) (v := ?_) (a' := ?_) (Qbz 9 23) rfl rfl (any_of HT_.out (by kernel_rfl)) (fun _ _ _ h => h) (Or.inl ⟨by rfl, ?_⟩) ?_ ?_
     rotate_left
     ·intro w'
      go_simp
      with_reducible rfl
     rotate_left
     ·simp only [Act.put, Qp1, Qp2, Qp3, i64_w, i32_w]
      rfl
     refine pure_ (i := 5) (N := some 19) (v := ?_) (a' := ?_) (Qbz 9 55) rfl rfl (any_of HT_.out (by kernel_rfl)) (fun _ _ _ h => h) (Or.inl ⟨by rfl, ?_⟩) ?_ ?_
     rotate_left
     ·intro w'
      go_simp
      with_reducible rfl
     rotate_left
     ·simp only [Act.put, Qp1, Qp2, Qp3, i64_w, i32_w]
      rfl
     refine take_ (i := 3) (N := some 17) (v := ?_) (a' := ?_) (Qbz 9 63) rfl rfl (take_ofW HT_.out HW_.out (by kernel_rfl)) (fun _ _ _ h => h) (Or.inl ⟨by rfl, ?_⟩) hHeld ?_ ?_
     rotate_left
     ·intro w' s0
      go_simp
      with_reducible rfl
     rotate_left
     ·simp only [Act.put, Qp1, Qp2, Qp3, i64_w, i32_w]
      rfl
     refine pure_ (i := 6) (N := some 20) (v := ?_) (a' := ?_) (Qbz 9 127) rfl rfl (any_of HT_.out (by kernel_rfl)) (fun _ _ _ h => h) (Or.inl ⟨by rfl, ?_⟩) ?_ ?_
     rotate_left
     ·intro w'
      go_simp
      with_reducible rfl
     rotate_left
     ·simp only [Act.put, Qp1, Qp2, Qp3, i64_w, i32_w]
      rfl
     refine pure_ (i := 7) (N := some 21) (v := ?_) (a' := ?_) (Qbz 9 255) rfl rfl (any_of HT_.out (by kernel_rfl)) (fun _ _ _ h => h) (Or.inl ⟨by rfl, ?_⟩) ?_ ?_
     rotate_left
     ·intro w'
      go_simp
      with_reducible rfl
     rotate_left
     ·simp only [Act.put, Qp1, Qp2, Qp3, i64_w, i32_w]
      rfl
     refine last_ (i := 8) (N := none) (Qbz 9 511) rfl rfl (one_of HT_.out (by kernel_rfl)) (by decide) (fun K hK => ?_)
     refine skip_ (w1 := ?_) (by rfl) rfl ?_ ?_
     rotate_left
     ·go_simp
      rfl
     refine hK.out _ _ ?_
     clear hK K
     refine done_ (done_of HT_.out (by kernel_rfl)) ?_
     try go_wp2
     first | go_end0 | ((try simp only [Exit.inBlock, Exit.then]); refine bodyPost_ret (results_none rfl _ _ _) rfl ?_)
     exact ⟨by first | rfl | (simp [errW_none, errW_some] <;> rfl) | (simp only [← hji7, ← hji11]; first | rfl | (simp [errW_none, errW_some] <;> rfl)) | (simp [*, errW_none, errW_some] <;> rfl), by (with_reducible repeat (first | apply Kd.R_alloc | apply Kd.R_drewN | apply Kd.R_drew)); exact HQ18.out, by repeat (first | (with_reducible first | exact HB.out | apply below_alloc | apply pw_below_drewN | apply below_drew1 | refine below_set ?_ GB8.out) | exact HB.out), by repeat (first | (with_reducible first | exact HK.out | apply Kept.alloc | apply Kept.drewN | apply Kept.drew | refine Kept.setCell ?_ HMgo8.out _) | exact HK.out)⟩
    ·rw [if_neg c9] at H
     exact absurd H (by simp)
   ·rw [if_neg c6] at H
    exact absurd H (by simp)
  ·rw [if_neg c5] at H
   exact absurd H (by simp)
 ·rw [if_neg c4] at H
  exact absurd H (by simp)
end Go.Proofs.YtjloppfdagfpmaaDoor.X
end
section
namespace Go.Proofs.YtjloppfdagfpmaaDoor.X
open Go.RowKit YtjloppfdagfpmaaDoorW.PrintWords YtjloppfdagfpmaaDoorW.PrintLast YtjloppfdagfpmaaDoorW.PrintMore
attribute [local go_sem] max2_int min2_int max_two min_two max_three min_three max_four min_four
/-! ### minor_clique: function 74 -/
mutual
def minor_clique.l0 : Nat → List Int → Int → Int → Option (List Int)
 | 0, _, _, _ => none
 | k + 1, x3, x8, x9 => if x9 < x8 then (minor_clique.l1 k x3 x9 x8 x9 x9 0) else (some x3)
def minor_clique.l1 : Nat → List Int → Int → Int → Int → Int → Int → Option (List Int)
 | 0, _, _, _, _, _, _ => none
 | k + 1, x3, x4, x8, x9, x12, x13 => if x13 < x12 then ((minor_town_join.f x3 x4 x13).bind fun t227 => (minor_clique.l1 k t227 x4 x8 x9 x12 (wrap64 (x13 + 1)))) else (minor_clique.l0 k x3 x8 (wrap64 (x9 + 1)))
end
def minor_clique.f (k : Nat) (a0 : Int) : Option (List Int) := if 0 ≤ a0 then (if (a0 : Int).toNat ≤ 35184372088832 then (minor_clique.l0 k (List.replicate (a0 : Int).toNat 0) a0 0) else (none)) else (none)
set_option maxHeartbeats 8000000 in
set_option maxRecDepth 100000 in
theorem minor_clique.calls (k : Nat) (a0 : Int) (r : List Int) (w : World) (h : minor_clique.f k a0 = some r) :
  Calls Tryd.prog 74 #[.int .i64 a0] w fun e w' => ∃ v0_ : Value, e = .returned (v0_) ∧ Kd.R (Kd.int .i64) 3 w' w.heap.size (fun _ => True) v0_ r ∧ Below w.heap.size w w' := by
 have HB := Aside0.mk (Below.refl w.heap.size w)
 have H : (if 0 ≤ a0 then (if (a0 : Int).toNat ≤ 35184372088832 then (minor_clique.l0 k (List.replicate (a0 : Int).toNat 0) a0 0) else (none)) else (none)) = some r := h
 clear h
 by_cases c2 : 0 ≤ a0
 ·rw [if_pos c2] at H
  have c2b0 := eq_true c2
  have c2b1 : decide (0 ≤ a0) = true := decide_eq_true c2
  clear c2
  by_cases c3 : (a0 : Int).toNat ≤ 35184372088832
  ·rw [if_pos c3] at H
   have c3b0 := eq_true c3
   have c3b1 : decide ((a0 : Int).toNat ≤ 35184372088832) = true := decide_eq_true c3
   clear c3
   obtain ⟨y224, hy224⟩ : ∃ y_ : List Int, y_ = (List.replicate (a0 : Int).toNat 0) := ⟨_, rfl⟩
   replace H : (minor_clique.l0 k y224 a0 0) = some r := by first | (rw [hy224]; with_reducible exact H) | (have H2_ := (Option.bind_some _ _).symm.trans H; rw [hy224]; with_reducible exact H2_) | (have H2_ := (Option.bind_some _ _).symm.trans H; with_reducible exact H2_) | with_reducible exact H | (rw [hy224]; exact H) | exact H
   have Ny224 := Aside0.mk hy224
   clear hy224
   have H' := Aside0.mk H
   clear H
   go_enter Tryd.func74, Tryd.ntmps74
   go_wp2_with (first | ((with_reducible refine gate_dst (N := 7) rfl ?_); refine Kd.R_make (Kd.int .i64) _ 3 rfl (N := 7) rfl 79 _ _ rfl a0 rfl rfl Tryd.underlying79 (.int .i64 0) 8 info3 rfl (by decide) (by omega) 0 (ok := fun _ => True) (okp := fun _ => True) rfl (fun _ hk => hk) trivial (of_decide_eq_true (by first | (with_reducible assumption) | assumption)) (Nat.le_trans (Nat.mul_le_mul_right _ (of_decide_eq_true (by first | (with_reducible assumption) | assumption) : a0.toNat ≤ 35184372088832)) (by omega)) (Below.refl _ _) (Nat.le_refl _) ?_; intro v225 w4 ho5 hb hg_ hnew_; clear hg_ hnew_; (first | rw [← Ny224.out] at ho5 | (simp only [Int.reduceToNat] at ho5; rw [← Ny224.out] at ho5)); have n0_ := Aside0.mk (Kd.R_lower ho5 (below_size (Qaw))); have n1_ := Aside0.mk (below_step (Qaw) hb); clear HB; have HO226 := n0_; have HB := n1_; clear n0_ n1_; clear hb ho5))
   go_loopg [9] k (fun kq v9 w' => ∃ (x3_1 : List Int) (x9_1 : Int), v9 = .int .i64 x9_1 ∧ Aside0 (minor_clique.l0 kq x3_1 a0 x9_1 = some r) ∧ Aside0 (kq ≤ k) ∧ Aside0 (Kd.R (Kd.int .i64) 3 w' w.heap.size (fun _ => True) v225 x3_1) ∧ Aside0 (Below w.heap.size w w'))
   case atStart => exact ⟨(y224), (0), (by first | rfl | (simp; done) | (simp [*]; done)), H', ⟨Nat.le_refl _⟩, ⟨by (with_reducible repeat (first | apply Kd.R_alloc | apply Kd.R_drewN | apply Kd.R_drew)); exact HO226.out⟩, ⟨by repeat (first | (with_reducible first | exact HB.out | apply below_alloc | apply pw_below_drewN | apply below_drew1) | exact HB.out)⟩⟩
   case round =>
    clear H'
    try clear c2
    try clear c2b0
    try clear c2b1
    try clear p2
    try clear c3
    try clear c3b0
    try clear c3b1
    obtain ⟨x3_1, x9_1, rfl, HA, HK1, HO_3, HB⟩ := hrel
    cases gk with
    | zero => exact absurd HA.out (by simp [minor_clique.l0])
    | succ k1 =>
     have H := HA.out
     clear HA
     simp only [minor_clique.l0] at H
     by_cases c6 : x9_1 < a0
     ·rw [if_pos c6] at H
      have c6b0 : decide (x9_1 < a0) = true := decide_eq_true c6
      clear c6
      have H' := Aside0.mk H
      clear H
      go_wp2
      go_loopg [13] k1 (fun kq v13 w' => ∃ (x3_2 : List Int) (x13_2 : Int), v13 = .int .i64 x13_2 ∧ Aside0 (minor_clique.l1 kq x3_2 x9_1 a0 x9_1 x9_1 x13_2 = some r) ∧ Aside0 (kq ≤ k1) ∧ Aside0 (Kd.R (Kd.int .i64) 3 w' w.heap.size (fun _ => True) v225 x3_2) ∧ Aside0 (Below w.heap.size w w'))
      case atStart => exact ⟨(x3_1), (0), (by first | rfl | (simp; done) | (simp [*]; done)), H', ⟨Nat.le_refl _⟩, ⟨by (with_reducible repeat (first | apply Kd.R_alloc | apply Kd.R_drewN | apply Kd.R_drew)); exact HO_3.out⟩, ⟨by repeat (first | (with_reducible first | exact HB.out | apply below_alloc | apply pw_below_drewN | apply below_drew1) | exact HB.out)⟩⟩
      case round =>
       clear H'
       try clear c2
       try clear c2b0
       try clear c2b1
       try clear p2
       try clear c3
       try clear c3b0
       try clear c3b1
       try clear c6
       try clear c6b0
       try clear p2
       obtain ⟨x3_2, x13_2, rfl, HA, HK2, HO_3, HB⟩ := hrel
       cases gk with
       | zero => exact absurd HA.out (by simp [minor_clique.l1])
       | succ k2 =>
        have H := HA.out
        clear HA
        simp only [minor_clique.l1] at H
        by_cases c7 : x13_2 < x9_1
        ·rw [if_pos c7] at H
         have c7b0 : decide (x13_2 < x9_1) = true := decide_eq_true c7
         clear c7
         replace H := Option.bind_eq_some_iff.mp H
         obtain ⟨t227, A80, H⟩ := H
         replace H : (minor_clique.l1 k2 t227 x9_1 a0 x9_1 x9_1 (wrap64 (x13_2 + 1))) = some r := H
         have A8 := Aside0.mk A80
         clear A80
         have H' := Aside0.mk H
         clear H
         obtain ⟨Ao9, co9, eo9⟩ := Kd.R_slice HO_3.out
         subst eo9
         go_wp2_with (first | ((with_reducible refine gate_callee (f := 62) rfl ?_); refine goesL_ (some 19) rfl rfl Tryd.func62 (by kernel_rfl) rfl #[.slice Ao9 x3_2.length co9, .int .i64 x9_1, .int .i64 x13_2] rfl (Qls) ?_; (with_reducible refine (minor_town_join.calls (fun k_ => some k_ = (.slice Ao9 x3_2.length co9 : Value).ownBlock) (.slice Ao9 x3_2.length co9) x3_2 x9_1 x13_2 t227 w _ ?side1 ?side2 A8.out).mono ?_); (case side1 => repeat (first | (with_reducible first | exact HB.out | apply below_alloc | apply pw_below_drewN | apply below_drew1) | exact HB.out)); (case side2 => exact Kd.R_tight rfl HO_3.out); rintro e w10 ⟨rfl, hy0, hb, hkp⟩; refine ⟨_, rfl, ?_⟩; have n0_ := Aside0.mk (Kd.R_reok rfl hy0 (fun k_ e_ => HO_3.out.1 k_ e_)); have n1_ := Aside0.mk (hb); clear HO_3; clear HB; have HO_3 := n0_; have HB := n1_; clear n0_ n1_; (try clear hb); (try clear hkp); (try clear hy0)))
         go_roundg k2
         case measure => have := HK1.out; have := HK2.out; omega
         case rel => exact ⟨(t227), (wrap64 (x13_2 + 1)), (by first | rfl | (simp; done) | (simp [*]; done)), H', ⟨by have := HK1.out; have := HK2.out; omega⟩, ⟨by (with_reducible repeat (first | apply Kd.R_alloc | apply Kd.R_drewN | apply Kd.R_drew)); exact HO_3.out⟩, ⟨by repeat (first | (with_reducible first | exact HB.out | apply below_alloc | apply pw_below_drewN | apply below_drew1) | exact HB.out)⟩⟩
        ·rw [if_neg c7] at H
         have c7b0 : decide (x13_2 < x9_1) = false := decide_eq_false c7
         clear c7
         have H' := Aside0.mk H
         clear H
         go_wp2
         go_roundg k2
         case measure => have := HK1.out; have := HK2.out; omega
         case rel => exact ⟨(x3_2), (wrap64 (x9_1 + 1)), (by first | rfl | (simp; done) | (simp [*]; done)), H', ⟨by have := HK1.out; have := HK2.out; omega⟩, ⟨by (with_reducible repeat (first | apply Kd.R_alloc | apply Kd.R_drewN | apply Kd.R_drew)); exact HO_3.out⟩, ⟨by repeat (first | (with_reducible first | exact HB.out | apply below_alloc | apply pw_below_drewN | apply below_drew1) | exact HB.out)⟩⟩
     ·rw [if_neg c6] at H
      have c6b0 : decide (x9_1 < a0) = false := decide_eq_false c6
      clear c6
      obtain rfl := Option.some.inj H
      go_wp2
      go_ret
      exact ⟨_, by first | rfl | (simp [errW_none, errW_some] <;> rfl) | (simp [*, errW_none, errW_some] <;> rfl), by (with_reducible repeat (first | apply Kd.R_alloc | apply Kd.R_drewN | apply Kd.R_drew)); exact HO_3.out, by repeat (first | (with_reducible first | exact HB.out | apply below_alloc | apply pw_below_drewN | apply below_drew1) | exact HB.out)⟩
  ·rw [if_neg c3] at H
   exact absurd H (by simp)
 ·rw [if_neg c2] at H
  exact absurd H (by simp)
end Go.Proofs.YtjloppfdagfpmaaDoor.X
end
section
namespace Go.Proofs.YtjloppfdagfpmaaDoor.X
open Go.RowKit YtjloppfdagfpmaaDoorW.PrintWords YtjloppfdagfpmaaDoorW.PrintLast YtjloppfdagfpmaaDoorW.PrintMore
attribute [local go_sem] max2_int min2_int max_two min_two max_three min_three max_four min_four
/-! ### minor_K: function 29 -/
def minor_K.f (k : Nat) (a0 : Int) : Option (List Int × Int) := if a0 < 1 then (some (([] : List Int), 2)) else (if a0 > 6 then (some (([] : List Int), 2)) else ((minor_clique.f k a0).bind fun t228 => (some (t228, 0))))
set_option maxHeartbeats 8000000 in
set_option maxRecDepth 100000 in
theorem minor_K.calls (k : Nat) (a0 : Int) (r1 : List Int) (r2 : Int) (w : World) (h : minor_K.f k a0 = some (r1, r2)) :
  Calls Tryd.prog 29 #[.int .i64 a0] w fun e w' => ∃ v0_ : Value, e = .returned (.tuple #[v0_, .int .i64 r2]) ∧ Kd.R (Kd.int .i64) 3 w' w.heap.size (fun _ => True) v0_ r1 ∧ Below w.heap.size w w' := by
 have HB := Aside0.mk (Below.refl w.heap.size w)
 have H : (if a0 < 1 then (some (([] : List Int), 2)) else (if a0 > 6 then (some (([] : List Int), 2)) else ((minor_clique.f k a0).bind fun t228 => (some (t228, 0))))) = some (r1, r2) := h
 clear h
 by_cases c2 : a0 < 1
 ·rw [if_pos c2] at H
  have c2b0 : decide (a0 < 1) = true := decide_eq_true c2
  clear c2
  simp only [Option.some.injEq, Prod.mk.injEq] at H
  obtain ⟨rfl, rfl⟩ := H
  go_enter Tryd.func29, Tryd.ntmps29
  go_wp2
  go_ret2
  exact ⟨_, by first | rfl | (simp [errW_none, errW_some] <;> rfl) | (simp [*, errW_none, errW_some] <;> rfl), by first | exact Kd.R_nil _ _ _ _ _ | exact Kd.N_nil _ _ _ _ _ | exact Kd.V_nil _ _ _ _ _ | exact Kd.Q_nil _ _ _ _ _ | exact Kd.S_nil _ _ _ _ _, by repeat (first | (with_reducible first | exact HB.out | apply below_alloc | apply pw_below_drewN | apply below_drew1) | exact HB.out)⟩
 ·rw [if_neg c2] at H
  have c2b0 : decide (a0 < 1) = false := decide_eq_false c2
  clear c2
  by_cases c3 : a0 > 6
  ·rw [if_pos c3] at H
   have c3b0 : decide (6 < a0) = true := decide_eq_true c3
   clear c3
   simp only [Option.some.injEq, Prod.mk.injEq] at H
   obtain ⟨rfl, rfl⟩ := H
   go_enter Tryd.func29, Tryd.ntmps29
   go_wp2
   go_ret2
   exact ⟨_, by first | rfl | (simp [errW_none, errW_some] <;> rfl) | (simp [*, errW_none, errW_some] <;> rfl), by first | exact Kd.R_nil _ _ _ _ _ | exact Kd.N_nil _ _ _ _ _ | exact Kd.V_nil _ _ _ _ _ | exact Kd.Q_nil _ _ _ _ _ | exact Kd.S_nil _ _ _ _ _, by repeat (first | (with_reducible first | exact HB.out | apply below_alloc | apply pw_below_drewN | apply below_drew1) | exact HB.out)⟩
  ·rw [if_neg c3] at H
   have c3b0 : decide (6 < a0) = false := decide_eq_false c3
   clear c3
   replace H := Option.bind_eq_some_iff.mp H
   obtain ⟨t228, A40, H⟩ := H
   replace H : (some (t228, 0)) = some (r1, r2) := H
   have A4 := Aside0.mk A40
   clear A40
   simp only [Option.some.injEq, Prod.mk.injEq] at H
   obtain ⟨rfl, rfl⟩ := H
   go_enter Tryd.func29, Tryd.ntmps29
   go_wp2_with (first | ((with_reducible refine gate_callee (f := 74) rfl ?_); refine goesL_ (some 11) rfl rfl Tryd.func74 (by kernel_rfl) rfl #[.int .i64 a0] rfl (Qls) ?_; (with_reducible refine (minor_clique.calls k a0 t228 _ A4.out).mono ?_); rintro e w5 ⟨v229, rfl, ho0, hb⟩; refine ⟨_, rfl, ?_⟩; have n0_ := Aside0.mk (Kd.R_lower ho0 (below_size (Qaw))); have n1_ := Aside0.mk (below_step (Qaw) hb); clear HB; have HO230 := n0_; have HB := n1_; clear n0_ n1_; (try clear hb); (try clear hb2); (try clear hk); (try clear hi); (try clear ho0)))
   go_ret2
   exact ⟨_, by first | rfl | (simp [errW_none, errW_some] <;> rfl) | (simp [*, errW_none, errW_some] <;> rfl), by (with_reducible repeat (first | apply Kd.R_alloc | apply Kd.R_drewN | apply Kd.R_drew)); exact HO230.out, by repeat (first | (with_reducible first | exact HB.out | apply below_alloc | apply pw_below_drewN | apply below_drew1) | exact HB.out)⟩
end Go.Proofs.YtjloppfdagfpmaaDoor.X
end
section
namespace Go.Proofs.YtjloppfdagfpmaaDoor.X
open Go.RowKit YtjloppfdagfpmaaDoorW.PrintWords YtjloppfdagfpmaaDoorW.PrintLast YtjloppfdagfpmaaDoorW.PrintMore
attribute [local go_sem] max2_int min2_int max_two min_two max_three min_three max_four min_four
/-! ### minor_K23: function 31 -/
mutual
def minor_K23.l0 : Nat → List Int → Int → Option (List Int)
 | 0, _, _ => none
 | k + 1, x1, x5 => if x5 < 2 then (minor_K23.l1 k x1 x5 2 x5) else (some x1)
def minor_K23.l1 : Nat → List Int → Int → Int → Int → Option (List Int)
 | 0, _, _, _, _ => none
 | k + 1, x1, x2, x3, x5 => if x3 < 5 then ((minor_town_join.f x1 x2 x3).bind fun t236 => (minor_K23.l1 k t236 x2 (wrap64 (x3 + 1)) x5)) else (minor_K23.l0 k x1 (wrap64 (x5 + 1)))
end
def minor_K23.f (k : Nat)  : Option (List Int) := if 5 ≤ 35184372088832 then (minor_K23.l0 k (List.replicate 5 0) 0) else (none)
theorem minor_K23.mono_l : ∀ k, (∀ y0 y1, LeO (minor_K23.l0 k y0 y1) (minor_K23.l0 (k + 1) y0 y1)) ∧ (∀ y0 y1 y2 y3, LeO (minor_K23.l1 k y0 y1 y2 y3) (minor_K23.l1 (k + 1) y0 y1 y2 y3))
 | 0 => ⟨fun _ _ r h => by simp [minor_K23.l0] at h, fun _ _ _ _ r h => by simp [minor_K23.l1] at h⟩
 | k + 1 => by
  obtain ⟨ih0, ih1⟩ := minor_K23.mono_l k
  refine ⟨?_, ?_⟩
  ·intro y0 y1
   unfold minor_K23.l0
   repeat' first
   | (with_reducible exact ih0 _ _)
   | (with_reducible exact ih1 _ _ _ _)
   | (with_reducible exact LeO.refl _)
   | (with_reducible exact LeO.none _)
   | (with_reducible refine LeO.ite ?_ ?_)
   | (with_reducible refine LeO.bind ?_ (fun _ => ?_))
   | exact ih0 _ _
   | exact ih1 _ _ _ _
   | exact LeO.none _
   | refine LeO.ite ?_ ?_
   | refine LeO.bind ?_ (fun _ => ?_)
  ·intro y0 y1 y2 y3
   unfold minor_K23.l1
   repeat' first
   | (with_reducible exact ih0 _ _)
   | (with_reducible exact ih1 _ _ _ _)
   | (with_reducible exact LeO.refl _)
   | (with_reducible exact LeO.none _)
   | (with_reducible refine LeO.ite ?_ ?_)
   | (with_reducible refine LeO.bind ?_ (fun _ => ?_))
   | exact ih0 _ _
   | exact ih1 _ _ _ _
   | exact LeO.none _
   | refine LeO.ite ?_ ?_
   | refine LeO.bind ?_ (fun _ => ?_)
theorem minor_K23.mono : ∀ k, LeO (minor_K23.f k ) (minor_K23.f (k + 1) ) := by
 intro  k
 obtain ⟨ih0, ih1⟩ := minor_K23.mono_l k
 unfold minor_K23.f
 repeat' first
   | (with_reducible exact ih0 _ _)
   | (with_reducible exact ih1 _ _ _ _)
   | (with_reducible exact LeO.refl _)
   | (with_reducible exact LeO.none _)
   | (with_reducible refine LeO.ite ?_ ?_)
   | (with_reducible refine LeO.bind ?_ (fun _ => ?_))
   | exact ih0 _ _
   | exact ih1 _ _ _ _
   | exact LeO.none _
   | refine LeO.ite ?_ ?_
   | refine LeO.bind ?_ (fun _ => ?_)
set_option maxHeartbeats 8000000 in
set_option maxRecDepth 100000 in
theorem minor_K23.calls (k : Nat)  (r : List Int) (w : World) (h : minor_K23.f k  = some r) :
  Calls Tryd.prog 31 #[] w fun e w' => ∃ v0_ : Value, e = .returned (v0_) ∧ Kd.R (Kd.int .i64) 3 w' w.heap.size (fun _ => True) v0_ r ∧ Below w.heap.size w w' := by
 have HB := Aside0.mk (Below.refl w.heap.size w)
 have H : (if 5 ≤ 35184372088832 then (minor_K23.l0 k (List.replicate 5 0) 0) else (none)) = some r := h
 clear h
 by_cases c1 : 5 ≤ 35184372088832
 ·rw [if_pos c1] at H
  have c1b0 := eq_true c1
  have c1b1 : decide (5 ≤ 35184372088832) = true := decide_eq_true c1
  clear c1
  obtain ⟨y233, hy233⟩ : ∃ y_ : List Int, y_ = (List.replicate 5 0) := ⟨_, rfl⟩
  replace H : (minor_K23.l0 k y233 0) = some r := by first | (rw [hy233]; with_reducible exact H) | (have H2_ := (Option.bind_some _ _).symm.trans H; rw [hy233]; with_reducible exact H2_) | (have H2_ := (Option.bind_some _ _).symm.trans H; with_reducible exact H2_) | with_reducible exact H | (rw [hy233]; exact H) | exact H
  have Ny233 := Aside0.mk hy233
  clear hy233
  have H' := Aside0.mk H
  clear H
  go_enter Tryd.func31, Tryd.ntmps31
  go_wp2_with (first | ((with_reducible refine gate_dst (N := 4) rfl ?_); refine Kd.R_make (Kd.int .i64) _ 3 rfl (N := 4) rfl 79 _ _ rfl 5 rfl rfl Tryd.underlying79 (.int .i64 0) 8 info3 rfl (by decide) (by omega) 0 (ok := fun _ => True) (okp := fun _ => True) rfl (fun _ hk => hk) trivial (by omega) (by omega) (Below.refl _ _) (Nat.le_refl _) ?_; intro v234 w2 ho3 hb hg_ hnew_; clear hg_ hnew_; (first | rw [← Ny233.out] at ho3 | (simp only [Int.reduceToNat] at ho3; rw [← Ny233.out] at ho3)); have n0_ := Aside0.mk (Kd.R_lower ho3 (below_size (Qaw))); have n1_ := Aside0.mk (below_step (Qaw) hb); clear HB; have HO235 := n0_; have HB := n1_; clear n0_ n1_; clear hb ho3))
  go_loopg [5] k (fun kq v5 w' => ∃ (x1_1 : List Int) (x5_1 : Int), v5 = .int .i64 x5_1 ∧ Aside0 (minor_K23.l0 kq x1_1 x5_1 = some r) ∧ Aside0 (kq ≤ k) ∧ Aside0 (Kd.R (Kd.int .i64) 3 w' w.heap.size (fun _ => True) v234 x1_1) ∧ Aside0 (Below w.heap.size w w'))
  case atStart => exact ⟨(y233), (0), (by first | rfl | (simp; done) | (simp [*]; done)), H', ⟨Nat.le_refl _⟩, ⟨by (with_reducible repeat (first | apply Kd.R_alloc | apply Kd.R_drewN | apply Kd.R_drew)); exact HO235.out⟩, ⟨by repeat (first | (with_reducible first | exact HB.out | apply below_alloc | apply pw_below_drewN | apply below_drew1) | exact HB.out)⟩⟩
  case round =>
   clear H'
   try clear c1
   try clear c1b0
   try clear c1b1
   try clear p2
   try clear c3
   obtain ⟨x1_1, x5_1, rfl, HA, HK1, HO_1, HB⟩ := hrel
   cases gk with
   | zero => exact absurd HA.out (by simp [minor_K23.l0])
   | succ k1 =>
    have H := HA.out
    clear HA
    simp only [minor_K23.l0] at H
    by_cases c4 : x5_1 < 2
    ·rw [if_pos c4] at H
     have c4b0 : decide (x5_1 < 2) = true := decide_eq_true c4
     clear c4
     have H' := Aside0.mk H
     clear H
     go_wp2
     go_loopg [3] k1 (fun kq v3 w' => ∃ (x1_2 : List Int) (x3_2 : Int), v3 = .int .i64 x3_2 ∧ Aside0 (minor_K23.l1 kq x1_2 x5_1 x3_2 x5_1 = some r) ∧ Aside0 (kq ≤ k1) ∧ Aside0 (Kd.R (Kd.int .i64) 3 w' w.heap.size (fun _ => True) v234 x1_2) ∧ Aside0 (Below w.heap.size w w'))
     case atStart => exact ⟨(x1_1), (2), (by first | rfl | (simp; done) | (simp [*]; done)), H', ⟨Nat.le_refl _⟩, ⟨by (with_reducible repeat (first | apply Kd.R_alloc | apply Kd.R_drewN | apply Kd.R_drew)); exact HO_1.out⟩, ⟨by repeat (first | (with_reducible first | exact HB.out | apply below_alloc | apply pw_below_drewN | apply below_drew1) | exact HB.out)⟩⟩
     case round =>
      clear H'
      try clear c1
      try clear c1b0
      try clear c1b1
      try clear p2
      try clear c3
      try clear c4
      try clear c4b0
      try clear p2
      obtain ⟨x1_2, x3_2, rfl, HA, HK2, HO_1, HB⟩ := hrel
      cases gk with
      | zero => exact absurd HA.out (by simp [minor_K23.l1])
      | succ k2 =>
       have H := HA.out
       clear HA
       simp only [minor_K23.l1] at H
       by_cases c5 : x3_2 < 5
       ·rw [if_pos c5] at H
        have c5b0 : decide (x3_2 < 5) = true := decide_eq_true c5
        clear c5
        replace H := Option.bind_eq_some_iff.mp H
        obtain ⟨t236, A60, H⟩ := H
        replace H : (minor_K23.l1 k2 t236 x5_1 (wrap64 (x3_2 + 1)) x5_1) = some r := H
        have A6 := Aside0.mk A60
        clear A60
        have H' := Aside0.mk H
        clear H
        obtain ⟨Ao7, co7, eo7⟩ := Kd.R_slice HO_1.out
        subst eo7
        go_wp2_with (first | ((with_reducible refine gate_callee (f := 62) rfl ?_); refine goesL_ (some 15) rfl rfl Tryd.func62 (by kernel_rfl) rfl #[.slice Ao7 x1_2.length co7, .int .i64 x5_1, .int .i64 x3_2] rfl (Qls) ?_; (with_reducible refine (minor_town_join.calls (fun k_ => some k_ = (.slice Ao7 x1_2.length co7 : Value).ownBlock) (.slice Ao7 x1_2.length co7) x1_2 x5_1 x3_2 t236 w _ ?side1 ?side2 A6.out).mono ?_); (case side1 => repeat (first | (with_reducible first | exact HB.out | apply below_alloc | apply pw_below_drewN | apply below_drew1) | exact HB.out)); (case side2 => exact Kd.R_tight rfl HO_1.out); rintro e w8 ⟨rfl, hy0, hb, hkp⟩; refine ⟨_, rfl, ?_⟩; have n0_ := Aside0.mk (Kd.R_reok rfl hy0 (fun k_ e_ => HO_1.out.1 k_ e_)); have n1_ := Aside0.mk (hb); clear HO_1; clear HB; have HO_1 := n0_; have HB := n1_; clear n0_ n1_; (try clear hb); (try clear hkp); (try clear hy0)))
        go_roundg k2
        case measure => have := HK1.out; have := HK2.out; omega
        case rel => exact ⟨(t236), (wrap64 (x3_2 + 1)), (by first | rfl | (simp; done) | (simp [*]; done)), H', ⟨by have := HK1.out; have := HK2.out; omega⟩, ⟨by (with_reducible repeat (first | apply Kd.R_alloc | apply Kd.R_drewN | apply Kd.R_drew)); exact HO_1.out⟩, ⟨by repeat (first | (with_reducible first | exact HB.out | apply below_alloc | apply pw_below_drewN | apply below_drew1) | exact HB.out)⟩⟩
       ·rw [if_neg c5] at H
        have c5b0 : decide (x3_2 < 5) = false := decide_eq_false c5
        clear c5
        have H' := Aside0.mk H
        clear H
        go_wp2
        go_roundg k2
        case measure => have := HK1.out; have := HK2.out; omega
        case rel => exact ⟨(x1_2), (wrap64 (x5_1 + 1)), (by first | rfl | (simp; done) | (simp [*]; done)), H', ⟨by have := HK1.out; have := HK2.out; omega⟩, ⟨by (with_reducible repeat (first | apply Kd.R_alloc | apply Kd.R_drewN | apply Kd.R_drew)); exact HO_1.out⟩, ⟨by repeat (first | (with_reducible first | exact HB.out | apply below_alloc | apply pw_below_drewN | apply below_drew1) | exact HB.out)⟩⟩
    ·rw [if_neg c4] at H
     have c4b0 : decide (x5_1 < 2) = false := decide_eq_false c4
     clear c4
     obtain rfl := Option.some.inj H
     go_wp2
     go_ret
     exact ⟨_, by first | rfl | (simp [errW_none, errW_some] <;> rfl) | (simp [*, errW_none, errW_some] <;> rfl), by (with_reducible repeat (first | apply Kd.R_alloc | apply Kd.R_drewN | apply Kd.R_drew)); exact HO_1.out, by repeat (first | (with_reducible first | exact HB.out | apply below_alloc | apply pw_below_drewN | apply below_drew1) | exact HB.out)⟩
 ·rw [if_neg c1] at H
  exact absurd H (by simp)
end Go.Proofs.YtjloppfdagfpmaaDoor.X
end
section
namespace Go.Proofs.YtjloppfdagfpmaaDoor.X
open Go.RowKit YtjloppfdagfpmaaDoorW.PrintWords YtjloppfdagfpmaaDoorW.PrintLast YtjloppfdagfpmaaDoorW.PrintMore
attribute [local go_sem] max2_int min2_int max_two min_two max_three min_three max_four min_four
/-! ### minor_W: function 19 -/
mutual
def minor_W.j0 : Nat → Int → Bool → Option (List Int × Int)
 | 0, _, _ => none
 | k + 1, x0, x11 => if x11 = true then (some (([] : List Int), 2)) else (if 0 ≤ (wrap64 (x0 + 1)) then (if (wrap64 (x0 + 1) : Int).toNat ≤ 35184372088832 then (minor_W.l0 k x0 (List.replicate (wrap64 (x0 + 1) : Int).toNat 0) x0 0) else (none)) else (none))
def minor_W.l0 : Nat → Int → List Int → Int → Int → Option (List Int × Int)
 | 0, _, _, _, _ => none
 | k + 1, x0, x4, x15, x16 => if x16 < x15 then (if x0 = 0 then (none) else ((minor_town_join.f x4 x16 (Int.tmod (wrap64 (x16 + 1)) x0)).bind fun t152 => ((minor_town_join.f t152 x16 x0).bind fun t153 => (minor_W.l0 k x0 t153 x15 (wrap64 (x16 + 1)))))) else (some (x4, 0))
end
def minor_W.f (k : Nat) (a0 : Int) : Option (List Int × Int) := if a0 < 3 then (minor_W.j0 k a0 true) else (minor_W.j0 k a0 (decide (a0 > 5)))
set_option maxHeartbeats 8000000 in
set_option maxRecDepth 100000 in
theorem minor_W.calls (k : Nat) (a0 : Int) (r1 : List Int) (r2 : Int) (w : World) (h : minor_W.f k a0 = some (r1, r2)) :
  Calls Tryd.prog 19 #[.int .i64 a0] w fun e w' => ∃ v0_ : Value, e = .returned (.tuple #[v0_, .int .i64 r2]) ∧ Kd.R (Kd.int .i64) 3 w' w.heap.size (fun _ => True) v0_ r1 ∧ Below w.heap.size w w' := by
 have HB := Aside0.mk (Below.refl w.heap.size w)
 have H : (if a0 < 3 then (minor_W.j0 k a0 true) else (minor_W.j0 k a0 (decide (a0 > 5)))) = some (r1, r2) := h
 clear h
 have HC2 := Aside0.mk H
 clear H
 go_enter Tryd.func19, Tryd.ntmps19
 go_upto_region 1 with (fail)
 go_cut [11] (fun v11 wc => ∃ (kq : Nat) (x11_1 : Bool), v11 = .bool x11_1 ∧ Aside0 (minor_W.j0 kq a0 x11_1 = some (r1, r2)) ∧ Aside0 (kq ≤ k) ∧ Aside0 (Below w.heap.size w wc))
 case first =>
  have H := HC2.out
  clear HC2
  by_cases c3 : a0 < 3
  ·rw [if_pos c3] at H
   have c3b0 : decide (a0 < 3) = true := decide_eq_true c3
   clear c3
   (first | rw [c3b0] | (simp only [i64_w, i32_w]; rw [c3b0]) | skip)
   have H' := Aside0.mk H
   clear H
   go_wp2
   go_meet
   case rel => exact ⟨_, (true), (by first | rfl | (simp; done) | (simp [*]; done)), H', ⟨by first | omega | exact Nat.le_refl _⟩, ⟨by repeat (first | (with_reducible first | exact HB.out | apply below_alloc | apply pw_below_drewN | apply below_drew1) | exact HB.out)⟩⟩
  ·rw [if_neg c3] at H
   have c3b0 : decide (a0 < 3) = false := decide_eq_false c3
   clear c3
   (first | rw [c3b0] | (simp only [i64_w, i32_w]; rw [c3b0]) | skip)
   have H' := Aside0.mk H
   clear H
   go_wp2
   go_meet
   case rel => exact ⟨_, (decide (a0 > 5)), (by first | rfl | (simp; done) | (simp [*]; done)), H', ⟨by first | omega | exact Nat.le_refl _⟩, ⟨by repeat (first | (with_reducible first | exact HB.out | apply below_alloc | apply pw_below_drewN | apply below_drew1) | exact HB.out)⟩⟩
 case rest =>
  clear HC2
  try clear c1
  try clear p2
  try clear c3
  try clear c3b0
  obtain ⟨kq, x11_1, rfl, HA, HJ1, HB⟩ := hcut
  cases kq with
  | zero => exact absurd HA.out (by simp [minor_W.j0])
  | succ kj1 =>
   have H := HA.out
   clear HA
   simp only [minor_W.j0] at H
   by_cases c4 : x11_1 = true
   ·subst c4
    have H1 : (some (([] : List Int), 2)) = some (r1, r2) := by rw [if_pos rfl] at H; exact H
    clear H
    have H := H1
    clear H1
    simp only [Option.some.injEq, Prod.mk.injEq] at H
    obtain ⟨rfl, rfl⟩ := H
    go_wp2
    go_ret2
    exact ⟨_, by first | rfl | (simp [errW_none, errW_some] <;> rfl) | (simp [*, errW_none, errW_some] <;> rfl), by first | exact Kd.R_nil _ _ _ _ _ | exact Kd.N_nil _ _ _ _ _ | exact Kd.V_nil _ _ _ _ _ | exact Kd.Q_nil _ _ _ _ _ | exact Kd.S_nil _ _ _ _ _, by repeat (first | (with_reducible first | exact HB.out | apply below_alloc | apply pw_below_drewN | apply below_drew1) | exact HB.out)⟩
   ·replace c4 := Bool.eq_false_iff.mpr c4
    subst c4
    have H1 : (if 0 ≤ (wrap64 (a0 + 1)) then (if (wrap64 (a0 + 1) : Int).toNat ≤ 35184372088832 then (minor_W.l0 kj1 a0 (List.replicate (wrap64 (a0 + 1) : Int).toNat 0) a0 0) else (none)) else (none)) = some (r1, r2) := by rw [if_neg (show ¬ (false = true) by decide)] at H; exact H
    clear H
    have H := H1
    clear H1
    obtain ⟨ji5, hji5⟩ : ∃ j_ : Int, (wrap64 (a0 + 1)) = j_ := ⟨_, rfl⟩
    replace H : (if 0 ≤ (ji5) then (if (ji5 : Int).toNat ≤ 35184372088832 then (minor_W.l0 kj1 a0 (List.replicate (ji5 : Int).toNat 0) a0 0) else (none)) else (none)) = some (r1, r2) := by first | (rw [hji5] at H; exact H) | (simp only [hji5] at H ⊢; exact H)
    have hji5w : (IntKind.i64.wrap (a0 + 1)) = ji5 := (i64_w _).trans hji5
    by_cases c6 : 0 ≤ (ji5)
    ·rw [if_pos c6] at H
     have c6b0 := eq_true c6
     have c6b1 : decide (0 ≤ (ji5)) = true := decide_eq_true c6
     clear c6
     by_cases c7 : (ji5 : Int).toNat ≤ 35184372088832
     ·rw [if_pos c7] at H
      have c7b0 := eq_true c7
      have c7b1 : decide ((ji5 : Int).toNat ≤ 35184372088832) = true := decide_eq_true c7
      clear c7
      obtain ⟨y149, hy149⟩ : ∃ y_ : List Int, y_ = (List.replicate (ji5 : Int).toNat 0) := ⟨_, rfl⟩
      replace H : (minor_W.l0 kj1 a0 y149 a0 0) = some (r1, r2) := by first | (rw [hy149]; with_reducible exact H) | (have H2_ := (Option.bind_some _ _).symm.trans H; rw [hy149]; with_reducible exact H2_) | (have H2_ := (Option.bind_some _ _).symm.trans H; with_reducible exact H2_) | with_reducible exact H | (rw [hy149]; exact H) | exact H
      have Ny149 := Aside0.mk hy149
      clear hy149
      have H' := Aside0.mk H
      clear H
      go_wp2_with (first | ((with_reducible refine gate_dst (N := 14) rfl ?_); refine Kd.R_make (Kd.int .i64) _ 3 rfl (N := 14) rfl 79 _ _ rfl ji5 rfl rfl Tryd.underlying79 (.int .i64 0) 8 info3 rfl (by decide) (by omega) 0 (ok := fun _ => True) (okp := fun _ => True) rfl (fun _ hk => hk) trivial (of_decide_eq_true (by first | (with_reducible assumption) | assumption)) (Nat.le_trans (Nat.mul_le_mul_right _ (of_decide_eq_true (by first | (with_reducible assumption) | assumption) : ji5.toNat ≤ 35184372088832)) (by omega)) (Below.refl _ _) (Nat.le_refl _) ?_; intro v150 w8 ho9 hb hg_ hnew_; clear hg_ hnew_; (first | rw [← Ny149.out] at ho9 | (simp only [Int.reduceToNat] at ho9; rw [← Ny149.out] at ho9)); have n0_ := Aside0.mk (Kd.R_lower ho9 (below_size (Qaw))); have n1_ := Aside0.mk (below_step (Qaw) hb); clear HB; have HO151 := n0_; have HB := n1_; clear n0_ n1_; clear hb ho9))
      go_loopg [16] kj1 (fun kq v16 w' => ∃ (x4_2 : List Int) (x16_2 : Int), v16 = .int .i64 x16_2 ∧ Aside0 (minor_W.l0 kq a0 x4_2 a0 x16_2 = some (r1, r2)) ∧ Aside0 (kq ≤ kj1) ∧ Aside0 (Kd.R (Kd.int .i64) 3 w' w.heap.size (fun _ => True) v150 x4_2) ∧ Aside0 (Below w.heap.size w w'))
      case atStart => exact ⟨(y149), (0), (by first | rfl | (simp; done) | (simp [*]; done)), H', ⟨Nat.le_refl _⟩, ⟨by (with_reducible repeat (first | apply Kd.R_alloc | apply Kd.R_drewN | apply Kd.R_drew)); exact HO151.out⟩, ⟨by repeat (first | (with_reducible first | exact HB.out | apply below_alloc | apply pw_below_drewN | apply below_drew1) | exact HB.out)⟩⟩
      case round =>
       clear H'
       try clear c1
       try clear p2
       try clear c3
       try clear c3b0
       try clear c4
       try clear c6
       try clear c6b0
       try clear c6b1
       try clear p6
       try clear c7
       try clear c7b0
       try clear c7b1
       try clear p2
       obtain ⟨x4_2, x16_2, rfl, HA, HK2, HO_4, HB⟩ := hrel
       cases gk with
       | zero => exact absurd HA.out (by simp [minor_W.l0])
       | succ k2 =>
        have H := HA.out
        clear HA
        simp only [minor_W.l0] at H
        by_cases c10 : x16_2 < a0
        ·rw [if_pos c10] at H
         have c10b0 : decide (x16_2 < a0) = true := decide_eq_true c10
         clear c10
         by_cases c11 : a0 = 0
         ·rw [if_pos c11] at H
          exact absurd H (by simp)
         ·rw [if_neg c11] at H
          have c11b0 : (a0 == 0) = false := beq_eq_false_iff_ne.mpr c11
          have c11b1 : (a0 != 0) = true := bne_iff_ne.mpr c11
          replace H := Option.bind_eq_some_iff.mp H
          obtain ⟨t152, A120, H⟩ := H
          replace H : ((minor_town_join.f t152 x16_2 a0).bind fun t153 => (minor_W.l0 k2 a0 t153 a0 (wrap64 (x16_2 + 1)))) = some (r1, r2) := H
          have A12 := Aside0.mk A120
          clear A120
          replace H := Option.bind_eq_some_iff.mp H
          obtain ⟨t153, A130, H⟩ := H
          replace H : (minor_W.l0 k2 a0 t153 a0 (wrap64 (x16_2 + 1))) = some (r1, r2) := H
          have A13 := Aside0.mk A130
          clear A130
          have H' := Aside0.mk H
          clear H
          obtain ⟨Ao14, co14, eo14⟩ := Kd.R_slice HO_4.out
          subst eo14
          go_wp2_with (first | ((with_reducible refine gate_callee (f := 62) rfl ?_); refine goesL_ (some 25) rfl rfl Tryd.func62 (by kernel_rfl) rfl #[.slice Ao14 x4_2.length co14, .int .i64 x16_2, .int .i64 (Int.tmod (wrap64 (x16_2 + 1)) a0)] rfl (Qls) ?_; (with_reducible refine (minor_town_join.calls (fun k_ => some k_ = (.slice Ao14 x4_2.length co14 : Value).ownBlock) (.slice Ao14 x4_2.length co14) x4_2 x16_2 (Int.tmod (wrap64 (x16_2 + 1)) a0) t152 w _ ?side1 ?side2 A12.out).mono ?_); (case side1 => repeat (first | (with_reducible first | exact HB.out | apply below_alloc | apply pw_below_drewN | apply below_drew1) | exact HB.out)); (case side2 => exact Kd.R_tight rfl HO_4.out); rintro e w15 ⟨rfl, hy0, hb, hkp⟩; refine ⟨_, rfl, ?_⟩; have n0_ := Aside0.mk (Kd.R_reok rfl hy0 (fun k_ e_ => HO_4.out.1 k_ e_)); have n1_ := Aside0.mk (hb); clear HO_4; clear HB; have HO_4 := n0_; have HB := n1_; clear n0_ n1_; (try clear hb); (try clear hkp); (try clear hy0)) | ((with_reducible refine gate_callee (f := 62) rfl ?_); refine goesL_ (some 29) rfl rfl Tryd.func62 (by kernel_rfl) rfl #[.slice Ao14 x4_2.length co14, .int .i64 x16_2, .int .i64 a0] rfl (Qls) ?_; (with_reducible refine (minor_town_join.calls (fun k_ => some k_ = (.slice Ao14 x4_2.length co14 : Value).ownBlock) (.slice Ao14 x4_2.length co14) t152 x16_2 a0 t153 w _ ?side1 ?side2 A13.out).mono ?_); (case side1 => repeat (first | (with_reducible first | exact HB.out | apply below_alloc | apply pw_below_drewN | apply below_drew1) | exact HB.out)); (case side2 => exact Kd.R_tight rfl HO_4.out); rintro e w16 ⟨rfl, hy0, hb, hkp⟩; refine ⟨_, rfl, ?_⟩; have n0_ := Aside0.mk (Kd.R_reok rfl hy0 (fun k_ e_ => HO_4.out.1 k_ e_)); have n1_ := Aside0.mk (hb); clear HO_4; clear HB; have HO_4 := n0_; have HB := n1_; clear n0_ n1_; (try clear hb); (try clear hkp); (try clear hy0)))
          go_roundg k2
          case measure => have := HJ1.out; have := HK2.out; omega
          case rel => exact ⟨(t153), (wrap64 (x16_2 + 1)), (by first | rfl | (simp; done) | (simp [*]; done)), H', ⟨by have := HJ1.out; have := HK2.out; omega⟩, ⟨by (with_reducible repeat (first | apply Kd.R_alloc | apply Kd.R_drewN | apply Kd.R_drew)); exact HO_4.out⟩, ⟨by repeat (first | (with_reducible first | exact HB.out | apply below_alloc | apply pw_below_drewN | apply below_drew1) | exact HB.out)⟩⟩
        ·rw [if_neg c10] at H
         have c10b0 : decide (x16_2 < a0) = false := decide_eq_false c10
         clear c10
         simp only [Option.some.injEq, Prod.mk.injEq] at H
         obtain ⟨rfl, rfl⟩ := H
         go_wp2
         go_ret2
         exact ⟨_, by first | rfl | (simp [errW_none, errW_some] <;> rfl) | (simp only [← hji5]; first | rfl | (simp [errW_none, errW_some] <;> rfl)) | (simp [*, errW_none, errW_some] <;> rfl), by (with_reducible repeat (first | apply Kd.R_alloc | apply Kd.R_drewN | apply Kd.R_drew)); exact HO_4.out, by repeat (first | (with_reducible first | exact HB.out | apply below_alloc | apply pw_below_drewN | apply below_drew1) | exact HB.out)⟩
     ·rw [if_neg c7] at H
      exact absurd H (by simp)
    ·rw [if_neg c6] at H
     exact absurd H (by simp)
end Go.Proofs.YtjloppfdagfpmaaDoor.X
end
section
namespace Go.Proofs.YtjloppfdagfpmaaDoor.X
open Go.RowKit YtjloppfdagfpmaaDoorW.PrintWords YtjloppfdagfpmaaDoorW.PrintLast YtjloppfdagfpmaaDoorW.PrintMore
attribute [local go_sem] max2_int min2_int max_two min_two max_three min_three max_four min_four
/-! ### lampblacklaw07_MinorNamed: function 5 -/
mutual
def lampblacklaw07_MinorNamed.j0 : Nat → Int → List Int → Int → List Int → Int → Bool → Option (Bool)
 | 0, _, _, _, _, _, _ => none
 | k + 1, x0, x3, x4, x5, x6, x24 => if x24 = true then (some false) else (if x0 < 1 then (lampblacklaw07_MinorNamed.j1 k x0 x3 x4 x5 x6 true) else (lampblacklaw07_MinorNamed.j1 k x0 x3 x4 x5 x6 (decide (x0 > 6))))
def lampblacklaw07_MinorNamed.j1 : Nat → Int → List Int → Int → List Int → Int → Bool → Option (Bool)
 | 0, _, _, _, _, _, _ => none
 | k + 1, x0, x3, x4, x5, x6, x30 => if x30 = true then (if (wrap64 ((x3.length : Int) + (x5.length : Int))) = 0 then (if x4 = 2 then (some (x6 == 2)) else (some false)) else (some false)) else ((lampblackref07_K.f k x0).bind fun t271 => ((api_Graph_int_30.f k x3 t271).bind fun t274 => (if t274 = true then (lampblacklaw07_MinorNamed.j2 k x0 x5 x6 (x4 != 0)) else (lampblacklaw07_MinorNamed.j2 k x0 x5 x6 true))))
def lampblacklaw07_MinorNamed.j2 : Nat → Int → List Int → Int → Bool → Option (Bool)
 | 0, _, _, _, _ => none
 | k + 1, x0, x5, x6, x53 => if x53 = true then (some false) else (if x0 < 3 then (lampblacklaw07_MinorNamed.j3 k x0 x5 x6 true) else (lampblacklaw07_MinorNamed.j3 k x0 x5 x6 (decide (x0 > 5))))
def lampblacklaw07_MinorNamed.j3 : Nat → Int → List Int → Int → Bool → Option (Bool)
 | 0, _, _, _, _ => none
 | k + 1, x0, x5, x6, x59 => if x59 = true then (if (x5.length : Int) = 0 then (some (x6 == 2)) else (some false)) else ((lampblackref07_Wheel.f k x0).bind fun t275 => ((api_Graph_int_30.f k x5 t275).bind fun t278 => (if t278 = true then (some (x6 == 0)) else (some false))))
end
def lampblacklaw07_MinorNamed.f (k : Nat) (a0 : Int) : Option (Bool) := (minor_K.f k a0).bind fun bt255 => ((minor_W.f k a0).bind fun bt259 => ((minor_K23.f k).bind fun t263 => ((lampblackref07_K23.f k).bind fun t266 => ((api_Graph_int_30.f k t263 t266).bind fun t269 => (if t269 = true then ((lampblacklaw07_awake.f k).bind fun t270 => (lampblacklaw07_MinorNamed.j0 k a0 bt255.1 bt255.2 bt259.1 bt259.2 (!t270))) else (lampblacklaw07_MinorNamed.j0 k a0 bt255.1 bt255.2 bt259.1 bt259.2 true))))))
set_option maxHeartbeats 8000000 in
set_option maxRecDepth 100000 in
theorem lampblacklaw07_MinorNamed.calls (k : Nat) (a0 : Int) (r : Bool) (w : World) (hGL : GL w) (h : lampblacklaw07_MinorNamed.f k a0 = some r) :
  Calls Tryd.prog 5 #[.int .i64 a0] w fun e w' => e = .returned (.bool r) ∧ Below w.heap.size w w' := by
 have HGL := Aside0.mk hGL
 clear hGL
 have HB := Aside0.mk (Below.refl w.heap.size w)
 have H : ((minor_K.f k a0).bind fun bt255 => ((minor_W.f k a0).bind fun bt259 => ((minor_K23.f k).bind fun t263 => ((lampblackref07_K23.f k).bind fun t266 => ((api_Graph_int_30.f k t263 t266).bind fun t269 => (if t269 = true then ((lampblacklaw07_awake.f k).bind fun t270 => (lampblacklaw07_MinorNamed.j0 k a0 bt255.1 bt255.2 bt259.1 bt259.2 (!t270))) else (lampblacklaw07_MinorNamed.j0 k a0 bt255.1 bt255.2 bt259.1 bt259.2 true))))))) = some r := h
 clear h
 replace H := Option.bind_eq_some_iff.mp H
 obtain ⟨⟨t255, t256⟩, A20, H⟩ := H
 replace H : ((minor_W.f k a0).bind fun bt259 => ((minor_K23.f k).bind fun t263 => ((lampblackref07_K23.f k).bind fun t266 => ((api_Graph_int_30.f k t263 t266).bind fun t269 => (if t269 = true then ((lampblacklaw07_awake.f k).bind fun t270 => (lampblacklaw07_MinorNamed.j0 k a0 t255 t256 bt259.1 bt259.2 (!t270))) else (lampblacklaw07_MinorNamed.j0 k a0 t255 t256 bt259.1 bt259.2 true)))))) = some r := H
 have A2 := Aside0.mk A20
 clear A20
 replace H := Option.bind_eq_some_iff.mp H
 obtain ⟨⟨t259, t260⟩, A30, H⟩ := H
 replace H : ((minor_K23.f k).bind fun t263 => ((lampblackref07_K23.f k).bind fun t266 => ((api_Graph_int_30.f k t263 t266).bind fun t269 => (if t269 = true then ((lampblacklaw07_awake.f k).bind fun t270 => (lampblacklaw07_MinorNamed.j0 k a0 t255 t256 t259 t260 (!t270))) else (lampblacklaw07_MinorNamed.j0 k a0 t255 t256 t259 t260 true))))) = some r := H
 have A3 := Aside0.mk A30
 clear A30
 have HC4 := Aside0.mk H
 clear H
 go_enter Tryd.func5, Tryd.ntmps5
 go_upto_region 3 with (first | ((with_reducible refine gate_callee (f := 29) rfl ?_); refine goesL_ (some 9) rfl rfl Tryd.func29 (by kernel_rfl) rfl #[.int .i64 a0] rfl (Qls) ?_; (with_reducible refine (minor_K.calls k a0 t255 t256 _ A2.out).mono ?_); rintro e w5 ⟨v257, rfl, ho0, hb⟩; refine ⟨_, rfl, ?_⟩; have n0_ := Aside0.mk (Kd.R_lower ho0 (below_size (Qaw))); have n1_ := Aside0.mk (below_step (Qaw) hb); clear HB; have HO258 := n0_; have HB := n1_; clear n0_ n1_; (try clear hb); (try clear hb2); (try clear hk); (try clear hi); (try clear ho0)) | ((with_reducible refine gate_callee (f := 19) rfl ?_); refine goesL_ (some 14) rfl rfl Tryd.func19 (by kernel_rfl) rfl #[.int .i64 a0] rfl (Qls) ?_; (with_reducible refine (minor_W.calls k a0 t259 t260 _ A3.out).mono ?_); rintro e w6 ⟨v261, rfl, ho0, hb⟩; refine ⟨_, rfl, ?_⟩; have n0_ := Aside0.mk (Kd.R_elder' (Qro HO258.out) (Kd.R_base ho0) hb); have n1_ := Aside0.mk (Kd.R_lower (Kd.R_new' ho0 (Kd.R_lt (Qro HO258.out))) (below_size (Qaw))); have n2_ := Aside0.mk (below_step (Qaw) hb); clear HO258; clear HB; have HO258 := n0_; have HO262 := n1_; have HB := n2_; clear n0_ n1_ n2_; (try clear hb); (try clear hb2); (try clear hk); (try clear hi); (try clear ho0)))
 (try simp only [Act.put, List.setIfInBounds_toArray, List.set_cons_zero, List.set_cons_succ])
 go_cut [24] (fun v24 wc => ∃ (kq : Nat) (x24_3 : Bool), v24 = .bool x24_3 ∧ Aside0 (lampblacklaw07_MinorNamed.j0 kq a0 t255 t256 t259 t260 x24_3 = some r) ∧ Aside0 (kq ≤ k) ∧ Aside0 (Kd.R (Kd.int .i64) 3 wc w.heap.size (fun k_ => some k_ ≠ (v261 : Value).ownBlock) v257 t255) ∧ Aside0 (Kd.R (Kd.int .i64) 3 wc w.heap.size (fun k_ => some k_ ≠ (v257 : Value).ownBlock) v261 t259) ∧ Aside0 (Below w.heap.size w wc))
 case first =>
  have H := HC4.out
  clear HC4
  replace H := Option.bind_eq_some_iff.mp H
  obtain ⟨t263, A70, H⟩ := H
  replace H : ((lampblackref07_K23.f k).bind fun t266 => ((api_Graph_int_30.f k t263 t266).bind fun t269 => (if t269 = true then ((lampblacklaw07_awake.f k).bind fun t270 => (lampblacklaw07_MinorNamed.j0 k a0 t255 t256 t259 t260 (!t270))) else (lampblacklaw07_MinorNamed.j0 k a0 t255 t256 t259 t260 true)))) = some r := H
  have A7 := Aside0.mk A70
  clear A70
  replace H := Option.bind_eq_some_iff.mp H
  obtain ⟨t266, A80, H⟩ := H
  replace H : ((api_Graph_int_30.f k t263 t266).bind fun t269 => (if t269 = true then ((lampblacklaw07_awake.f k).bind fun t270 => (lampblacklaw07_MinorNamed.j0 k a0 t255 t256 t259 t260 (!t270))) else (lampblacklaw07_MinorNamed.j0 k a0 t255 t256 t259 t260 true))) = some r := H
  have A8 := Aside0.mk A80
  clear A80
  replace H := Option.bind_eq_some_iff.mp H
  obtain ⟨t269, A90, H⟩ := H
  replace H : (if t269 = true then ((lampblacklaw07_awake.f k).bind fun t270 => (lampblacklaw07_MinorNamed.j0 k a0 t255 t256 t259 t260 (!t270))) else (lampblacklaw07_MinorNamed.j0 k a0 t255 t256 t259 t260 true)) = some r := H
  have A9 := Aside0.mk A90
  clear A90
  by_cases c10 : t269 = true
  ·subst c10
   have H1 : ((lampblacklaw07_awake.f k).bind fun t270 => (lampblacklaw07_MinorNamed.j0 k a0 t255 t256 t259 t260 (!t270))) = some r := by rw [if_pos rfl] at H; exact H
   clear H
   have H := H1
   clear H1
   replace H := Option.bind_eq_some_iff.mp H
   obtain ⟨t270, A110, H⟩ := H
   replace H : (lampblacklaw07_MinorNamed.j0 k a0 t255 t256 t259 t260 (!t270)) = some r := H
   have A11 := Aside0.mk A110
   clear A110
   have H' := Aside0.mk H
   clear H
   go_wp2_with (first | ((with_reducible refine gate_callee (f := 31) rfl ?_); refine goesL_ (some 17) rfl rfl Tryd.func31 (by kernel_rfl) rfl #[] rfl (Qls) ?_; (with_reducible refine (minor_K23.calls k  t263 _ A7.out).mono ?_); rintro e w12 ⟨v264, rfl, ho0, hb⟩; refine ⟨_, rfl, ?_⟩; have n0_ := Aside0.mk (Kd.R_elder' (Qro HO258.out) (Kd.R_base ho0) hb); have n1_ := Aside0.mk (Kd.R_elder' (Qro HO262.out) (Kd.R_base ho0) hb); have n2_ := Aside0.mk (Kd.R_lower (Kd.R_new' (Kd.R_new' ho0 (Kd.R_lt (Qro HO258.out))) (Kd.R_lt (Qro HO262.out))) (below_size (Qaw))); have n3_ := Aside0.mk (below_step (Qaw) hb); clear HO258; clear HO262; clear HB; have HO258 := n0_; have HO262 := n1_; have HO265 := n2_; have HB := n3_; clear n0_ n1_ n2_ n3_; (try clear hb); (try clear hb2); (try clear hk); (try clear hi); (try clear ho0)) | ((with_reducible refine gate_callee (f := 32) rfl ?_); refine goesL_ (some 18) rfl rfl Tryd.func32 (by kernel_rfl) rfl #[] rfl (Qls) ?_; (with_reducible refine (lampblackref07_K23.calls k  t266 _ A8.out).mono ?_); rintro e w13 ⟨v267, rfl, ho0, hb⟩; refine ⟨_, rfl, ?_⟩; have n0_ := Aside0.mk (Kd.R_elder' (Qro HO258.out) (Kd.R_base ho0) hb); have n1_ := Aside0.mk (Kd.R_elder' (Qro HO262.out) (Kd.R_base ho0) hb); have n2_ := Aside0.mk (Kd.R_elder' (Qro HO265.out) (Kd.R_base ho0) hb); have n3_ := Aside0.mk (Kd.R_lower (Kd.R_new' (Kd.R_new' (Kd.R_new' ho0 (Kd.R_lt (Qro HO258.out))) (Kd.R_lt (Qro HO262.out))) (Kd.R_lt (Qro HO265.out))) (below_size (Qaw))); have n4_ := Aside0.mk (below_step (Qaw) hb); clear HO258; clear HO262; clear HO265; clear HB; have HO258 := n0_; have HO262 := n1_; have HO265 := n2_; have HO268 := n3_; have HB := n4_; clear n0_ n1_ n2_ n3_ n4_; (try clear hb); (try clear hb2); (try clear hk); (try clear hi); (try clear ho0); obtain ⟨Ao14, co14, eo14⟩ := Kd.R_slice HO265.out; subst eo14; obtain ⟨Ao15, co15, eo15⟩ := Kd.R_slice HO268.out; subst eo15) | ((with_reducible refine gate_callee (f := 30) rfl ?_); refine goesL_ (some 19) rfl rfl Tryd.func30 (by kernel_rfl) rfl #[.slice Ao14 t263.length co14, .slice Ao15 t266.length co15] rfl (Qls) ?_; (with_reducible refine (api_Graph_int_30.calls k _ _ t263 _ _ t266 true _ ?side1 ?side2 ?side3 ?side4 A9.out).mono ?_); (case side1 => exact Qsc (Kd.R_reads' HO265.out).2.2); (case side2 => exact (Kd.R_reads' HO265.out).2.1); (case side3 => exact Qsc (Kd.R_reads' HO268.out).2.2); (case side4 => exact (Kd.R_reads' HO268.out).2.1); rintro e w' ⟨rfl, ⟨nd, rfl⟩⟩; refine ⟨_, rfl, ?_⟩) | (go_at_call 17; (with_reducible refine (lampblacklaw07_awake.calls (hGL := (Qlg)) k  t270 _ A11.out).mono ?_); rintro e w16 ⟨rfl, hb⟩; have n0_ := Aside0.mk (Kd.R_below (Qro HO258.out) hb); have n1_ := Aside0.mk (Kd.R_below (Qro HO262.out) hb); have n2_ := Aside0.mk (Kd.R_below (Qro HO265.out) hb); have n3_ := Aside0.mk (Kd.R_below (Qro HO268.out) hb); have n4_ := Aside0.mk (below_step (Qaw) hb); clear HO258; clear HO262; clear HO265; clear HO268; clear HB; have HO258 := n0_; have HO262 := n1_; have HO265 := n2_; have HO268 := n3_; have HB := n4_; clear n0_ n1_ n2_ n3_ n4_; (try clear hb); (try clear hb2); (try clear hk); (try clear hi)))
   go_meet
   case rel => exact ⟨_, (!t270), (by first | rfl | (simp; done) | (simp [*]; done)), H', ⟨by first | omega | exact Nat.le_refl _⟩, ⟨by (with_reducible repeat (first | apply Kd.R_alloc | apply Kd.R_drewN | apply Kd.R_drew)); exact Kd.R_mono HO258.out (fun _ hk => hk.1.1.2)⟩, ⟨by (with_reducible repeat (first | apply Kd.R_alloc | apply Kd.R_drewN | apply Kd.R_drew)); exact Kd.R_mono HO262.out (fun _ hk => hk.1.1.2)⟩, ⟨by repeat (first | (with_reducible first | exact HB.out | apply below_alloc | apply pw_below_drewN | apply below_drew1) | exact HB.out)⟩⟩
  ·replace c10 := Bool.eq_false_iff.mpr c10
   subst c10
   have H1 : (lampblacklaw07_MinorNamed.j0 k a0 t255 t256 t259 t260 true) = some r := by rw [if_neg (show ¬ (false = true) by decide)] at H; exact H
   clear H
   have H := H1
   clear H1
   have H' := Aside0.mk H
   clear H
   go_wp2_with (first | ((with_reducible refine gate_callee (f := 31) rfl ?_); refine goesL_ (some 17) rfl rfl Tryd.func31 (by kernel_rfl) rfl #[] rfl (Qls) ?_; (with_reducible refine (minor_K23.calls k  t263 _ A7.out).mono ?_); rintro e w17 ⟨v264, rfl, ho0, hb⟩; refine ⟨_, rfl, ?_⟩; have n0_ := Aside0.mk (Kd.R_elder' (Qro HO258.out) (Kd.R_base ho0) hb); have n1_ := Aside0.mk (Kd.R_elder' (Qro HO262.out) (Kd.R_base ho0) hb); have n2_ := Aside0.mk (Kd.R_lower (Kd.R_new' (Kd.R_new' ho0 (Kd.R_lt (Qro HO258.out))) (Kd.R_lt (Qro HO262.out))) (below_size (Qaw))); have n3_ := Aside0.mk (below_step (Qaw) hb); clear HO258; clear HO262; clear HB; have HO258 := n0_; have HO262 := n1_; have HO265 := n2_; have HB := n3_; clear n0_ n1_ n2_ n3_; (try clear hb); (try clear hb2); (try clear hk); (try clear hi); (try clear ho0)) | ((with_reducible refine gate_callee (f := 32) rfl ?_); refine goesL_ (some 18) rfl rfl Tryd.func32 (by kernel_rfl) rfl #[] rfl (Qls) ?_; (with_reducible refine (lampblackref07_K23.calls k  t266 _ A8.out).mono ?_); rintro e w18 ⟨v267, rfl, ho0, hb⟩; refine ⟨_, rfl, ?_⟩; have n0_ := Aside0.mk (Kd.R_elder' (Qro HO258.out) (Kd.R_base ho0) hb); have n1_ := Aside0.mk (Kd.R_elder' (Qro HO262.out) (Kd.R_base ho0) hb); have n2_ := Aside0.mk (Kd.R_elder' (Qro HO265.out) (Kd.R_base ho0) hb); have n3_ := Aside0.mk (Kd.R_lower (Kd.R_new' (Kd.R_new' (Kd.R_new' ho0 (Kd.R_lt (Qro HO258.out))) (Kd.R_lt (Qro HO262.out))) (Kd.R_lt (Qro HO265.out))) (below_size (Qaw))); have n4_ := Aside0.mk (below_step (Qaw) hb); clear HO258; clear HO262; clear HO265; clear HB; have HO258 := n0_; have HO262 := n1_; have HO265 := n2_; have HO268 := n3_; have HB := n4_; clear n0_ n1_ n2_ n3_ n4_; (try clear hb); (try clear hb2); (try clear hk); (try clear hi); (try clear ho0); obtain ⟨Ao19, co19, eo19⟩ := Kd.R_slice HO265.out; subst eo19; obtain ⟨Ao20, co20, eo20⟩ := Kd.R_slice HO268.out; subst eo20) | ((with_reducible refine gate_callee (f := 30) rfl ?_); refine goesL_ (some 19) rfl rfl Tryd.func30 (by kernel_rfl) rfl #[.slice Ao19 t263.length co19, .slice Ao20 t266.length co20] rfl (Qls) ?_; (with_reducible refine (api_Graph_int_30.calls k _ _ t263 _ _ t266 false _ ?side1 ?side2 ?side3 ?side4 A9.out).mono ?_); (case side1 => exact Qsc (Kd.R_reads' HO265.out).2.2); (case side2 => exact (Kd.R_reads' HO265.out).2.1); (case side3 => exact Qsc (Kd.R_reads' HO268.out).2.2); (case side4 => exact (Kd.R_reads' HO268.out).2.1); rintro e w' ⟨rfl, ⟨nd, rfl⟩⟩; refine ⟨_, rfl, ?_⟩))
   go_meet
   case rel => exact ⟨_, (true), (by first | rfl | (simp; done) | (simp [*]; done)), H', ⟨by first | omega | exact Nat.le_refl _⟩, ⟨by (with_reducible repeat (first | apply Kd.R_alloc | apply Kd.R_drewN | apply Kd.R_drew)); exact Kd.R_mono HO258.out (fun _ hk => hk.1.1.2)⟩, ⟨by (with_reducible repeat (first | apply Kd.R_alloc | apply Kd.R_drewN | apply Kd.R_drew)); exact Kd.R_mono HO262.out (fun _ hk => hk.1.1.2)⟩, ⟨by repeat (first | (with_reducible first | exact HB.out | apply below_alloc | apply pw_below_drewN | apply below_drew1) | exact HB.out)⟩⟩
 case rest =>
  clear HC4
  try clear c1
  try clear c2
  try clear p2
  try clear c3
  try clear c5
  try clear c10
  try clear c19
  obtain ⟨kq, x24_3, rfl, HA, HJ3, HO_3, HO_5, HB⟩ := hcut
  cases kq with
  | zero => exact absurd HA.out (by simp [lampblacklaw07_MinorNamed.j0])
  | succ kj3 =>
   have H := HA.out
   clear HA
   simp only [lampblacklaw07_MinorNamed.j0] at H
   by_cases c21 : x24_3 = true
   ·subst c21
    have H1 : (some false) = some r := by rw [if_pos rfl] at H; exact H
    clear H
    have H := H1
    clear H1
    obtain rfl := Option.some.inj H
    go_wp2
    go_ret
    exact ⟨by first | rfl | (simp [errW_none, errW_some] <;> rfl) | (simp [*, errW_none, errW_some] <;> rfl), by repeat (first | (with_reducible first | exact HB.out | apply below_alloc | apply pw_below_drewN | apply below_drew1) | exact HB.out)⟩
   ·replace c21 := Bool.eq_false_iff.mpr c21
    subst c21
    have H1 : (if a0 < 1 then (lampblacklaw07_MinorNamed.j1 kj3 a0 t255 t256 t259 t260 true) else (lampblacklaw07_MinorNamed.j1 kj3 a0 t255 t256 t259 t260 (decide (a0 > 6)))) = some r := by rw [if_neg (show ¬ (false = true) by decide)] at H; exact H
    clear H
    have H := H1
    clear H1
    have HC22 := Aside0.mk H
    clear H
    go_upto_region 5 with (fail)
    go_cut [30] (fun v30 wc => ∃ (kq : Nat) (x30_21 : Bool), v30 = .bool x30_21 ∧ Aside0 (lampblacklaw07_MinorNamed.j1 kq a0 t255 t256 t259 t260 x30_21 = some r) ∧ Aside0 (kq ≤ kj3) ∧ Aside0 (Kd.R (Kd.int .i64) 3 wc w.heap.size (fun k_ => some k_ ≠ (v261 : Value).ownBlock) v257 t255) ∧ Aside0 (Kd.R (Kd.int .i64) 3 wc w.heap.size (fun k_ => some k_ ≠ (v257 : Value).ownBlock) v261 t259) ∧ Aside0 (Below w.heap.size w wc))
    case first =>
     have H := HC22.out
     clear HC22
     by_cases c23 : a0 < 1
     ·rw [if_pos c23] at H
      have c23b0 : decide (a0 < 1) = true := decide_eq_true c23
      clear c23
      (first | rw [c23b0] | (simp only [i64_w, i32_w]; rw [c23b0]) | skip)
      have H' := Aside0.mk H
      clear H
      go_wp2
      go_meet
      case rel => exact ⟨_, (true), (by first | rfl | (simp; done) | (simp [*]; done)), H', ⟨by have := HJ3.out; first | omega | exact Nat.le_refl _⟩, ⟨by (with_reducible repeat (first | apply Kd.R_alloc | apply Kd.R_drewN | apply Kd.R_drew)); exact HO_3.out⟩, ⟨by (with_reducible repeat (first | apply Kd.R_alloc | apply Kd.R_drewN | apply Kd.R_drew)); exact HO_5.out⟩, ⟨by repeat (first | (with_reducible first | exact HB.out | apply below_alloc | apply pw_below_drewN | apply below_drew1) | exact HB.out)⟩⟩
     ·rw [if_neg c23] at H
      have c23b0 : decide (a0 < 1) = false := decide_eq_false c23
      clear c23
      (first | rw [c23b0] | (simp only [i64_w, i32_w]; rw [c23b0]) | skip)
      have H' := Aside0.mk H
      clear H
      go_wp2
      go_meet
      case rel => exact ⟨_, (decide (a0 > 6)), (by first | rfl | (simp; done) | (simp [*]; done)), H', ⟨by have := HJ3.out; first | omega | exact Nat.le_refl _⟩, ⟨by (with_reducible repeat (first | apply Kd.R_alloc | apply Kd.R_drewN | apply Kd.R_drew)); exact HO_3.out⟩, ⟨by (with_reducible repeat (first | apply Kd.R_alloc | apply Kd.R_drewN | apply Kd.R_drew)); exact HO_5.out⟩, ⟨by repeat (first | (with_reducible first | exact HB.out | apply below_alloc | apply pw_below_drewN | apply below_drew1) | exact HB.out)⟩⟩
    case rest =>
     clear HC22
     try clear c1
     try clear c2
     try clear p2
     try clear c3
     try clear c5
     try clear c10
     try clear c19
     try clear c21
     try clear c23
     try clear c23b0
     try clear p2
     obtain ⟨kq, x30_21, rfl, HA, HJ21, HO_3, HO_5, HB⟩ := hcut
     cases kq with
     | zero => exact absurd HA.out (by simp [lampblacklaw07_MinorNamed.j1])
     | succ kj21 =>
      have H := HA.out
      clear HA
      simp only [lampblacklaw07_MinorNamed.j1] at H
      by_cases c24 : x30_21 = true
      ·subst c24
       have H1 : (if (wrap64 ((t255.length : Int) + (t259.length : Int))) = 0 then (if t256 = 2 then (some (t260 == 2)) else (some false)) else (some false)) = some r := by rw [if_pos rfl] at H; exact H
       clear H
       have H := H1
       clear H1
       by_cases c25 : (wrap64 ((t255.length : Int) + (t259.length : Int))) = 0
       ·rw [if_pos c25] at H
        have c25b0 : ((wrap64 ((t255.length : Int) + (t259.length : Int))) == 0) = true := beq_iff_eq.mpr c25
        have c25b1 : ((wrap64 ((t255.length : Int) + (t259.length : Int))) != 0) = false := bne_eq_false_iff_eq.mpr c25
        clear c25
        by_cases c26 : t256 = 2
        ·rw [if_pos c26] at H
         have c26b0 : (t256 == 2) = true := beq_iff_eq.mpr c26
         have c26b1 : (t256 != 2) = false := bne_eq_false_iff_eq.mpr c26
         clear c26
         obtain rfl := Option.some.inj H
         obtain ⟨Ao27, co27, eo27⟩ := Kd.R_slice HO_3.out
         subst eo27
         obtain ⟨Ao28, co28, eo28⟩ := Kd.R_slice HO_5.out
         subst eo28
         go_wp2
         go_ret
         exact ⟨by first | rfl | (simp [errW_none, errW_some] <;> rfl) | (simp [*, errW_none, errW_some] <;> rfl), by repeat (first | (with_reducible first | exact HB.out | apply below_alloc | apply pw_below_drewN | apply below_drew1) | exact HB.out)⟩
        ·rw [if_neg c26] at H
         have c26b0 : (t256 == 2) = false := beq_eq_false_iff_ne.mpr c26
         have c26b1 : (t256 != 2) = true := bne_iff_ne.mpr c26
         obtain rfl := Option.some.inj H
         obtain ⟨Ao29, co29, eo29⟩ := Kd.R_slice HO_3.out
         subst eo29
         obtain ⟨Ao30, co30, eo30⟩ := Kd.R_slice HO_5.out
         subst eo30
         go_wp2
         go_ret
         exact ⟨by first | rfl | (simp [errW_none, errW_some] <;> rfl) | (simp [*, errW_none, errW_some] <;> rfl), by repeat (first | (with_reducible first | exact HB.out | apply below_alloc | apply pw_below_drewN | apply below_drew1) | exact HB.out)⟩
       ·rw [if_neg c25] at H
        have c25b0 : ((wrap64 ((t255.length : Int) + (t259.length : Int))) == 0) = false := beq_eq_false_iff_ne.mpr c25
        have c25b1 : ((wrap64 ((t255.length : Int) + (t259.length : Int))) != 0) = true := bne_iff_ne.mpr c25
        obtain rfl := Option.some.inj H
        obtain ⟨Ao31, co31, eo31⟩ := Kd.R_slice HO_3.out
        subst eo31
        obtain ⟨Ao32, co32, eo32⟩ := Kd.R_slice HO_5.out
        subst eo32
        go_wp2
        go_ret
        exact ⟨by first | rfl | (simp [errW_none, errW_some] <;> rfl) | (simp [*, errW_none, errW_some] <;> rfl), by repeat (first | (with_reducible first | exact HB.out | apply below_alloc | apply pw_below_drewN | apply below_drew1) | exact HB.out)⟩
      ·replace c24 := Bool.eq_false_iff.mpr c24
       subst c24
       have H1 : ((lampblackref07_K.f kj21 a0).bind fun t271 => ((api_Graph_int_30.f kj21 t255 t271).bind fun t274 => (if t274 = true then (lampblacklaw07_MinorNamed.j2 kj21 a0 t259 t260 (t256 != 0)) else (lampblacklaw07_MinorNamed.j2 kj21 a0 t259 t260 true)))) = some r := by rw [if_neg (show ¬ (false = true) by decide)] at H; exact H
       clear H
       have H := H1
       clear H1
       have HC33 := Aside0.mk H
       clear H
       go_upto_region 7 with (fail)
       go_cut [53] (fun v53 wc => ∃ (kq : Nat) (x53_32 : Bool), v53 = .bool x53_32 ∧ Aside0 (lampblacklaw07_MinorNamed.j2 kq a0 t259 t260 x53_32 = some r) ∧ Aside0 (kq ≤ kj21) ∧ Aside0 (Kd.R (Kd.int .i64) 3 wc w.heap.size (fun _ => True) v261 t259) ∧ Aside0 (Below w.heap.size w wc))
       case first =>
        have H := HC33.out
        clear HC33
        replace H := Option.bind_eq_some_iff.mp H
        obtain ⟨t271, A340, H⟩ := H
        replace H : ((api_Graph_int_30.f kj21 t255 t271).bind fun t274 => (if t274 = true then (lampblacklaw07_MinorNamed.j2 kj21 a0 t259 t260 (t256 != 0)) else (lampblacklaw07_MinorNamed.j2 kj21 a0 t259 t260 true))) = some r := H
        have A34 := Aside0.mk A340
        clear A340
        replace H := Option.bind_eq_some_iff.mp H
        obtain ⟨t274, A350, H⟩ := H
        replace H : (if t274 = true then (lampblacklaw07_MinorNamed.j2 kj21 a0 t259 t260 (t256 != 0)) else (lampblacklaw07_MinorNamed.j2 kj21 a0 t259 t260 true)) = some r := H
        have A35 := Aside0.mk A350
        clear A350
        by_cases c36 : t274 = true
        ·subst c36
         have H1 : (lampblacklaw07_MinorNamed.j2 kj21 a0 t259 t260 (t256 != 0)) = some r := by rw [if_pos rfl] at H; exact H
         clear H
         have H := H1
         clear H1
         have H' := Aside0.mk H
         clear H
         go_wp2_with (first | ((with_reducible refine gate_callee (f := 33) rfl ?_); refine goesL_ (some 47) rfl rfl Tryd.func33 (by kernel_rfl) rfl #[.int .i64 a0] rfl (Qls) ?_; (with_reducible refine (lampblackref07_K.calls kj21 a0 t271 _ A34.out).mono ?_); rintro e w37 ⟨v272, rfl, ho0, hb⟩; refine ⟨_, rfl, ?_⟩; have n0_ := Aside0.mk (Kd.R_elder' (Qro HO_3.out) (Kd.R_base ho0) hb); have n1_ := Aside0.mk (Kd.R_elder' (Qro HO_5.out) (Kd.R_base ho0) hb); have n2_ := Aside0.mk (Kd.R_lower (Kd.R_new' (Kd.R_new' ho0 (Kd.R_lt (Qro HO_3.out))) (Kd.R_lt (Qro HO_5.out))) (below_size (Qaw))); have n3_ := Aside0.mk (below_step (Qaw) hb); clear HO_3; clear HO_5; clear HB; have HO_3 := n0_; have HO_5 := n1_; have HO273 := n2_; have HB := n3_; clear n0_ n1_ n2_ n3_; (try clear hb); (try clear hb2); (try clear hk); (try clear hi); (try clear ho0); obtain ⟨Ao38, co38, eo38⟩ := Kd.R_slice HO_3.out; subst eo38; obtain ⟨Ao39, co39, eo39⟩ := Kd.R_slice HO273.out; subst eo39) | ((with_reducible refine gate_callee (f := 30) rfl ?_); refine goesL_ (some 48) rfl rfl Tryd.func30 (by kernel_rfl) rfl #[.slice Ao38 t255.length co38, .slice Ao39 t271.length co39] rfl (Qls) ?_; (with_reducible refine (api_Graph_int_30.calls kj21 _ _ t255 _ _ t271 true _ ?side1 ?side2 ?side3 ?side4 A35.out).mono ?_); (case side1 => exact Qsc (Kd.R_reads' HO_3.out).2.2); (case side2 => exact (Kd.R_reads' HO_3.out).2.1); (case side3 => exact Qsc (Kd.R_reads' HO273.out).2.2); (case side4 => exact (Kd.R_reads' HO273.out).2.1); rintro e w' ⟨rfl, ⟨nd, rfl⟩⟩; refine ⟨_, rfl, ?_⟩))
         go_meet
         case rel => exact ⟨_, ((t256 != 0)), (by first | rfl | (simp; done) | (simp [*]; done)), H', ⟨by have := HJ3.out; have := HJ21.out; first | omega | exact Nat.le_refl _⟩, ⟨by (with_reducible repeat (first | apply Kd.R_alloc | apply Kd.R_drewN | apply Kd.R_drew)); exact Kd.R_mono HO_5.out (fun _ hk => trivial)⟩, ⟨by repeat (first | (with_reducible first | exact HB.out | apply below_alloc | apply pw_below_drewN | apply below_drew1) | exact HB.out)⟩⟩
        ·replace c36 := Bool.eq_false_iff.mpr c36
         subst c36
         have H1 : (lampblacklaw07_MinorNamed.j2 kj21 a0 t259 t260 true) = some r := by rw [if_neg (show ¬ (false = true) by decide)] at H; exact H
         clear H
         have H := H1
         clear H1
         have H' := Aside0.mk H
         clear H
         go_wp2_with (first | ((with_reducible refine gate_callee (f := 33) rfl ?_); refine goesL_ (some 47) rfl rfl Tryd.func33 (by kernel_rfl) rfl #[.int .i64 a0] rfl (Qls) ?_; (with_reducible refine (lampblackref07_K.calls kj21 a0 t271 _ A34.out).mono ?_); rintro e w40 ⟨v272, rfl, ho0, hb⟩; refine ⟨_, rfl, ?_⟩; have n0_ := Aside0.mk (Kd.R_elder' (Qro HO_3.out) (Kd.R_base ho0) hb); have n1_ := Aside0.mk (Kd.R_elder' (Qro HO_5.out) (Kd.R_base ho0) hb); have n2_ := Aside0.mk (Kd.R_lower (Kd.R_new' (Kd.R_new' ho0 (Kd.R_lt (Qro HO_3.out))) (Kd.R_lt (Qro HO_5.out))) (below_size (Qaw))); have n3_ := Aside0.mk (below_step (Qaw) hb); clear HO_3; clear HO_5; clear HB; have HO_3 := n0_; have HO_5 := n1_; have HO273 := n2_; have HB := n3_; clear n0_ n1_ n2_ n3_; (try clear hb); (try clear hb2); (try clear hk); (try clear hi); (try clear ho0); obtain ⟨Ao41, co41, eo41⟩ := Kd.R_slice HO_3.out; subst eo41; obtain ⟨Ao42, co42, eo42⟩ := Kd.R_slice HO273.out; subst eo42) | ((with_reducible refine gate_callee (f := 30) rfl ?_); refine goesL_ (some 48) rfl rfl Tryd.func30 (by kernel_rfl) rfl #[.slice Ao41 t255.length co41, .slice Ao42 t271.length co42] rfl (Qls) ?_; (with_reducible refine (api_Graph_int_30.calls kj21 _ _ t255 _ _ t271 false _ ?side1 ?side2 ?side3 ?side4 A35.out).mono ?_); (case side1 => exact Qsc (Kd.R_reads' HO_3.out).2.2); (case side2 => exact (Kd.R_reads' HO_3.out).2.1); (case side3 => exact Qsc (Kd.R_reads' HO273.out).2.2); (case side4 => exact (Kd.R_reads' HO273.out).2.1); rintro e w' ⟨rfl, ⟨nd, rfl⟩⟩; refine ⟨_, rfl, ?_⟩))
         go_meet
         case rel => exact ⟨_, (true), (by first | rfl | (simp; done) | (simp [*]; done)), H', ⟨by have := HJ3.out; have := HJ21.out; first | omega | exact Nat.le_refl _⟩, ⟨by (with_reducible repeat (first | apply Kd.R_alloc | apply Kd.R_drewN | apply Kd.R_drew)); exact Kd.R_mono HO_5.out (fun _ hk => trivial)⟩, ⟨by repeat (first | (with_reducible first | exact HB.out | apply below_alloc | apply pw_below_drewN | apply below_drew1) | exact HB.out)⟩⟩
       case rest =>
        clear HC33
        try clear c1
        try clear c2
        try clear p2
        try clear c3
        try clear c5
        try clear p6
        try clear c10
        try clear c19
        try clear c21
        try clear c23
        try clear c23b0
        try clear c24
        try clear c25
        try clear c25b0
        try clear c25b1
        try clear c26
        try clear c26b0
        try clear c26b1
        try clear c29
        try clear c30
        try clear c31
        try clear c32
        try clear c33
        try clear c36
        try clear p2
        obtain ⟨kq, x53_32, rfl, HA, HJ32, HO_5, HB⟩ := hcut
        cases kq with
        | zero => exact absurd HA.out (by simp [lampblacklaw07_MinorNamed.j2])
        | succ kj32 =>
         have H := HA.out
         clear HA
         simp only [lampblacklaw07_MinorNamed.j2] at H
         by_cases c43 : x53_32 = true
         ·subst c43
          have H1 : (some false) = some r := by rw [if_pos rfl] at H; exact H
          clear H
          have H := H1
          clear H1
          obtain rfl := Option.some.inj H
          go_wp2
          go_ret
          exact ⟨by first | rfl | (simp [errW_none, errW_some] <;> rfl) | (simp [*, errW_none, errW_some] <;> rfl), by repeat (first | (with_reducible first | exact HB.out | apply below_alloc | apply pw_below_drewN | apply below_drew1) | exact HB.out)⟩
         ·replace c43 := Bool.eq_false_iff.mpr c43
          subst c43
          have H1 : (if a0 < 3 then (lampblacklaw07_MinorNamed.j3 kj32 a0 t259 t260 true) else (lampblacklaw07_MinorNamed.j3 kj32 a0 t259 t260 (decide (a0 > 5)))) = some r := by rw [if_neg (show ¬ (false = true) by decide)] at H; exact H
          clear H
          have H := H1
          clear H1
          have HC44 := Aside0.mk H
          clear H
          go_upto_region 9 with (fail)
          go_cut [59] (fun v59 wc => ∃ (kq : Nat) (x59_43 : Bool), v59 = .bool x59_43 ∧ Aside0 (lampblacklaw07_MinorNamed.j3 kq a0 t259 t260 x59_43 = some r) ∧ Aside0 (kq ≤ kj32) ∧ Aside0 (Kd.R (Kd.int .i64) 3 wc w.heap.size (fun _ => True) v261 t259) ∧ Aside0 (Below w.heap.size w wc))
          case first =>
           have H := HC44.out
           clear HC44
           by_cases c45 : a0 < 3
           ·rw [if_pos c45] at H
            have c45b0 : decide (a0 < 3) = true := decide_eq_true c45
            clear c45
            (first | rw [c45b0] | (simp only [i64_w, i32_w]; rw [c45b0]) | skip)
            have H' := Aside0.mk H
            clear H
            go_wp2
            go_meet
            case rel => exact ⟨_, (true), (by first | rfl | (simp; done) | (simp [*]; done)), H', ⟨by have := HJ3.out; have := HJ21.out; have := HJ32.out; first | omega | exact Nat.le_refl _⟩, ⟨by (with_reducible repeat (first | apply Kd.R_alloc | apply Kd.R_drewN | apply Kd.R_drew)); exact HO_5.out⟩, ⟨by repeat (first | (with_reducible first | exact HB.out | apply below_alloc | apply pw_below_drewN | apply below_drew1) | exact HB.out)⟩⟩
           ·rw [if_neg c45] at H
            have c45b0 : decide (a0 < 3) = false := decide_eq_false c45
            clear c45
            (first | rw [c45b0] | (simp only [i64_w, i32_w]; rw [c45b0]) | skip)
            have H' := Aside0.mk H
            clear H
            go_wp2
            go_meet
            case rel => exact ⟨_, (decide (a0 > 5)), (by first | rfl | (simp; done) | (simp [*]; done)), H', ⟨by have := HJ3.out; have := HJ21.out; have := HJ32.out; first | omega | exact Nat.le_refl _⟩, ⟨by (with_reducible repeat (first | apply Kd.R_alloc | apply Kd.R_drewN | apply Kd.R_drew)); exact HO_5.out⟩, ⟨by repeat (first | (with_reducible first | exact HB.out | apply below_alloc | apply pw_below_drewN | apply below_drew1) | exact HB.out)⟩⟩
          case rest =>
           clear HC44
           try clear c1
           try clear c2
           try clear p2
           try clear c3
           try clear c4
           try clear c5
           try clear p6
           try clear c10
           try clear c19
           try clear c21
           try clear c23
           try clear c23b0
           try clear c24
           try clear c25
           try clear c25b0
           try clear c25b1
           try clear c26
           try clear c26b0
           try clear c26b1
           try clear c29
           try clear c30
           try clear c31
           try clear c32
           try clear c33
           try clear c36
           try clear c43
           try clear c45
           try clear c45b0
           try clear p2
           try clear p6
           obtain ⟨kq, x59_43, rfl, HA, HJ43, HO_5, HB⟩ := hcut
           cases kq with
           | zero => exact absurd HA.out (by simp [lampblacklaw07_MinorNamed.j3])
           | succ kj43 =>
            have H := HA.out
            clear HA
            simp only [lampblacklaw07_MinorNamed.j3] at H
            by_cases c46 : x59_43 = true
            ·subst c46
             have H1 : (if (t259.length : Int) = 0 then (some (t260 == 2)) else (some false)) = some r := by rw [if_pos rfl] at H; exact H
             clear H
             have H := H1
             clear H1
             by_cases c47 : (t259.length : Int) = 0
             ·rw [if_pos c47] at H
              have c47b0 : ((t259.length : Int) == 0) = true := beq_iff_eq.mpr c47
              have c47b1 : ((t259.length : Int) != 0) = false := bne_eq_false_iff_eq.mpr c47
              clear c47
              obtain rfl := Option.some.inj H
              obtain ⟨Ao48, co48, eo48⟩ := Kd.R_slice HO_5.out
              subst eo48
              go_wp2
              go_ret
              exact ⟨by first | rfl | (simp [errW_none, errW_some] <;> rfl) | (simp [*, errW_none, errW_some] <;> rfl), by repeat (first | (with_reducible first | exact HB.out | apply below_alloc | apply pw_below_drewN | apply below_drew1) | exact HB.out)⟩
             ·rw [if_neg c47] at H
              have c47b0 : ((t259.length : Int) == 0) = false := beq_eq_false_iff_ne.mpr c47
              have c47b1 : ((t259.length : Int) != 0) = true := bne_iff_ne.mpr c47
              have c47b2 : ¬ (t259 = []) := fun h_ => c47 (by rw [h_]; rfl)
              obtain rfl := Option.some.inj H
              obtain ⟨Ao49, co49, eo49⟩ := Kd.R_slice HO_5.out
              subst eo49
              go_wp2
              go_ret
              exact ⟨by first | rfl | (simp [errW_none, errW_some] <;> rfl) | (simp [*, errW_none, errW_some] <;> rfl), by repeat (first | (with_reducible first | exact HB.out | apply below_alloc | apply pw_below_drewN | apply below_drew1) | exact HB.out)⟩
            ·replace c46 := Bool.eq_false_iff.mpr c46
             subst c46
             have H1 : ((lampblackref07_Wheel.f kj43 a0).bind fun t275 => ((api_Graph_int_30.f kj43 t259 t275).bind fun t278 => (if t278 = true then (some (t260 == 0)) else (some false)))) = some r := by rw [if_neg (show ¬ (false = true) by decide)] at H; exact H
             clear H
             have H := H1
             clear H1
             replace H := Option.bind_eq_some_iff.mp H
             obtain ⟨t275, A500, H⟩ := H
             replace H : ((api_Graph_int_30.f kj43 t259 t275).bind fun t278 => (if t278 = true then (some (t260 == 0)) else (some false))) = some r := H
             have A50 := Aside0.mk A500
             clear A500
             replace H := Option.bind_eq_some_iff.mp H
             obtain ⟨t278, A510, H⟩ := H
             replace H : (if t278 = true then (some (t260 == 0)) else (some false)) = some r := H
             have A51 := Aside0.mk A510
             clear A510
             by_cases c52 : t278 = true
             ·subst c52
              have H1 : (some (t260 == 0)) = some r := by rw [if_pos rfl] at H; exact H
              clear H
              have H := H1
              clear H1
              obtain rfl := Option.some.inj H
              go_wp2_with (first | ((with_reducible refine gate_callee (f := 34) rfl ?_); refine goesL_ (some 69) rfl rfl Tryd.func34 (by kernel_rfl) rfl #[.int .i64 a0] rfl (Qls) ?_; (with_reducible refine (lampblackref07_Wheel.calls kj43 a0 t275 _ A50.out).mono ?_); rintro e w53 ⟨v276, rfl, ho0, hb⟩; refine ⟨_, rfl, ?_⟩; have n0_ := Aside0.mk (Kd.R_elder' (Qro HO_5.out) (Kd.R_base ho0) hb); have n1_ := Aside0.mk (Kd.R_lower (Kd.R_new' ho0 (Kd.R_lt (Qro HO_5.out))) (below_size (Qaw))); have n2_ := Aside0.mk (below_step (Qaw) hb); clear HO_5; clear HB; have HO_5 := n0_; have HO277 := n1_; have HB := n2_; clear n0_ n1_ n2_; (try clear hb); (try clear hb2); (try clear hk); (try clear hi); (try clear ho0); obtain ⟨Ao54, co54, eo54⟩ := Kd.R_slice HO_5.out; subst eo54; obtain ⟨Ao55, co55, eo55⟩ := Kd.R_slice HO277.out; subst eo55) | ((with_reducible refine gate_callee (f := 30) rfl ?_); refine goesL_ (some 70) rfl rfl Tryd.func30 (by kernel_rfl) rfl #[.slice Ao54 t259.length co54, .slice Ao55 t275.length co55] rfl (Qls) ?_; (with_reducible refine (api_Graph_int_30.calls kj43 _ _ t259 _ _ t275 true _ ?side1 ?side2 ?side3 ?side4 A51.out).mono ?_); (case side1 => exact Qsc (Kd.R_reads' HO_5.out).2.2); (case side2 => exact (Kd.R_reads' HO_5.out).2.1); (case side3 => exact Qsc (Kd.R_reads' HO277.out).2.2); (case side4 => exact (Kd.R_reads' HO277.out).2.1); rintro e w' ⟨rfl, ⟨nd, rfl⟩⟩; refine ⟨_, rfl, ?_⟩))
              go_ret
              exact ⟨by first | rfl | (simp [errW_none, errW_some] <;> rfl) | (simp [*, errW_none, errW_some] <;> rfl), by repeat (first | (with_reducible first | exact HB.out | apply below_alloc | apply pw_below_drewN | apply below_drew1) | exact HB.out)⟩
             ·replace c52 := Bool.eq_false_iff.mpr c52
              subst c52
              have H1 : (some false) = some r := by rw [if_neg (show ¬ (false = true) by decide)] at H; exact H
              clear H
              have H := H1
              clear H1
              obtain rfl := Option.some.inj H
              go_wp2_with (first | ((with_reducible refine gate_callee (f := 34) rfl ?_); refine goesL_ (some 69) rfl rfl Tryd.func34 (by kernel_rfl) rfl #[.int .i64 a0] rfl (Qls) ?_; (with_reducible refine (lampblackref07_Wheel.calls kj43 a0 t275 _ A50.out).mono ?_); rintro e w56 ⟨v276, rfl, ho0, hb⟩; refine ⟨_, rfl, ?_⟩; have n0_ := Aside0.mk (Kd.R_elder' (Qro HO_5.out) (Kd.R_base ho0) hb); have n1_ := Aside0.mk (Kd.R_lower (Kd.R_new' ho0 (Kd.R_lt (Qro HO_5.out))) (below_size (Qaw))); have n2_ := Aside0.mk (below_step (Qaw) hb); clear HO_5; clear HB; have HO_5 := n0_; have HO277 := n1_; have HB := n2_; clear n0_ n1_ n2_; (try clear hb); (try clear hb2); (try clear hk); (try clear hi); (try clear ho0); obtain ⟨Ao57, co57, eo57⟩ := Kd.R_slice HO_5.out; subst eo57; obtain ⟨Ao58, co58, eo58⟩ := Kd.R_slice HO277.out; subst eo58) | ((with_reducible refine gate_callee (f := 30) rfl ?_); refine goesL_ (some 70) rfl rfl Tryd.func30 (by kernel_rfl) rfl #[.slice Ao57 t259.length co57, .slice Ao58 t275.length co58] rfl (Qls) ?_; (with_reducible refine (api_Graph_int_30.calls kj43 _ _ t259 _ _ t275 false _ ?side1 ?side2 ?side3 ?side4 A51.out).mono ?_); (case side1 => exact Qsc (Kd.R_reads' HO_5.out).2.2); (case side2 => exact (Kd.R_reads' HO_5.out).2.1); (case side3 => exact Qsc (Kd.R_reads' HO277.out).2.2); (case side4 => exact (Kd.R_reads' HO277.out).2.1); rintro e w' ⟨rfl, ⟨nd, rfl⟩⟩; refine ⟨_, rfl, ?_⟩))
              go_ret
              exact ⟨by first | rfl | (simp [errW_none, errW_some] <;> rfl) | (simp [*, errW_none, errW_some] <;> rfl), by repeat (first | (with_reducible first | exact HB.out | apply below_alloc | apply pw_below_drewN | apply below_drew1) | exact HB.out)⟩
end Go.Proofs.YtjloppfdagfpmaaDoor.X
end
section
namespace Go.Proofs.YtjloppfdagfpmaaDoor.X
open Go.RowKit YtjloppfdagfpmaaDoorW.PrintWords YtjloppfdagfpmaaDoorW.PrintLast YtjloppfdagfpmaaDoorW.PrintMore
attribute [local go_sem] max2_int min2_int max_two min_two max_three min_three max_four min_four
/-! ### lampblackref01_IsGraph: function 61 -/
mutual
def lampblackref01_IsGraph.l0 : Nat → List Int → Int → List Int → Int → Int → Option (Bool)
 | 0, _, _, _, _, _ => none
 | k + 1, x0, x1, x8, x9, x10 => if x10 < x9 then (if 0 ≤ x10 then (if x10 < (x8.length : Int) then (if (x0.length : Int) > x1 then (lampblackref01_IsGraph.j1 k x0 x1 x10 (rd x8 x10) x8 x9 x10 true) else (if (rd x8 x10) < 0 then (lampblackref01_IsGraph.j1 k x0 x1 x10 (rd x8 x10) x8 x9 x10 true) else (if (rd x8 x10) ≥ (shl .i64 1 (x0.length : Int)) then (lampblackref01_IsGraph.j1 k x0 x1 x10 (rd x8 x10) x8 x9 x10 true) else (lampblackref01_IsGraph.j1 k x0 x1 x10 (rd x8 x10) x8 x9 x10 ((Go.bits .and .i64 (shr .i64 (rd x8 x10) x10) 1) == 1))))) else (none)) else (none)) else (if (x0.length : Int) ≥ 1 then (some (decide ((x0.length : Int) ≤ x1))) else (some false))
def lampblackref01_IsGraph.j1 : Nat → List Int → Int → Int → Int → List Int → Int → Int → Bool → Option (Bool)
 | 0, _, _, _, _, _, _, _, _ => none
 | k + 1, x0, x1, x5, x6, x8, x9, x10, x36 => if x36 = true then (some false) else (lampblackref01_IsGraph.l1 k x0 x1 x5 x6 x8 x9 x10 (x0.length : Int) 0)
def lampblackref01_IsGraph.l1 : Nat → List Int → Int → Int → Int → List Int → Int → Int → Int → Int → Option (Bool)
 | 0, _, _, _, _, _, _, _, _, _ => none
 | k + 1, x0, x1, x5, x6, x8, x9, x10, x38, x39 => if x39 < x38 then (if 0 ≤ x39 then (if x39 < (x0.length : Int) then (if 0 ≤ x5 then (if (Go.bits .and .i64 (shr .i64 x6 x39) 1) = (Go.bits .and .i64 (shr .i64 (rd x0 x39) x5) 1) then (lampblackref01_IsGraph.l1 k x0 x1 x5 x6 x8 x9 x10 x38 (wrap64 (x39 + 1))) else (some false)) else (none)) else (none)) else (none)) else (lampblackref01_IsGraph.l0 k x0 x1 x8 x9 (wrap64 (x10 + 1)))
end
end Go.Proofs.YtjloppfdagfpmaaDoor.X
end
section
namespace Go.Proofs.YtjloppfdagfpmaaDoor.X
open Go.RowKit YtjloppfdagfpmaaDoorW.PrintWords YtjloppfdagfpmaaDoorW.PrintLast YtjloppfdagfpmaaDoorW.PrintMore
attribute [local go_sem] max2_int min2_int max_two min_two max_three min_three max_four min_four
/-! ### lampblackref01_Reached: function 52 -/
mutual
def lampblackref01_Reached.l0 : Nat → List Int → Int → Int → Int → Int → Option (Int)
 | 0, _, _, _, _, _ => none
 | k + 1, x0, x1, x7, x12, x13 => if x13 < x12 then (lampblackref01_Reached.l1 k x0 x1 x7 x12 x13 (x0.length : Int) 0) else (some x7)
def lampblackref01_Reached.l1 : Nat → List Int → Int → Int → Int → Int → Int → Int → Option (Int)
 | 0, _, _, _, _, _, _, _ => none
 | k + 1, x0, x1, x7, x12, x13, x16, x17 => if x17 < x16 then (if 0 ≤ x17 then (if (Go.bits .and .i64 (shr .i64 x7 x17) 1) = 1 then (if x17 < (x0.length : Int) then (lampblackref01_Reached.l1 k x0 x1 (Go.bits .or .i64 x7 (Go.bits .and .i64 (rd x0 x17) x1)) x12 x13 x16 (wrap64 (x17 + 1))) else (none)) else (lampblackref01_Reached.l1 k x0 x1 x7 x12 x13 x16 (wrap64 (x17 + 1)))) else (none)) else (lampblackref01_Reached.l0 k x0 x1 x7 x12 (wrap64 (x13 + 1)))
end
def lampblackref01_Reached.f (k : Nat) (l0 : List Int) (a1 : Int) (a2 : Int) : Option (Int) := if 0 ≤ a2 then (lampblackref01_Reached.l0 k l0 a1 (shl .i64 1 a2) (l0.length : Int) 0) else (none)
end Go.Proofs.YtjloppfdagfpmaaDoor.X
end
section
namespace Go.Proofs.YtjloppfdagfpmaaDoor.X
open Go.RowKit YtjloppfdagfpmaaDoorW.PrintWords YtjloppfdagfpmaaDoorW.PrintLast YtjloppfdagfpmaaDoorW.PrintMore
attribute [local go_sem] max2_int min2_int max_two min_two max_three min_three max_four min_four
/-! ### lampblackref02_Connected: function 18 -/
mutual
def lampblackref02_Connected.j0 : Nat → List Int → Int → Bool → Option (Bool)
 | 0, _, _, _ => none
 | k + 1, x0, x1, x14 => if x14 = true then (some false) else (lampblackref02_Connected.l0 k x0 x1 0)
def lampblackref02_Connected.l0 : Nat → List Int → Int → Int → Option (Bool)
 | 0, _, _, _ => none
 | k + 1, x0, x1, x5 => if 0 ≤ x5 then (if (Go.bits .and .i64 (shr .i64 x1 x5) 1) = 0 then (lampblackref02_Connected.l0 k x0 x1 (wrap64 (x5 + 1))) else ((lampblackref01_Reached.f k x0 x1 x5).bind fun t144 => (some (t144 == x1)))) else (none)
end
end Go.Proofs.YtjloppfdagfpmaaDoor.X
end
section
namespace Go.Proofs.YtjloppfdagfpmaaDoor.X
open Go.RowKit YtjloppfdagfpmaaDoorW.PrintWords YtjloppfdagfpmaaDoorW.PrintLast YtjloppfdagfpmaaDoorW.PrintMore
attribute [local go_sem] max2_int min2_int max_two min_two max_three min_three max_four min_four
/-! ### lampblackref02_Around: function 95 -/
def lampblackref02_Around.l0 : Nat → List Int → Int → Int → Int → Int → Option (Int)
 | 0, _, _, _, _, _ => none
 | k + 1, x0, x1, x5, x8, x9 => if x9 < x8 then (if 0 ≤ x9 then (if (Go.bits .and .i64 (shr .i64 x1 x9) 1) = 1 then (if x9 < (x0.length : Int) then (lampblackref02_Around.l0 k x0 x1 (Go.bits .or .i64 x5 (rd x0 x9)) x8 (wrap64 (x9 + 1))) else (none)) else (lampblackref02_Around.l0 k x0 x1 x5 x8 (wrap64 (x9 + 1)))) else (none)) else (some x5)
end Go.Proofs.YtjloppfdagfpmaaDoor.X
end
section
namespace Go.Proofs.YtjloppfdagfpmaaDoor.X
open Go.RowKit YtjloppfdagfpmaaDoorW.PrintWords YtjloppfdagfpmaaDoorW.PrintLast YtjloppfdagfpmaaDoorW.PrintMore
attribute [local go_sem] max2_int min2_int max_two min_two max_three min_three max_four min_four
/-! ### lampblackref02_Size: function 39 -/
def lampblackref02_Size.l0 : Nat → Int → Int → Option (Int)
 | 0, _, _ => none
 | k + 1, x0, x3 => if x0 > 0 then (lampblackref02_Size.l0 k (Go.bits .and .i64 x0 (wrap64 (x0 - 1))) (wrap64 (x3 + 1))) else (some x3)
end Go.Proofs.YtjloppfdagfpmaaDoor.X
end
section
/- (minor) What the laws share: connected sets, valid graphs, patterns, beginnings, equal slices, an edge is a minor of itself. -/
namespace Go.Proofs.YtjloppfdagfpmaaDoor.X
open Go.RowKit YtjloppfdagfpmaaDoorW.PrintWords YtjloppfdagfpmaaDoorW.PrintLast YtjloppfdagfpmaaDoorW.PrintMore YtjloppfdagfpmaaDoor.T
def low (a : Nat) : Nat := (els a 9).headD 0
theorem gequal_l0 (a b : List Int) (hl : a.length = b.length) (h40 : a.length < 2 ^ 40) : ∀ d i, i + d = a.length → Ev (fun k => api_Graph_int_30.l0 k a b (a.length : Int) (i : Int)) (decide (a.drop i = b.drop i)) := by
 intro d
 induction d with
 | zero =>
  intro i hi
  refine Ev.step (f := fun _ => some true) (fun k => by rw [api_Graph_int_30.l0, if_neg (by omega)]) (Ev.some ?_)
  rw [List.drop_eq_nil_of_le (by omega), List.drop_eq_nil_of_le (by omega)]
  rfl
 | succ d ih =>
  intro i hi
  have h1 : i < a.length := by omega
  have h2 : i < b.length := by omega
  have r1 : rd a (i : Int) = a[i] := by unfold rd; rw [Int.toNat_natCast, List.getD_eq_getElem?_getD, List.getElem?_eq_getElem h1]; rfl
  have r2 : rd b (i : Int) = b[i] := by unfold rd; rw [Int.toNat_natCast, List.getD_eq_getElem?_getD, List.getElem?_eq_getElem h2]; rfl
  rw [List.drop_eq_getElem_cons h1, List.drop_eq_getElem_cons h2]
  by_cases e : a[i] = b[i]
  ·refine Ev.step (f := fun k => api_Graph_int_30.l0 k a b (a.length : Int) ((i + 1 : Nat) : Int)) (fun k => ?_) ?_
   ·rw [api_Graph_int_30.l0, if_pos (by omega), if_pos (by omega), if_pos (by omega), if_pos (by omega), r1, r2, if_pos e, wrap_succ i (by omega)]
   ·rw [show (decide (a[i] :: a.drop (i + 1) = b[i] :: b.drop (i + 1))) = decide (a.drop (i + 1) = b.drop (i + 1)) from decide_eq_decide.2 ⟨fun h => (List.cons.inj h).2, fun h => by rw [e, h]⟩]
    exact ih (i + 1) (by omega)
  ·refine Ev.step (f := fun _ => some false) (fun k => ?_) (Ev.some (decide_eq_false fun h => e (List.cons.inj h).1).symm)
   rw [api_Graph_int_30.l0, if_pos (by omega), if_pos (by omega), if_pos (by omega), if_pos (by omega), r1, r2, if_neg e]
theorem gequal_ev (a b : List Int) (h40 : a.length < 2 ^ 40) : Ev (fun k => api_Graph_int_30.f k a b) (decide (a = b)) := by
 unfold api_Graph_int_30.f
 by_cases hl : a.length = b.length
 ·refine Ev.if_pos (by omega) ?_
  have := gequal_l0 a b hl h40 a.length 0 (by omega)
  simpa using this
 ·exact Ev.if_neg (by omega) (Ev.some (by symm; rw [decide_eq_false_iff_not]; exact fun e => hl (by rw [e])))
theorem gequal_same (a : List Int) (h40 : a.length < 2 ^ 40) : Ev (fun k => api_Graph_int_30.f k a a) true := by
 have := gequal_ev a a h40
 simpa using this
theorem awake_ev : Ev (fun k => lampblacklaw07_awake.f k) true := Ev.of (lampblacklaw07_awake.mono) (k := 40) (by decide +kernel)
end Go.Proofs.YtjloppfdagfpmaaDoor.X
end
section
/- MinorNamed, without Go and memory: K, K23 and W return the documented graphs, or the documented error. -/
namespace Go.Proofs.YtjloppfdagfpmaaDoor.Pure
open Go.RowKit YtjloppfdagfpmaaDoorW.PrintWords YtjloppfdagfpmaaDoorW.PrintLast YtjloppfdagfpmaaDoorW.PrintMore YtjloppfdagfpmaaDoor.T YtjloppfdagfpmaaDoor.X
theorem k_bad (n : Int) (h : n < 1 ∨ n > 6) : Ev (fun k => minor_K.f k n) (([] : List Int), 2) := by
 unfold minor_K.f
 by_cases h1 : n < 1
 ·exact Ev.if_pos h1 (Ev.some rfl)
 ·exact Ev.if_neg h1 (Ev.if_pos (by omega) (Ev.some rfl))
theorem w_bad (n : Int) (h : n < 3 ∨ n > 5) : Ev (fun k => minor_W.f k n) (([] : List Int), 2) := by
 have stop : ∀ k, minor_W.j0 (k + 1) n true = some (([] : List Int), 2) := fun k => by rw [minor_W.j0, if_pos rfl]
 unfold minor_W.f
 by_cases h1 : n < 3
 ·exact Ev.if_pos h1 (Ev.step stop (Ev.some rfl))
 ·refine Ev.if_neg h1 ?_
  rw [decide_eq_true (by omega : n > 5)]
  exact Ev.step stop (Ev.some rfl)
theorem named_out (n : Int) (h : n < 1 ∨ n > 6) : Ev (fun k => lampblacklaw07_MinorNamed.f k n) true := by
 unfold lampblacklaw07_MinorNamed.f
 refine Ev.bind (k_bad n h) (Ev.bind (w_bad n (by omega)) ?_)
 refine Ev.bind (Ev.of (minor_K23.mono) (k := 20) (r := [28, 28, 3, 3, 3]) (by decide +kernel)) (Ev.bind (Ev.of (lampblackref07_K23.mono) (k := 20) (r := [28, 28, 3, 3, 3]) (by decide +kernel)) (Ev.bind (gequal_same _ (by simp)) (Ev.if_pos rfl (Ev.bind awake_ev ?_))))
 refine Ev.step (f := fun k => if n < 1 then (lampblacklaw07_MinorNamed.j1 k n [] 2 [] 2 true) else (lampblacklaw07_MinorNamed.j1 k n [] 2 [] 2 (decide (n > 6)))) (fun k => by rw [lampblacklaw07_MinorNamed.j0]; rfl) ?_
 have stop : ∀ k, lampblacklaw07_MinorNamed.j1 (k + 1) n [] 2 [] 2 true = some true := fun k => by rw [lampblacklaw07_MinorNamed.j1, if_pos rfl]; decide +kernel
 by_cases h1 : n < 1
 ·exact Ev.if_pos h1 (Ev.step stop (Ev.some rfl))
 ·refine Ev.if_neg h1 ?_
  rw [decide_eq_true (by omega : n > 6)]
  exact Ev.step stop (Ev.some rfl)
theorem named_in : ∀ i : Fin 6, lampblacklaw07_MinorNamed.f 60 ((i.val : Int) + 1) = some true := by decide +kernel
theorem MinorNamed : ∀ (a0 : Int), (Lit.int .i64 a0).wf = true → ∃ k, lampblacklaw07_MinorNamed.f k a0 = some true := by
 intro n _
 by_cases h : n < 1 ∨ n > 6
 ·exact Ev.rounds (named_out n h)
 ·obtain ⟨i, hi⟩ : ∃ i : Fin 6, n = (i.val : Int) + 1 := ⟨⟨(n - 1).toNat, by omega⟩, by simp; omega⟩
  rw [hi]
  exact ⟨60, named_in i⟩
end Go.Proofs.YtjloppfdagfpmaaDoor.Pure
end
