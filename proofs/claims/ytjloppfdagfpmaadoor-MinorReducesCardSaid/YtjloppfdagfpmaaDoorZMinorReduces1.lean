/- Part 1 of what MinorReduces rests on: contracts of the functions that it reaches, and what they compute, in plain words. -/
import Derived.Test.YtjloppfdagfpmaaDoorZMinorReduces0
import Derived.WalkSpells
set_option linter.unusedVariables false
set_option linter.unusedSimpArgs false
section
/- (minor) What the laws share: connected sets, valid graphs, patterns, beginnings, equal slices, an edge is a minor of itself. -/
namespace Go.Proofs.YtjloppfdagfpmaaDoor.X
open Go.RowKit YtjloppfdagfpmaaDoorW.PrintWords YtjloppfdagfpmaaDoorW.PrintLast YtjloppfdagfpmaaDoorW.PrintMore YtjloppfdagfpmaaDoor.T
theorem mn_nat (a b : Nat) : mn (a : Int) (b : Int) = ((min a b : Nat) : Int) := by unfold mn; split <;> omega
def low (a : Nat) : Nat := (els a 9).headD 0
theorem size_all : ∀ x : Fin 512, lampblackref02_Size.f 12 (x.val : Int) = some (pc x.val 9 : Int) := by decide +kernel
theorem size_ev (x : Nat) (hx : x < 512) : Ev (fun k => lampblackref02_Size.f k (x : Int)) ((pc x 9 : Nat) : Int) := Ev.of (lampblackref02_Size.mono _) (size_all ⟨x, hx⟩)
theorem valid_ev (g : List Int) (hg : g.length < 2 ^ 60) : Ev (fun k => lampblackref07_Valid.f k g) (chk 8 g) := by
 unfold lampblackref07_Valid.f
 exact Ev.bind (isGraph_ev 8 (by omega) g hg) (Ev.some rfl)
theorem few_eq (g : List Int) (hg : g.length < 2 ^ 44) : ∃ h, lampblacklaw07_Few.f g = some h ∧ (chk 8 g = true → h = g) ∧ (chk 8 g = false → chk 8 h = false) ∧ h.length ≤ 12 := by
 have hm : mn (g.length : Int) 12 = ((min g.length 12 : Nat) : Int) := mn_nat g.length 12
 refine ⟨g.take (min g.length 12), ?_, ?_, ?_, ?_⟩
 ·unfold lampblacklaw07_Few.f slices_Clone_Graph.f
  simp only [hm, Int.toNat_natCast]
  rw [if_pos (by omega), if_pos (by omega)]
  simp only [Option.bind_some, List.length_nil, List.nil_append]
  rw [if_pos (by rw [List.length_take]; omega)]
  rfl
 ·intro h
  simp only [chk, Bool.and_eq_true, decide_eq_true_eq] at h
  exact List.take_of_length_le (by omega)
 ·intro h
  by_cases hl : g.length ≤ 12
  ·rw [List.take_of_length_le (by omega)]; exact h
  ·unfold chk
   have : ¬ (List.take (min g.length 12) g).length ≤ 8 := by rw [List.length_take]; omega
   rw [decide_eq_false this, Bool.and_false, Bool.false_and]
 ·rw [List.length_take]; omega
theorem awake_ev : Ev (fun k => lampblacklaw07_awake.f k) true := Ev.of (lampblacklaw07_awake.mono) (k := 40) (by decide +kernel)
end Go.Proofs.YtjloppfdagfpmaaDoor.X
end
section
namespace Go.Proofs.YtjloppfdagfpmaaDoor.X
open Go.RowKit YtjloppfdagfpmaaDoorW.PrintWords YtjloppfdagfpmaaDoorW.PrintLast YtjloppfdagfpmaaDoorW.PrintMore
attribute [local go_sem] max2_int min2_int max_two min_two max_three min_three max_four min_four
/-! ### minor_town_without: function 76 -/
def minor_town_without.l0 : Nat → Int → List Int → List Int → Int → Int → Option (List Int)
 | 0, _, _, _, _, _ => none
 | k + 1, x1, x5, x8, x9, x10 => if x10 < x9 then (if 0 ≤ x10 then (if x10 < (x8.length : Int) then (if x10 = x1 then (minor_town_without.l0 k x1 x5 x8 x9 (wrap64 (x10 + 1))) else (if 0 ≤ x1 then (if 0 ≤ (wrap64 (x1 + 1)) then (if x5.length < 17592186044416 then (minor_town_without.l0 k x1 (x5 ++ [Go.bits .or .i64 (Go.bits .and .i64 (rd x8 x10) (wrap64 ((shl .i64 1 x1) - 1))) (shl .i64 (shr .i64 (rd x8 x10) (wrap64 (x1 + 1))) x1)]) x8 x9 (wrap64 (x10 + 1))) else (none)) else (none)) else (none))) else (none)) else (none)) else (some x5)
def minor_town_without.f (k : Nat) (l0 : List Int) (a1 : Int) : Option (List Int) := minor_town_without.l0 k a1 ([] : List Int) l0 (l0.length : Int) 0
end Go.Proofs.YtjloppfdagfpmaaDoor.X
end
section
namespace Go.Proofs.YtjloppfdagfpmaaDoor.X
open Go.RowKit YtjloppfdagfpmaaDoorW.PrintWords YtjloppfdagfpmaaDoorW.PrintLast YtjloppfdagfpmaaDoorW.PrintMore
attribute [local go_sem] max2_int min2_int max_two min_two max_three min_three max_four min_four
/-! ### minor_town_int: function 77 -/
def minor_town_int.f (l0 : List Int) : Option (List Int) := (some (([] : List Int) : List Int)).bind fun y302 => (if y302.length + l0.length < 17592186044416 then (some (y302 ++ l0)) else (none))
set_option maxHeartbeats 8000000 in
set_option maxRecDepth 100000 in
theorem minor_town_int.calls_some (a0 : Addr) (c0 : Nat) (l0 : List Int) (r : List Int) (w : World) (hr0 : Kd.C (Kd.int .i64) w (some a0) l0.length l0) (hc0 : l0.length ≤ c0) (h : minor_town_int.f l0 = some r) :
  Calls Tryd.prog 77 #[.slice (some a0) l0.length c0] w fun e w' => ∃ v0_ : Value, e = .returned (v0_) ∧ Kd.R (Kd.int .i64) 3 w' w.heap.size (fun _ => True) v0_ r ∧ Below w.heap.size w w' := by
 have HR0 := Aside0.mk hr0
 have HC0 := Aside0.mk hc0
 clear hr0 hc0
 have HB := Aside0.mk (Below.refl w.heap.size w)
 have H : ((some (([] : List Int) : List Int)).bind fun y302 => (if y302.length + l0.length < 17592186044416 then (some (y302 ++ l0)) else (none))) = some r := h
 clear h
 obtain ⟨y302, hy302⟩ : ∃ y_ : List Int, y_ = (([] : List Int)) := ⟨_, rfl⟩
 replace H : (if y302.length + l0.length < 17592186044416 then (some (y302 ++ l0)) else (none)) = some r := by first | (rw [hy302]; with_reducible exact H) | (have H2_ := (Option.bind_some _ _).symm.trans H; rw [hy302]; with_reducible exact H2_) | (have H2_ := (Option.bind_some _ _).symm.trans H; with_reducible exact H2_) | with_reducible exact H | (rw [hy302]; exact H) | exact H
 have Ny302 := Aside0.mk hy302
 clear hy302
 by_cases c2 : y302.length + l0.length < 17592186044416
 ·rw [if_pos c2] at H
  have LMc2 := Aside0.mk c2
  clear c2
  obtain ⟨y305, hy305⟩ : ∃ y_ : List Int, y_ = (y302 ++ l0) := ⟨_, rfl⟩
  replace H : (some y305) = some r := by first | (rw [hy305]; with_reducible exact H) | (have H2_ := (Option.bind_some _ _).symm.trans H; rw [hy305]; with_reducible exact H2_) | (have H2_ := (Option.bind_some _ _).symm.trans H; with_reducible exact H2_) | with_reducible exact H | (rw [hy305]; exact H) | exact H
  have Ny305 := Aside0.mk hy305
  clear hy305
  obtain rfl := Option.some.inj H
  have heq_ := fun (w : World) => Lib.run_eql_slice_nil (P := Tryd.prog) w 79 3 (some a0) l0.length c0 0 0 Tryd.underlying79
  go_enter Tryd.func77, Tryd.ntmps77
  go_wp2_with (first | ((with_reducible refine gate_dst (N := 5) rfl ?_); refine Kd.R_lit (Kd.int .i64) _ 3 ?hg (N := 5) ?hd (xs := ([] : List Int)) (inner := []) (ok := fun _ => True) (okp := fun _ => True) ?hr ?hp (fun _ hk => hk) trivial (Below.refl _ _) (Nat.le_refl _) (by simp) ?_; (case hd => rfl); (case hg => rfl); (case hr => first | (go_simp; done) | (go_simp; rfl)); (case hp => exact (Reps.none _ _)); intro v303 w3 ho4 hb hg_ hnew_; clear hg_ hnew_; (first | rw [← Ny302.out] at ho4 | (simp only [Int.reduceToNat] at ho4; rw [← Ny302.out] at ho4)); have n0_ := Aside0.mk (Kd.R_lower ho4 (below_size (Qaw))); have n1_ := Aside0.mk (below_step (Qaw) hb); clear HB; have HO304 := n0_; have HB := n1_; clear n0_ n1_; clear hb ho4) | ((with_reducible refine gate_builtin (b := .append) (xs := #[.tmp 5, .tmp 6]) rfl ?_); at_builtin; refine Kd.R_append_rows (Kd.int .i64) (w0 := w) w.heap.size rfl (.tmp 5) (.tmp 6) 79 3 (.int .i64 0) 8 rfl Tryd.underlying79 info3 rfl (by decide) (by omega) v303 y302 l0 _ _ _ (fun _ => True) (fun _ => False) rfl rfl ?aO ?aR (fun _ _ h => h) (fun _ h => h.elim) ?aF ?aB ?aS ?aL ?_; (case aR => exact Qsc (Kd.C_below HR0.out HB.out)); (case aB => exact (Qaw)); (case aF => exact (fun _ _ => trivial)); (case aO => exact (Qro HO304.out)); (case aS => exact (below_size (Qaw))); (case aL => have := LMc2.out; omega); intro v306 w5 ho hb hg hat; rw [← Ny305.out] at ho; have n0_ := Aside0.mk (hb); have n1_ := Aside0.mk (ho); clear HB; clear HO304; have HB := n0_; have HO307 := n1_; clear n0_ n1_; clear ho hb hg hat))
  go_ret
  exact ⟨_, by first | rfl | (simp [errW_none, errW_some] <;> rfl) | (simp [*, errW_none, errW_some] <;> rfl), by (with_reducible repeat (first | apply Kd.R_alloc | apply Kd.R_drewN | apply Kd.R_drew)); exact HO307.out, by repeat (first | (with_reducible first | exact HB.out | apply below_alloc | apply pw_below_drewN | apply below_drew1) | exact HB.out)⟩
 ·rw [if_neg c2] at H
  exact absurd H (by simp)
theorem minor_town_int.calls (A0 : Option Addr) (c0 : Nat) (l0 : List Int) (r : List Int) (w : World) (hr0 : Kd.C (Kd.int .i64) w A0 l0.length l0) (hc0 : l0.length ≤ c0) (h : minor_town_int.f l0 = some r) :
  Calls Tryd.prog 77 #[.slice A0 l0.length c0] w fun e w' => ∃ v0_ : Value, e = .returned (v0_) ∧ Kd.R (Kd.int .i64) 3 w' w.heap.size (fun _ => True) v0_ r ∧ Below w.heap.size w w' := by
 cases A0 with
 | some a0 => exact minor_town_int.calls_some a0 c0 l0 r w hr0 hc0 h
 | none =>
  have hl : l0 = [] := by
   rcases Nat.eq_zero_or_pos l0.length with h0 | h0
   ·exact List.length_eq_zero_iff.mp h0
   ·obtain ⟨ad, he, _⟩ := hr0.2.2 h0
    cases he
  subst hl
  obtain rfl : [] = r := by simpa [minor_town_int.f] using h
  clear h hr0 hc0
  have heq_ := fun (w : World) => Lib.run_eql_slice_nil (P := Tryd.prog) w 79 3 none 0 c0 0 0 Tryd.underlying79
  go_enter Tryd.func77, Tryd.ntmps77
  go_wp2
  go_ret
  exact ⟨_, rfl, Kd.R_nil _ _ _ _ _, Below.refl _ _⟩
end Go.Proofs.YtjloppfdagfpmaaDoor.X
end
section
namespace Go.Proofs.YtjloppfdagfpmaaDoor.X
open Go.RowKit YtjloppfdagfpmaaDoorW.PrintWords YtjloppfdagfpmaaDoorW.PrintLast YtjloppfdagfpmaaDoorW.PrintMore
attribute [local go_sem] max2_int min2_int max_two min_two max_three min_three max_four min_four
/-! ### minor_town_join: function 62 -/
def minor_town_join.f (l0 : List Int) (a1 : Int) (a2 : Int) : Option (List Int) := if 0 ≤ a1 then (if a1 < (l0.length : Int) then (if 0 ≤ a2 then ((some (l0.set (a1 : Int).toNat (Go.bits .or .i64 (rd l0 a1) (shl .i64 1 a2)) : List Int)).bind fun y146 => (if a2 < (l0.length : Int) then (some (y146.set (a2 : Int).toNat (Go.bits .or .i64 (rd y146 a2) (shl .i64 1 a1)))) else (none))) else (none)) else (none)) else (none)
def minor_town_join.T0 : Bool × List (List Nat × List Nat) := (true, [([], []), ([], []), ([0, 1], [0, 1]), ([2], [2]), ([], []), ([4], [4]), ([3, 5], [3, 5]), ([0, 1, 0, 1, 2, 3, 4, 5, 6], [0, 1]), ([7, 6, 0, 1, 2, 3, 4, 5, 6], [6, 7])])
def minor_town_join.B0 : List Nat := [0, 0, 3, 7, 0, 16, 63, 127, 255]
theorem minor_town_join.tab0 : rtab .any (opsOf Tryd.f62 0) = minor_town_join.T0 := by kernel_rfl
theorem minor_town_join.bits0 : waitsOk minor_town_join.T0.2 minor_town_join.B0 = true := by kernel_rfl
def minor_town_join.T1 : Bool × List (List Nat × List Nat) := (true, [([], []), ([], []), ([0, 1], [0, 1]), ([2], [2]), ([], []), ([4], [4]), ([3, 5], [3, 5]), ([0, 1, 0, 1, 2, 3, 4, 5, 6], [0, 1]), ([7, 6, 0, 1, 2, 3, 4, 5, 6], [6, 7])])
def minor_town_join.B1 : List Nat := [0, 0, 3, 7, 0, 16, 63, 127, 255]
theorem minor_town_join.tab1 : rtab .any (opsOf Tryd.f62 1) = minor_town_join.T1 := by kernel_rfl
theorem minor_town_join.bits1 : waitsOk minor_town_join.T1.2 minor_town_join.B1 = true := by kernel_rfl
set_option maxHeartbeats 8000000 in
set_option maxRecDepth 100000 in
theorem minor_town_join.calls (P0_ : Nat → Prop) (u9000_ : Value) (l0 : List Int) (a1 : Int) (a2 : Int) (r : List Int) (w0 w : World) (hB : Below w0.heap.size w0 w) (ho0 : Kd.R (Kd.int .i64) 3 w w0.heap.size P0_ u9000_ l0) (h : minor_town_join.f l0 a1 a2 = some r) :
  Calls Tryd.prog 62 #[u9000_, .int .i64 a1, .int .i64 a2] w fun e w' => e = .returned (.tuple #[]) ∧ Kd.R (Kd.int .i64) 3 w' w0.heap.size (fun k_ => (P0_ k_ ∨ w.heap.size ≤ k_)) u9000_ r ∧ Below w0.heap.size w0 w' ∧ Kept w w' (fun k_ => P0_ k_) := by
 have HO0 := Aside0.mk (show Kd.R (Kd.int .i64) 3 w w0.heap.size (fun k_ => (P0_ k_ ∨ w.heap.size ≤ k_)) u9000_ l0 from Kd.R_mono ho0 (fun k_ hk => (.inl hk)))
 have HK := Aside0.mk (Kept.refl w (fun k_ => P0_ k_))
 have HW0 := Aside0.mk hB.size
 have HB := Aside0.mk hB
 clear hB
 have H : (if 0 ≤ a1 then (if a1 < (l0.length : Int) then (if 0 ≤ a2 then ((some (l0.set (a1 : Int).toNat (Go.bits .or .i64 (rd l0 a1) (shl .i64 1 a2)) : List Int)).bind fun y146 => (if a2 < (l0.length : Int) then (some (y146.set (a2 : Int).toNat (Go.bits .or .i64 (rd y146 a2) (shl .i64 1 a1)))) else (none))) else (none)) else (none)) else (none)) = some r := h
 clear h
 by_cases c4 : 0 ≤ a1
 ·rw [if_pos c4] at H
  have c4b0 : decide (0 ≤ a1) = true := decide_eq_true c4
  clear c4
  by_cases c5 : a1 < (l0.length : Int)
  ·rw [if_pos c5] at H
   have c5b0 : decide (a1 < (l0.length : Int)) = true := decide_eq_true c5
   clear c5
   by_cases c6 : 0 ≤ a2
   ·rw [if_pos c6] at H
    have c6b0 := eq_true c6
    have c6b1 : decide (0 ≤ a2) = true := decide_eq_true c6
    clear c6
    obtain ⟨ji7, hji7⟩ : ∃ j_ : Int, (shl .i64 1 a2) = j_ := ⟨_, rfl⟩
    replace H : ((some (l0.set (a1 : Int).toNat (Go.bits .or .i64 (rd l0 a1) (ji7)) : List Int)).bind fun y146 => (if a2 < (l0.length : Int) then (some (y146.set (a2 : Int).toNat (Go.bits .or .i64 (rd y146 a2) (shl .i64 1 a1)))) else (none))) = some r := by first | (rw [hji7] at H; exact H) | (simp only [hji7] at H ⊢; exact H)
    have hji7_ : (IntKind.i64.wrap (1 * 2 ^ min a2.toNat 64)) = ji7 := hji7
    have hji7z : a2 ≤ 64 → (IntKind.i64.wrap (1 * 2 ^ a2.toNat)) = ji7 := shl_small hji7
    have hji7u : (IntKind.i64.wrap (2 ^ min a2.toNat 64)) = ji7 := by have h_ := hji7_; rw [Int.one_mul] at h_; exact h_
    have hji7v : a2 ≤ 64 → (IntKind.i64.wrap (2 ^ a2.toNat)) = ji7 := fun hle_ => by have h_ := hji7z hle_; rw [Int.one_mul] at h_; exact h_
    have hji7y : (wrap64 (1 * 2 ^ min a2.toNat 64)) = ji7 := (i64_w _).symm.trans hji7_
    have hji7x : a2 ≤ 64 → (wrap64 (1 * 2 ^ a2.toNat)) = ji7 := fun h_ => (i64_w _).symm.trans (hji7z h_)
    obtain ⟨y146, hy146⟩ : ∃ y_ : List Int, y_ = (l0.set (a1 : Int).toNat (Go.bits .or .i64 (rd l0 a1) (ji7))) := ⟨_, rfl⟩
    replace H : (if a2 < (l0.length : Int) then (some (y146.set (a2 : Int).toNat (Go.bits .or .i64 (rd y146 a2) (shl .i64 1 a1)))) else (none)) = some r := by first | (rw [hy146]; with_reducible exact H) | (have H2_ := (Option.bind_some _ _).symm.trans H; rw [hy146]; with_reducible exact H2_) | (have H2_ := (Option.bind_some _ _).symm.trans H; with_reducible exact H2_) | with_reducible exact H | (rw [hy146]; exact H) | exact H
    have Ny146 := Aside0.mk hy146
    clear hy146
    by_cases c9 : a2 < (l0.length : Int)
    ·rw [if_pos c9] at H
     have c9b0 : decide (a2 < (l0.length : Int)) = true := decide_eq_true c9
     clear c9
     have c10b0 := eq_true (of_decide_eq_true (by first | (with_reducible assumption) | assumption) : 0 ≤ a1)
     obtain ⟨ji11, hji11⟩ : ∃ j_ : Int, (shl .i64 1 a1) = j_ := ⟨_, rfl⟩
     replace H : (some (y146.set (a2 : Int).toNat (Go.bits .or .i64 (rd y146 a2) (ji11)))) = some r := by first | (rw [hji11] at H; exact H) | (simp only [hji11] at H ⊢; exact H)
     have hji11_ : (IntKind.i64.wrap (1 * 2 ^ min a1.toNat 64)) = ji11 := hji11
     have hji11z : a1 ≤ 64 → (IntKind.i64.wrap (1 * 2 ^ a1.toNat)) = ji11 := shl_small hji11
     have hji11u : (IntKind.i64.wrap (2 ^ min a1.toNat 64)) = ji11 := by have h_ := hji11_; rw [Int.one_mul] at h_; exact h_
     have hji11v : a1 ≤ 64 → (IntKind.i64.wrap (2 ^ a1.toNat)) = ji11 := fun hle_ => by have h_ := hji11z hle_; rw [Int.one_mul] at h_; exact h_
     have hji11y : (wrap64 (1 * 2 ^ min a1.toNat 64)) = ji11 := (i64_w _).symm.trans hji11_
     have hji11x : a1 ≤ 64 → (wrap64 (1 * 2 ^ a1.toNat)) = ji11 := fun h_ => (i64_w _).symm.trans (hji11z h_)
     obtain ⟨y148, hy148⟩ : ∃ y_ : List Int, y_ = (y146.set (a2 : Int).toNat (Go.bits .or .i64 (rd y146 a2) (ji11))) := ⟨_, rfl⟩
     replace H : (some y148) = some r := by first | (rw [hy148]; with_reducible exact H) | (have H2_ := (Option.bind_some _ _).symm.trans H; rw [hy148]; with_reducible exact H2_) | (have H2_ := (Option.bind_some _ _).symm.trans H; with_reducible exact H2_) | with_reducible exact H | (rw [hy148]; exact H) | exact H
     have Ny148 := Aside0.mk hy148
     clear hy148
     obtain rfl := Option.some.inj H
     go_enter Tryd.func62, Tryd.ntmps62
     try go_wp2
     have n0_ := Aside0.mk (Kd.R_drew HO0.out)
     have n1_ := Aside0.mk (Kept.drew HK.out)
     have n2_ := Aside0.mk (below_drew1 HB.out)
     clear HO0
     clear HK
     clear HB
     have HO0 := n0_
     have HK := n1_
     have HB := n2_
     clear n0_ n1_ n2_
     obtain ⟨Ao14, co14, eo14⟩ := Kd.R_slice HO0.out
     (first | subst eo14 | (injection eo14 with f1_ f2_ f3_; have f4_ := f1_.symm; have f5_ := f3_.symm; clear f1_ f2_ f3_; subst f4_; subst f5_))
     have p145 : 0 ≤ (a1 : Int) := of_decide_eq_true (by first | (with_reducible assumption) | assumption)
     have q145 : a1 < (l0.length : Int) := of_decide_eq_true (by first | (with_reducible assumption) | assumption)
     obtain ⟨ad145, e145, hx145_0⟩ := Kd.at_int (Kd.R_reads' HO0.out).2.2 a1 p145 q145
     cases e145
     replace p145 := eq_true p145
     replace q145 := eq_true q145
     have p8 : 0 ≤ (a1 : Int) := of_decide_eq_true (by first | (with_reducible assumption) | assumption)
     have q8 : (a1 : Int) < ((l0.length : Int) : Int) := of_decide_eq_true (by first | (with_reducible assumption) | assumption)
     obtain ⟨go8, co8, eo8, gb8, gl8, cl8, HG8⟩ := Kd.R_form HO0.out (by omega)
     (first | cases eo8 | (injection eo8 with ea_ en_ ec_; (first | subst ea_ | (injection ea_ with ea_; subst ea_)); subst ec_; clear en_))
     have GB8 := Aside0.mk gb8
     have GG8 := Aside0.mk HG8
     clear gb8 gl8 HG8
     have HMgo8 := Aside0.mk (show (P0_ go8 ∨ w.heap.size ≤ go8) from (HO0.out.1 _ rfl))
     (first | simp only [add_plain] at hx145_0 | skip)
     obtain ⟨hx8_0, hf8_0⟩ := Kd.R_celln 0 HO0.out (a1 : Int) p8 q8
     replace p8 := eq_true p8
     replace q8 := eq_true q8
     have HP15 := Kd.R_putn HO0.out (a1 : Int) (Go.bits .or .i64 (rd l0 a1) (ji7))
     rw [← Ny146.out] at HP15
     have HQ15 := Aside0.mk HP15
     clear HP15
     refine start_ (n := 9) (S := fun w' => w'.cell? ⟨go8, (a1).toNat, none⟩ = some (.int .i64 (rd l0 a1))) (ds := [8]) (Qbz 9 0) (by kernel_rfl) rfl rfl (hx145_0) (fun hHeld => ?_); refine with_tabW minor_town_join.tab0 minor_town_join.bits0 (fun HT_ HW_ => ?_)
     generalize w.drew = w13 at HO0 HK HB GG8 HQ15 hf8_0 hx145_0 hx8_0 hHeld ⊢
     refine pure_ (i := 0) (N := some 6) (v := ?_) (a' := ?_) (Qbz 9 1) rfl rfl (any_of HT_.out (by kernel_rfl)) (fun _ _ _ h => h) (Or.inl ⟨by rfl, ?_⟩) ?_ ?_
     rotate_left
     ·intro w'
      go_simp
      with_reducible rfl
     rotate_left
     ·simp only [Act.put, Qp1, Qp2, Qp3, i64_w, i32_w]
      rfl
     refine pure_ (i := 1) (N := some 7) (v := ?_) (a' := ?_) (Qbz 9 3) rfl rfl (any_of HT_.out (by kernel_rfl)) (fun _ _ _ h => h) (Or.inl ⟨by rfl, ?_⟩) ?_ ?_
     rotate_left
     ·intro w'
      go_simp
      with_reducible rfl
     rotate_left
     ·simp only [Act.put, Qp1, Qp2, Qp3, i64_w, i32_w]
      rfl
     refine pure_ (i := 2) (N := some 8) (v := ?_) (a' := ?_) (Qbz 9 7) rfl rfl (any_of HT_.out (by kernel_rfl)) (fun _ _ _ h => h) (Or.inl ⟨by rfl, ?_⟩) ?_ ?_
     rotate_left
     ·intro w'
      go_simp
      with_reducible rfl
     rotate_left
     ·simp only [Act.put, Qp1, Qp2, Qp3, i64_w, i32_w]
      rfl
     refine pure_ (i := 4) (N := some 10) (v := ?_) (a' := ?_) (Qbz 9 23) rfl rfl (any_of HT_.out (by kernel_rfl)) (fun _ _ _ h => h) (Or.inl ⟨by rfl, ?_⟩) ?_ ?_
     rotate_left
     ·intro w'
      go_simp
      with_reducible rfl
     rotate_left
     ·simp only [Act.put, Qp1, Qp2, Qp3, i64_w, i32_w]
      rfl
     refine pure_ (i := 5) (N := some 11) (v := ?_) (a' := ?_) (Qbz 9 55) rfl rfl (any_of HT_.out (by kernel_rfl)) (fun _ _ _ h => h) (Or.inl ⟨by rfl, ?_⟩) ?_ ?_
     rotate_left
     ·intro w'
      go_simp
      with_reducible rfl
     rotate_left
     ·simp only [Act.put, Qp1, Qp2, Qp3, i64_w, i32_w]
      rfl
     refine take_ (i := 3) (N := some 9) (v := ?_) (a' := ?_) (Qbz 9 63) rfl rfl (take_ofW HT_.out HW_.out (by kernel_rfl)) (fun _ _ _ h => h) (Or.inl ⟨by rfl, ?_⟩) hHeld ?_ ?_
     rotate_left
     ·intro w' s0
      go_simp
      with_reducible rfl
     rotate_left
     ·simp only [Act.put, Qp1, Qp2, Qp3, i64_w, i32_w]
      rfl
     refine pure_ (i := 6) (N := some 12) (v := ?_) (a' := ?_) (Qbz 9 127) rfl rfl (any_of HT_.out (by kernel_rfl)) (fun _ _ _ h => h) (Or.inl ⟨by rfl, ?_⟩) ?_ ?_
     rotate_left
     ·intro w'
      go_simp
      with_reducible rfl
     rotate_left
     ·simp only [Act.put, Qp1, Qp2, Qp3, i64_w, i32_w]
      rfl
     refine pure_ (i := 7) (N := some 13) (v := ?_) (a' := ?_) (Qbz 9 255) rfl rfl (any_of HT_.out (by kernel_rfl)) (fun _ _ _ h => h) (Or.inl ⟨by rfl, ?_⟩) ?_ ?_
     rotate_left
     ·intro w'
      go_simp
      with_reducible rfl
     rotate_left
     ·simp only [Act.put, Qp1, Qp2, Qp3, i64_w, i32_w]
      rfl
     refine last_ (i := 8) (N := none) (Qbz 9 511) rfl rfl (one_of HT_.out (by kernel_rfl)) (by decide) (fun K hK => ?_)
     refine skip_ (w1 := ?_) (by rfl) rfl ?_ ?_
     rotate_left
     ·go_simp
      rfl
     refine hK.out _ _ ?_
     clear hK K
     refine done_ (done_of HT_.out (by kernel_rfl)) ?_
     try go_wp2
     have n0_ : Aside0 (Kd.R (Kd.int .i64) 3 (w13.setCell ⟨go8, (a1 : Int).toNat, none⟩ (.int .i64 (Go.bits .or .i64 (rd l0 a1) (ji7)))) w0.heap.size (fun k_ => (P0_ k_ ∨ w.heap.size ≤ k_)) (.slice (some ⟨go8, 0, none⟩) l0.length co14) y146) := ⟨by (with_reducible repeat (first | apply Kd.R_alloc | apply Kd.R_drewN | apply Kd.R_drew)); exact HQ15.out⟩
     have n1_ : Aside0 (Kept w (w13.setCell ⟨go8, (a1 : Int).toNat, none⟩ (.int .i64 (Go.bits .or .i64 (rd l0 a1) (ji7)))) (fun k_ => P0_ k_)) := ⟨by repeat (first | (with_reducible first | exact HK.out | apply Kept.alloc | apply Kept.drewN | apply Kept.drew | refine Kept.setCell ?_ HMgo8.out _) | exact HK.out)⟩
     have n2_ : Aside0 (Below w0.heap.size w0 (w13.setCell ⟨go8, (a1 : Int).toNat, none⟩ (.int .i64 (Go.bits .or .i64 (rd l0 a1) (ji7))))) := ⟨by repeat (first | (with_reducible first | exact HB.out | apply below_alloc | apply pw_below_drewN | apply below_drew1 | refine below_set ?_ GB8.out) | exact HB.out)⟩
     (try clear HO0)
     (try clear HK)
     (try clear HB)
     generalize (w13.setCell ⟨go8, (a1 : Int).toNat, none⟩ (.int .i64 (Go.bits .or .i64 (rd l0 a1) (ji7)))) = w16 at n0_ n1_ n2_ ⊢
     have HO0 := n0_
     have HK := n1_
     have HB := n2_
     clear n0_ n1_ n2_
     have n0_ := Aside0.mk (Kd.R_drew HO0.out)
     have n1_ := Aside0.mk (Kept.drew HK.out)
     have n2_ := Aside0.mk (below_drew1 HB.out)
     clear HO0
     clear HK
     clear HB
     have HO0 := n0_
     have HK := n1_
     have HB := n2_
     clear n0_ n1_ n2_
     have p147 : 0 ≤ (a2 : Int) := of_decide_eq_true (by first | (with_reducible assumption) | assumption)
     have q147 : a2 < (y146.length : Int) := (by have h_ : (a2 : Int) < ((l0.length : Int) : Int) := of_decide_eq_true (by first | (with_reducible assumption) | assumption); first | (have e_ := (Kd.R_reads' HO0.out).1; omega) | simpa only [Ny146.out, List.length_set] using h_)
     have ql147 : ((a2 : Int) < ((l0.length : Int) : Int)) = True := eq_true (of_decide_eq_true (by first | (with_reducible assumption) | assumption))
     obtain ⟨ad147, e147, hx147_0⟩ := Kd.at_int (Kd.R_reads' HO0.out).2.2 a2 p147 q147
     obtain rfl : (⟨go8, 0, none⟩ : Addr) = ad147 := (by injection e147)
     (first | simp only [add_plain] at hx147_0 | simp only [add_at] at hx147_0 | simp only [Addr.add, Nat.zero_add] at hx147_0 | skip)
     replace p147 := eq_true p147
     replace q147 := eq_true q147
     have p12 : 0 ≤ (a2 : Int) := of_decide_eq_true (by first | (with_reducible assumption) | assumption)
     have q12 : (a2 : Int) < ((l0.length : Int) : Int) := of_decide_eq_true (by first | (with_reducible assumption) | assumption)
     obtain ⟨hx12_0, hf12_0⟩ := Kd.R_celln 0 HO0.out (a2 : Int) p12 q12
     replace p12 := eq_true p12
     replace q12 := eq_true q12
     have HP18 := Kd.R_putn HO0.out (a2 : Int) (Go.bits .or .i64 (rd y146 a2) (ji11))
     rw [← Ny148.out] at HP18
     have HQ18 := Aside0.mk HP18
     clear HP18
     refine start_ (n := 9) (S := fun w' => w'.cell? ⟨go8, (a2).toNat, none⟩ = some (.int .i64 (rd y146 a2))) (ds := [8]) (Qbz 9 0) (by kernel_rfl) rfl rfl (hx147_0) (fun hHeld => ?_); refine with_tabW minor_town_join.tab1 minor_town_join.bits1 (fun HT_ HW_ => ?_)
     generalize w16.drew = w17 at HO0 HK HB HQ15 HQ18 hf12_0 hx12_0 hx147_0 hHeld ⊢
     refine pure_ (i := 0) (N := some 14) (v := ?_) (a' := ?_) (Qbz 9 1) rfl rfl (any_of HT_.out (by kernel_rfl)) (fun _ _ _ h => h) (Or.inl ⟨by rfl, ?_⟩) ?_ ?_
     rotate_left
     ·intro w'
      go_simp
      with_reducible rfl
     rotate_left
     ·simp only [Act.put, Qp1, Qp2, Qp3, i64_w, i32_w]
      rfl
     refine pure_ (i := 1) (N := some 15) (v := ?_) (a' := ?_) (Qbz 9 3) rfl rfl (any_of HT_.out (by kernel_rfl)) (fun _ _ _ h => h) (Or.inl ⟨by rfl, ?_⟩) ?_ ?_
     rotate_left
     ·intro w'
      go_simp
      with_reducible rfl
     rotate_left
     ·simp only [Act.put, Qp1, Qp2, Qp3, i64_w, i32_w]
      rfl
     refine pure_ (i := 2) (N := some 16) (v := ?_) (a' := ?_) (Qbz 9 7) rfl rfl (any_of HT_.out (by kernel_rfl)) (fun _ _ _ h => h) (Or.inl ⟨by rfl, ?_⟩) ?_ ?_
     rotate_left
     ·intro w'
      go_simp
      with_reducible rfl
     rotate_left
     ·simp only [Act.put, Qp1, Qp2, Qp3, i64_w, i32_w]
      rfl
     refine pure_ (i := 4) (N := some 18) (v := ?_) (a' := ?_) (Qbz 9 23) rfl rfl (any_of HT_.out (by kernel_rfl)) (fun _ _ _ h => h) (Or.inl ⟨by rfl, ?_⟩) ?_ ?_
     rotate_left
     ·intro w'
      go_simp
      with_reducible rfl
     rotate_left
     ·simp only [Act.put, Qp1, Qp2, Qp3, i64_w, i32_w]
      rfl
     refine pure_ (i := 5) (N := some 19) (v := ?_) (a' := ?_) (Qbz 9 55) rfl rfl (any_of HT_.out (by kernel_rfl)) (fun _ _ _ h => h) (Or.inl ⟨by rfl, ?_⟩) ?_ ?_
     rotate_left
     ·intro w'
      go_simp
      with_reducible rfl
     rotate_left
     ·simp only [Act.put, Qp1, Qp2, Qp3, i64_w, i32_w]
      rfl
     refine take_ (i := 3) (N := some 17) (v := ?_) (a' := ?_) (Qbz 9 63) rfl rfl (take_ofW HT_.out HW_.out (by kernel_rfl)) (fun _ _ _ h => h) (Or.inl ⟨by rfl, ?_⟩) hHeld ?_ ?_
     rotate_left
     ·intro w' s0
      go_simp
      with_reducible rfl
     rotate_left
     ·simp only [Act.put, Qp1, Qp2, Qp3, i64_w, i32_w]
      rfl
     refine pure_ (i := 6) (N := some 20) (v := ?_) (a' := ?_) (Qbz 9 127) rfl rfl (any_of HT_.out (by kernel_rfl)) (fun _ _ _ h => h) (Or.inl ⟨by rfl, ?_⟩) ?_ ?_
     rotate_left
     ·intro w'
      go_simp
      with_reducible rfl
     rotate_left
     ·simp only [Act.put, Qp1, Qp2, Qp3, i64_w, i32_w]
      rfl
     refine pure_ (i := 7) (N := some 21) (v := ?_) (a' := ?_) (Qbz 9 255) rfl rfl (any_of HT_.out (by kernel_rfl)) (fun _ _ _ h => h) (Or.inl ⟨by rfl, ?_⟩) ?_ ?_
     rotate_left
     ·intro w'
      go_simp
      with_reducible rfl
     rotate_left
     ·simp only [Act.put, Qp1, Qp2, Qp3, i64_w, i32_w]
      rfl
     refine last_ (i := 8) (N := none) (Qbz 9 511) rfl rfl (one_of HT_.out (by kernel_rfl)) (by decide) (fun K hK => ?_)
     refine skip_ (w1 := ?_) (by rfl) rfl ?_ ?_
     rotate_left
     ·go_simp
      rfl
     refine hK.out _ _ ?_
     clear hK K
     refine done_ (done_of HT_.out (by kernel_rfl)) ?_
     try go_wp2
     first | go_end0 | ((try simp only [Exit.inBlock, Exit.then]); refine bodyPost_ret (results_none rfl _ _ _) rfl ?_)
     exact ⟨by first | rfl | (simp [errW_none, errW_some] <;> rfl) | (simp only [← hji7, ← hji11]; first | rfl | (simp [errW_none, errW_some] <;> rfl)) | (simp [*, errW_none, errW_some] <;> rfl), by (with_reducible repeat (first | apply Kd.R_alloc | apply Kd.R_drewN | apply Kd.R_drew)); exact HQ18.out, by repeat (first | (with_reducible first | exact HB.out | apply below_alloc | apply pw_below_drewN | apply below_drew1 | refine below_set ?_ GB8.out) | exact HB.out), by repeat (first | (with_reducible first | exact HK.out | apply Kept.alloc | apply Kept.drewN | apply Kept.drew | refine Kept.setCell ?_ HMgo8.out _) | exact HK.out)⟩
    ·rw [if_neg c9] at H
     exact absurd H (by simp)
   ·rw [if_neg c6] at H
    exact absurd H (by simp)
  ·rw [if_neg c5] at H
   exact absurd H (by simp)
 ·rw [if_neg c4] at H
  exact absurd H (by simp)
end Go.Proofs.YtjloppfdagfpmaaDoor.X
end
section
namespace Go.Proofs.YtjloppfdagfpmaaDoor.X
open Go.RowKit YtjloppfdagfpmaaDoorW.PrintWords YtjloppfdagfpmaaDoorW.PrintLast YtjloppfdagfpmaaDoorW.PrintMore
attribute [local go_sem] max2_int min2_int max_two min_two max_three min_three max_four min_four
/-! ### minor_Contract: function 36 -/
mutual
def minor_Contract.j0 : Nat → Int → Int → List Int → Bool → Option (List Int × Int)
 | 0, _, _, _, _ => none
 | k + 1, x1, x2, x8, x44 => if x44 = true then (some (([] : List Int), 2)) else ((minor_town_int.f x8).bind fun t313 => (if 0 ≤ x2 then (if x2 < (x8.length : Int) then (if 0 ≤ x1 then ((minor_nodes.f k (Go.bits .andNot .i64 (rd x8 x2) (shl .i64 1 x1))).bind fun t317 => (minor_Contract.l0 k x1 x2 t313 t317 (t317.length : Int) 0)) else (none)) else (none)) else (none)))
def minor_Contract.l0 : Nat → Int → Int → List Int → List Int → Int → Int → Option (List Int × Int)
 | 0, _, _, _, _, _, _ => none
 | k + 1, x1, x2, x10, x54, x55, x56 => if x56 < x55 then (if 0 ≤ x56 then (if x56 < (x54.length : Int) then ((minor_town_join.f x10 x1 (rd x54 x56)).bind fun t321 => (minor_Contract.l0 k x1 x2 t321 x54 x55 (wrap64 (x56 + 1)))) else (none)) else (none)) else ((minor_town_without.f k x10 x2).bind fun t322 => (some (t322, 0)))
end
end Go.Proofs.YtjloppfdagfpmaaDoor.X
end
section
namespace Go.Proofs.YtjloppfdagfpmaaDoor.X
open Go.RowKit YtjloppfdagfpmaaDoorW.PrintWords YtjloppfdagfpmaaDoorW.PrintLast YtjloppfdagfpmaaDoorW.PrintMore
attribute [local go_sem] max2_int min2_int max_two min_two max_three min_three max_four min_four
/-! ### lampblackref07_Delete: function 37 -/
def lampblackref07_Delete.l0 : Nat → Int → List Int → List Int → Int → Int → Option (List Int)
 | 0, _, _, _, _, _ => none
 | k + 1, x1, x5, x8, x9, x10 => if x10 < x9 then (if 0 ≤ x10 then (if x10 < (x8.length : Int) then (if x10 = x1 then (lampblackref07_Delete.l0 k x1 x5 x8 x9 (wrap64 (x10 + 1))) else (if 0 ≤ x1 then (if 0 ≤ (wrap64 (x1 + 1)) then (if x5.length < 17592186044416 then (lampblackref07_Delete.l0 k x1 (x5 ++ [Go.bits .or .i64 (Go.bits .and .i64 (rd x8 x10) (wrap64 ((shl .i64 1 x1) - 1))) (shl .i64 (shr .i64 (rd x8 x10) (wrap64 (x1 + 1))) x1)]) x8 x9 (wrap64 (x10 + 1))) else (none)) else (none)) else (none))) else (none)) else (none)) else (some x5)
def lampblackref07_Delete.f (k : Nat) (l0 : List Int) (a1 : Int) : Option (List Int) := lampblackref07_Delete.l0 k a1 ([] : List Int) l0 (l0.length : Int) 0
end Go.Proofs.YtjloppfdagfpmaaDoor.X
end
section
namespace Go.Proofs.YtjloppfdagfpmaaDoor.X
open Go.RowKit YtjloppfdagfpmaaDoorW.PrintWords YtjloppfdagfpmaaDoorW.PrintLast YtjloppfdagfpmaaDoorW.PrintMore
attribute [local go_sem] max2_int min2_int max_two min_two max_three min_three max_four min_four
/-! ### lampblackref07_join: function 75 -/
def lampblackref07_join.f (l0 : List Int) (a1 : Int) (a2 : Int) : Option (List Int) := if 0 ≤ a1 then (if a1 < (l0.length : Int) then (if 0 ≤ a2 then ((some (l0.set (a1 : Int).toNat (Go.bits .or .i64 (rd l0 a1) (shl .i64 1 a2)) : List Int)).bind fun y250 => (if a2 < (l0.length : Int) then (some (y250.set (a2 : Int).toNat (Go.bits .or .i64 (rd y250 a2) (shl .i64 1 a1)))) else (none))) else (none)) else (none)) else (none)
def lampblackref07_join.T0 : Bool × List (List Nat × List Nat) := (true, [([], []), ([], []), ([0, 1], [0, 1]), ([2], [2]), ([], []), ([4], [4]), ([3, 5], [3, 5]), ([0, 1, 0, 1, 2, 3, 4, 5, 6], [0, 1]), ([7, 6, 0, 1, 2, 3, 4, 5, 6], [6, 7])])
def lampblackref07_join.B0 : List Nat := [0, 0, 3, 7, 0, 16, 63, 127, 255]
theorem lampblackref07_join.tab0 : rtab .any (opsOf Tryd.f75 0) = lampblackref07_join.T0 := by kernel_rfl
theorem lampblackref07_join.bits0 : waitsOk lampblackref07_join.T0.2 lampblackref07_join.B0 = true := by kernel_rfl
def lampblackref07_join.T1 : Bool × List (List Nat × List Nat) := (true, [([], []), ([], []), ([0, 1], [0, 1]), ([2], [2]), ([], []), ([4], [4]), ([3, 5], [3, 5]), ([0, 1, 0, 1, 2, 3, 4, 5, 6], [0, 1]), ([7, 6, 0, 1, 2, 3, 4, 5, 6], [6, 7])])
def lampblackref07_join.B1 : List Nat := [0, 0, 3, 7, 0, 16, 63, 127, 255]
theorem lampblackref07_join.tab1 : rtab .any (opsOf Tryd.f75 1) = lampblackref07_join.T1 := by kernel_rfl
theorem lampblackref07_join.bits1 : waitsOk lampblackref07_join.T1.2 lampblackref07_join.B1 = true := by kernel_rfl
set_option maxHeartbeats 8000000 in
set_option maxRecDepth 100000 in
theorem lampblackref07_join.calls (P0_ : Nat → Prop) (u9000_ : Value) (l0 : List Int) (a1 : Int) (a2 : Int) (r : List Int) (w0 w : World) (hB : Below w0.heap.size w0 w) (ho0 : Kd.R (Kd.int .i64) 3 w w0.heap.size P0_ u9000_ l0) (h : lampblackref07_join.f l0 a1 a2 = some r) :
  Calls Tryd.prog 75 #[u9000_, .int .i64 a1, .int .i64 a2] w fun e w' => e = .returned (.tuple #[]) ∧ Kd.R (Kd.int .i64) 3 w' w0.heap.size (fun k_ => (P0_ k_ ∨ w.heap.size ≤ k_)) u9000_ r ∧ Below w0.heap.size w0 w' ∧ Kept w w' (fun k_ => P0_ k_) := by
 have HO0 := Aside0.mk (show Kd.R (Kd.int .i64) 3 w w0.heap.size (fun k_ => (P0_ k_ ∨ w.heap.size ≤ k_)) u9000_ l0 from Kd.R_mono ho0 (fun k_ hk => (.inl hk)))
 have HK := Aside0.mk (Kept.refl w (fun k_ => P0_ k_))
 have HW0 := Aside0.mk hB.size
 have HB := Aside0.mk hB
 clear hB
 have H : (if 0 ≤ a1 then (if a1 < (l0.length : Int) then (if 0 ≤ a2 then ((some (l0.set (a1 : Int).toNat (Go.bits .or .i64 (rd l0 a1) (shl .i64 1 a2)) : List Int)).bind fun y250 => (if a2 < (l0.length : Int) then (some (y250.set (a2 : Int).toNat (Go.bits .or .i64 (rd y250 a2) (shl .i64 1 a1)))) else (none))) else (none)) else (none)) else (none)) = some r := h
 clear h
 by_cases c4 : 0 ≤ a1
 ·rw [if_pos c4] at H
  have c4b0 : decide (0 ≤ a1) = true := decide_eq_true c4
  clear c4
  by_cases c5 : a1 < (l0.length : Int)
  ·rw [if_pos c5] at H
   have c5b0 : decide (a1 < (l0.length : Int)) = true := decide_eq_true c5
   clear c5
   by_cases c6 : 0 ≤ a2
   ·rw [if_pos c6] at H
    have c6b0 := eq_true c6
    have c6b1 : decide (0 ≤ a2) = true := decide_eq_true c6
    clear c6
    obtain ⟨ji7, hji7⟩ : ∃ j_ : Int, (shl .i64 1 a2) = j_ := ⟨_, rfl⟩
    replace H : ((some (l0.set (a1 : Int).toNat (Go.bits .or .i64 (rd l0 a1) (ji7)) : List Int)).bind fun y250 => (if a2 < (l0.length : Int) then (some (y250.set (a2 : Int).toNat (Go.bits .or .i64 (rd y250 a2) (shl .i64 1 a1)))) else (none))) = some r := by first | (rw [hji7] at H; exact H) | (simp only [hji7] at H ⊢; exact H)
    have hji7_ : (IntKind.i64.wrap (1 * 2 ^ min a2.toNat 64)) = ji7 := hji7
    have hji7z : a2 ≤ 64 → (IntKind.i64.wrap (1 * 2 ^ a2.toNat)) = ji7 := shl_small hji7
    have hji7u : (IntKind.i64.wrap (2 ^ min a2.toNat 64)) = ji7 := by have h_ := hji7_; rw [Int.one_mul] at h_; exact h_
    have hji7v : a2 ≤ 64 → (IntKind.i64.wrap (2 ^ a2.toNat)) = ji7 := fun hle_ => by have h_ := hji7z hle_; rw [Int.one_mul] at h_; exact h_
    have hji7y : (wrap64 (1 * 2 ^ min a2.toNat 64)) = ji7 := (i64_w _).symm.trans hji7_
    have hji7x : a2 ≤ 64 → (wrap64 (1 * 2 ^ a2.toNat)) = ji7 := fun h_ => (i64_w _).symm.trans (hji7z h_)
    obtain ⟨y250, hy250⟩ : ∃ y_ : List Int, y_ = (l0.set (a1 : Int).toNat (Go.bits .or .i64 (rd l0 a1) (ji7))) := ⟨_, rfl⟩
    replace H : (if a2 < (l0.length : Int) then (some (y250.set (a2 : Int).toNat (Go.bits .or .i64 (rd y250 a2) (shl .i64 1 a1)))) else (none)) = some r := by first | (rw [hy250]; with_reducible exact H) | (have H2_ := (Option.bind_some _ _).symm.trans H; rw [hy250]; with_reducible exact H2_) | (have H2_ := (Option.bind_some _ _).symm.trans H; with_reducible exact H2_) | with_reducible exact H | (rw [hy250]; exact H) | exact H
    have Ny250 := Aside0.mk hy250
    clear hy250
    by_cases c9 : a2 < (l0.length : Int)
    ·rw [if_pos c9] at H
     have c9b0 : decide (a2 < (l0.length : Int)) = true := decide_eq_true c9
     clear c9
     have c10b0 := eq_true (of_decide_eq_true (by first | (with_reducible assumption) | assumption) : 0 ≤ a1)
     obtain ⟨ji11, hji11⟩ : ∃ j_ : Int, (shl .i64 1 a1) = j_ := ⟨_, rfl⟩
     replace H : (some (y250.set (a2 : Int).toNat (Go.bits .or .i64 (rd y250 a2) (ji11)))) = some r := by first | (rw [hji11] at H; exact H) | (simp only [hji11] at H ⊢; exact H)
     have hji11_ : (IntKind.i64.wrap (1 * 2 ^ min a1.toNat 64)) = ji11 := hji11
     have hji11z : a1 ≤ 64 → (IntKind.i64.wrap (1 * 2 ^ a1.toNat)) = ji11 := shl_small hji11
     have hji11u : (IntKind.i64.wrap (2 ^ min a1.toNat 64)) = ji11 := by have h_ := hji11_; rw [Int.one_mul] at h_; exact h_
     have hji11v : a1 ≤ 64 → (IntKind.i64.wrap (2 ^ a1.toNat)) = ji11 := fun hle_ => by have h_ := hji11z hle_; rw [Int.one_mul] at h_; exact h_
     have hji11y : (wrap64 (1 * 2 ^ min a1.toNat 64)) = ji11 := (i64_w _).symm.trans hji11_
     have hji11x : a1 ≤ 64 → (wrap64 (1 * 2 ^ a1.toNat)) = ji11 := fun h_ => (i64_w _).symm.trans (hji11z h_)
     obtain ⟨y252, hy252⟩ : ∃ y_ : List Int, y_ = (y250.set (a2 : Int).toNat (Go.bits .or .i64 (rd y250 a2) (ji11))) := ⟨_, rfl⟩
     replace H : (some y252) = some r := by first | (rw [hy252]; with_reducible exact H) | (have H2_ := (Option.bind_some _ _).symm.trans H; rw [hy252]; with_reducible exact H2_) | (have H2_ := (Option.bind_some _ _).symm.trans H; with_reducible exact H2_) | with_reducible exact H | (rw [hy252]; exact H) | exact H
     have Ny252 := Aside0.mk hy252
     clear hy252
     obtain rfl := Option.some.inj H
     go_enter Tryd.func75, Tryd.ntmps75
     try go_wp2
     have n0_ := Aside0.mk (Kd.R_drew HO0.out)
     have n1_ := Aside0.mk (Kept.drew HK.out)
     have n2_ := Aside0.mk (below_drew1 HB.out)
     clear HO0
     clear HK
     clear HB
     have HO0 := n0_
     have HK := n1_
     have HB := n2_
     clear n0_ n1_ n2_
     obtain ⟨Ao14, co14, eo14⟩ := Kd.R_slice HO0.out
     (first | subst eo14 | (injection eo14 with f1_ f2_ f3_; have f4_ := f1_.symm; have f5_ := f3_.symm; clear f1_ f2_ f3_; subst f4_; subst f5_))
     have p249 : 0 ≤ (a1 : Int) := of_decide_eq_true (by first | (with_reducible assumption) | assumption)
     have q249 : a1 < (l0.length : Int) := of_decide_eq_true (by first | (with_reducible assumption) | assumption)
     obtain ⟨ad249, e249, hx249_0⟩ := Kd.at_int (Kd.R_reads' HO0.out).2.2 a1 p249 q249
     cases e249
     replace p249 := eq_true p249
     replace q249 := eq_true q249
     have p8 : 0 ≤ (a1 : Int) := of_decide_eq_true (by first | (with_reducible assumption) | assumption)
     have q8 : (a1 : Int) < ((l0.length : Int) : Int) := of_decide_eq_true (by first | (with_reducible assumption) | assumption)
     obtain ⟨go8, co8, eo8, gb8, gl8, cl8, HG8⟩ := Kd.R_form HO0.out (by omega)
     (first | cases eo8 | (injection eo8 with ea_ en_ ec_; (first | subst ea_ | (injection ea_ with ea_; subst ea_)); subst ec_; clear en_))
     have GB8 := Aside0.mk gb8
     have GG8 := Aside0.mk HG8
     clear gb8 gl8 HG8
     have HMgo8 := Aside0.mk (show (P0_ go8 ∨ w.heap.size ≤ go8) from (HO0.out.1 _ rfl))
     (first | simp only [add_plain] at hx249_0 | skip)
     obtain ⟨hx8_0, hf8_0⟩ := Kd.R_celln 0 HO0.out (a1 : Int) p8 q8
     replace p8 := eq_true p8
     replace q8 := eq_true q8
     have HP15 := Kd.R_putn HO0.out (a1 : Int) (Go.bits .or .i64 (rd l0 a1) (ji7))
     rw [← Ny250.out] at HP15
     have HQ15 := Aside0.mk HP15
     clear HP15
     refine start_ (n := 9) (S := fun w' => w'.cell? ⟨go8, (a1).toNat, none⟩ = some (.int .i64 (rd l0 a1))) (ds := [8]) (Qbz 9 0) (by kernel_rfl) rfl rfl (hx249_0) (fun hHeld => ?_); refine with_tabW lampblackref07_join.tab0 lampblackref07_join.bits0 (fun HT_ HW_ => ?_)
     generalize w.drew = w13 at HO0 HK HB GG8 HQ15 hf8_0 hx249_0 hx8_0 hHeld ⊢
     refine pure_ (i := 0) (N := some 6) (v := ?_) (a' := ?_) (Qbz 9 1) rfl rfl (any_of HT_.out (by kernel_rfl)) (fun _ _ _ h => h) (Or.inl ⟨by rfl, ?_⟩) ?_ ?_
     rotate_left
     ·intro w'
      go_simp
      with_reducible rfl
     rotate_left
     ·simp only [Act.put, Qp1, Qp2, Qp3, i64_w, i32_w]
      rfl
     refine pure_ (i := 1) (N := some 7) (v := ?_) (a' := ?_) (Qbz 9 3) rfl rfl (any_of HT_.out (by kernel_rfl)) (fun _ _ _ h => h) (Or.inl ⟨by rfl, ?_⟩) ?_ ?_
     rotate_left
     ·intro w'
      go_simp
      with_reducible rfl
     rotate_left
     ·simp only [Act.put, Qp1, Qp2, Qp3, i64_w, i32_w]
      rfl
     refine pure_ (i := 2) (N := some 8) (v := ?_) (a' := ?_) (Qbz 9 7) rfl rfl (any_of HT_.out (by kernel_rfl)) (fun _ _ _ h => h) (Or.inl ⟨by rfl, ?_⟩) ?_ ?_
     rotate_left
     ·intro w'
      go_simp
      with_reducible rfl
     rotate_left
     ·simp only [Act.put, Qp1, Qp2, Qp3, i64_w, i32_w]
      rfl
     refine pure_ (i := 4) (N := some 10) (v := ?_) (a' := ?_) (Qbz 9 23) rfl rfl (any_of HT_.out (by kernel_rfl)) (fun _ _ _ h => h) (Or.inl ⟨by rfl, ?_⟩) ?_ ?_
     rotate_left
     ·intro w'
      go_simp
      with_reducible rfl
     rotate_left
     ·simp only [Act.put, Qp1, Qp2, Qp3, i64_w, i32_w]
      rfl
     refine pure_ (i := 5) (N := some 11) (v := ?_) (a' := ?_) (Qbz 9 55) rfl rfl (any_of HT_.out (by kernel_rfl)) (fun _ _ _ h => h) (Or.inl ⟨by rfl, ?_⟩) ?_ ?_
     rotate_left
     ·intro w'
      go_simp
      with_reducible rfl
     rotate_left
     ·simp only [Act.put, Qp1, Qp2, Qp3, i64_w, i32_w]
      rfl
     refine take_ (i := 3) (N := some 9) (v := ?_) (a' := ?_) (Qbz 9 63) rfl rfl (take_ofW HT_.out HW_.out (by kernel_rfl)) (fun _ _ _ h => h) (Or.inl ⟨by rfl, ?_⟩) hHeld ?_ ?_
     rotate_left
     ·intro w' s0
      go_simp
      with_reducible rfl
     rotate_left
     ·simp only [Act.put, Qp1, Qp2, Qp3, i64_w, i32_w]
      rfl
     refine pure_ (i := 6) (N := some 12) (v := ?_) (a' := ?_) (Qbz 9 127) rfl rfl (any_of HT_.out (by kernel_rfl)) (fun _ _ _ h => h) (Or.inl ⟨by rfl, ?_⟩) ?_ ?_
     rotate_left
     ·intro w'
      go_simp
      with_reducible rfl
     rotate_left
     ·simp only [Act.put, Qp1, Qp2, Qp3, i64_w, i32_w]
      rfl
     refine pure_ (i := 7) (N := some 13) (v := ?_) (a' := ?_) (Qbz 9 255) rfl rfl (any_of HT_.out (by kernel_rfl)) (fun _ _ _ h => h) (Or.inl ⟨by rfl, ?_⟩) ?_ ?_
     rotate_left
     ·intro w'
      go_simp
      with_reducible rfl
     rotate_left
     ·simp only [Act.put, Qp1, Qp2, Qp3, i64_w, i32_w]
      rfl
     refine last_ (i := 8) (N := none) (Qbz 9 511) rfl rfl (one_of HT_.out (by kernel_rfl)) (by decide) (fun K hK => ?_)
     refine skip_ (w1 := ?_) (by rfl) rfl ?_ ?_
     rotate_left
     ·go_simp
      rfl
     refine hK.out _ _ ?_
     clear hK K
     refine done_ (done_of HT_.out (by kernel_rfl)) ?_
     try go_wp2
     have n0_ : Aside0 (Kd.R (Kd.int .i64) 3 (w13.setCell ⟨go8, (a1 : Int).toNat, none⟩ (.int .i64 (Go.bits .or .i64 (rd l0 a1) (ji7)))) w0.heap.size (fun k_ => (P0_ k_ ∨ w.heap.size ≤ k_)) (.slice (some ⟨go8, 0, none⟩) l0.length co14) y250) := ⟨by (with_reducible repeat (first | apply Kd.R_alloc | apply Kd.R_drewN | apply Kd.R_drew)); exact HQ15.out⟩
     have n1_ : Aside0 (Kept w (w13.setCell ⟨go8, (a1 : Int).toNat, none⟩ (.int .i64 (Go.bits .or .i64 (rd l0 a1) (ji7)))) (fun k_ => P0_ k_)) := ⟨by repeat (first | (with_reducible first | exact HK.out | apply Kept.alloc | apply Kept.drewN | apply Kept.drew | refine Kept.setCell ?_ HMgo8.out _) | exact HK.out)⟩
     have n2_ : Aside0 (Below w0.heap.size w0 (w13.setCell ⟨go8, (a1 : Int).toNat, none⟩ (.int .i64 (Go.bits .or .i64 (rd l0 a1) (ji7))))) := ⟨by repeat (first | (with_reducible first | exact HB.out | apply below_alloc | apply pw_below_drewN | apply below_drew1 | refine below_set ?_ GB8.out) | exact HB.out)⟩
     (try clear HO0)
     (try clear HK)
     (try clear HB)
     generalize (w13.setCell ⟨go8, (a1 : Int).toNat, none⟩ (.int .i64 (Go.bits .or .i64 (rd l0 a1) (ji7)))) = w16 at n0_ n1_ n2_ ⊢
     have HO0 := n0_
     have HK := n1_
     have HB := n2_
     clear n0_ n1_ n2_
     have n0_ := Aside0.mk (Kd.R_drew HO0.out)
     have n1_ := Aside0.mk (Kept.drew HK.out)
     have n2_ := Aside0.mk (below_drew1 HB.out)
     clear HO0
     clear HK
     clear HB
     have HO0 := n0_
     have HK := n1_
     have HB := n2_
     clear n0_ n1_ n2_
     have p251 : 0 ≤ (a2 : Int) := of_decide_eq_true (by first | (with_reducible assumption) | assumption)
     have q251 : a2 < (y250.length : Int) := (by have h_ : (a2 : Int) < ((l0.length : Int) : Int) := of_decide_eq_true (by first | (with_reducible assumption) | assumption); first | (have e_ := (Kd.R_reads' HO0.out).1; omega) | simpa only [Ny250.out, List.length_set] using h_)
     have ql251 : ((a2 : Int) < ((l0.length : Int) : Int)) = True := eq_true (of_decide_eq_true (by first | (with_reducible assumption) | assumption))
     obtain ⟨ad251, e251, hx251_0⟩ := Kd.at_int (Kd.R_reads' HO0.out).2.2 a2 p251 q251
     obtain rfl : (⟨go8, 0, none⟩ : Addr) = ad251 := (by injection e251)
     (first | simp only [add_plain] at hx251_0 | simp only [add_at] at hx251_0 | simp only [Addr.add, Nat.zero_add] at hx251_0 | skip)
     replace p251 := eq_true p251
     replace q251 := eq_true q251
     have p12 : 0 ≤ (a2 : Int) := of_decide_eq_true (by first | (with_reducible assumption) | assumption)
     have q12 : (a2 : Int) < ((l0.length : Int) : Int) := of_decide_eq_true (by first | (with_reducible assumption) | assumption)
     obtain ⟨hx12_0, hf12_0⟩ := Kd.R_celln 0 HO0.out (a2 : Int) p12 q12
     replace p12 := eq_true p12
     replace q12 := eq_true q12
     have HP18 := Kd.R_putn HO0.out (a2 : Int) (Go.bits .or .i64 (rd y250 a2) (ji11))
     rw [← Ny252.out] at HP18
     have HQ18 := Aside0.mk HP18
     clear HP18
     refine start_ (n := 9) (S := fun w' => w'.cell? ⟨go8, (a2).toNat, none⟩ = some (.int .i64 (rd y250 a2))) (ds := [8]) (Qbz 9 0) (by kernel_rfl) rfl rfl (hx251_0) (fun hHeld => ?_); refine with_tabW lampblackref07_join.tab1 lampblackref07_join.bits1 (fun HT_ HW_ => ?_)
     generalize w16.drew = w17 at HO0 HK HB HQ15 HQ18 hf12_0 hx12_0 hx251_0 hHeld ⊢
     refine pure_ (i := 0) (N := some 14) (v := ?_) (a' := ?_) (Qbz 9 1) rfl rfl (any_of HT_.out (by kernel_rfl)) (fun _ _ _ h => h) (Or.inl ⟨by rfl, ?_⟩) ?_ ?_
     rotate_left
     ·intro w'
      go_simp
      with_reducible rfl
     rotate_left
     ·simp only [Act.put, Qp1, Qp2, Qp3, i64_w, i32_w]
      rfl
     refine pure_ (i := 1) (N := some 15) (v := ?_) (a' := ?_) (Qbz 9 3) rfl rfl (any_of HT_.out (by kernel_rfl)) (fun _ _ _ h => h) (Or.inl ⟨by rfl, ?_⟩) ?_ ?_
     rotate_left
     ·intro w'
      go_simp
      with_reducible rfl
     rotate_left
     ·simp only [Act.put, Qp1, Qp2, Qp3, i64_w, i32_w]
      rfl
     refine pure_ (i := 2) (N := some 16) (v := ?_) (a' := ?_) (Qbz 9 7) rfl rfl (any_of HT_.out (by kernel_rfl)) (fun _ _ _ h => h) (Or.inl ⟨by rfl, ?_⟩) ?_ ?_
     rotate_left
     ·intro w'
      go_simp
      with_reducible rfl
     rotate_left
     ·simp only [Act.put, Qp1, Qp2, Qp3, i64_w, i32_w]
      rfl
     refine pure_ (i := 4) (N := some 18) (v := ?_) (a' := ?_) (Qbz 9 23) rfl rfl (any_of HT_.out (by kernel_rfl)) (fun _ _ _ h => h) (Or.inl ⟨by rfl, ?_⟩) ?_ ?_
     rotate_left
     ·intro w'
      go_simp
      with_reducible rfl
     rotate_left
     ·simp only [Act.put, Qp1, Qp2, Qp3, i64_w, i32_w]
      rfl
     refine pure_ (i := 5) (N := some 19) (v := ?_) (a' := ?_) (Qbz 9 55) rfl rfl (any_of HT_.out (by kernel_rfl)) (fun _ _ _ h => h) (Or.inl ⟨by rfl, ?_⟩) ?_ ?_
     rotate_left
     ·intro w'
      go_simp
      with_reducible rfl
     rotate_left
     ·simp only [Act.put, Qp1, Qp2, Qp3, i64_w, i32_w]
      rfl
     refine take_ (i := 3) (N := some 17) (v := ?_) (a' := ?_) (Qbz 9 63) rfl rfl (take_ofW HT_.out HW_.out (by kernel_rfl)) (fun _ _ _ h => h) (Or.inl ⟨by rfl, ?_⟩) hHeld ?_ ?_
     rotate_left
     ·intro w' s0
      go_simp
      with_reducible rfl
     rotate_left
     ·simp only [Act.put, Qp1, Qp2, Qp3, i64_w, i32_w]
      rfl
     refine pure_ (i := 6) (N := some 20) (v := ?_) (a' := ?_) (Qbz 9 127) rfl rfl (any_of HT_.out (by kernel_rfl)) (fun _ _ _ h => h) (Or.inl ⟨by rfl, ?_⟩) ?_ ?_
     rotate_left
     ·intro w'
      go_simp
      with_reducible rfl
     rotate_left
     ·simp only [Act.put, Qp1, Qp2, Qp3, i64_w, i32_w]
      rfl
     refine pure_ (i := 7) (N := some 21) (v := ?_) (a' := ?_) (Qbz 9 255) rfl rfl (any_of HT_.out (by kernel_rfl)) (fun _ _ _ h => h) (Or.inl ⟨by rfl, ?_⟩) ?_ ?_
     rotate_left
     ·intro w'
      go_simp
      with_reducible rfl
     rotate_left
     ·simp only [Act.put, Qp1, Qp2, Qp3, i64_w, i32_w]
      rfl
     refine last_ (i := 8) (N := none) (Qbz 9 511) rfl rfl (one_of HT_.out (by kernel_rfl)) (by decide) (fun K hK => ?_)
     refine skip_ (w1 := ?_) (by rfl) rfl ?_ ?_
     rotate_left
     ·go_simp
      rfl
     refine hK.out _ _ ?_
     clear hK K
     refine done_ (done_of HT_.out (by kernel_rfl)) ?_
     try go_wp2
     first | go_end0 | ((try simp only [Exit.inBlock, Exit.then]); refine bodyPost_ret (results_none rfl _ _ _) rfl ?_)
     exact ⟨by first | rfl | (simp [errW_none, errW_some] <;> rfl) | (simp only [← hji7, ← hji11]; first | rfl | (simp [errW_none, errW_some] <;> rfl)) | (simp [*, errW_none, errW_some] <;> rfl), by (with_reducible repeat (first | apply Kd.R_alloc | apply Kd.R_drewN | apply Kd.R_drew)); exact HQ18.out, by repeat (first | (with_reducible first | exact HB.out | apply below_alloc | apply pw_below_drewN | apply below_drew1 | refine below_set ?_ GB8.out) | exact HB.out), by repeat (first | (with_reducible first | exact HK.out | apply Kept.alloc | apply Kept.drewN | apply Kept.drew | refine Kept.setCell ?_ HMgo8.out _) | exact HK.out)⟩
    ·rw [if_neg c9] at H
     exact absurd H (by simp)
   ·rw [if_neg c6] at H
    exact absurd H (by simp)
  ·rw [if_neg c5] at H
   exact absurd H (by simp)
 ·rw [if_neg c4] at H
  exact absurd H (by simp)
end Go.Proofs.YtjloppfdagfpmaaDoor.X
end
section
namespace Go.Proofs.YtjloppfdagfpmaaDoor.X
open Go.RowKit YtjloppfdagfpmaaDoorW.PrintWords YtjloppfdagfpmaaDoorW.PrintLast YtjloppfdagfpmaaDoorW.PrintMore
attribute [local go_sem] max2_int min2_int max_two min_two max_three min_three max_four min_four
/-! ### lampblackref07_Contract: function 38 -/
def lampblackref07_Contract.l0 : Nat → List Int → Int → Int → List Int → Int → Int → Option (List Int)
 | 0, _, _, _, _, _, _ => none
 | k + 1, x0, x1, x2, x7, x13, x14 => if x14 < x13 then (if 0 ≤ x2 then (if x2 < (x0.length : Int) then (if 0 ≤ x14 then (if (Go.bits .and .i64 (shr .i64 (rd x0 x2) x14) 1) = 1 then (if x14 = x1 then (lampblackref07_Contract.l0 k x0 x1 x2 x7 x13 (wrap64 (x14 + 1))) else ((lampblackref07_join.f x7 x1 x14).bind fun t336 => (lampblackref07_Contract.l0 k x0 x1 x2 t336 x13 (wrap64 (x14 + 1))))) else (lampblackref07_Contract.l0 k x0 x1 x2 x7 x13 (wrap64 (x14 + 1)))) else (none)) else (none)) else (none)) else ((lampblackref07_Delete.f k x7 x2).bind fun t337 => (some t337))
end Go.Proofs.YtjloppfdagfpmaaDoor.X
end
section
/- (minor) A node less, and two neighbours made one. -/
namespace Go.Proofs.YtjloppfdagfpmaaDoor.X
open Go.RowKit YtjloppfdagfpmaaDoorW.PrintWords YtjloppfdagfpmaaDoorW.PrintLast YtjloppfdagfpmaaDoorW.PrintMore YtjloppfdagfpmaaDoor.T
def joinN (J : List Nat) (a u : Nat) : List Nat := (J.set a (J.getD a 0 ||| 2 ^ u)).set u ((J.set a (J.getD a 0 ||| 2 ^ u)).getD u 0 ||| 2 ^ a)
def InN (n : Nat) (J : List Nat) : Prop := J.length = n ∧ ∀ i, J.getD i 0 < 2 ^ n
theorem getD_set3 (W : List Nat) (i j x : Nat) (hi : i < W.length) : (W.set i x).getD j 0 = if j = i then x else W.getD j 0 := by
 rw [List.getD_eq_getElem?_getD, List.getD_eq_getElem?_getD, List.getElem?_set]
 by_cases h : i = j
 ·subst h; rw [if_pos rfl, if_pos rfl, if_pos hi]; rfl
 ·rw [if_neg h, if_neg (fun e => h e.symm)]
theorem InN.join {n : Nat} {J : List Nat} (h : InN n J) {a u : Nat} (ha : a < n) (hu : u < n) : InN n (joinN J a u) := by
 have hp : ∀ v, v < n → 2 ^ v < 2 ^ n := fun v hv => Nat.pow_lt_pow_right (by omega) hv
 have h1 : ∀ i, (J.set a (J.getD a 0 ||| 2 ^ u)).getD i 0 < 2 ^ n := fun i => by
  rw [getD_set3 _ _ _ _ (by rw [h.1]; exact ha)]
  split
  ·exact Nat.or_lt_two_pow (h.2 a) (hp u hu)
  ·exact h.2 i
 refine ⟨by unfold joinN; rw [List.length_set, List.length_set, h.1], fun i => ?_⟩
 unfold joinN
 rw [getD_set3 _ _ _ _ (by rw [List.length_set, h.1]; exact hu)]
 split
 ·exact Nat.or_lt_two_pow (h1 u) (hp a ha)
 ·exact h1 i
theorem join_eq {n : Nat} (hn : n ≤ 9) {J : List Nat} (h : InN n J) {a u : Nat} (ha : a < n) (hu : u < n) : minor_town_join.f (gi J) (a : Int) (u : Int) = some (gi (joinN J a u)) := by
 have h9 : 2 ^ n ≤ 2 ^ 9 := Nat.pow_le_pow_right (by omega) hn
 have hp : ∀ v, v < n → 2 ^ v < 2 ^ 62 := fun v hv => Nat.lt_of_lt_of_le (Nat.pow_lt_pow_right (by omega) hv) (Nat.le_trans h9 (by omega))
 have hb : ∀ x, x < 2 ^ n → x < 2 ^ 62 := fun x hx => Nat.lt_of_lt_of_le hx (Nat.le_trans h9 (by omega))
 have hJ1 : ∀ i, (J.set a (J.getD a 0 ||| 2 ^ u)).getD i 0 < 2 ^ n := fun i => by
  rw [getD_set3 _ _ _ _ (by rw [h.1]; exact ha)]
  split
  ·exact Nat.or_lt_two_pow (h.2 a) (Nat.pow_lt_pow_right (by omega) hu)
  ·exact h.2 i
 unfold minor_town_join.f
 rw [if_pos (by omega), if_pos (by rw [gi_length, h.1]; omega), if_pos (by omega), rd_gi, s_one u (by omega), b_or _ _ (hb _ (h.2 a)) (hp u hu), Int.toNat_natCast, gi_set]
 simp only [Option.bind_some]
 rw [if_pos (by rw [gi_length, h.1]; omega), rd_gi, s_one a (by omega), b_or _ _ (hb _ (hJ1 u)) (hp a ha), Int.toNat_natCast, gi_set]
 rfl
theorem refJoin_eq {n : Nat} (hn : n ≤ 9) {J : List Nat} (h : InN n J) {a u : Nat} (ha : a < n) (hu : u < n) : lampblackref07_join.f (gi J) (a : Int) (u : Int) = some (gi (joinN J a u)) := join_eq hn h ha hu
theorem gr_in {m : Nat} {G : List Nat} (hG : Gr m G) : InN G.length G := ⟨rfl, hG.row⟩
end Go.Proofs.YtjloppfdagfpmaaDoor.X
end
section
/- (*minor.reduction).step, do and (minor.town).reduction, by hand. -/
namespace Go.Proofs.YtjloppfdagfpmaaDoor.X
open Go.RowKit YtjloppfdagfpmaaDoorW.PrintWords YtjloppfdagfpmaaDoorW.PrintLast YtjloppfdagfpmaaDoorW.PrintMore YtjloppfdagfpmaaDoor.T
attribute [local go_sem] max2_int min2_int max_two min_two max_three min_three max_four min_four
theorem add0 (a : Addr) : a.add 0 = a := by
 unfold Addr.add
 cases a
 split <;> simp_all
theorem four_facts {W : World} {g : Nat} {t : TypeId} {x0 x1 x2 x3 : Value} (h : W.heap[g]? = some (.cells #[x0, x1, x2, x3] t (0, 0))) (u0 u1 u2 u3 : Value) :
  (W.cell? ⟨g, 0, none⟩ = some x0 ∧ W.frozen? ⟨g, 0, none⟩ = false) ∧
  ((W.setCell ⟨g, 0, none⟩ u0).cell? ⟨g, 1, none⟩ = some x1 ∧ (W.setCell ⟨g, 0, none⟩ u0).frozen? ⟨g, 1, none⟩ = false) ∧
  (((W.setCell ⟨g, 0, none⟩ u0).setCell ⟨g, 1, none⟩ u1).cell? ⟨g, 2, none⟩ = some x2 ∧ ((W.setCell ⟨g, 0, none⟩ u0).setCell ⟨g, 1, none⟩ u1).frozen? ⟨g, 2, none⟩ = false) ∧
  ((((W.setCell ⟨g, 0, none⟩ u0).setCell ⟨g, 1, none⟩ u1).setCell ⟨g, 2, none⟩ u2).cell? ⟨g, 3, none⟩ = some x3 ∧ (((W.setCell ⟨g, 0, none⟩ u0).setCell ⟨g, 1, none⟩ u1).setCell ⟨g, 2, none⟩ u2).frozen? ⟨g, 3, none⟩ = false) ∧
  ((((W.setCell ⟨g, 0, none⟩ u0).setCell ⟨g, 1, none⟩ u1).setCell ⟨g, 2, none⟩ u2).setCell ⟨g, 3, none⟩ u3).heap[g]? = some (.cells #[u0, u1, u2, u3] t (0, 0)) := by
 have h1 : (W.setCell ⟨g, 0, none⟩ u0).heap[g]? = some (.cells #[u0, x1, x2, x3] t (0, 0)) := blk_put h 0 u0 rfl
 have h2 : ((W.setCell ⟨g, 0, none⟩ u0).setCell ⟨g, 1, none⟩ u1).heap[g]? = some (.cells #[u0, u1, x2, x3] t (0, 0)) := blk_put h1 1 u1 rfl
 have h3 : (((W.setCell ⟨g, 0, none⟩ u0).setCell ⟨g, 1, none⟩ u1).setCell ⟨g, 2, none⟩ u2).heap[g]? = some (.cells #[u0, u1, u2, x3] t (0, 0)) := blk_put h2 2 u2 rfl
 exact ⟨⟨(blk_cell h 0).trans rfl, blk_frozen h 0⟩, ⟨(blk_cell h1 1).trans rfl, blk_frozen h1 1⟩, ⟨(blk_cell h2 2).trans rfl, blk_frozen h2 2⟩, ⟨(blk_cell h3 3).trans rfl, blk_frozen h3 3⟩, blk_put h3 3 u3 rfl⟩
theorem four_reads {W : World} {g : Nat} {t : TypeId} {x0 x1 x2 x3 : Value} (h : W.heap[g]? = some (.cells #[x0, x1, x2, x3] t (0, 0))) :
  W.cell? ⟨g, 0, none⟩ = some x0 ∧ W.cell? ⟨g, 1, none⟩ = some x1 ∧ W.cell? ⟨g, 2, none⟩ = some x2 ∧ W.cell? ⟨g, 3, none⟩ = some x3 :=
 ⟨(blk_cell h 0).trans rfl, (blk_cell h 1).trans rfl, (blk_cell h 2).trans rfl, (blk_cell h 3).trans rfl⟩
theorem below_four {w W : World} {g : Nat} (h : Below w.heap.size w W) (hg : w.heap.size ≤ g) (u0 u1 u2 u3 : Value) : Below w.heap.size w ((((W.setCell ⟨g, 0, none⟩ u0).setCell ⟨g, 1, none⟩ u1).setCell ⟨g, 2, none⟩ u2).setCell ⟨g, 3, none⟩ u3) :=
 below_set (below_set (below_set (below_set h hg) hg) hg) hg
def sA : List Nat → Int
 | [a] => a
 | [a, _] => a
 | _ => -1
def sB : List Nat → Int
 | [_, b] => b
 | _ => -1
set_option maxHeartbeats 4000000 in
set_option maxRecDepth 100000 in
theorem step_calls (rB : Nat) (A : Option Addr) (c : Nat) (J : List Nat) (left v : Nat) (w : World) (hGL : GL w) (h0 : w.cell? ⟨rB, 0, none⟩ = some (.slice A J.length c)) (h1 : w.cell? ⟨rB, 1, none⟩ = some (.int .i64 (left : Int))) (hr : Kd.C (Kd.int .i64) w A J.length (gi J)) (hv : v < J.length) (hJl : J.length ≤ 9) (hJ : J.getD v 0 < 512) (hl : left < 512) (L : List Nat) (hL : els (J.getD v 0 &&& left) 9 = L) :
  Calls Tryd.prog 79 #[.pointer (some ⟨rB, 0, none⟩), .int .i64 (v : Int)] w fun e w' => e = .returned (.tuple #[.agg #[.int .i64 (L.length : Int), .int .i64 (v : Int), .int .i64 (sA L), .int .i64 (sB L)], .bool (decide (L.length ≤ 2))]) ∧ Below w.heap.size w w' := by
 obtain ⟨ad, e1, hgx⟩ := Kd.at_int hr (v : Int) (by omega) (by omega)
 subst e1
 rw [rd_gi, Int.toNat_natCast] at hgx
 have hi1 : ((v : Int) < (J.length : Int)) = True := eq_true (by omega)
 have hi2 : decide ((v : Int) < (J.length : Int)) = true := decide_eq_true (by omega)
 have HGL := Aside0.mk hGL
 have hq : Go.bits .and .i64 ((J.getD v 0 : Nat) : Int) (left : Int) = ((J.getD v 0 &&& left : Nat) : Int) := b_and _ _ (by omega) (by omega)
 have hq5 : J.getD v 0 &&& left < 512 := Nat.lt_of_le_of_lt Nat.and_le_left hJ
 have hlen : L.length ≤ 9 := by rw [← hL, els_length]; exact pc_le _ 9
 generalize J.getD v 0 &&& left = q at *
 generalize J.getD v 0 = x at *
 obtain ⟨w1, hw1⟩ : ∃ w1 : World, w1 = w.alloc (Obj.cells #[.int .i64 0, .int .i64 0, .int .i64 0, .int .i64 0] 95) := ⟨_, rfl⟩
 have HB1 : Aside0 (Below w.heap.size w w1) := ⟨by rw [hw1]; exact below_alloc (Below.refl _ _) _⟩
 have HBK : Aside0 (w1.heap[w.heap.size]? = some (.cells #[.int .i64 0, .int .i64 0, .int .i64 0, .int .i64 0] 95 (0, 0))) := ⟨by rw [hw1]; exact blk_new w _⟩
 have f0 : w1.cell? ⟨rB, 0, none⟩ = some (.slice (some ad) J.length c) := (HB1.out.cell (World.block_lt_of_cell? w _ h0)).trans h0
 have f1 : w1.cell? ⟨rB, 1, none⟩ = some (.int .i64 (left : Int)) := (HB1.out.cell (World.block_lt_of_cell? w _ h1)).trans h1
 have f2 : w1.cell? (ad.add v) = some (.int .i64 (x : Int)) := (HB1.out.cell (World.block_lt_of_cell? w _ hgx)).trans hgx
 have f0d : w1.drew.cell? ⟨rB, 0, none⟩ = some (.slice (some ad) J.length c) := f0
 have f1d : w1.drew.cell? ⟨rB, 1, none⟩ = some (.int .i64 (left : Int)) := f1
 have f2d : w1.drew.cell? (ad.add v) = some (.int .i64 (x : Int)) := f2
 have fBd : Below w1.heap.size w1 w1.drew := below_drew (Below.refl _ _)
 have CND : Aside0 (∀ W, (W.cell? ⟨rB, 0, none⟩ = some (.slice (some ad) J.length c) ∧ W.cell? ⟨rB, 1, none⟩ = some (.int .i64 (left : Int)) ∧ W.cell? (ad.add v) = some (.int .i64 (x : Int)) ∧ Below w1.heap.size w1 W) → Calls Tryd.prog 69 #[.int .i64 (q : Int)] W fun e w' => ∃ A cq, e = .returned (.slice A L.length cq) ∧ Kd.C (Kd.int .i64) w' A L.length (gi L) ∧ (w'.cell? ⟨rB, 0, none⟩ = some (.slice (some ad) J.length c) ∧ w'.cell? ⟨rB, 1, none⟩ = some (.int .i64 (left : Int)) ∧ w'.cell? (ad.add v) = some (.int .i64 (x : Int)) ∧ Below w1.heap.size w1 w')) := ⟨by
  rintro W ⟨s0, s1, s2, s3⟩
  obtain ⟨K, hK⟩ := nodes_ev q hq5
  refine (minor_nodes.calls K (q : Int) _ W (GL_below HGL.out (below_step HB1.out s3)) (hK K (Nat.le_refl _))).mono ?_
  rintro e w' ⟨u, rfl, hu, hb⟩
  obtain ⟨A, cq, eu, hc, hC⟩ := Kd.R_reads hu
  rw [hL, gi_length] at eu hC
  subst eu
  exact ⟨A, cq, rfl, hC, (hb.cell (World.block_lt_of_cell? W _ s0)).trans s0, (hb.cell (World.block_lt_of_cell? W _ s1)).trans s1, (hb.cell (World.block_lt_of_cell? W _ s2)).trans s2, below_step s3 hb⟩⟩
 clear hr hGL hL hq5 hJ
 go_enter Tryd.func79, Tryd.ntmps79
 go_wp2
 rw [← hw1]
 clear hw1
 refine start_ (n := 14) (S := fun w' => w'.cell? ⟨rB, 0, none⟩ = some (.slice (some ad) J.length c) ∧ w'.cell? ⟨rB, 1, none⟩ = some (.int .i64 (left : Int)) ∧ w'.cell? (ad.add v) = some (.int .i64 (x : Int)) ∧ Below w1.heap.size w1 w') (ds := []) (Qbz 14 0) (by kernel_rfl) rfl rfl ⟨f0d, f1d, f2d, fBd⟩ (fun hHeld => ?_)
 refine pure_ (i := 0) (N := some 8) (v := ?_) (a' := ?_) (Qbz 14 1) rfl rfl (by kernel_rfl) (fun _ _ _ h => h) (Or.inl ⟨by rfl, ?_⟩) ?_ ?_
 rotate_left
 ·intro w'
  go_simp
  with_reducible rfl
 rotate_left
 ·simp only [Act.put, Qp1, Qp2, Qp3, i64_w, i32_w]
  rfl
 refine pure_ (i := 1) (N := some 9) (v := ?_) (a' := ?_) (Qbz 14 3) rfl rfl (by kernel_rfl) (fun _ _ _ h => h) (Or.inl ⟨by rfl, ?_⟩) ?_ ?_
 rotate_left
 ·intro w'
  go_simp
  with_reducible rfl
 rotate_left
 ·simp only [Act.put, Qp1, Qp2, Qp3, i64_w, i32_w]
  rfl
 refine pure_ (i := 2) (N := some 10) (v := ?_) (a' := ?_) (Qbz 14 7) rfl rfl (by kernel_rfl) (fun _ _ _ h => h) (Or.inl ⟨by rfl, ?_⟩) ?_ ?_
 rotate_left
 ·intro w'
  go_simp
  with_reducible rfl
 rotate_left
 ·simp only [Act.put, Qp1, Qp2, Qp3, i64_w, i32_w]
  rfl
 refine pure_ (i := 4) (N := some 12) (v := ?_) (a' := ?_) (Qbz 14 23) rfl rfl (by kernel_rfl) (fun _ _ _ h => h) (Or.inl ⟨by rfl, ?_⟩) ?_ ?_
 rotate_left
 ·intro w'
  go_simp
  with_reducible rfl
 rotate_left
 ·simp only [Act.put, Qp1, Qp2, Qp3, i64_w, i32_w]
  rfl
 refine pure_ (i := 7) (N := some 15) (v := ?_) (a' := ?_) (Qbz 14 151) rfl rfl (by kernel_rfl) (fun _ _ _ h => h) (Or.inl ⟨by rfl, ?_⟩) ?_ ?_
 rotate_left
 ·intro w'
  go_simp
  with_reducible rfl
 rotate_left
 ·simp only [Act.put, Qp1, Qp2, Qp3, i64_w, i32_w]
  rfl
 refine pure_ (i := 8) (N := some 16) (v := ?_) (a' := ?_) (Qbz 14 407) rfl rfl (by kernel_rfl) (fun _ _ _ h => h) (Or.inl ⟨by rfl, ?_⟩) ?_ ?_
 rotate_left
 ·intro w'
  go_simp
  with_reducible rfl
 rotate_left
 ·simp only [Act.put, Qp1, Qp2, Qp3, i64_w, i32_w]
  rfl
 refine pure_ (i := 9) (N := some 17) (v := ?_) (a' := ?_) (Qbz 14 919) rfl rfl (by kernel_rfl) (fun _ _ _ h => h) (Or.inl ⟨by rfl, ?_⟩) ?_ ?_
 rotate_left
 ·intro w'
  go_simp
  with_reducible rfl
 rotate_left
 ·simp only [Act.put, Qp1, Qp2, Qp3, i64_w, i32_w]
  rfl
 refine take_ (i := 3) (N := some 11) (v := ?_) (a' := ?_) (Qbz 14 927) rfl rfl (by kernel_rfl) (fun _ _ _ h => h) (Or.inl ⟨by rfl, ?_⟩) hHeld ?_ ?_
 rotate_left
 ·rintro w' ⟨s0, s1, s2, s3⟩
  go_simp
  with_reducible rfl
 rotate_left
 ·simp only [Act.put, Qp1, Qp2, Qp3, i64_w, i32_w]
  rfl
 refine pure_ (i := 5) (N := some 13) (v := ?_) (a' := ?_) (Qbz 14 959) rfl rfl (by kernel_rfl) (fun _ _ _ h => h) (Or.inl ⟨by rfl, ?_⟩) ?_ ?_
 rotate_left
 ·intro w'
  go_simp
  with_reducible rfl
 rotate_left
 ·simp only [Act.put, Qp1, Qp2, Qp3, i64_w, i32_w]
  rfl
 refine take_ (i := 6) (N := some 14) (v := ?_) (a' := ?_) (Qbz 14 1023) rfl rfl (by kernel_rfl) (fun _ _ _ h => h) (Or.inl ⟨by rfl, ?_⟩) hHeld ?_ ?_
 rotate_left
 ·rintro w' ⟨s0, s1, s2, s3⟩
  go_simp
  with_reducible rfl
 rotate_left
 ·simp only [Act.put, Qp1, Qp2, Qp3, i64_w, i32_w]
  rfl
 refine take_ (i := 10) (N := some 18) (v := ?_) (a' := ?_) (Qbz 14 2047) rfl rfl (by kernel_rfl) (fun _ _ _ h => h) (Or.inl ⟨by rfl, ?_⟩) hHeld ?_ ?_
 rotate_left
 ·rintro w' ⟨s0, s1, s2, s3⟩
  go_simp
  with_reducible rfl
 rotate_left
 ·simp only [Act.put, Qp1, Qp2, Qp3, i64_w, i32_w]
  rfl
 refine pure_ (i := 11) (N := some 19) (v := ?_) (a' := ?_) (Qbz 14 4095) rfl rfl (by kernel_rfl) (fun _ _ _ h => h) (Or.inl ⟨by rfl, ?_⟩) ?_ ?_
 rotate_left
 ·intro w'
  go_simp
  with_reducible rfl
 rotate_left
 ·simp only [Act.put, Qp1, Qp2, Qp3, i64_w, i32_w]
  rfl
 refine one_ (i := 12) (N := some 20) (Qbz 14 8191) rfl rfl (by kernel_rfl) (by decide) (fun K hK => ?_)
 refine goes_ Tryd.func69 (by kernel_rfl) rfl #[.int .i64 (q : Int)] (by rfl) rfl rfl (by simp only [List.map_toArray, List.map_cons, List.map_nil]; rfl) ?_
 with_reducible refine (CND.out _ hHeld).mono ?_
 rintro e w3 ⟨A5, c5, rfl, hC5, g0, g1, g2, gB⟩
 refine ⟨_, rfl, ?_⟩
 refine hK.out _ _ ⟨g0, g1, g2, gB⟩ (fun hHeld => ?_)
 clear hK K
 refine norm_ (a' := ?_) ?_ ?_
 rotate_left
 ·show Act.put _ (some 20) _ = _
  simp only [Act.put, Qp1, Qp2, Qp3, i64_w, i32_w]
  rfl
 refine pure_ (i := 13) (N := some 6) (v := ?_) (a' := ?_) (Qbz 14 16383) rfl rfl (by kernel_rfl) (fun _ _ _ h => h) (Or.inl ⟨by rfl, ?_⟩) ?_ ?_
 rotate_left
 ·intro w'
  go_simp
  with_reducible rfl
 rotate_left
 ·simp only [Act.put, Qp1, Qp2, Qp3, i64_w, i32_w]
  rfl
 refine done_ (by kernel_rfl) ?_
 have HB3 := Aside0.mk (below_step HB1.out gB)
 have hb3 := blk_below HBK.out gB
 obtain ⟨z, hz⟩ : ∃ z, L.length = z := ⟨_, rfl⟩
 rw [hz] at hC5 ⊢
 have HC5 := Aside0.mk hC5
 clear gB hHeld g0 g1 g2 f0 f1 f2 f0d f1d f2d fBd CND h0 h1 hgx HBK hC5
 rcases L with _ | ⟨a, _ | ⟨b, _ | ⟨d, r⟩⟩⟩
 ·obtain rfl : z = 0 := hz.symm
  have hb4 := blk_alloc hb3 (.cells #[.int .i64 (0), .int .i64 (v : Int), .int .i64 (-1), .int .i64 (-1)] 95)
  obtain ⟨⟨q1, q2⟩, ⟨q3, q4⟩, ⟨q5, q6⟩, ⟨q7, q8⟩, hb9⟩ := four_facts hb4 (.int .i64 (0)) (.int .i64 (v : Int)) (.int .i64 (-1)) (.int .i64 (-1))
  go_wp2
  refine bodyPost_ret (results_ct rfl _ _ w.heap.size 95 #[.int .i64 (0), .int .i64 (v : Int), .int .i64 (-1), .int .i64 (-1)] (0, 0) _ rfl hb9 Tryd.underlying95 rfl (by kernel_rfl)) rfl ?_
  exact ⟨rfl, below_four (below_alloc HB3.out _) (by omega) _ _ _ _⟩
 ·obtain rfl : z = 1 := hz.symm
  obtain ⟨a5, e5, hx5⟩ := Kd.at_int HC5.out 0 (by omega) (by simp)
  subst e5
  have hx5' : w3.cell? a5 = some (.int .i64 (a : Int)) := by have h := hx5; rw [show (0 : Int).toNat = 0 from rfl, add0] at h; exact h
  have hal := below_alloc (Below.refl w3.heap.size w3) (.cells #[.int .i64 1, .int .i64 (v : Int), .int .i64 (-1), .int .i64 (-1)] 95)
  have hx6 : (w3.alloc (.cells #[.int .i64 1, .int .i64 (v : Int), .int .i64 (-1), .int .i64 (-1)] 95)).cell? a5 = some (.int .i64 (a : Int)) := (hal.cell (World.block_lt_of_cell? w3 _ hx5')).trans hx5'
  clear hal hx5 hx5'
  have hb4 := blk_alloc hb3 (.cells #[.int .i64 (1), .int .i64 (v : Int), .int .i64 (a), .int .i64 (-1)] 95)
  obtain ⟨⟨q1, q2⟩, ⟨q3, q4⟩, ⟨q5, q6⟩, ⟨q7, q8⟩, hb9⟩ := four_facts hb4 (.int .i64 (1)) (.int .i64 (v : Int)) (.int .i64 (a)) (.int .i64 (-1))
  go_wp2
  refine bodyPost_ret (results_ct rfl _ _ w.heap.size 95 #[.int .i64 (1), .int .i64 (v : Int), .int .i64 (a), .int .i64 (-1)] (0, 0) _ rfl hb9 Tryd.underlying95 rfl (by kernel_rfl)) rfl ?_
  exact ⟨rfl, below_four (below_alloc HB3.out _) (by omega) _ _ _ _⟩
 ·obtain rfl : z = 2 := hz.symm
  obtain ⟨a5, e5, hx5⟩ := Kd.at_int HC5.out 0 (by omega) (by simp)
  obtain ⟨a6, e6, hx7⟩ := Kd.at_int HC5.out 1 (by omega) (by simp)
  rw [e5] at e6
  obtain rfl : a5 = a6 := Option.some.inj e6
  subst e5
  have hx5' : w3.cell? a5 = some (.int .i64 (a : Int)) := by have h := hx5; rw [show (0 : Int).toNat = 0 from rfl, add0] at h; exact h
  have hx7' : w3.cell? ⟨a5.block, a5.off + 1, none⟩ = some (.int .i64 (b : Int)) := hx7
  have hbl5 := World.block_lt_of_cell? w3 _ hx5'
  have hbl7 := World.block_lt_of_cell? w3 _ hx7'
  have hal := below_alloc (Below.refl w3.heap.size w3) (.cells #[.int .i64 2, .int .i64 (v : Int), .int .i64 (-1), .int .i64 (-1)] 95)
  obtain ⟨w4, hw4⟩ : ∃ w4 : World, w4 = w3.alloc (.cells #[.int .i64 2, .int .i64 (v : Int), .int .i64 (-1), .int .i64 (-1)] 95) := ⟨_, rfl⟩
  rw [← hw4] at hal
  have ht4 : w4.heap[w3.heap.size]? = some (.cells #[.int .i64 2, .int .i64 (v : Int), .int .i64 (-1), .int .i64 (-1)] 95 (0, 0)) := by rw [hw4]; exact blk_new w3 _
  have hb4 : w4.heap[w.heap.size]? = some (.cells #[.int .i64 0, .int .i64 0, .int .i64 0, .int .i64 0] 95 (0, 0)) := by rw [hw4]; exact blk_alloc hb3 _
  have HB4 := Aside0.mk (below_step HB3.out hal)
  obtain ⟨tB, htB⟩ : ∃ tB, tB = w3.heap.size := ⟨_, rfl⟩
  rw [← htB] at ht4 hbl5 hbl7
  have hne : w.heap.size ≠ tB := by have := blk_lt hb3; omega
  have n0d : w4.drew.cell? a5 = some (.int .i64 (a : Int)) := (hal.cell (by rw [← htB]; exact hbl5)).trans hx5'
  have n1d : w4.drew.cell? ⟨a5.block, a5.off + 1, none⟩ = some (.int .i64 (b : Int)) := (hal.cell (by rw [← htB]; exact hbl7)).trans hx7'
  have hk : ∀ (W : World) (d : Addr), d.block < tB → ∀ (j : Nat) (u : Value), (W.setCell ⟨tB, j, none⟩ u).cell? d = W.cell? d := fun W d hd j u => by
   have := Below.heap_setCell W ⟨tB, j, none⟩ u d.block (show d.block ≠ tB by omega)
   simp only [World.cell?, this]
  have n0e : (w4.setCell ⟨tB, 2, none⟩ (.int .i64 (a : Int))).drew.cell? a5 = some (.int .i64 (a : Int)) := (hk w4 _ hbl5 _ _).trans n0d
  have n1e : (w4.setCell ⟨tB, 2, none⟩ (.int .i64 (a : Int))).drew.cell? ⟨a5.block, a5.off + 1, none⟩ = some (.int .i64 (b : Int)) := (hk w4 _ hbl7 _ _).trans n1d
  have hs1 : w4.cell? ⟨tB, 2, none⟩ = some (.int .i64 (-1)) := (blk_cell ht4 2).trans rfl
  have hs2 : w4.frozen? ⟨tB, 2, none⟩ = false := blk_frozen ht4 2
  have hs1d : w4.drew.cell? ⟨tB, 2, none⟩ = some (.int .i64 (-1)) := hs1
  have hs2d : w4.drew.frozen? ⟨tB, 2, none⟩ = false := hs2
  have ht5 : (w4.setCell ⟨tB, 2, none⟩ (.int .i64 (a : Int))).heap[tB]? = some (.cells #[.int .i64 2, .int .i64 (v : Int), .int .i64 (a : Int), .int .i64 (-1)] 95 (0, 0)) := blk_put ht4 2 _ rfl
  have hs3 : (w4.setCell ⟨tB, 2, none⟩ (.int .i64 (a : Int))).cell? ⟨tB, 3, none⟩ = some (.int .i64 (-1)) := (blk_cell ht5 3).trans rfl
  have hs4 : (w4.setCell ⟨tB, 2, none⟩ (.int .i64 (a : Int))).frozen? ⟨tB, 3, none⟩ = false := blk_frozen ht5 3
  have hs3d : (w4.setCell ⟨tB, 2, none⟩ (.int .i64 (a : Int))).drew.cell? ⟨tB, 3, none⟩ = some (.int .i64 (-1)) := hs3
  have hs4d : (w4.setCell ⟨tB, 2, none⟩ (.int .i64 (a : Int))).drew.frozen? ⟨tB, 3, none⟩ = false := hs4
  have HT6 : Aside0 (((w4.setCell ⟨tB, 2, none⟩ (.int .i64 (a : Int))).setCell ⟨tB, 3, none⟩ (.int .i64 (b : Int))).heap[tB]? = some (.cells #[.int .i64 2, .int .i64 (v : Int), .int .i64 (a : Int), .int .i64 (b : Int)] 95 (0, 0))) := ⟨blk_put ht5 3 _ rfl⟩
  have HB6 : Aside0 (((w4.setCell ⟨tB, 2, none⟩ (.int .i64 (a : Int))).setCell ⟨tB, 3, none⟩ (.int .i64 (b : Int))).heap[w.heap.size]? = some (.cells #[.int .i64 0, .int .i64 0, .int .i64 0, .int .i64 0] 95 (0, 0))) := ⟨blk_far (p := ⟨tB, 3, none⟩) (blk_far (p := ⟨tB, 2, none⟩) hb4 hne _) hne _⟩
  have HTB : Aside0 (w.heap.size ≤ tB) := ⟨by rw [htB]; exact HB3.out.size⟩
  clear ht5 ht4 hb4 hk hal hbl5 hbl7 hx5 hx7 hx5' hx7' hb3
  go_wp2
  rw [← hw4, ← htB]
  clear hw4 htB
  refine start_ (n := 10) (S := fun w' => w'.cell? a5 = some (.int .i64 (a : Int)) ∧ w'.cell? ⟨a5.block, a5.off + 1, none⟩ = some (.int .i64 (b : Int))) (ds := [9]) (Qbz 10 0) (by kernel_rfl) rfl rfl ⟨n0d, n1d⟩ (fun hHeld => ?_)
  refine pure_ (i := 0) (N := some 35) (v := ?_) (a' := ?_) (Qbz 10 1) rfl rfl (by kernel_rfl) (fun _ _ _ h => h) (Or.inl ⟨by rfl, ?_⟩) ?_ ?_
  rotate_left
  ·intro w'
   go_simp
   with_reducible rfl
  rotate_left
  ·simp only [Act.put, Qp1, Qp2, Qp3, i64_w, i32_w]
   rfl
  refine pure_ (i := 1) (N := some 36) (v := ?_) (a' := ?_) (Qbz 10 3) rfl rfl (by kernel_rfl) (fun _ _ _ h => h) (Or.inl ⟨by rfl, ?_⟩) ?_ ?_
  rotate_left
  ·intro w'
   go_simp
   with_reducible rfl
  rotate_left
  ·simp only [Act.put, Qp1, Qp2, Qp3, i64_w, i32_w]
   rfl
  refine pure_ (i := 3) (N := some 38) (v := ?_) (a' := ?_) (Qbz 10 11) rfl rfl (by kernel_rfl) (fun _ _ _ h => h) (Or.inl ⟨by rfl, ?_⟩) ?_ ?_
  rotate_left
  ·intro w'
   go_simp
   with_reducible rfl
  rotate_left
  ·simp only [Act.put, Qp1, Qp2, Qp3, i64_w, i32_w]
   rfl
  refine pure_ (i := 4) (N := some 39) (v := ?_) (a' := ?_) (Qbz 10 27) rfl rfl (by kernel_rfl) (fun _ _ _ h => h) (Or.inl ⟨by rfl, ?_⟩) ?_ ?_
  rotate_left
  ·intro w'
   go_simp
   with_reducible rfl
  rotate_left
  ·simp only [Act.put, Qp1, Qp2, Qp3, i64_w, i32_w]
   rfl
  refine take_ (i := 2) (N := some 37) (v := ?_) (a' := ?_) (Qbz 10 31) rfl rfl (by kernel_rfl) (fun _ _ _ h => h) (Or.inl ⟨by rfl, ?_⟩) hHeld ?_ ?_
  rotate_left
  ·rintro w' ⟨s0, s1⟩
   go_simp
   with_reducible rfl
  rotate_left
  ·simp only [Act.put, Qp1, Qp2, Qp3, i64_w, i32_w]
   rfl
  refine pure_ (i := 6) (N := some 41) (v := ?_) (a' := ?_) (Qbz 10 95) rfl rfl (by kernel_rfl) (fun _ _ _ h => h) (Or.inl ⟨by rfl, ?_⟩) ?_ ?_
  rotate_left
  ·intro w'
   go_simp
   with_reducible rfl
  rotate_left
  ·simp only [Act.put, Qp1, Qp2, Qp3, i64_w, i32_w]
   rfl
  refine take_ (i := 5) (N := some 40) (v := ?_) (a' := ?_) (Qbz 10 127) rfl rfl (by kernel_rfl) (fun _ _ _ h => h) (Or.inl ⟨by rfl, ?_⟩) hHeld ?_ ?_
  rotate_left
  ·rintro w' ⟨s0, s1⟩
   go_simp
   with_reducible rfl
  rotate_left
  ·simp only [Act.put, Qp1, Qp2, Qp3, i64_w, i32_w]
   rfl
  refine one_ (i := 7) (N := none) (Qbz 10 255) rfl rfl (by kernel_rfl) (by decide) (fun K hK => ?_)
  refine skip_ (w1 := ?_) (by rfl) rfl ?_ ?_
  rotate_left
  ·go_simp
   rfl
  refine hK.out _ _ ⟨n0e, n1e⟩ (fun hHeld => ?_)
  clear hK K
  refine pure_ (i := 8) (N := some 42) (v := ?_) (a' := ?_) (Qbz 10 511) rfl rfl (by kernel_rfl) (fun _ _ _ h => h) (Or.inl ⟨by rfl, ?_⟩) ?_ ?_
  rotate_left
  ·intro w'
   go_simp
   with_reducible rfl
  rotate_left
  ·simp only [Act.put, Qp1, Qp2, Qp3, i64_w, i32_w]
   rfl
  refine last_ (i := 9) (N := none) (Qbz 10 1023) rfl rfl (by kernel_rfl) (by decide) (fun K hK => ?_)
  refine skip_ (w1 := ?_) (by rfl) rfl ?_ ?_
  rotate_left
  ·go_simp
   rfl
  refine hK.out _ _ ?_
  clear hK K
  refine done_ (by kernel_rfl) ?_
  obtain ⟨w7, hw7⟩ : ∃ w7 : World, w7 = ((w4.setCell ⟨tB, 2, none⟩ (.int .i64 (a : Int))).setCell ⟨tB, 3, none⟩ (.int .i64 (b : Int))).drew := ⟨_, rfl⟩
  rw [← hw7]
  have ht6 : w7.heap[tB]? = some (.cells #[.int .i64 2, .int .i64 (v : Int), .int .i64 (a : Int), .int .i64 (b : Int)] 95 (0, 0)) := by rw [hw7]; exact HT6.out
  have hb6 : w7.heap[w.heap.size]? = some (.cells #[.int .i64 0, .int .i64 0, .int .i64 0, .int .i64 0] 95 (0, 0)) := by rw [hw7]; exact HB6.out
  have HB7 : Aside0 (Below w.heap.size w w7) := ⟨by rw [hw7]; exact (below_set (below_set HB4.out HTB.out) HTB.out).drew⟩
  obtain ⟨r0, r1, r2, r3⟩ := four_reads ht6
  obtain ⟨⟨q1, q2⟩, ⟨q3, q4⟩, ⟨q5, q6⟩, ⟨q7, q8⟩, hb9⟩ := four_facts hb6 (.int .i64 2) (.int .i64 (v : Int)) (.int .i64 (a : Int)) (.int .i64 (b : Int))
  have hne7 : ∀ (W : World) (i j : Nat) (u : Value), (W.setCell ⟨w.heap.size, i, none⟩ u).cell? ⟨tB, j, none⟩ = W.cell? ⟨tB, j, none⟩ := fun W i j u => by
   have := Below.heap_setCell W ⟨w.heap.size, i, none⟩ u tB (fun e => hne e.symm)
   simp only [World.cell?, this]
  clear hw7 n0d n1d n0e n1e hs1 hs2 hs1d hs2d hs3 hs4 hs3d hs4d hne7
  go_wp2
  refine bodyPost_ret (results_ct rfl _ _ w.heap.size 95 #[.int .i64 2, .int .i64 (v : Int), .int .i64 (a : Int), .int .i64 (b : Int)] (0, 0) _ rfl hb9 Tryd.underlying95 rfl (by kernel_rfl)) rfl ?_
  exact ⟨rfl, below_four HB7.out (by omega) _ _ _ _⟩
 ·have hz3 : 3 ≤ z := by rw [← hz]; simp
  have hl3 : ((z : Int) == 1) = false := by rw [beq_eq_false_iff_ne]; omega
  have hl4 : ((z : Int) == 2) = false := by rw [beq_eq_false_iff_ne]; omega
  have hl5 : decide ((z : Int) ≤ 2) = false := decide_eq_false (by omega)
  have hl6 : decide (z ≤ 2) = false := decide_eq_false (by omega)
  have HZ := Aside0.mk hz
  clear hz
  have hb4 := blk_alloc hb3 (.cells #[.int .i64 (z), .int .i64 (v : Int), .int .i64 (-1), .int .i64 (-1)] 95)
  obtain ⟨⟨q1, q2⟩, ⟨q3, q4⟩, ⟨q5, q6⟩, ⟨q7, q8⟩, hb9⟩ := four_facts hb4 (.int .i64 (z)) (.int .i64 (v : Int)) (.int .i64 (-1)) (.int .i64 (-1))
  go_wp2
  refine bodyPost_ret (results_ct rfl _ _ w.heap.size 95 #[.int .i64 (z), .int .i64 (v : Int), .int .i64 (-1), .int .i64 (-1)] (0, 0) _ rfl hb9 Tryd.underlying95 rfl (by kernel_rfl)) rfl ?_
  refine ⟨?_, below_four (below_alloc HB3.out _) (by omega) _ _ _ _⟩
  rw [HZ.out, hl6]
  rfl
end Go.Proofs.YtjloppfdagfpmaaDoor.X
end
section
/- (*minor.reduction).do and (minor.town).reduction, by hand. -/
namespace Go.Proofs.YtjloppfdagfpmaaDoor.X
open Go.RowKit YtjloppfdagfpmaaDoorW.PrintWords YtjloppfdagfpmaaDoorW.PrintLast YtjloppfdagfpmaaDoorW.PrintMore YtjloppfdagfpmaaDoor.T
attribute [local go_sem] max2_int min2_int max_two min_two max_three min_three max_four min_four
structure RS (w0 W : World) (rB gT cT : Nat) (J : List Nat) (left : Nat) : Prop where
 blk : W.heap[rB]? = some (.cells #[.slice (some ⟨gT, 0, none⟩) J.length cT, .int .i64 (left : Int)] 94 (0, 0))
 row : Kd.R (Kd.int .i64) 3 W w0.heap.size (fun k => k = gT) (.slice (some ⟨gT, 0, none⟩) J.length cT) (gi J)
 below : Below w0.heap.size w0 W
 ge : w0.heap.size ≤ rB
 ne : rB ≠ gT
 inn : InN J.length J
theorem RS.low {w0 W V : World} {rB gT cT : Nat} {J : List Nat} {left : Nat} (h : RS w0 W rB gT cT J left) (hb : Below W.heap.size W V) : RS w0 V rB gT cT J left :=
 ⟨blk_below h.blk hb, Kd.R_below h.row hb, below_step h.below hb, h.ge, h.ne, h.inn⟩
theorem RS.kept {w0 W V : World} {rB gT cT : Nat} {J : List Nat} {left : Nat} {S : Nat → Prop} (h : RS w0 W rB gT cT J left) (hk : Kept W V S) (hB : Below w0.heap.size w0 V) (h1 : ¬ S rB) (h2 : ¬ S gT) : RS w0 V rB gT cT J left :=
 ⟨blk_kept h.blk hk h1, Kd.R_kept h.row hk (fun k e => by rw [e]; exact h2), hB, h.ge, h.ne, h.inn⟩
theorem RS.C {w0 W : World} {rB gT cT : Nat} {J : List Nat} {left : Nat} (h : RS w0 W rB gT cT J left) : J.length ≤ cT ∧ Kd.C (Kd.int .i64) W (some ⟨gT, 0, none⟩) J.length (gi J) := by
 obtain ⟨A, c, e, hc, hC⟩ := Kd.R_reads h.row
 rw [gi_length] at e hc hC
 injection e with e1 e2 e3
 subst e1 e3
 exact ⟨hc, hC⟩
theorem RS.set {w0 W : World} {rB gT cT : Nat} {J : List Nat} {left : Nat} (h : RS w0 W rB gT cT J left) (l2 : Nat) : RS w0 (W.setCell ⟨rB, 1, none⟩ (.int .i64 (l2 : Int))) rB gT cT J l2 :=
 ⟨blk_put h.blk 1 _ rfl, Kd.R_far (p := ⟨rB, 1, none⟩) h.row (fun k e => by rw [e]; exact fun h2 => h.ne h2.symm) _, below_set h.below h.ge, h.ge, h.ne, h.inn⟩
set_option maxHeartbeats 8000000 in
set_option maxRecDepth 100000 in
theorem do_calls (w0 W : World) (rB gT cT : Nat) (J : List Nat) (left : Nat) (hS : RS w0 W rB gT cT J left) (hJ9 : J.length ≤ 9) (hl : left < 512) (v : Nat) (hv : v < 9) (kd A B : Int) (J2 : List Nat) (hJ2 : (kd ≠ 2 ∧ J2 = J) ∨ (kd = 2 ∧ ∃ a b : Nat, A = (a : Int) ∧ B = (b : Int) ∧ a < J.length ∧ b < J.length ∧ J2 = joinN J a b)) :
  Calls Tryd.prog 80 #[.pointer (some ⟨rB, 0, none⟩), .agg #[.int .i64 kd, .int .i64 (v : Int), .int .i64 A, .int .i64 B]] W fun e w' => e = .returned (.tuple #[]) ∧ RS w0 w' rB gT cT J2 (diff left (2 ^ v)) ∧ Kept W w' (fun k => k = rB ∨ k = gT) := by
 obtain ⟨N, ⟨hS1, hS2, hS3⟩, hNv⟩ := shJ v (by omega)
 have hp9 : 2 ^ v < 2 ^ 62 := Nat.pow_lt_pow_right (by omega) (by omega)
 have hl2 : Go.bits .andNot .i64 (left : Int) N = ((diff left (2 ^ v) : Nat) : Int) := by rw [hNv]; exact b_andNot _ _ (by omega) hp9
 generalize diff left (2 ^ v) = l2 at *
 have HN := Aside0.mk hNv
 clear hNv hp9
 have hrB := blk_lt hS.blk
 go_enter Tryd.func80, Tryd.ntmps80
 go_wp2_with ((with_reducible refine gate_dst (N := 3) rfl ?_); refine box_event ?hg (N := 3) ?hd (cs := #[.int .i64 kd, .int .i64 (v : Int), .int .i64 A, .int .i64 B]) (t := 95) ?hr ?_; (case hd => rfl); (case hg => rfl); (case hr => first | (go_simp; done) | (go_simp; rfl)); intro sB hsB w1 hs1 hb1; have hr1 := Aside0.mk (hS.low hb1); have f0d : w1.drew.cell? ⟨rB, 1, none⟩ = some (.int .i64 (left : Int)) := (blk_cell hr1.out.blk 1).trans rfl; have f1d : w1.drew.cell? ⟨sB, 1, none⟩ = some (.int .i64 (v : Int)) := (blk_cell hs1 1).trans rfl; have f2d : w1.drew.frozen? ⟨rB, 1, none⟩ = false := blk_frozen hr1.out.blk 1; have HS1 := Aside0.mk hs1; have HB1 := Aside0.mk hb1; have HSB := Aside0.mk hsB; clear hs1 hb1 hsB)
 refine start_ (n := 11) (S := fun w' => w'.cell? ⟨rB, 1, none⟩ = some (.int .i64 (left : Int)) ∧ w'.cell? ⟨sB, 1, none⟩ = some (.int .i64 (v : Int)) ∧ w'.frozen? ⟨rB, 1, none⟩ = false) (ds := [10]) (Qbz 11 0) (by kernel_rfl) rfl rfl ⟨f0d, f1d, f2d⟩ (fun hHeld => ?_)
 refine pure_ (i := 0) (N := some 4) (v := ?_) (a' := ?_) (Qbz 11 1) rfl rfl (by kernel_rfl) (fun _ _ _ h => h) (Or.inl ⟨by rfl, ?_⟩) ?_ ?_
 rotate_left
 ·intro w'
  go_simp
  with_reducible rfl
 rotate_left
 ·simp only [Act.put, Qp1, Qp2, Qp3, i64_w, i32_w]
  rfl
 refine pure_ (i := 1) (N := some 5) (v := ?_) (a' := ?_) (Qbz 11 3) rfl rfl (by kernel_rfl) (fun _ _ _ h => h) (Or.inl ⟨by rfl, ?_⟩) ?_ ?_
 rotate_left
 ·intro w'
  go_simp
  with_reducible rfl
 rotate_left
 ·simp only [Act.put, Qp1, Qp2, Qp3, i64_w, i32_w]
  rfl
 refine pure_ (i := 2) (N := some 6) (v := ?_) (a' := ?_) (Qbz 11 7) rfl rfl (by kernel_rfl) (fun _ _ _ h => h) (Or.inl ⟨by rfl, ?_⟩) ?_ ?_
 rotate_left
 ·intro w'
  go_simp
  with_reducible rfl
 rotate_left
 ·simp only [Act.put, Qp1, Qp2, Qp3, i64_w, i32_w]
  rfl
 refine pure_ (i := 4) (N := some 8) (v := ?_) (a' := ?_) (Qbz 11 23) rfl rfl (by kernel_rfl) (fun _ _ _ h => h) (Or.inl ⟨by rfl, ?_⟩) ?_ ?_
 rotate_left
 ·intro w'
  go_simp
  with_reducible rfl
 rotate_left
 ·simp only [Act.put, Qp1, Qp2, Qp3, i64_w, i32_w]
  rfl
 refine take_ (i := 3) (N := some 7) (v := ?_) (a' := ?_) (Qbz 11 31) rfl rfl (by kernel_rfl) (fun _ _ _ h => h) (Or.inl ⟨by rfl, ?_⟩) hHeld ?_ ?_
 rotate_left
 ·rintro w' ⟨s0, s1, s2⟩
  go_simp
  with_reducible rfl
 rotate_left
 ·simp only [Act.put, Qp1, Qp2, Qp3, i64_w, i32_w]
  rfl
 refine take_ (i := 5) (N := some 9) (v := ?_) (a' := ?_) (Qbz 11 63) rfl rfl (by kernel_rfl) (fun _ _ _ h => h) (Or.inl ⟨by rfl, ?_⟩) hHeld ?_ ?_
 rotate_left
 ·rintro w' ⟨s0, s1, s2⟩
  go_simp
  with_reducible rfl
 rotate_left
 ·simp only [Act.put, Qp1, Qp2, Qp3, i64_w, i32_w]
  rfl
 refine pure_ (i := 6) (N := some 10) (v := ?_) (a' := ?_) (Qbz 11 127) rfl rfl (by kernel_rfl) (fun _ _ _ h => h) (Or.inl ⟨by rfl, ?_⟩) ?_ ?_
 rotate_left
 ·intro w'
  go_simp
  with_reducible rfl
 rotate_left
 ·simp only [Act.put, Qp1, Qp2, Qp3, i64_w, i32_w]
  rfl
 refine pure_ (i := 7) (N := some 11) (v := ?_) (a' := ?_) (Qbz 11 255) rfl rfl (by kernel_rfl) (fun _ _ _ h => h) (Or.inl ⟨by rfl, ?_⟩) ?_ ?_
 rotate_left
 ·intro w'
  go_simp
  with_reducible rfl
 rotate_left
 ·simp only [Act.put, Qp1, Qp2, Qp3, i64_w, i32_w]
  rfl
 refine pure_ (i := 8) (N := some 12) (v := ?_) (a' := ?_) (Qbz 11 511) rfl rfl (by kernel_rfl) (fun _ _ _ h => h) (Or.inl ⟨by rfl, ?_⟩) ?_ ?_
 rotate_left
 ·intro w'
  go_simp
  with_reducible rfl
 rotate_left
 ·simp only [Act.put, Qp1, Qp2, Qp3, i64_w, i32_w]
  rfl
 refine pure_ (i := 9) (N := some 13) (v := ?_) (a' := ?_) (Qbz 11 1023) rfl rfl (by kernel_rfl) (fun _ _ _ h => h) (Or.inl ⟨by rfl, ?_⟩) ?_ ?_
 rotate_left
 ·intro w'
  go_simp
  with_reducible rfl
 rotate_left
 ·simp only [Act.put, Qp1, Qp2, Qp3, i64_w, i32_w]
  rfl
 refine last_ (i := 10) (N := none) (Qbz 11 2047) rfl rfl (by kernel_rfl) (by decide) (fun K hK => ?_)
 refine skip_ (w1 := ?_) (by rfl) rfl ?_ ?_
 rotate_left
 ·go_simp
  rfl
 refine hK.out _ _ ?_
 clear hK K
 refine done_ (by kernel_rfl) ?_
 obtain ⟨w2, hw2⟩ : ∃ w2 : World, w2 = (w1.setCell ⟨rB, 1, none⟩ (.int .i64 (l2 : Int))).drew := ⟨_, rfl⟩
 rw [← hw2]
 have hne : sB ≠ rB := by have := HSB.out; omega
 have hs2 : w2.heap[sB]? = some (.cells #[.int .i64 kd, .int .i64 (v : Int), .int .i64 A, .int .i64 B] 95 (0, 0)) := by rw [hw2]; exact blk_far (p := ⟨rB, 1, none⟩) HS1.out hne _
 have HR2 : Aside0 (RS w0 w2 rB gT cT J l2) := ⟨by
  have h := (hr1.out.set l2).low (pw_below_drewN (Below.refl _ _) 1)
  rw [hw2]
  exact ⟨h.blk, h.row, h.below, h.ge, h.ne, h.inn⟩⟩
 have HK2 : Aside0 (Kept W w2 (fun k => k = rB ∨ k = gT)) := ⟨by
  rw [hw2]
  exact ((Kept.of_below HB1.out _).setCell (p := ⟨rB, 1, none⟩) (.inl (.inl rfl)) _).drew⟩
 have g0 : w2.cell? ⟨sB, 0, none⟩ = some (.int .i64 kd) := (blk_cell hs2 0).trans rfl
 have g2 : w2.drew.cell? ⟨sB, 2, none⟩ = some (.int .i64 A) := (blk_cell hs2 2).trans rfl
 have g3 : w2.drew.cell? ⟨sB, 3, none⟩ = some (.int .i64 B) := (blk_cell hs2 3).trans rfl
 have g4 : w2.drew.cell? ⟨rB, 0, none⟩ = some (.slice (some ⟨gT, 0, none⟩) J.length cT) := (blk_cell HR2.out.blk 0).trans rfl
 clear hw2 hs2 hS hHeld f0d f1d f2d hS1 hS2 hS3
 rcases hJ2 with ⟨hk, rfl⟩ | ⟨hk, a, b, rfl, rfl, ha, hb, rfl⟩
 ·have hk1 : (kd == 2) = false := beq_eq_false_iff_ne.2 hk
  go_wp2
  first | go_end0 | ((try simp only [Exit.inBlock, Exit.then]); refine bodyPost_ret (results_none rfl _ _ _) rfl ?_)
  exact ⟨rfl, HR2.out, HK2.out⟩
 ·subst hk
  have HJ := Aside0.mk (join_eq hJ9 HR2.out.inn ha hb)
  have HIN := Aside0.mk (HR2.out.inn.join ha hb)
  have CJ : Aside0 (Calls Tryd.prog 62 #[.slice (some ⟨gT, 0, none⟩) J.length cT, .int .i64 (a : Int), .int .i64 (b : Int)] w2.drew fun e w' => e = .returned (.tuple #[]) ∧ RS w0 w' rB gT cT (joinN J a b) l2 ∧ Kept w2 w' (fun k => k = gT)) := ⟨by
   have h2 := HR2.out
   refine (minor_town_join.calls (fun k => k = gT) _ (gi J) (a : Int) (b : Int) _ w0 w2.drew h2.below.drew (Kd.R_drew h2.row) HJ.out).mono ?_
   rintro e w' ⟨rfl, hR, hB, hK⟩
   have hgl : gT < w2.heap.size := by
    obtain ⟨inner, ho⟩ := Kd.R_own h2.row
    exact own_lt2 ho gT rfl
   have hK' : Kept w2 w' (fun k => k = gT) := hK
   have hR2 : Kd.R (Kd.int .i64) 3 w' w0.heap.size (fun k => k = gT) (.slice (some ⟨gT, 0, none⟩) (joinN J a b).length cT) (gi (joinN J a b)) := by
    have e : (joinN J a b).length = J.length := HIN.out.1
    rw [e]
    exact ⟨fun k hk => by simp [Value.ownBlock] at hk; exact hk.symm, hR.2⟩
   exact ⟨rfl, ⟨by
    have e : (joinN J a b).length = J.length := HIN.out.1
    rw [e]
    exact blk_kept h2.blk hK' h2.ne, hR2, hB, h2.ge, h2.ne, by
    have e : (joinN J a b).length = J.length := HIN.out.1
    rw [e]
    exact HIN.out⟩, hK'⟩⟩
  go_wp2
  refine start_ (n := 9) (S := fun w' => w'.cell? ⟨sB, 2, none⟩ = some (.int .i64 (a : Int)) ∧ w'.cell? ⟨sB, 3, none⟩ = some (.int .i64 (b : Int)) ∧ w'.cell? ⟨rB, 0, none⟩ = some (.slice (some ⟨gT, 0, none⟩) J.length cT)) (ds := [8]) (Qbz 9 0) (by kernel_rfl) rfl rfl ⟨g2, g3, g4⟩ (fun hHeld => ?_)
  refine pure_ (i := 0) (N := some 17) (v := ?_) (a' := ?_) (Qbz 9 1) rfl rfl (by kernel_rfl) (fun _ _ _ h => h) (Or.inl ⟨by rfl, ?_⟩) ?_ ?_
  rotate_left
  ·intro w'
   go_simp
   with_reducible rfl
  rotate_left
  ·simp only [Act.put, Qp1, Qp2, Qp3, i64_w, i32_w]
   rfl
  refine pure_ (i := 1) (N := some 18) (v := ?_) (a' := ?_) (Qbz 9 3) rfl rfl (by kernel_rfl) (fun _ _ _ h => h) (Or.inl ⟨by rfl, ?_⟩) ?_ ?_
  rotate_left
  ·intro w'
   go_simp
   with_reducible rfl
  rotate_left
  ·simp only [Act.put, Qp1, Qp2, Qp3, i64_w, i32_w]
   rfl
  refine pure_ (i := 2) (N := some 19) (v := ?_) (a' := ?_) (Qbz 9 7) rfl rfl (by kernel_rfl) (fun _ _ _ h => h) (Or.inl ⟨by rfl, ?_⟩) ?_ ?_
  rotate_left
  ·intro w'
   go_simp
   with_reducible rfl
  rotate_left
  ·simp only [Act.put, Qp1, Qp2, Qp3, i64_w, i32_w]
   rfl
  refine pure_ (i := 4) (N := some 21) (v := ?_) (a' := ?_) (Qbz 9 23) rfl rfl (by kernel_rfl) (fun _ _ _ h => h) (Or.inl ⟨by rfl, ?_⟩) ?_ ?_
  rotate_left
  ·intro w'
   go_simp
   with_reducible rfl
  rotate_left
  ·simp only [Act.put, Qp1, Qp2, Qp3, i64_w, i32_w]
   rfl
  refine pure_ (i := 6) (N := some 23) (v := ?_) (a' := ?_) (Qbz 9 87) rfl rfl (by kernel_rfl) (fun _ _ _ h => h) (Or.inl ⟨by rfl, ?_⟩) ?_ ?_
  rotate_left
  ·intro w'
   go_simp
   with_reducible rfl
  rotate_left
  ·simp only [Act.put, Qp1, Qp2, Qp3, i64_w, i32_w]
   rfl
  refine take_ (i := 3) (N := some 20) (v := ?_) (a' := ?_) (Qbz 9 95) rfl rfl (by kernel_rfl) (fun _ _ _ h => h) (Or.inl ⟨by rfl, ?_⟩) hHeld ?_ ?_
  rotate_left
  ·rintro w' ⟨s0, s1, s2⟩
   go_simp
   with_reducible rfl
  rotate_left
  ·simp only [Act.put, Qp1, Qp2, Qp3, i64_w, i32_w]
   rfl
  refine take_ (i := 5) (N := some 22) (v := ?_) (a' := ?_) (Qbz 9 127) rfl rfl (by kernel_rfl) (fun _ _ _ h => h) (Or.inl ⟨by rfl, ?_⟩) hHeld ?_ ?_
  rotate_left
  ·rintro w' ⟨s0, s1, s2⟩
   go_simp
   with_reducible rfl
  rotate_left
  ·simp only [Act.put, Qp1, Qp2, Qp3, i64_w, i32_w]
   rfl
  refine take_ (i := 7) (N := some 24) (v := ?_) (a' := ?_) (Qbz 9 255) rfl rfl (by kernel_rfl) (fun _ _ _ h => h) (Or.inl ⟨by rfl, ?_⟩) hHeld ?_ ?_
  rotate_left
  ·rintro w' ⟨s0, s1, s2⟩
   go_simp
   with_reducible rfl
  rotate_left
  ·simp only [Act.put, Qp1, Qp2, Qp3, i64_w, i32_w]
   rfl
  refine last_ (i := 8) (N := some 25) (Qbz 9 511) rfl rfl (by kernel_rfl) (by decide) (fun K hK => ?_)
  refine goes_ Tryd.func62 (by kernel_rfl) rfl #[.slice (some ⟨gT, 0, none⟩) J.length cT, .int .i64 (a : Int), .int .i64 (b : Int)] (by rfl) rfl rfl (by simp only [List.map_toArray, List.map_cons, List.map_nil]; rfl) ?_
  with_reducible refine (CJ.out).mono ?_
  rintro e w9 ⟨rfl, hR9, hK9⟩
  refine ⟨_, rfl, ?_⟩
  refine hK.out _ _ ?_
  clear hK K
  refine norm_ (a' := ?_) ?_ ?_
  rotate_left
  ·show Act.put _ (some 25) _ = _
   simp only [Act.put, Qp1, Qp2, Qp3, i64_w, i32_w]
   rfl
  refine done_ (by kernel_rfl) ?_
  go_wp2
  first | go_end0 | ((try simp only [Exit.inBlock, Exit.then]); refine bodyPost_ret (results_none rfl _ _ _) rfl ?_)
  exact ⟨rfl, hR9, HK2.out.then_ hK9 (fun k e => .inl (.inr e))⟩
end Go.Proofs.YtjloppfdagfpmaaDoor.X
end
section
/- No triangle as a minor: width 1, fewer edges than nodes in each part; no K(4): width 2. -/
namespace Go.Proofs.YtjloppfdagfpmaaDoor.T
open Go.RowKit YtjloppfdagfpmaaDoorW.PrintWords YtjloppfdagfpmaaDoorW.PrintLast YtjloppfdagfpmaaDoorW.PrintMore
/-! Edges within a set. -/
theorem diff_tb (X v j : Nat) : (diff X (2 ^ v)).testBit j = (X.testBit j && !decide (j = v)) := by
 rw [Bool.eq_iff_iff, Bool.and_eq_true, Bool.not_eq_true', decide_eq_false_iff_not]
 have h := diff_bset X (2 ^ v) j
 rw [two_pow_bit] at h
 exact h
theorem pc_split {X v : Nat} (h : bset X v) : ∀ n, pc X n = pc (diff X (2 ^ v)) n + (if v < n then 1 else 0)
 | 0 => rfl
 | n + 1 => by
  have ih := pc_split h n
  simp only [pc]
  rw [diff_tb, ih]
  by_cases e : n = v
  ·subst e
   have : X.testBit n = true := h
   simp [this]
  ·by_cases h3 : v < n
   ·simp [e, h3, show v < n + 1 by omega]; omega
   ·simp [e, h3, show ¬ v < n + 1 by omega]
theorem diff_pc {X v n : Nat} (hv : bset X v) (hvn : v < n) : pc X n = pc (diff X (2 ^ v)) n + 1 := by rw [pc_split hv n, if_pos hvn]
end Go.Proofs.YtjloppfdagfpmaaDoor.T
end
section
/- (minor.town).reduction and minor.Reduce, by hand. -/
namespace Go.Proofs.YtjloppfdagfpmaaDoor.X
open Go.RowKit YtjloppfdagfpmaaDoorW.PrintWords YtjloppfdagfpmaaDoorW.PrintLast YtjloppfdagfpmaaDoorW.PrintMore YtjloppfdagfpmaaDoor.T
attribute [local go_sem] max2_int min2_int max_two min_two max_three min_three max_four min_four
set_option maxHeartbeats 4000000 in
set_option maxRecDepth 100000 in
theorem reduction_calls (A0 : Option Addr) (c0 : Nat) (G : List Nat) (hG : Gr 8 G) (hc0 : G.length ≤ c0) (w : World) (hr0 : Kd.C (Kd.int .i64) w A0 G.length (gi G)) :
  Calls Tryd.prog 78 #[.slice A0 G.length c0] w fun e w' => ∃ rB gT cT, e = .returned (.pointer (some ⟨rB, 0, none⟩)) ∧ RS w w' rB gT cT G (2 ^ G.length - 1) := by
 have hn := hG.most
 have hp := hG.pos
 have HR0 := Aside0.mk hr0
 have HIN := Aside0.mk (gr_in hG)
 have hcl : minor_town_int.f (gi G) = some (gi G) := by
  unfold minor_town_int.f
  simp only [Option.bind_some, List.nil_append, List.length_nil]
  rw [if_pos (by rw [gi_length]; omega)]
 have CCL : Aside0 (Calls Tryd.prog 77 #[.slice A0 G.length c0] w fun e w' => ∃ gT cT, e = .returned (.slice (some ⟨gT, 0, none⟩) G.length cT) ∧ Kd.R (Kd.int .i64) 3 w' w.heap.size (fun k => k = gT) (.slice (some ⟨gT, 0, none⟩) G.length cT) (gi G) ∧ Below w.heap.size w w') := ⟨by
  have := minor_town_int.calls A0 c0 (gi G) (gi G) w (by rw [gi_length]; exact hr0) (by rw [gi_length]; exact hc0) hcl
  rw [gi_length] at this
  refine this.mono ?_
  rintro e w' ⟨v, rfl, hR, hb⟩
  obtain ⟨inner, ho⟩ := Kd.R_own hR
  rw [gi_length] at ho
  obtain ⟨k, hk⟩ : ∃ k, G.length = k + 1 := ⟨G.length - 1, by omega⟩
  rw [hk] at ho
  obtain ⟨g, c, rfl⟩ := own_succ ho
  rw [← hk] at *
  exact ⟨g, c, rfl, ⟨fun q hq => by simp [Value.ownBlock] at hq; exact hq.symm, hR.2⟩, hb⟩⟩
 have CAL : Aside0 (∀ W, Below w.heap.size w W → Calls Tryd.prog 66 #[.slice A0 G.length c0] W fun e w' => e = .returned (.int .i64 ((2 ^ G.length - 1 : Nat) : Int)) ∧ Drawn0 W w') := ⟨fun W hW => by
  have := minor_town_all.calls A0 c0 (gi G) _ W (by rw [gi_length]; exact Kd.C_below HR0.out hW) (by rw [gi_length]; exact hc0) (all_eq G (by omega))
  rw [gi_length] at this
  exact this⟩
 generalize 2 ^ G.length - 1 = T at *
 clear hr0 hG hcl
 go_enter Tryd.func78, Tryd.ntmps78
 go_wp2_with (first
  | (go_at_call 77; refine CCL.out.mono ?_; rintro e w1 ⟨gT, cT, rfl, hR, hb⟩; have HR := Aside0.mk hR; have HB := Aside0.mk hb; clear hR hb)
  | (go_at_call 66; refine (CAL.out _ HB.out).mono ?_; rintro e w2 ⟨rfl, m, rfl⟩)
  | ((with_reducible refine gate_dst (N := 8) rfl ?_); refine box_event ?hg (N := 8) ?hd (cs := #[.slice (some ⟨gT, 0, none⟩) G.length cT, .int .i64 (T : Int)]) (t := 94) ?hr ?_; (case hd => rfl); (case hg => rfl); (case hr => first | (go_simp; done) | (go_simp; rfl)); intro rB hga w7 hbox hb7; have HGA := Aside0.mk hga; have HBX := Aside0.mk hbox; have HB7 := Aside0.mk hb7; clear hga hbox hb7))
 go_ret
 have hR1 : Kd.R (Kd.int .i64) 3 (w1.drewN m) w.heap.size (fun k => k = gT) (.slice (some ⟨gT, 0, none⟩) G.length cT) (gi G) := Kd.R_drewN HR.out m
 have hgl : gT < w1.heap.size := by
  obtain ⟨inner, ho⟩ := Kd.R_own HR.out
  exact own_lt2 ho gT rfl
 have hge : rB = w1.heap.size := HGA.out
 refine ⟨_, _, _, rfl, HBX.out, Kd.R_below hR1 HB7.out, below_step (pw_below_drewN HB.out m) HB7.out, by rw [hge]; exact HB.out.size, by omega, HIN.out⟩
def nearL (J : List Nat) (left v : Nat) : List Nat := els (J.getD v 0 &&& left) 9
def stepS (J : List Nat) (left v : Nat) : S95 := ⟨((nearL J left v).length : Int), (v : Int), sA (nearL J left v), sB (nearL J left v)⟩
def nextJ (J : List Nat) (left v : Nat) : List Nat := match nearL J left v with
 | [a, b] => joinN J a b
 | _ => J
def pick (J : List Nat) (left : Nat) : Option Nat := (els left 9).find? fun v => decide ((nearL J left v).length ≤ 2)
def redN : Nat → List Nat → Nat → List S95 → List S95 × Int
 | 0, _, _, _ => ([], 4)
 | k + 1, J, left, out => if left = 0 then (out, 0) else match pick J left with
  | none => ([], 4)
  | some v => redN k (nextJ J left v) (diff left (2 ^ v)) (out ++ [stepS J left v])
def minor_Reduce.f (g : List Int) : Option (List S95 × Int) :=
 if g.length < 1000 then some (if chk 8 g = true then redN 10 (g.map Int.toNat) (2 ^ g.length - 1) [] else ([], 2)) else none
def cells4 (x : S95) : List Value := [.int .i64 x.f0, .int .i64 x.f1, .int .i64 x.f2, .int .i64 x.f3]
def enc4 (x : S95) (c : List Value) : Prop := c = cells4 x
theorem RS.typed {w0 W : World} {rB gT cT : Nat} {J : List Nat} {left : Nat} (h : RS w0 W rB gT cT J left) : ∃ cs, W.heap[gT]? = some (.cells cs 3 (0, 0)) := by
 obtain ⟨inner, ho⟩ := Kd.R_own h.row
 exact own_typed ho gT rfl
theorem RS.not_own {w0 W : World} {rB gT cT : Nat} {J : List Nat} {left : Nat} (h : RS w0 W rB gT cT J left) {base size k : Nat} {v : Value} {xs : List Value} (ho : W.ownsRow base 95 size v k xs) (b : Nat) (hb : v.ownBlock = some b) : ¬ (b = rB ∨ b = gT) := by
 rintro (rfl | rfl)
 ·exact own_ne_t ho h.blk (by decide) hb.symm
 ·obtain ⟨cs, hcs⟩ := h.typed
  exact own_ne_t ho hcs (by decide) hb.symm
theorem RS.kept_row {w0 W W2 : World} {rB gT cT : Nat} {J : List Nat} {left : Nat} (h : RS w0 W rB gT cT J left) {base size k : Nat} {v : Value} {xs : List Value} (ho : W.ownsRow base 95 size v k xs) (hk : Kept W W2 (fun k => k = rB ∨ k = gT)) : W2.ownsRow base 95 size v k xs :=
 own_move ho fun b hb => hk.2 b (own_lt2 ho b hb) (h.not_own ho b hb)
theorem RS.kept_blk {w0 W W2 : World} {rB gT cT : Nat} {J : List Nat} {left : Nat} (h : RS w0 W rB gT cT J left) {g : Nat} {cs : Array Value} (hg : W.heap[g]? = some (.cells cs 95 (0, 0))) (hk : Kept W W2 (fun k => k = rB ∨ k = gT)) : W2.heap[g]? = some (.cells cs 95 (0, 0)) := by
 refine blk_kept hg hk ?_
 rintro (rfl | rfl)
 ·have := h.blk
  rw [hg] at this
  injection this with this
  injection this with _ this
  cases this
 ·obtain ⟨c2, hcs⟩ := h.typed
  rw [hg] at hcs
  injection hcs with hcs
  injection hcs with _ hcs
  cases hcs
theorem cells_new4 (W : World) (cs : List Value) (e : TypeId) (j : Nat) (u : Value) (hu : cs[j]? = some u) : (W.alloc (.cells cs.toArray e)).cell? ((⟨W.heap.size, 0, none⟩ : Addr).add j) = some u := by
 rw [Addr.add_lit, Nat.zero_add]
 unfold World.cell?
 rw [show (W.alloc (.cells cs.toArray e)).heap[(⟨W.heap.size, j, none⟩ : Addr).block]? = _ from blk_new W _]
 simpa using hu
theorem near_in {J : List Nat} (h : InN J.length J) (hn : J.length ≤ 9) {left v a : Nat} (hv : v < J.length) (ha : a ∈ nearL J left v) : a < J.length := by
 have := (mem_els.1 ha).2
 rw [Nat.testBit_and, Bool.and_eq_true] at this
 exact bit_lt (h.2 v) this.1
theorem next_case (J : List Nat) (left v : Nat) (hin : ∀ a ∈ nearL J left v, a < J.length) (h2 : (nearL J left v).length ≤ 2) : (((nearL J left v).length : Int) ≠ 2 ∧ nextJ J left v = J) ∨ (((nearL J left v).length : Int) = 2 ∧ ∃ a b : Nat, sA (nearL J left v) = (a : Int) ∧ sB (nearL J left v) = (b : Int) ∧ a < J.length ∧ b < J.length ∧ nextJ J left v = joinN J a b) := by
 unfold nextJ
 match h : nearL J left v, hin, h2 with
 | [], _, _ => exact .inl ⟨by simp, rfl⟩
 | [a], _, _ => exact .inl ⟨by simp, rfl⟩
 | [a, b], hin, _ => exact .inr ⟨by simp, a, b, rfl, rfl, hin a (by simp), hin b (by simp), rfl⟩
 | a :: b :: c :: r, _, h2 => simp at h2
theorem diff_pc9 {left v : Nat} (hv : left.testBit v = true) (hv9 : v < 9) : pc (diff left (2 ^ v)) 9 + 1 = pc left 9 := by
 rw [diff_pc (v := v) (n := 9) hv hv9]
set_option maxHeartbeats 8000000 in
set_option maxRecDepth 100000 in
theorem minor_Reduce.calls (A0 : Option Addr) (c0 : Nat) (l0 : List Int) (r1 : List S95) (r2 : Int) (w : World) (hGL : GL w) (hr0 : Kd.C (Kd.int .i64) w A0 l0.length l0) (hc0 : l0.length ≤ c0) (h : minor_Reduce.f l0 = some (r1, r2)) :
  Calls Tryd.prog 40 #[.slice A0 l0.length c0] w fun e w' => ∃ v, e = .returned (.tuple #[v, .int .i64 r2]) ∧ Kd.R k95 95 w' w.heap.size (fun _ => True) v r1 ∧ Below w.heap.size w w' := by
 unfold minor_Reduce.f at h
 by_cases hlen : l0.length < 1000
 ·rw [if_pos hlen] at h
  have h := Option.some.inj h
  have HC1 : Aside0 (∀ W, Below w.heap.size w W → Calls Tryd.prog 63 #[.slice A0 l0.length c0, .int .i64 8] W fun e w' => ∃ v, e = .returned (.tuple #[v, .bool (chk 8 l0)]) ∧ (chk 8 l0 = true → ∃ A1 c1, v = .slice A1 l0.length c1 ∧ l0.length ≤ c1 ∧ Kd.C (Kd.int .i64) w' A1 l0.length l0) ∧ Below W.heap.size W w') := ⟨fun W hW => read_any 8 (by omega) (by omega) A0 c0 W (Kd.C_below hr0 hW) hc0⟩
  have HGL := Aside0.mk hGL
  cases hg : chk 8 l0
  ·rw [hg] at h HC1
   injection h with h1 h2
   subst h1 h2
   clear hg hr0
   go_enter Tryd.func40, Tryd.ntmps40
   go_wp2_with (go_at_call 63; refine (HC1.out _ (Below.refl _ _)).mono ?_; rintro e w1 ⟨v1, rfl, _, hb1⟩; have HB1 := Aside0.mk hb1; clear hb1)
   go_ret2
   exact ⟨_, rfl, Kd.R_nil _ _ _ _ _, HB1.out⟩
  ·rw [hg] at h HC1
   obtain ⟨G, rfl, hG⟩ := (chk_iff 8 (by omega) _).1 hg
   rw [gi_toNat] at h
   simp only [gi_length] at HC1 hr0 hc0 h ⊢
   have hn := hG.most
   have hn1 := hG.pos
   have HG := Aside0.mk hG
   have h2n := Nat.two_pow_pos G.length
   have hpn : pc (2 ^ G.length - 1) 9 ≤ 9 := pc_le _ 9
   have HR : Aside0 (redN 10 G (2 ^ G.length - 1) [] = (r1, r2)) := ⟨h⟩
   have HTL : Aside0 (2 ^ G.length - 1 < 2 ^ G.length) := ⟨by omega⟩
   obtain ⟨T, hT⟩ : ∃ T, 2 ^ G.length - 1 = T := ⟨_, rfl⟩
   rw [hT] at hpn HR HTL
   have CRD : Aside0 (∀ W A c, Below w.heap.size w W → G.length ≤ c → Kd.C (Kd.int .i64) W A G.length (gi G) → Calls Tryd.prog 78 #[.slice A G.length c] W fun e w' => ∃ rB gT cT, e = .returned (.pointer (some ⟨rB, 0, none⟩)) ∧ RS W w' rB gT cT G T) := ⟨fun W A c hW hc hA => by
    rw [← hT]
    exact reduction_calls A c G HG.out hc W hA⟩
   obtain ⟨i95, hi95, hq0, hq1, hq2⟩ := info_parts info95
   clear hg hr0 hG hGL h h2n hT
   go_enter Tryd.func40, Tryd.ntmps40
   go_wp2_with (first
    | (go_at_call 63; refine (HC1.out _ (Below.refl _ _)).mono ?_; rintro e w1 ⟨v1, rfl, hv1, hb1⟩; obtain ⟨A5, c5, rfl, hc5, hC5⟩ := hv1 trivial; have HB1 := Aside0.mk hb1; have HC5 := Aside0.mk hC5; clear hb1 hv1 hC5)
    | (go_at_call 78; refine (CRD.out _ _ _ HB1.out hc5 HC5.out).mono ?_; rintro e w2 ⟨rB, gT, cT, rfl, hRS⟩; have HRS := Aside0.mk hRS; have hz1 : w2.cell? ⟨rB, 1, none⟩ = some (.int .i64 (T : Int)) := (blk_cell hRS.blk 1).trans rfl; clear hRS))
   go_loopg [7] 10 (fun kq v7 w' => ∃ (J : List Nat) (left : Nat) (out : List S95) (inner : List Value), J.length = G.length ∧ out.length + kq = 10 ∧ pc left 9 < kq ∧ Aside0 (left < 2 ^ G.length) ∧ Aside0 (redN kq J left out = (r1, r2)) ∧ Aside0 (RS w1 w' rB gT cT J left) ∧ Aside0 (w'.ownsRow w1.heap.size 95 4 v7 out.length inner) ∧ Aside0 (Reps enc4 4 out inner))
   case atStart => exact ⟨G, T, [], [], rfl, rfl, by omega, HTL, HR, HRS, ⟨World.ownsRow_nil _ _ _ _⟩, ⟨Reps.none _ _⟩⟩
   case round =>
    clear HR HRS HTL hz1 hpn
    obtain ⟨J, left, out, inner, hJl, hol, hpk, HLL, HA, HS, HO, HRP⟩ := hrel
    cases gk with
    | zero => omega
    | succ gk' =>
    have hl5 := small G (by omega) HLL.out
    have hz1 : wr.cell? ⟨rB, 1, none⟩ = some (.int .i64 (left : Int)) := (blk_cell HS.out.blk 1).trans rfl
    have ha := HA.out
    simp only [redN] at ha
    by_cases h0 : left = 0
    ·have hl0 : ((left : Int) != 0) = false := by rw [h0]; rfl
     rw [if_pos h0] at ha
     injection ha with h1 h2
     subst h1 h2
     clear h0 HA
     go_wp2
     go_ret2
     refine ⟨_, rfl, ?_, ?_⟩
     ·exact ⟨fun _ _ => trivial, inner, own_weaken HO.out HB1.out.size, HRP.out.imp_ (fun p c h => by rw [show c = _ from h]; exact k95_mkM _ _ _ p)⟩
     ·exact below_weaken HB1.out HB1.out.size HS.out.below
    ·have hl0 : ((left : Int) != 0) = true := by simp; omega
     rw [if_neg h0] at ha
     have HAH := Aside0.mk ha
     clear ha HA h0
     obtain ⟨Lf, hLf⟩ : ∃ Lf, els left 9 = Lf := ⟨_, rfl⟩
     have hLl : Lf.length ≤ 9 := by rw [← hLf, els_length]; exact pc_le _ 9
     have HND : Aside0 (∀ W, Below w1.heap.size w1 W → Calls Tryd.prog 69 #[.int .i64 (left : Int)] W fun e w' => ∃ A c, e = .returned (.slice A Lf.length c) ∧ Kd.C (Kd.int .i64) w' A (gi Lf).length (gi Lf) ∧ Below W.heap.size W w') := ⟨fun W hW => by
      obtain ⟨K, hK⟩ := nodes_ev left hl5
      refine (minor_nodes.calls K (left : Int) _ W (GL_below HGL.out (below_step HB1.out hW)) (hK K (Nat.le_refl _))).mono ?_
      rintro e w' ⟨u, rfl, hu, hb⟩
      obtain ⟨A, c, eu, hc, hC⟩ := Kd.R_reads hu
      rw [hLf] at eu hC
      rw [gi_length] at eu
      subst eu
      exact ⟨A, c, rfl, hC, hb⟩⟩
     have HMEM : Aside0 (∀ v ∈ Lf, v < G.length ∧ left.testBit v = true) := ⟨fun v hv => by
      rw [← hLf] at hv
      have h2 := (mem_els.1 hv).2
      exact ⟨bit_lt HLL.out h2, h2⟩⟩
     have HPK : Aside0 (pick J left = (Lf.drop 0).find? fun v => decide ((nearL J left v).length ≤ 2)) := ⟨by unfold pick; rw [hLf, List.drop_zero]⟩
     have HSTEP : Aside0 (∀ W v, RS w1 W rB gT cT J left → v < G.length → Calls Tryd.prog 79 #[.pointer (some ⟨rB, 0, none⟩), .int .i64 (v : Int)] W fun e w' => e = .returned (.tuple #[.agg #[.int .i64 ((nearL J left v).length : Int), .int .i64 (v : Int), .int .i64 (sA (nearL J left v)), .int .i64 (sB (nearL J left v))], .bool (decide ((nearL J left v).length ≤ 2))]) ∧ Below W.heap.size W w') := ⟨fun W v hW hv => by
      have hC := hW.C
      exact step_calls rB (some ⟨gT, 0, none⟩) cT J left v W (GL_below HGL.out (below_step HB1.out hW.below)) ((blk_cell hW.blk 0).trans rfl) ((blk_cell hW.blk 1).trans rfl) hC.2 (by omega) (by omega) (by
       have := hW.inn.2 v
       exact small G (by omega) (by rw [← hJl]; exact this)) hl5 _ rfl⟩
     clear hLf
     go_wp2_with (go_at_call 69; refine (HND.out _ HS.out.below).mono ?_; rintro e w3 ⟨A6, c6, rfl, hC6, hb3⟩; have HC6 := Aside0.mk hC6; have HS3 := Aside0.mk (HS.out.low hb3); have HO3 := Aside0.mk (own_kept HO.out (grown_of_below hb3 none) (fun _ _ e => by cases e)); clear hC6 hb3)
     go_loopg [7, 8, 33] Lf.length (fun kj v7 v8 v33 w' => ∃ i : Nat, v7 = u7 ∧ v8 = .bool false ∧ v33 = .int .i64 (i : Int) ∧ i + kj = Lf.length ∧ Aside0 (pick J left = (Lf.drop i).find? fun v => decide ((nearL J left v).length ≤ 2)) ∧ Aside0 (Below w3.heap.size w3 w'))
     case atStart => exact ⟨0, rfl, rfl, rfl, by omega, HPK, ⟨Below.refl _ _⟩⟩
     case round =>
      clear HPK
      obtain ⟨i, rfl, rfl, rfl, hi, HPI, HBI⟩ := hrel
      by_cases hil : i < Lf.length
      ·have hi1 : ((i : Int) < (Lf.length : Int)) = True := eq_true (by omega)
       have hi2 : decide ((i : Int) < (Lf.length : Int)) = true := decide_eq_true (by omega)
       cases gk with
       | zero => omega
       | succ gi' =>
       obtain ⟨ad, e1, hgx⟩ := Kd.at_int (Kd.C_below HC6.out HBI.out) (i : Int) (by omega) (by rw [gi_length]; omega)
       subst e1
       rw [rd_gi, Int.toNat_natCast] at hgx
       have hpi := HPI.out
       rw [List.drop_eq_getElem_cons hil, List.find?_cons] at hpi
       have hvm := HMEM.out _ (List.getElem_mem hil)
       have hxe : Lf.getD i 0 = Lf[i] := by rw [List.getD_eq_getElem?_getD, List.getElem?_eq_getElem hil]; rfl
       rw [hxe] at hgx
       generalize Lf[i] = v at *
       have HVM := Aside0.mk hvm
       have HSI := Aside0.mk (HS3.out.low HBI.out)
       have HOI := Aside0.mk (own_kept HO3.out (grown_of_below HBI.out none) (fun _ _ e => by cases e))
       have HST := Aside0.mk (HSTEP.out · v · hvm.1)
       clear hxe hvm HPI
       by_cases hcan : (nearL J left v).length ≤ 2
       ·have hcd : decide ((nearL J left v).length ≤ 2) = true := decide_eq_true hcan
        rw [hcd] at hpi HST
        have hin : ∀ a ∈ nearL J left v, a < J.length := fun a ha => near_in HS.out.inn (by omega) (by rw [hJl]; exact HVM.out.1) ha
        have hnc := next_case J left v hin hcan
        have hnl : (nextJ J left v).length = J.length := by
         rcases hnc with ⟨_, e⟩ | ⟨_, a, b, _, _, h3, h4, e⟩
         ·rw [e]
         ·rw [e]; exact (HS.out.inn.join h3 h4).1
        have HDO : Aside0 (∀ W, RS w1 W rB gT cT J left → Calls Tryd.prog 80 #[.pointer (some ⟨rB, 0, none⟩), .agg #[.int .i64 ((nearL J left v).length : Int), .int .i64 (v : Int), .int .i64 (sA (nearL J left v)), .int .i64 (sB (nearL J left v))]] W fun e w' => e = .returned (.tuple #[]) ∧ RS w1 w' rB gT cT (nextJ J left v) (diff left (2 ^ v)) ∧ Kept W w' (fun k => k = rB ∨ k = gT)) := ⟨fun W hW => do_calls w1 W rB gT cT J left hW (by omega) hl5 v (by have := HVM.out.1; omega) _ _ _ _ hnc⟩
        have HA2 : Aside0 (redN gk' (nextJ J left v) (diff left (2 ^ v)) (out ++ [stepS J left v]) = (r1, r2)) := ⟨by
         have ha := HAH.out
         rw [hpi] at ha
         exact ha⟩
        have HPC := Aside0.mk (diff_pc9 HVM.out.2 (by have := HVM.out.1; omega))
        have HNL := Aside0.mk hnl
        have HDL : Aside0 (diff left (2 ^ v) < 2 ^ G.length) := ⟨Nat.lt_of_le_of_lt (diff_le _ _) HLL.out⟩
        obtain ⟨kd, hkd⟩ : ∃ kd : Int, kd = ((nearL J left v).length : Int) := ⟨_, rfl⟩
        obtain ⟨s1, hs1⟩ : ∃ s1 : Int, s1 = sA (nearL J left v) := ⟨_, rfl⟩
        obtain ⟨s2, hs2⟩ : ∃ s2 : Int, s2 = sB (nearL J left v) := ⟨_, rfl⟩
        have HC4 : Aside0 (cells4 (stepS J left v) = [.int .i64 kd, .int .i64 (v : Int), .int .i64 s1, .int .i64 s2]) := ⟨by rw [hkd, hs1, hs2]; rfl⟩
        rw [← hkd, ← hs1, ← hs2] at HST HDO
        clear hpi hcd hcan hin hnc hnl hkd hs1 hs2 HND HSTEP HMEM
        go_wp2_with (first
         | (go_at_call 79; refine (HST.out _ HSI.out).mono ?_; rintro e w4 ⟨rfl, hb4⟩; have HS5 := Aside0.mk ((HSI.out.low hb4).low (below_alloc (Below.refl w4.heap.size w4) (.cells #[.int .i64 kd, .int .i64 (v : Int), .int .i64 s1, .int .i64 s2] 95))); have HO5 := Aside0.mk (own_kept (own_kept HOI.out (grown_of_below hb4 none) (fun _ _ e => by cases e)) (grown_of_below (below_alloc (Below.refl w4.heap.size w4) (.cells #[.int .i64 kd, .int .i64 (v : Int), .int .i64 s1, .int .i64 s2] 95)) none) (fun _ _ e => by cases e)); have HX5 := Aside0.mk (blk_new w4 (.cells #[.int .i64 kd, .int .i64 (v : Int), .int .i64 s1, .int .i64 s2] 95)); have HBK5 := Aside0.mk (blk_lt (HSI.out.low hb4).blk); clear hb4)
         | (go_at_call 80; refine (HDO.out _ HS5.out).mono ?_; rintro e w6 ⟨rfl, hS6, hK6⟩; have hx6 := HS5.out.kept_blk HX5.out hK6; obtain ⟨y0, y1, y2, y3⟩ := four_reads hx6; have HO6 := Aside0.mk (HS5.out.kept_row HO5.out hK6); have HS6 := Aside0.mk hS6; clear hS6 hK6 hx6)
         | (at_builtin; refine wpList_append_own_at _ rfl _ _ 53 rfl w1.heap.size 95 i95 (.agg #[.int .i64 0, .int .i64 0, .int .i64 0, .int .i64 0]) 4 32 Tryd.underlying53 hi95 hq0 hq1 hq2 rfl (by decide) u7 out.length inner rfl (HO6.out.alloc _) ⟨w6.heap.size, 0, none⟩ 1 1 [.int .i64 kd, .int .i64 (v : Int), .int .i64 s1, .int .i64 s2] rfl rfl (by intro j u hu; exact cells_new4 w6 _ _ j u hu) (by simp [Value.oneCell']) (by unfold maxLen; omega) (by omega) (by have := HS6.out.below.size; simp; omega) ?_; intro v8 w8 hown8 hg8 _ _; have HW8 := Aside0.mk hown8; have HG8 := Aside0.mk hg8; clear hown8 hg8))
        go_roundg gk'
        case measure => omega
        case rel =>
         have hal := below_alloc (Below.refl w6.heap.size w6) (.cells #[.int .i64 kd, .int .i64 (v : Int), .int .i64 s1, .int .i64 s2] 95)
         have hB8 : Below w1.heap.size w1 w8 := (below_step HS6.out.below hal).grown HG8.out (by have := HS6.out.below.size; simp; omega) (fun k e => own_base2 HO6.out k e)
         have hK8 : Kept w6 w8 (fun k => u7.ownBlock = some k) := Kept.of_grown HG8.out (Kept.of_below hal _) (fun k e => .inl e)
         refine ⟨nextJ J left v, diff left (2 ^ v), out ++ [stepS J left v], inner ++ cells4 (stepS J left v), by rw [HNL.out]; exact hJl, by simp; omega, by have := HPC.out; omega, HDL, HA2, ⟨HS6.out.kept hK8 hB8 (fun e => HS6.out.not_own HO6.out _ e (.inl rfl)) (fun e => HS6.out.not_own HO6.out _ e (.inr rfl))⟩, ⟨by rw [List.length_append, HC4.out]; exact HW8.out⟩, ⟨HRP.out.snoc rfl rfl⟩⟩
       ·have hcd : decide ((nearL J left v).length ≤ 2) = false := decide_eq_false hcan
        rw [hcd] at hpi HST
        have HP2 : Aside0 (pick J left = (Lf.drop (i + 1)).find? fun v => decide ((nearL J left v).length ≤ 2)) := ⟨hpi⟩
        clear hpi hcd hcan
        go_wp2_with (go_at_call 79; refine (HST.out _ HSI.out).mono ?_; rintro e w4 ⟨rfl, hb4⟩; have HB4 := Aside0.mk (below_step HBI.out hb4); clear hb4)
        go_roundg gi'
        case measure => omega
        case rel => exact ⟨i + 1, rfl, rfl, by go_num, by omega, HP2, ⟨below_step HB4.out (below_alloc (Below.refl _ _) _)⟩⟩
      ·have hi1 : ((i : Int) < (Lf.length : Int)) = False := eq_false (by omega)
       have hi2 : decide ((i : Int) < (Lf.length : Int)) = false := decide_eq_false (by omega)
       have hpi := HPI.out
       rw [List.drop_eq_nil_of_le (by omega)] at hpi
       have ha := HAH.out
       rw [hpi] at ha
       have ha2 : (([] : List S95), (4 : Int)) = (r1, r2) := ha
       injection ha2 with h1 h2
       subst h1 h2
       clear ha hpi HPI
       go_wp2
       go_ret2
       exact ⟨_, rfl, Kd.R_nil _ _ _ _ _, below_step (below_weaken HB1.out HB1.out.size HS3.out.below) HBI.out⟩
 ·rw [if_neg hlen] at h
  cases h
end Go.Proofs.YtjloppfdagfpmaaDoor.X
end
section
/- minor.CheckReduce, by hand. -/
namespace Go.Proofs.YtjloppfdagfpmaaDoor.X
open Go.RowKit YtjloppfdagfpmaaDoorW.PrintWords YtjloppfdagfpmaaDoorW.PrintLast YtjloppfdagfpmaaDoorW.PrintMore YtjloppfdagfpmaaDoor.T
attribute [local go_sem] max2_int min2_int max_two min_two max_three min_three max_four min_four
def eqS (a b : S95) : Bool := (a.f0 == b.f0) && ((a.f1 == b.f1) && ((a.f2 == b.f2) && (a.f3 == b.f3)))
def ckR (n : Nat) : List S95 → List Nat → Nat → Bool
 | [], _, left => decide (left = 0)
 | s :: r, J, left => decide (0 ≤ s.f1) && decide (s.f1 < (n : Int)) && left.testBit s.f1.toNat && decide ((nearL J left s.f1.toNat).length ≤ 2) && eqS (stepS J left s.f1.toNat) s && ckR n r (nextJ J left s.f1.toNat) (diff left (2 ^ s.f1.toNat))
def minor_CheckReduce.f (g : List Int) (l : List S95) : Option (Bool × Int) :=
 if g.length < 1000 ∧ l.length < 1000 then some (if chk 8 g = true then (ckR g.length l (g.map Int.toNat) (2 ^ g.length - 1), 0) else (false, 2)) else none
set_option maxHeartbeats 8000000 in
set_option maxRecDepth 100000 in
theorem minor_CheckReduce.calls (A0 : Option Addr) (c0 : Nat) (l0 : List Int) (A1 : Option Addr) (c1 : Nat) (l1 : List S95) (r1 : Bool) (r2 : Int) (w : World) (hGL : GL w) (hr0 : Kd.C (Kd.int .i64) w A0 l0.length l0) (hc0 : l0.length ≤ c0) (hr1 : Kd.C k95 w A1 l1.length l1) (hc1 : l1.length ≤ c1) (h : minor_CheckReduce.f l0 l1 = some (r1, r2)) :
  Calls Tryd.prog 41 #[.slice A0 l0.length c0, .slice A1 l1.length c1] w fun e w' => e = .returned (.tuple #[.bool r1, .int .i64 r2]) ∧ Below w.heap.size w w' := by
 unfold minor_CheckReduce.f at h
 by_cases hlen : l0.length < 1000 ∧ l1.length < 1000
 ·rw [if_pos hlen] at h
  have h := Option.some.inj h
  have hl1m := hlen.2
  have HC1 : Aside0 (∀ W, Below w.heap.size w W → Calls Tryd.prog 63 #[.slice A0 l0.length c0, .int .i64 8] W fun e w' => ∃ v, e = .returned (.tuple #[v, .bool (chk 8 l0)]) ∧ (chk 8 l0 = true → ∃ A1 c1, v = .slice A1 l0.length c1 ∧ l0.length ≤ c1 ∧ Kd.C (Kd.int .i64) w' A1 l0.length l0) ∧ Below W.heap.size W w') := ⟨fun W hW => read_any 8 (by omega) (by omega) A0 c0 W (Kd.C_below hr0 hW) hc0⟩
  have HGL := Aside0.mk hGL
  have HR1 := Aside0.mk hr1
  clear hlen hr1
  cases hg : chk 8 l0
  ·rw [hg] at h HC1
   injection h with h1 h2
   subst h1 h2
   clear hg hr0
   go_enter Tryd.func41, Tryd.ntmps41
   go_wp2_with (go_at_call 63; refine (HC1.out _ (Below.refl _ _)).mono ?_; rintro e w1 ⟨v1, rfl, _, hb1⟩; have HB1 := Aside0.mk hb1; clear hb1)
   go_ret2
   exact ⟨rfl, HB1.out⟩
  ·rw [hg] at h HC1
   obtain ⟨G, rfl, hG⟩ := (chk_iff 8 (by omega) _).1 hg
   rw [gi_toNat] at h
   simp only [gi_length] at HC1 hr0 hc0 h ⊢
   have hn := hG.most
   have hn1 := hG.pos
   have HG := Aside0.mk hG
   have h2n := Nat.two_pow_pos G.length
   injection h with h1 h2
   subst h2
   have HR : Aside0 (ckR G.length (l1.drop 0) G (2 ^ G.length - 1) = r1) := ⟨h1⟩
   have HTL : Aside0 (2 ^ G.length - 1 < 2 ^ G.length) := ⟨by omega⟩
   obtain ⟨T, hT⟩ : ∃ T, 2 ^ G.length - 1 = T := ⟨_, rfl⟩
   rw [hT] at HR HTL
   have CRD : Aside0 (∀ W A c, Below w.heap.size w W → G.length ≤ c → Kd.C (Kd.int .i64) W A G.length (gi G) → Calls Tryd.prog 78 #[.slice A G.length c] W fun e w' => ∃ rB gT cT, e = .returned (.pointer (some ⟨rB, 0, none⟩)) ∧ RS W w' rB gT cT G T) := ⟨fun W A c hW hc hA => by
    rw [← hT]
    exact reduction_calls A c G HG.out hc W hA⟩
   clear hg hr0 hG hGL h1 h2n hT
   go_enter Tryd.func41, Tryd.ntmps41
   go_wp2_with (first
    | (go_at_call 63; refine (HC1.out _ (Below.refl _ _)).mono ?_; rintro e w1 ⟨v1, rfl, hv1, hb1⟩; obtain ⟨A5, c5, rfl, hc5, hC5⟩ := hv1 trivial; have HB1 := Aside0.mk hb1; have HC5 := Aside0.mk hC5; clear hb1 hv1 hC5)
    | (go_at_call 78; refine (CRD.out _ _ _ HB1.out hc5 HC5.out).mono ?_; rintro e w2 ⟨rB, gT, cT, rfl, hRS⟩; have HRS := Aside0.mk hRS; clear hRS))
   go_loopg [24] l1.length (fun kq v24 w' => ∃ (i : Nat) (J : List Nat) (left : Nat), v24 = .int .i64 (i : Int) ∧ i + kq = l1.length ∧ J.length = G.length ∧ Aside0 (left < 2 ^ G.length) ∧ Aside0 (ckR G.length (l1.drop i) J left = r1) ∧ Aside0 (RS w1 w' rB gT cT J left))
   case atStart => exact ⟨0, G, T, rfl, by omega, rfl, HTL, HR, HRS⟩
   case round =>
    clear HR HRS HTL
    obtain ⟨i, J, left, rfl, hi, hJl, HLL, HA, HS⟩ := hrel
    have hl5 := small G (by omega) HLL.out
    by_cases hil : i < l1.length
    ·have hi1 : ((i : Int) < (l1.length : Int)) = True := eq_true (by omega)
     have hi2 : decide ((i : Int) < (l1.length : Int)) = true := decide_eq_true (by omega)
     cases gk with
     | zero => omega
     | succ gi' =>
     have hbw := below_weaken HB1.out HB1.out.size HS.out.below
     obtain ⟨ad, e1, q0, q1, q2, q3⟩ := at_T95 (Kd.C_below HR1.out hbw) (i : Int) (by omega) (by omega)
     subst e1
     have hra : rd_T95 l1 (i : Int) = l1[i] := by unfold rd_T95; rw [Int.toNat_natCast, List.getD_eq_getElem?_getD, List.getElem?_eq_getElem hil]; rfl
     rw [hra, Int.toNat_natCast] at q0 q1 q2 q3
     have ha := HA.out
     rw [List.drop_eq_getElem_cons hil] at ha
     simp only [ckR] at ha
     generalize l1[i] = s at *
     obtain ⟨x0, x1, x2, x3⟩ := s
     simp only at q0 q1 q2 q3 ha
     have HAH := Aside0.mk ha
     clear ha HA hbw hra
     obtain ⟨w9, hw9⟩ : ∃ w9 : World, w9 = wr.alloc (Obj.cells #[.int .i64 x0, .int .i64 x1, .int .i64 x2, .int .i64 x3] 95) := ⟨_, rfl⟩
     obtain ⟨tS, htS⟩ : ∃ tS, tS = wr.heap.size := ⟨_, rfl⟩
     have HX9 : Aside0 (w9.heap[tS]? = some (.cells #[.int .i64 x0, .int .i64 x1, .int .i64 x2, .int .i64 x3] 95 (0, 0))) := ⟨by rw [hw9, htS]; exact blk_new wr _⟩
     have HS9 : Aside0 (RS w1 w9 rB gT cT J left) := ⟨by rw [hw9]; exact HS.out.low (below_alloc (Below.refl _ _) _)⟩
     have f1d : w9.drew.cell? ⟨tS, 1, none⟩ = some (.int .i64 x1) := (blk_cell HX9.out 1).trans rfl
     have f2d : w9.drew.cell? ⟨rB, 1, none⟩ = some (.int .i64 (left : Int)) := (blk_cell HS9.out.blk 1).trans rfl
     by_cases hx0 : x1 < 0
     ·have hr : false = r1 := by
       have := HAH.out
       rw [decide_eq_false (by omega : ¬ 0 ≤ x1)] at this
       simpa using this
      subst hr
      have hx1 : decide (x1 < 0) = true := decide_eq_true hx0
      go_wp2
      rw [← hw9, ← htS]; clear hw9 htS
      refine start_ (n := 21) (S := fun w' => w'.cell? ⟨tS, 1, none⟩ = some (.int .i64 x1) ∧ w'.cell? ⟨rB, 1, none⟩ = some (.int .i64 (left : Int))) (ds := []) (Qbz 21 0) (by kernel_rfl) rfl rfl ⟨f1d, f2d⟩ (fun hHeld => ?_)
      refine pure_ (i := 0) (N := some 28) (v := ?_) (a' := ?_) (Qbz 21 1) rfl rfl (by kernel_rfl) (fun _ _ _ h => h) (Or.inl ⟨by rfl, ?_⟩) ?_ ?_
      rotate_left
      ·intro w'
       go_simp
       with_reducible rfl
      rotate_left
      ·simp only [Act.put, Qp1, Qp2, Qp3, i64_w, i32_w]
       rfl
      refine take_ (i := 1) (N := some 29) (v := ?_) (a' := ?_) (Qbz 21 3) rfl rfl (by kernel_rfl) (fun _ _ _ h => h) (Or.inl ⟨by rfl, ?_⟩) hHeld ?_ ?_
      rotate_left
      ·rintro w' ⟨s0, s1⟩
       go_simp
       with_reducible rfl
      rotate_left
      ·simp only [Act.put, Qp1, Qp2, Qp3, i64_w, i32_w]
       rfl
      refine pure_ (i := 2) (N := some 30) (v := ?_) (a' := ?_) (Qbz 21 7) rfl rfl (by kernel_rfl) (fun _ _ _ h => h) (Or.inl ⟨by rfl, ?_⟩) ?_ ?_
      rotate_left
      ·intro w'
       go_simp
       with_reducible rfl
      rotate_left
      ·simp only [Act.put, Qp1, Qp2, Qp3, i64_w, i32_w]
       rfl
      refine pure_ (i := 3) (N := some 31) (v := ?_) (a' := ?_) (Qbz 21 15) rfl rfl (by kernel_rfl) (fun _ _ _ h => h) (Or.inl ⟨by rfl, ?_⟩) ?_ ?_
      rotate_left
      ·intro w'
       go_simp
       with_reducible rfl
      rotate_left
      ·simp only [Act.put, Qp1, Qp2, Qp3, i64_w, i32_w]
       rfl
      refine pure_ (i := 4) (N := some 32) (v := undef) (a' := ?_) (Qbz 21 31) rfl rfl (by kernel_rfl) (fun _ _ _ h => h) (Or.inr ⟨by rfl, rfl⟩) ?_ ?_
      rotate_left
      ·simp only [Act.put, Qp1, Qp2, Qp3, i64_w, i32_w]
       rfl
      refine pure_ (i := 5) (N := some 33) (v := undef) (a' := ?_) (Qbz 21 63) rfl rfl (by kernel_rfl) (fun _ _ _ h => h) (Or.inr ⟨by rfl, rfl⟩) ?_ ?_
      rotate_left
      ·simp only [Act.put, Qp1, Qp2, Qp3, i64_w, i32_w]
       rfl
      refine pure_ (i := 6) (N := some 34) (v := undef) (a' := ?_) (Qbz 21 127) rfl rfl (by kernel_rfl) (fun _ _ _ h => h) (Or.inr ⟨by rfl, rfl⟩) ?_ ?_
      rotate_left
      ·simp only [Act.put, Qp1, Qp2, Qp3, i64_w, i32_w]
       rfl
      refine pure_ (i := 7) (N := some 35) (v := undef) (a' := ?_) (Qbz 21 255) rfl rfl (by kernel_rfl) (fun _ _ _ h => h) (Or.inr ⟨by rfl, rfl⟩) ?_ ?_
      rotate_left
      ·simp only [Act.put, Qp1, Qp2, Qp3, i64_w, i32_w]
       rfl
      refine pure_ (i := 8) (N := some 36) (v := undef) (a' := ?_) (Qbz 21 511) rfl rfl (by kernel_rfl) (fun _ _ _ h => h) (Or.inr ⟨by rfl, rfl⟩) ?_ ?_
      rotate_left
      ·simp only [Act.put, Qp1, Qp2, Qp3, i64_w, i32_w]
       rfl
      refine pure_ (i := 9) (N := some 37) (v := ?_) (a' := ?_) (Qbz 21 1023) rfl rfl (by kernel_rfl) (fun _ _ _ h => h) (Or.inl ⟨by rfl, ?_⟩) ?_ ?_
      rotate_left
      ·intro w'
       go_simp
       with_reducible rfl
      rotate_left
      ·simp only [Act.put, Qp1, Qp2, Qp3, i64_w, i32_w]
       rfl
      refine pure_ (i := 10) (N := some 38) (v := ?_) (a' := ?_) (Qbz 21 2047) rfl rfl (by kernel_rfl) (fun _ _ _ h => h) (Or.inl ⟨by rfl, ?_⟩) ?_ ?_
      rotate_left
      ·intro w'
       go_simp
       with_reducible rfl
      rotate_left
      ·simp only [Act.put, Qp1, Qp2, Qp3, i64_w, i32_w]
       rfl
      refine pure_ (i := 11) (N := some 39) (v := undef) (a' := ?_) (Qbz 21 4095) rfl rfl (by kernel_rfl) (fun _ _ _ h => h) (Or.inr ⟨by rfl, rfl⟩) ?_ ?_
      rotate_left
      ·simp only [Act.put, Qp1, Qp2, Qp3, i64_w, i32_w]
       rfl
      refine pure_ (i := 12) (N := some 40) (v := undef) (a' := ?_) (Qbz 21 8191) rfl rfl (by kernel_rfl) (fun _ _ _ h => h) (Or.inr ⟨by rfl, rfl⟩) ?_ ?_
      rotate_left
      ·simp only [Act.put, Qp1, Qp2, Qp3, i64_w, i32_w]
       rfl
      refine pure_ (i := 13) (N := some 41) (v := undef) (a' := ?_) (Qbz 21 16383) rfl rfl (by kernel_rfl) (fun _ _ _ h => h) (Or.inr ⟨by rfl, rfl⟩) ?_ ?_
      rotate_left
      ·simp only [Act.put, Qp1, Qp2, Qp3, i64_w, i32_w]
       rfl
      refine pure_ (i := 14) (N := some 42) (v := undef) (a' := ?_) (Qbz 21 32767) rfl rfl (by kernel_rfl) (fun _ _ _ h => h) (Or.inr ⟨by rfl, rfl⟩) ?_ ?_
      rotate_left
      ·simp only [Act.put, Qp1, Qp2, Qp3, i64_w, i32_w]
       rfl
      refine pure_ (i := 15) (N := some 43) (v := undef) (a' := ?_) (Qbz 21 65535) rfl rfl (by kernel_rfl) (fun _ _ _ h => h) (Or.inr ⟨by rfl, rfl⟩) ?_ ?_
      rotate_left
      ·simp only [Act.put, Qp1, Qp2, Qp3, i64_w, i32_w]
       rfl
      refine pure_ (i := 16) (N := some 44) (v := undef) (a' := ?_) (Qbz 21 131071) rfl rfl (by kernel_rfl) (fun _ _ _ h => h) (Or.inr ⟨by rfl, rfl⟩) ?_ ?_
      rotate_left
      ·simp only [Act.put, Qp1, Qp2, Qp3, i64_w, i32_w]
       rfl
      refine pure_ (i := 17) (N := some 45) (v := undef) (a' := ?_) (Qbz 21 262143) rfl rfl (by kernel_rfl) (fun _ _ _ h => h) (Or.inr ⟨by rfl, rfl⟩) ?_ ?_
      rotate_left
      ·simp only [Act.put, Qp1, Qp2, Qp3, i64_w, i32_w]
       rfl
      refine pure_ (i := 18) (N := some 46) (v := undef) (a' := ?_) (Qbz 21 524287) rfl rfl (by kernel_rfl) (fun _ _ _ h => h) (Or.inr ⟨by rfl, rfl⟩) ?_ ?_
      rotate_left
      ·simp only [Act.put, Qp1, Qp2, Qp3, i64_w, i32_w]
       rfl
      refine pure_ (i := 19) (N := some 47) (v := undef) (a' := ?_) (Qbz 21 1048575) rfl rfl (by kernel_rfl) (fun _ _ _ h => h) (Or.inr ⟨by rfl, rfl⟩) ?_ ?_
      rotate_left
      ·simp only [Act.put, Qp1, Qp2, Qp3, i64_w, i32_w]
       rfl
      refine pure_ (i := 20) (N := some 48) (v := ?_) (a' := ?_) (Qbz 21 2097151) rfl rfl (by kernel_rfl) (fun _ _ _ h => h) (Or.inl ⟨by rfl, ?_⟩) ?_ ?_
      rotate_left
      ·intro w'
       go_simp
       with_reducible rfl
      rotate_left
      ·simp only [Act.put, Qp1, Qp2, Qp3, i64_w, i32_w]
       rfl
      refine done_ (by kernel_rfl) ?_
      go_wp2
      go_ret2
      exact ⟨rfl, below_step (below_weaken HB1.out HB1.out.size HS9.out.below) (below_drew (Below.refl _ _))⟩
     ·have hx1 : decide (x1 < 0) = false := decide_eq_false hx0
      by_cases hxn : x1 ≥ (G.length : Int)
      ·have hr : false = r1 := by
        have := HAH.out
        rw [decide_eq_false (by omega : ¬ x1 < (G.length : Int))] at this
        simpa using this
       subst hr
       have hx2 : decide ((G.length : Int) ≤ x1) = true := decide_eq_true hxn
       go_wp2
       rw [← hw9, ← htS]; clear hw9 htS
       refine start_ (n := 21) (S := fun w' => w'.cell? ⟨tS, 1, none⟩ = some (.int .i64 x1) ∧ w'.cell? ⟨rB, 1, none⟩ = some (.int .i64 (left : Int))) (ds := []) (Qbz 21 0) (by kernel_rfl) rfl rfl ⟨f1d, f2d⟩ (fun hHeld => ?_)
       refine pure_ (i := 0) (N := some 28) (v := ?_) (a' := ?_) (Qbz 21 1) rfl rfl (by kernel_rfl) (fun _ _ _ h => h) (Or.inl ⟨by rfl, ?_⟩) ?_ ?_
       rotate_left
       ·intro w'
        go_simp
        with_reducible rfl
       rotate_left
       ·simp only [Act.put, Qp1, Qp2, Qp3, i64_w, i32_w]
        rfl
       refine take_ (i := 1) (N := some 29) (v := ?_) (a' := ?_) (Qbz 21 3) rfl rfl (by kernel_rfl) (fun _ _ _ h => h) (Or.inl ⟨by rfl, ?_⟩) hHeld ?_ ?_
       rotate_left
       ·rintro w' ⟨s0, s1⟩
        go_simp
        with_reducible rfl
       rotate_left
       ·simp only [Act.put, Qp1, Qp2, Qp3, i64_w, i32_w]
        rfl
       refine pure_ (i := 2) (N := some 30) (v := ?_) (a' := ?_) (Qbz 21 7) rfl rfl (by kernel_rfl) (fun _ _ _ h => h) (Or.inl ⟨by rfl, ?_⟩) ?_ ?_
       rotate_left
       ·intro w'
        go_simp
        with_reducible rfl
       rotate_left
       ·simp only [Act.put, Qp1, Qp2, Qp3, i64_w, i32_w]
        rfl
       refine pure_ (i := 3) (N := some 31) (v := ?_) (a' := ?_) (Qbz 21 15) rfl rfl (by kernel_rfl) (fun _ _ _ h => h) (Or.inl ⟨by rfl, ?_⟩) ?_ ?_
       rotate_left
       ·intro w'
        go_simp
        with_reducible rfl
       rotate_left
       ·simp only [Act.put, Qp1, Qp2, Qp3, i64_w, i32_w]
        rfl
       refine pure_ (i := 4) (N := some 32) (v := ?_) (a' := ?_) (Qbz 21 31) rfl rfl (by kernel_rfl) (fun _ _ _ h => h) (Or.inl ⟨by rfl, ?_⟩) ?_ ?_
       rotate_left
       ·intro w'
        go_simp
        with_reducible rfl
       rotate_left
       ·simp only [Act.put, Qp1, Qp2, Qp3, i64_w, i32_w]
        rfl
       refine pure_ (i := 6) (N := some 34) (v := ?_) (a' := ?_) (Qbz 21 95) rfl rfl (by kernel_rfl) (fun _ _ _ h => h) (Or.inl ⟨by rfl, ?_⟩) ?_ ?_
       rotate_left
       ·intro w'
        go_simp
        with_reducible rfl
       rotate_left
       ·simp only [Act.put, Qp1, Qp2, Qp3, i64_w, i32_w]
        rfl
       refine pure_ (i := 7) (N := some 35) (v := ?_) (a' := ?_) (Qbz 21 223) rfl rfl (by kernel_rfl) (fun _ _ _ h => h) (Or.inl ⟨by rfl, ?_⟩) ?_ ?_
       rotate_left
       ·intro w'
        go_simp
        with_reducible rfl
       rotate_left
       ·simp only [Act.put, Qp1, Qp2, Qp3, i64_w, i32_w]
        rfl
       refine take_ (i := 5) (N := some 33) (v := ?_) (a' := ?_) (Qbz 21 255) rfl rfl (by kernel_rfl) (fun _ _ _ h => h) (Or.inl ⟨by rfl, ?_⟩) hHeld ?_ ?_
       rotate_left
       ·rintro w' ⟨s0, s1⟩
        go_simp
        with_reducible rfl
       rotate_left
       ·simp only [Act.put, Qp1, Qp2, Qp3, i64_w, i32_w]
        rfl
       refine pure_ (i := 8) (N := some 36) (v := ?_) (a' := ?_) (Qbz 21 511) rfl rfl (by kernel_rfl) (fun _ _ _ h => h) (Or.inl ⟨by rfl, ?_⟩) ?_ ?_
       rotate_left
       ·intro w'
        go_simp
        with_reducible rfl
       rotate_left
       ·simp only [Act.put, Qp1, Qp2, Qp3, i64_w, i32_w]
        rfl
       refine pure_ (i := 9) (N := some 37) (v := ?_) (a' := ?_) (Qbz 21 1023) rfl rfl (by kernel_rfl) (fun _ _ _ h => h) (Or.inl ⟨by rfl, ?_⟩) ?_ ?_
       rotate_left
       ·intro w'
        go_simp
        with_reducible rfl
       rotate_left
       ·simp only [Act.put, Qp1, Qp2, Qp3, i64_w, i32_w]
        rfl
       refine pure_ (i := 10) (N := some 38) (v := ?_) (a' := ?_) (Qbz 21 2047) rfl rfl (by kernel_rfl) (fun _ _ _ h => h) (Or.inl ⟨by rfl, ?_⟩) ?_ ?_
       rotate_left
       ·intro w'
        go_simp
        with_reducible rfl
       rotate_left
       ·simp only [Act.put, Qp1, Qp2, Qp3, i64_w, i32_w]
        rfl
       refine pure_ (i := 11) (N := some 39) (v := undef) (a' := ?_) (Qbz 21 4095) rfl rfl (by kernel_rfl) (fun _ _ _ h => h) (Or.inr ⟨by rfl, rfl⟩) ?_ ?_
       rotate_left
       ·simp only [Act.put, Qp1, Qp2, Qp3, i64_w, i32_w]
        rfl
       refine pure_ (i := 12) (N := some 40) (v := undef) (a' := ?_) (Qbz 21 8191) rfl rfl (by kernel_rfl) (fun _ _ _ h => h) (Or.inr ⟨by rfl, rfl⟩) ?_ ?_
       rotate_left
       ·simp only [Act.put, Qp1, Qp2, Qp3, i64_w, i32_w]
        rfl
       refine pure_ (i := 13) (N := some 41) (v := undef) (a' := ?_) (Qbz 21 16383) rfl rfl (by kernel_rfl) (fun _ _ _ h => h) (Or.inr ⟨by rfl, rfl⟩) ?_ ?_
       rotate_left
       ·simp only [Act.put, Qp1, Qp2, Qp3, i64_w, i32_w]
        rfl
       refine pure_ (i := 14) (N := some 42) (v := undef) (a' := ?_) (Qbz 21 32767) rfl rfl (by kernel_rfl) (fun _ _ _ h => h) (Or.inr ⟨by rfl, rfl⟩) ?_ ?_
       rotate_left
       ·simp only [Act.put, Qp1, Qp2, Qp3, i64_w, i32_w]
        rfl
       refine pure_ (i := 15) (N := some 43) (v := undef) (a' := ?_) (Qbz 21 65535) rfl rfl (by kernel_rfl) (fun _ _ _ h => h) (Or.inr ⟨by rfl, rfl⟩) ?_ ?_
       rotate_left
       ·simp only [Act.put, Qp1, Qp2, Qp3, i64_w, i32_w]
        rfl
       refine pure_ (i := 16) (N := some 44) (v := undef) (a' := ?_) (Qbz 21 131071) rfl rfl (by kernel_rfl) (fun _ _ _ h => h) (Or.inr ⟨by rfl, rfl⟩) ?_ ?_
       rotate_left
       ·simp only [Act.put, Qp1, Qp2, Qp3, i64_w, i32_w]
        rfl
       refine pure_ (i := 17) (N := some 45) (v := undef) (a' := ?_) (Qbz 21 262143) rfl rfl (by kernel_rfl) (fun _ _ _ h => h) (Or.inr ⟨by rfl, rfl⟩) ?_ ?_
       rotate_left
       ·simp only [Act.put, Qp1, Qp2, Qp3, i64_w, i32_w]
        rfl
       refine pure_ (i := 18) (N := some 46) (v := undef) (a' := ?_) (Qbz 21 524287) rfl rfl (by kernel_rfl) (fun _ _ _ h => h) (Or.inr ⟨by rfl, rfl⟩) ?_ ?_
       rotate_left
       ·simp only [Act.put, Qp1, Qp2, Qp3, i64_w, i32_w]
        rfl
       refine pure_ (i := 19) (N := some 47) (v := undef) (a' := ?_) (Qbz 21 1048575) rfl rfl (by kernel_rfl) (fun _ _ _ h => h) (Or.inr ⟨by rfl, rfl⟩) ?_ ?_
       rotate_left
       ·simp only [Act.put, Qp1, Qp2, Qp3, i64_w, i32_w]
        rfl
       refine pure_ (i := 20) (N := some 48) (v := ?_) (a' := ?_) (Qbz 21 2097151) rfl rfl (by kernel_rfl) (fun _ _ _ h => h) (Or.inl ⟨by rfl, ?_⟩) ?_ ?_
       rotate_left
       ·intro w'
        go_simp
        with_reducible rfl
       rotate_left
       ·simp only [Act.put, Qp1, Qp2, Qp3, i64_w, i32_w]
        rfl
       refine done_ (by kernel_rfl) ?_
       go_wp2
       go_ret2
       exact ⟨rfl, below_step (below_weaken HB1.out HB1.out.size HS9.out.below) (below_drew (Below.refl _ _))⟩
      ·obtain ⟨xn, rfl⟩ := Int.eq_ofNat_of_zero_le (show 0 ≤ x1 by omega)
       have hx2 : decide ((G.length : Int) ≤ (xn : Int)) = false := decide_eq_false (by omega)
       have hx3 : decide (G.length ≤ xn) = false := decide_eq_false (by omega)
       have hah := HAH.out
       rw [decide_eq_true (by omega : (0 : Int) ≤ (xn : Int)), decide_eq_true (by omega : (xn : Int) < (G.length : Int)), Bool.true_and, Bool.true_and, Int.toNat_natCast] at hah
       have HAH := Aside0.mk hah
       clear hah
       obtain ⟨Jb, b1, b2, b3, b4, b5⟩ := bitJ left xn (by omega) (by omega)
       cases hbit : left.testBit xn
       ·rw [hbit] at b5
        have hr : false = r1 := by
         have := HAH.out
         rw [hbit] at this
         simpa using this
        subst hr
        clear hbit
        go_wp2
        rw [← hw9, ← htS]; clear hw9 htS
        refine start_ (n := 21) (S := fun w' => w'.cell? ⟨tS, 1, none⟩ = some (.int .i64 (xn : Int)) ∧ w'.cell? ⟨rB, 1, none⟩ = some (.int .i64 (left : Int))) (ds := []) (Qbz 21 0) (by kernel_rfl) rfl rfl ⟨f1d, f2d⟩ (fun hHeld => ?_)
        refine pure_ (i := 0) (N := some 28) (v := ?_) (a' := ?_) (Qbz 21 1) rfl rfl (by kernel_rfl) (fun _ _ _ h => h) (Or.inl ⟨by rfl, ?_⟩) ?_ ?_
        rotate_left
        ·intro w'
         go_simp
         with_reducible rfl
        rotate_left
        ·simp only [Act.put, Qp1, Qp2, Qp3, i64_w, i32_w]
         rfl
        refine take_ (i := 1) (N := some 29) (v := ?_) (a' := ?_) (Qbz 21 3) rfl rfl (by kernel_rfl) (fun _ _ _ h => h) (Or.inl ⟨by rfl, ?_⟩) hHeld ?_ ?_
        rotate_left
        ·rintro w' ⟨s0, s1⟩
         go_simp
         with_reducible rfl
        rotate_left
        ·simp only [Act.put, Qp1, Qp2, Qp3, i64_w, i32_w]
         rfl
        refine pure_ (i := 2) (N := some 30) (v := ?_) (a' := ?_) (Qbz 21 7) rfl rfl (by kernel_rfl) (fun _ _ _ h => h) (Or.inl ⟨by rfl, ?_⟩) ?_ ?_
        rotate_left
        ·intro w'
         go_simp
         with_reducible rfl
        rotate_left
        ·simp only [Act.put, Qp1, Qp2, Qp3, i64_w, i32_w]
         rfl
        refine pure_ (i := 3) (N := some 31) (v := ?_) (a' := ?_) (Qbz 21 15) rfl rfl (by kernel_rfl) (fun _ _ _ h => h) (Or.inl ⟨by rfl, ?_⟩) ?_ ?_
        rotate_left
        ·intro w'
         go_simp
         with_reducible rfl
        rotate_left
        ·simp only [Act.put, Qp1, Qp2, Qp3, i64_w, i32_w]
         rfl
        refine pure_ (i := 4) (N := some 32) (v := ?_) (a' := ?_) (Qbz 21 31) rfl rfl (by kernel_rfl) (fun _ _ _ h => h) (Or.inl ⟨by rfl, ?_⟩) ?_ ?_
        rotate_left
        ·intro w'
         go_simp
         with_reducible rfl
        rotate_left
        ·simp only [Act.put, Qp1, Qp2, Qp3, i64_w, i32_w]
         rfl
        refine pure_ (i := 6) (N := some 34) (v := ?_) (a' := ?_) (Qbz 21 95) rfl rfl (by kernel_rfl) (fun _ _ _ h => h) (Or.inl ⟨by rfl, ?_⟩) ?_ ?_
        rotate_left
        ·intro w'
         go_simp
         with_reducible rfl
        rotate_left
        ·simp only [Act.put, Qp1, Qp2, Qp3, i64_w, i32_w]
         rfl
        refine pure_ (i := 7) (N := some 35) (v := ?_) (a' := ?_) (Qbz 21 223) rfl rfl (by kernel_rfl) (fun _ _ _ h => h) (Or.inl ⟨by rfl, ?_⟩) ?_ ?_
        rotate_left
        ·intro w'
         go_simp
         with_reducible rfl
        rotate_left
        ·simp only [Act.put, Qp1, Qp2, Qp3, i64_w, i32_w]
         rfl
        refine take_ (i := 5) (N := some 33) (v := ?_) (a' := ?_) (Qbz 21 255) rfl rfl (by kernel_rfl) (fun _ _ _ h => h) (Or.inl ⟨by rfl, ?_⟩) hHeld ?_ ?_
        rotate_left
        ·rintro w' ⟨s0, s1⟩
         go_simp
         with_reducible rfl
        rotate_left
        ·simp only [Act.put, Qp1, Qp2, Qp3, i64_w, i32_w]
         rfl
        refine pure_ (i := 8) (N := some 36) (v := ?_) (a' := ?_) (Qbz 21 511) rfl rfl (by kernel_rfl) (fun _ _ _ h => h) (Or.inl ⟨by rfl, ?_⟩) ?_ ?_
        rotate_left
        ·intro w'
         go_simp
         with_reducible rfl
        rotate_left
        ·simp only [Act.put, Qp1, Qp2, Qp3, i64_w, i32_w]
         rfl
        refine pure_ (i := 9) (N := some 37) (v := ?_) (a' := ?_) (Qbz 21 1023) rfl rfl (by kernel_rfl) (fun _ _ _ h => h) (Or.inl ⟨by rfl, ?_⟩) ?_ ?_
        rotate_left
        ·intro w'
         go_simp
         with_reducible rfl
        rotate_left
        ·simp only [Act.put, Qp1, Qp2, Qp3, i64_w, i32_w]
         rfl
        refine pure_ (i := 10) (N := some 38) (v := ?_) (a' := ?_) (Qbz 21 2047) rfl rfl (by kernel_rfl) (fun _ _ _ h => h) (Or.inl ⟨by rfl, ?_⟩) ?_ ?_
        rotate_left
        ·intro w'
         go_simp
         with_reducible rfl
        rotate_left
        ·simp only [Act.put, Qp1, Qp2, Qp3, i64_w, i32_w]
         rfl
        refine pure_ (i := 11) (N := some 39) (v := ?_) (a' := ?_) (Qbz 21 4095) rfl rfl (by kernel_rfl) (fun _ _ _ h => h) (Or.inl ⟨by rfl, ?_⟩) ?_ ?_
        rotate_left
        ·intro w'
         go_simp
         with_reducible rfl
        rotate_left
        ·simp only [Act.put, Qp1, Qp2, Qp3, i64_w, i32_w]
         rfl
        refine pure_ (i := 12) (N := some 40) (v := ?_) (a' := ?_) (Qbz 21 8191) rfl rfl (by kernel_rfl) (fun _ _ _ h => h) (Or.inl ⟨by rfl, ?_⟩) ?_ ?_
        rotate_left
        ·intro w'
         go_simp
         with_reducible rfl
        rotate_left
        ·simp only [Act.put, Qp1, Qp2, Qp3, i64_w, i32_w]
         rfl
        refine pure_ (i := 13) (N := some 41) (v := ?_) (a' := ?_) (Qbz 21 16383) rfl rfl (by kernel_rfl) (fun _ _ _ h => h) (Or.inl ⟨by rfl, ?_⟩) ?_ ?_
        rotate_left
        ·intro w'
         go_simp
         with_reducible rfl
        rotate_left
        ·simp only [Act.put, Qp1, Qp2, Qp3, i64_w, i32_w]
         rfl
        refine pure_ (i := 15) (N := some 43) (v := ?_) (a' := ?_) (Qbz 21 49151) rfl rfl (by kernel_rfl) (fun _ _ _ h => h) (Or.inl ⟨by rfl, ?_⟩) ?_ ?_
        rotate_left
        ·intro w'
         go_simp
         with_reducible rfl
        rotate_left
        ·simp only [Act.put, Qp1, Qp2, Qp3, i64_w, i32_w]
         rfl
        refine take_ (i := 14) (N := some 42) (v := ?_) (a' := ?_) (Qbz 21 65535) rfl rfl (by kernel_rfl) (fun _ _ _ h => h) (Or.inl ⟨by rfl, ?_⟩) hHeld ?_ ?_
        rotate_left
        ·rintro w' ⟨s0, s1⟩
         go_simp
         with_reducible rfl
        rotate_left
        ·simp only [Act.put, Qp1, Qp2, Qp3, i64_w, i32_w]
         rfl
        refine take_ (i := 16) (N := some 44) (v := ?_) (a' := ?_) (Qbz 21 131071) rfl rfl (by kernel_rfl) (fun _ _ _ h => h) (Or.inl ⟨by rfl, ?_⟩) hHeld ?_ ?_
        rotate_left
        ·rintro w' ⟨s0, s1⟩
         go_simp
         with_reducible rfl
        rotate_left
        ·simp only [Act.put, Qp1, Qp2, Qp3, i64_w, i32_w]
         rfl
        refine pure_ (i := 17) (N := some 45) (v := ?_) (a' := ?_) (Qbz 21 262143) rfl rfl (by kernel_rfl) (fun _ _ _ h => h) (Or.inl ⟨by rfl, ?_⟩) ?_ ?_
        rotate_left
        ·intro w'
         go_simp
         with_reducible rfl
        rotate_left
        ·simp only [Act.put, Qp1, Qp2, Qp3, i64_w, i32_w]
         rfl
        refine pure_ (i := 18) (N := some 46) (v := ?_) (a' := ?_) (Qbz 21 524287) rfl rfl (by kernel_rfl) (fun _ _ _ h => h) (Or.inl ⟨by rfl, ?_⟩) ?_ ?_
        rotate_left
        ·intro w'
         go_simp
         with_reducible rfl
        rotate_left
        ·simp only [Act.put, Qp1, Qp2, Qp3, i64_w, i32_w]
         rfl
        refine pure_ (i := 19) (N := some 47) (v := ?_) (a' := ?_) (Qbz 21 1048575) rfl rfl (by kernel_rfl) (fun _ _ _ h => h) (Or.inl ⟨by rfl, ?_⟩) ?_ ?_
        rotate_left
        ·intro w'
         go_simp
         with_reducible rfl
        rotate_left
        ·simp only [Act.put, Qp1, Qp2, Qp3, i64_w, i32_w]
         rfl
        refine pure_ (i := 20) (N := some 48) (v := ?_) (a' := ?_) (Qbz 21 2097151) rfl rfl (by kernel_rfl) (fun _ _ _ h => h) (Or.inl ⟨by rfl, ?_⟩) ?_ ?_
        rotate_left
        ·intro w'
         go_simp
         with_reducible rfl
        rotate_left
        ·simp only [Act.put, Qp1, Qp2, Qp3, i64_w, i32_w]
         rfl
        refine done_ (by kernel_rfl) ?_
        go_wp2
        go_ret2
        exact ⟨rfl, below_step (below_weaken HB1.out HB1.out.size HS9.out.below) (below_drew (Below.refl _ _))⟩
       ·rw [hbit] at b5
        have HST : Aside0 (∀ W, RS w1 W rB gT cT J left → Calls Tryd.prog 79 #[.pointer (some ⟨rB, 0, none⟩), .int .i64 (xn : Int)] W fun e w' => e = .returned (.tuple #[.agg #[.int .i64 ((nearL J left xn).length : Int), .int .i64 (xn : Int), .int .i64 (sA (nearL J left xn)), .int .i64 (sB (nearL J left xn))], .bool (decide ((nearL J left xn).length ≤ 2))]) ∧ Below W.heap.size W w') := ⟨fun W hW => by
         have hC := hW.C
         exact step_calls rB (some ⟨gT, 0, none⟩) cT J left xn W (GL_below HGL.out (below_step HB1.out hW.below)) ((blk_cell hW.blk 0).trans rfl) ((blk_cell hW.blk 1).trans rfl) hC.2 (by omega) (by omega) (by
          have := hW.inn.2 xn
          exact small G (by omega) (by rw [← hJl]; exact this)) hl5 _ rfl⟩
        have HSD : Aside0 (RS w1 w9.drew rB gT cT J left) := ⟨HS9.out.low (below_drew (Below.refl _ _))⟩
        have hah := HAH.out
        rw [hbit, Bool.true_and] at hah
        have HAH := Aside0.mk hah
        have HBT := Aside0.mk hbit
        clear hah hbit
        obtain ⟨kd, hkd⟩ : ∃ kd : Int, kd = ((nearL J left xn).length : Int) := ⟨_, rfl⟩
        obtain ⟨s1, hs1⟩ : ∃ s1 : Int, s1 = sA (nearL J left xn) := ⟨_, rfl⟩
        obtain ⟨s2, hs2⟩ : ∃ s2 : Int, s2 = sB (nearL J left xn) := ⟨_, rfl⟩
        rw [← hkd, ← hs1, ← hs2] at HST
        have HSS : Aside0 (stepS J left xn = ⟨kd, (xn : Int), s1, s2⟩) := ⟨by rw [hkd, hs1, hs2]; rfl⟩
        have HX9d : Aside0 (w9.drew.heap[tS]? = some (.cells #[.int .i64 x0, .int .i64 (xn : Int), .int .i64 x2, .int .i64 x3] 95 (0, 0))) := ⟨HX9.out⟩
        by_cases hcan : (nearL J left xn).length ≤ 2
        ·have hcd : decide ((nearL J left xn).length ≤ 2) = true := decide_eq_true hcan
         rw [hcd] at HST
         have HCD := Aside0.mk hcd
         have HKD := Aside0.mk hkd
         have HS1 := Aside0.mk hs1
         have HS2 := Aside0.mk hs2
         clear hcd hkd hs1 hs2
         by_cases c0 : kd = x0
         ·subst c0
          by_cases c2 : s1 = x2
          ·subst c2
           by_cases c3 : s2 = x3
           ·subst c3
            have hin : ∀ a ∈ nearL J left xn, a < J.length := fun a ha => near_in HS.out.inn (by omega) (by omega) ha
            have hnc := next_case J left xn hin hcan
            have hnl : (nextJ J left xn).length = J.length := by
             rcases hnc with ⟨_, e⟩ | ⟨_, a, b, _, _, h3, h4, e⟩
             ·rw [e]
             ·rw [e]; exact (HS.out.inn.join h3 h4).1
            rw [← HKD.out, ← HS1.out, ← HS2.out] at hnc
            have HDO : Aside0 (∀ W, RS w1 W rB gT cT J left → Calls Tryd.prog 80 #[.pointer (some ⟨rB, 0, none⟩), .agg #[.int .i64 kd, .int .i64 (xn : Int), .int .i64 s1, .int .i64 s2]] W fun e w' => e = .returned (.tuple #[]) ∧ RS w1 w' rB gT cT (nextJ J left xn) (diff left (2 ^ xn)) ∧ Kept W w' (fun k => k = rB ∨ k = gT)) := ⟨fun W hW => do_calls w1 W rB gT cT J left hW (by omega) hl5 xn (by omega) _ _ _ _ hnc⟩
            have HNX : Aside0 (ckR G.length (l1.drop (i + 1)) (nextJ J left xn) (diff left (2 ^ xn)) = r1) := ⟨by
             have := HAH.out
             rw [HCD.out, HSS.out] at this
             simpa [eqS] using this⟩
            have HNL := Aside0.mk hnl
            have HDL : Aside0 (diff left (2 ^ xn) < 2 ^ G.length) := ⟨Nat.lt_of_le_of_lt (diff_le _ _) HLL.out⟩
            clear hin hnc hnl
            go_wp2
            rw [← hw9, ← htS]; clear hw9 htS
            refine start_ (n := 21) (S := fun w' => w'.cell? ⟨tS, 1, none⟩ = some (.int .i64 (xn : Int)) ∧ w'.cell? ⟨rB, 1, none⟩ = some (.int .i64 (left : Int))) (ds := []) (Qbz 21 0) (by kernel_rfl) rfl rfl ⟨f1d, f2d⟩ (fun hHeld => ?_)
            refine pure_ (i := 0) (N := some 28) (v := ?_) (a' := ?_) (Qbz 21 1) rfl rfl (by kernel_rfl) (fun _ _ _ h => h) (Or.inl ⟨by rfl, ?_⟩) ?_ ?_
            rotate_left
            ·intro w'
             go_simp
             with_reducible rfl
            rotate_left
            ·simp only [Act.put, Qp1, Qp2, Qp3, i64_w, i32_w]
             rfl
            refine take_ (i := 1) (N := some 29) (v := ?_) (a' := ?_) (Qbz 21 3) rfl rfl (by kernel_rfl) (fun _ _ _ h => h) (Or.inl ⟨by rfl, ?_⟩) hHeld ?_ ?_
            rotate_left
            ·rintro w' ⟨s0, s1⟩
             go_simp
             with_reducible rfl
            rotate_left
            ·simp only [Act.put, Qp1, Qp2, Qp3, i64_w, i32_w]
             rfl
            refine pure_ (i := 2) (N := some 30) (v := ?_) (a' := ?_) (Qbz 21 7) rfl rfl (by kernel_rfl) (fun _ _ _ h => h) (Or.inl ⟨by rfl, ?_⟩) ?_ ?_
            rotate_left
            ·intro w'
             go_simp
             with_reducible rfl
            rotate_left
            ·simp only [Act.put, Qp1, Qp2, Qp3, i64_w, i32_w]
             rfl
            refine pure_ (i := 3) (N := some 31) (v := ?_) (a' := ?_) (Qbz 21 15) rfl rfl (by kernel_rfl) (fun _ _ _ h => h) (Or.inl ⟨by rfl, ?_⟩) ?_ ?_
            rotate_left
            ·intro w'
             go_simp
             with_reducible rfl
            rotate_left
            ·simp only [Act.put, Qp1, Qp2, Qp3, i64_w, i32_w]
             rfl
            refine pure_ (i := 4) (N := some 32) (v := ?_) (a' := ?_) (Qbz 21 31) rfl rfl (by kernel_rfl) (fun _ _ _ h => h) (Or.inl ⟨by rfl, ?_⟩) ?_ ?_
            rotate_left
            ·intro w'
             go_simp
             with_reducible rfl
            rotate_left
            ·simp only [Act.put, Qp1, Qp2, Qp3, i64_w, i32_w]
             rfl
            refine pure_ (i := 6) (N := some 34) (v := ?_) (a' := ?_) (Qbz 21 95) rfl rfl (by kernel_rfl) (fun _ _ _ h => h) (Or.inl ⟨by rfl, ?_⟩) ?_ ?_
            rotate_left
            ·intro w'
             go_simp
             with_reducible rfl
            rotate_left
            ·simp only [Act.put, Qp1, Qp2, Qp3, i64_w, i32_w]
             rfl
            refine pure_ (i := 7) (N := some 35) (v := ?_) (a' := ?_) (Qbz 21 223) rfl rfl (by kernel_rfl) (fun _ _ _ h => h) (Or.inl ⟨by rfl, ?_⟩) ?_ ?_
            rotate_left
            ·intro w'
             go_simp
             with_reducible rfl
            rotate_left
            ·simp only [Act.put, Qp1, Qp2, Qp3, i64_w, i32_w]
             rfl
            refine take_ (i := 5) (N := some 33) (v := ?_) (a' := ?_) (Qbz 21 255) rfl rfl (by kernel_rfl) (fun _ _ _ h => h) (Or.inl ⟨by rfl, ?_⟩) hHeld ?_ ?_
            rotate_left
            ·rintro w' ⟨s0, s1⟩
             go_simp
             with_reducible rfl
            rotate_left
            ·simp only [Act.put, Qp1, Qp2, Qp3, i64_w, i32_w]
             rfl
            refine pure_ (i := 8) (N := some 36) (v := ?_) (a' := ?_) (Qbz 21 511) rfl rfl (by kernel_rfl) (fun _ _ _ h => h) (Or.inl ⟨by rfl, ?_⟩) ?_ ?_
            rotate_left
            ·intro w'
             go_simp
             with_reducible rfl
            rotate_left
            ·simp only [Act.put, Qp1, Qp2, Qp3, i64_w, i32_w]
             rfl
            refine pure_ (i := 9) (N := some 37) (v := ?_) (a' := ?_) (Qbz 21 1023) rfl rfl (by kernel_rfl) (fun _ _ _ h => h) (Or.inl ⟨by rfl, ?_⟩) ?_ ?_
            rotate_left
            ·intro w'
             go_simp
             with_reducible rfl
            rotate_left
            ·simp only [Act.put, Qp1, Qp2, Qp3, i64_w, i32_w]
             rfl
            refine pure_ (i := 10) (N := some 38) (v := ?_) (a' := ?_) (Qbz 21 2047) rfl rfl (by kernel_rfl) (fun _ _ _ h => h) (Or.inl ⟨by rfl, ?_⟩) ?_ ?_
            rotate_left
            ·intro w'
             go_simp
             with_reducible rfl
            rotate_left
            ·simp only [Act.put, Qp1, Qp2, Qp3, i64_w, i32_w]
             rfl
            refine pure_ (i := 11) (N := some 39) (v := ?_) (a' := ?_) (Qbz 21 4095) rfl rfl (by kernel_rfl) (fun _ _ _ h => h) (Or.inl ⟨by rfl, ?_⟩) ?_ ?_
            rotate_left
            ·intro w'
             go_simp
             with_reducible rfl
            rotate_left
            ·simp only [Act.put, Qp1, Qp2, Qp3, i64_w, i32_w]
             rfl
            refine pure_ (i := 12) (N := some 40) (v := ?_) (a' := ?_) (Qbz 21 8191) rfl rfl (by kernel_rfl) (fun _ _ _ h => h) (Or.inl ⟨by rfl, ?_⟩) ?_ ?_
            rotate_left
            ·intro w'
             go_simp
             with_reducible rfl
            rotate_left
            ·simp only [Act.put, Qp1, Qp2, Qp3, i64_w, i32_w]
             rfl
            refine pure_ (i := 13) (N := some 41) (v := ?_) (a' := ?_) (Qbz 21 16383) rfl rfl (by kernel_rfl) (fun _ _ _ h => h) (Or.inl ⟨by rfl, ?_⟩) ?_ ?_
            rotate_left
            ·intro w'
             go_simp
             with_reducible rfl
            rotate_left
            ·simp only [Act.put, Qp1, Qp2, Qp3, i64_w, i32_w]
             rfl
            refine pure_ (i := 15) (N := some 43) (v := ?_) (a' := ?_) (Qbz 21 49151) rfl rfl (by kernel_rfl) (fun _ _ _ h => h) (Or.inl ⟨by rfl, ?_⟩) ?_ ?_
            rotate_left
            ·intro w'
             go_simp
             with_reducible rfl
            rotate_left
            ·simp only [Act.put, Qp1, Qp2, Qp3, i64_w, i32_w]
             rfl
            refine take_ (i := 14) (N := some 42) (v := ?_) (a' := ?_) (Qbz 21 65535) rfl rfl (by kernel_rfl) (fun _ _ _ h => h) (Or.inl ⟨by rfl, ?_⟩) hHeld ?_ ?_
            rotate_left
            ·rintro w' ⟨s0, s1⟩
             go_simp
             with_reducible rfl
            rotate_left
            ·simp only [Act.put, Qp1, Qp2, Qp3, i64_w, i32_w]
             rfl
            refine take_ (i := 16) (N := some 44) (v := ?_) (a' := ?_) (Qbz 21 131071) rfl rfl (by kernel_rfl) (fun _ _ _ h => h) (Or.inl ⟨by rfl, ?_⟩) hHeld ?_ ?_
            rotate_left
            ·rintro w' ⟨s0, s1⟩
             go_simp
             with_reducible rfl
            rotate_left
            ·simp only [Act.put, Qp1, Qp2, Qp3, i64_w, i32_w]
             rfl
            refine pure_ (i := 17) (N := some 45) (v := ?_) (a' := ?_) (Qbz 21 262143) rfl rfl (by kernel_rfl) (fun _ _ _ h => h) (Or.inl ⟨by rfl, ?_⟩) ?_ ?_
            rotate_left
            ·intro w'
             go_simp
             with_reducible rfl
            rotate_left
            ·simp only [Act.put, Qp1, Qp2, Qp3, i64_w, i32_w]
             rfl
            refine pure_ (i := 18) (N := some 46) (v := ?_) (a' := ?_) (Qbz 21 524287) rfl rfl (by kernel_rfl) (fun _ _ _ h => h) (Or.inl ⟨by rfl, ?_⟩) ?_ ?_
            rotate_left
            ·intro w'
             go_simp
             with_reducible rfl
            rotate_left
            ·simp only [Act.put, Qp1, Qp2, Qp3, i64_w, i32_w]
             rfl
            refine pure_ (i := 19) (N := some 47) (v := ?_) (a' := ?_) (Qbz 21 1048575) rfl rfl (by kernel_rfl) (fun _ _ _ h => h) (Or.inl ⟨by rfl, ?_⟩) ?_ ?_
            rotate_left
            ·intro w'
             go_simp
             with_reducible rfl
            rotate_left
            ·simp only [Act.put, Qp1, Qp2, Qp3, i64_w, i32_w]
             rfl
            refine pure_ (i := 20) (N := some 48) (v := ?_) (a' := ?_) (Qbz 21 2097151) rfl rfl (by kernel_rfl) (fun _ _ _ h => h) (Or.inl ⟨by rfl, ?_⟩) ?_ ?_
            rotate_left
            ·intro w'
             go_simp
             with_reducible rfl
            rotate_left
            ·simp only [Act.put, Qp1, Qp2, Qp3, i64_w, i32_w]
             rfl
            refine done_ (by kernel_rfl) ?_
            go_wp2_with (first
             | (go_at_call 79; refine (HST.out _ HSD.out).mono ?_; rintro e w10 ⟨rfl, hb10⟩; have hb11 := below_step hb10 (below_alloc (Below.refl w10.heap.size w10) (.cells #[.int .i64 kd, .int .i64 (xn : Int), .int .i64 s1, .int .i64 s2] 95)); have HS11 := Aside0.mk (HSD.out.low hb11); have hx11 := blk_below HX9d.out hb11; obtain ⟨y0, y1, y2, y3⟩ := four_reads hx11; have HX11 := Aside0.mk hx11; clear hx11 hb10 hb11)
             | (go_at_call 80; refine (HDO.out _ HS11.out).mono ?_; rintro e w12 ⟨rfl, hS12, _⟩; have HS12 := Aside0.mk hS12; clear hS12))
            go_roundg gi'
            case measure => omega
            case rel => exact ⟨i + 1, nextJ J left xn, diff left (2 ^ xn), by go_num, by omega, by rw [HNL.out]; exact hJl, HDL, HNX, HS12⟩
           ·have hr : false = r1 := by
             have := HAH.out
             rw [HCD.out, HSS.out] at this
             simpa [eqS, show (s2 == x3) = false from beq_eq_false_iff_ne.2 c3] using this
            subst hr
            have c3' : ¬ x3 = s2 := fun e => c3 e.symm
            have d1 : (s2 == x3) = false := beq_eq_false_iff_ne.2 c3
            have d2 : (s2 != x3) = true := by simp [c3]
            have d3 : decide (s2 = x3) = false := decide_eq_false c3
            go_wp2
            rw [← hw9, ← htS]; clear hw9 htS
            refine start_ (n := 21) (S := fun w' => w'.cell? ⟨tS, 1, none⟩ = some (.int .i64 (xn : Int)) ∧ w'.cell? ⟨rB, 1, none⟩ = some (.int .i64 (left : Int))) (ds := []) (Qbz 21 0) (by kernel_rfl) rfl rfl ⟨f1d, f2d⟩ (fun hHeld => ?_)
            refine pure_ (i := 0) (N := some 28) (v := ?_) (a' := ?_) (Qbz 21 1) rfl rfl (by kernel_rfl) (fun _ _ _ h => h) (Or.inl ⟨by rfl, ?_⟩) ?_ ?_
            rotate_left
            ·intro w'
             go_simp
             with_reducible rfl
            rotate_left
            ·simp only [Act.put, Qp1, Qp2, Qp3, i64_w, i32_w]
             rfl
            refine take_ (i := 1) (N := some 29) (v := ?_) (a' := ?_) (Qbz 21 3) rfl rfl (by kernel_rfl) (fun _ _ _ h => h) (Or.inl ⟨by rfl, ?_⟩) hHeld ?_ ?_
            rotate_left
            ·rintro w' ⟨s0, s1⟩
             go_simp
             with_reducible rfl
            rotate_left
            ·simp only [Act.put, Qp1, Qp2, Qp3, i64_w, i32_w]
             rfl
            refine pure_ (i := 2) (N := some 30) (v := ?_) (a' := ?_) (Qbz 21 7) rfl rfl (by kernel_rfl) (fun _ _ _ h => h) (Or.inl ⟨by rfl, ?_⟩) ?_ ?_
            rotate_left
            ·intro w'
             go_simp
             with_reducible rfl
            rotate_left
            ·simp only [Act.put, Qp1, Qp2, Qp3, i64_w, i32_w]
             rfl
            refine pure_ (i := 3) (N := some 31) (v := ?_) (a' := ?_) (Qbz 21 15) rfl rfl (by kernel_rfl) (fun _ _ _ h => h) (Or.inl ⟨by rfl, ?_⟩) ?_ ?_
            rotate_left
            ·intro w'
             go_simp
             with_reducible rfl
            rotate_left
            ·simp only [Act.put, Qp1, Qp2, Qp3, i64_w, i32_w]
             rfl
            refine pure_ (i := 4) (N := some 32) (v := ?_) (a' := ?_) (Qbz 21 31) rfl rfl (by kernel_rfl) (fun _ _ _ h => h) (Or.inl ⟨by rfl, ?_⟩) ?_ ?_
            rotate_left
            ·intro w'
             go_simp
             with_reducible rfl
            rotate_left
            ·simp only [Act.put, Qp1, Qp2, Qp3, i64_w, i32_w]
             rfl
            refine pure_ (i := 6) (N := some 34) (v := ?_) (a' := ?_) (Qbz 21 95) rfl rfl (by kernel_rfl) (fun _ _ _ h => h) (Or.inl ⟨by rfl, ?_⟩) ?_ ?_
            rotate_left
            ·intro w'
             go_simp
             with_reducible rfl
            rotate_left
            ·simp only [Act.put, Qp1, Qp2, Qp3, i64_w, i32_w]
             rfl
            refine pure_ (i := 7) (N := some 35) (v := ?_) (a' := ?_) (Qbz 21 223) rfl rfl (by kernel_rfl) (fun _ _ _ h => h) (Or.inl ⟨by rfl, ?_⟩) ?_ ?_
            rotate_left
            ·intro w'
             go_simp
             with_reducible rfl
            rotate_left
            ·simp only [Act.put, Qp1, Qp2, Qp3, i64_w, i32_w]
             rfl
            refine take_ (i := 5) (N := some 33) (v := ?_) (a' := ?_) (Qbz 21 255) rfl rfl (by kernel_rfl) (fun _ _ _ h => h) (Or.inl ⟨by rfl, ?_⟩) hHeld ?_ ?_
            rotate_left
            ·rintro w' ⟨s0, s1⟩
             go_simp
             with_reducible rfl
            rotate_left
            ·simp only [Act.put, Qp1, Qp2, Qp3, i64_w, i32_w]
             rfl
            refine pure_ (i := 8) (N := some 36) (v := ?_) (a' := ?_) (Qbz 21 511) rfl rfl (by kernel_rfl) (fun _ _ _ h => h) (Or.inl ⟨by rfl, ?_⟩) ?_ ?_
            rotate_left
            ·intro w'
             go_simp
             with_reducible rfl
            rotate_left
            ·simp only [Act.put, Qp1, Qp2, Qp3, i64_w, i32_w]
             rfl
            refine pure_ (i := 9) (N := some 37) (v := ?_) (a' := ?_) (Qbz 21 1023) rfl rfl (by kernel_rfl) (fun _ _ _ h => h) (Or.inl ⟨by rfl, ?_⟩) ?_ ?_
            rotate_left
            ·intro w'
             go_simp
             with_reducible rfl
            rotate_left
            ·simp only [Act.put, Qp1, Qp2, Qp3, i64_w, i32_w]
             rfl
            refine pure_ (i := 10) (N := some 38) (v := ?_) (a' := ?_) (Qbz 21 2047) rfl rfl (by kernel_rfl) (fun _ _ _ h => h) (Or.inl ⟨by rfl, ?_⟩) ?_ ?_
            rotate_left
            ·intro w'
             go_simp
             with_reducible rfl
            rotate_left
            ·simp only [Act.put, Qp1, Qp2, Qp3, i64_w, i32_w]
             rfl
            refine pure_ (i := 11) (N := some 39) (v := ?_) (a' := ?_) (Qbz 21 4095) rfl rfl (by kernel_rfl) (fun _ _ _ h => h) (Or.inl ⟨by rfl, ?_⟩) ?_ ?_
            rotate_left
            ·intro w'
             go_simp
             with_reducible rfl
            rotate_left
            ·simp only [Act.put, Qp1, Qp2, Qp3, i64_w, i32_w]
             rfl
            refine pure_ (i := 12) (N := some 40) (v := ?_) (a' := ?_) (Qbz 21 8191) rfl rfl (by kernel_rfl) (fun _ _ _ h => h) (Or.inl ⟨by rfl, ?_⟩) ?_ ?_
            rotate_left
            ·intro w'
             go_simp
             with_reducible rfl
            rotate_left
            ·simp only [Act.put, Qp1, Qp2, Qp3, i64_w, i32_w]
             rfl
            refine pure_ (i := 13) (N := some 41) (v := ?_) (a' := ?_) (Qbz 21 16383) rfl rfl (by kernel_rfl) (fun _ _ _ h => h) (Or.inl ⟨by rfl, ?_⟩) ?_ ?_
            rotate_left
            ·intro w'
             go_simp
             with_reducible rfl
            rotate_left
            ·simp only [Act.put, Qp1, Qp2, Qp3, i64_w, i32_w]
             rfl
            refine pure_ (i := 15) (N := some 43) (v := ?_) (a' := ?_) (Qbz 21 49151) rfl rfl (by kernel_rfl) (fun _ _ _ h => h) (Or.inl ⟨by rfl, ?_⟩) ?_ ?_
            rotate_left
            ·intro w'
             go_simp
             with_reducible rfl
            rotate_left
            ·simp only [Act.put, Qp1, Qp2, Qp3, i64_w, i32_w]
             rfl
            refine take_ (i := 14) (N := some 42) (v := ?_) (a' := ?_) (Qbz 21 65535) rfl rfl (by kernel_rfl) (fun _ _ _ h => h) (Or.inl ⟨by rfl, ?_⟩) hHeld ?_ ?_
            rotate_left
            ·rintro w' ⟨s0, s1⟩
             go_simp
             with_reducible rfl
            rotate_left
            ·simp only [Act.put, Qp1, Qp2, Qp3, i64_w, i32_w]
             rfl
            refine take_ (i := 16) (N := some 44) (v := ?_) (a' := ?_) (Qbz 21 131071) rfl rfl (by kernel_rfl) (fun _ _ _ h => h) (Or.inl ⟨by rfl, ?_⟩) hHeld ?_ ?_
            rotate_left
            ·rintro w' ⟨s0, s1⟩
             go_simp
             with_reducible rfl
            rotate_left
            ·simp only [Act.put, Qp1, Qp2, Qp3, i64_w, i32_w]
             rfl
            refine pure_ (i := 17) (N := some 45) (v := ?_) (a' := ?_) (Qbz 21 262143) rfl rfl (by kernel_rfl) (fun _ _ _ h => h) (Or.inl ⟨by rfl, ?_⟩) ?_ ?_
            rotate_left
            ·intro w'
             go_simp
             with_reducible rfl
            rotate_left
            ·simp only [Act.put, Qp1, Qp2, Qp3, i64_w, i32_w]
             rfl
            refine pure_ (i := 18) (N := some 46) (v := ?_) (a' := ?_) (Qbz 21 524287) rfl rfl (by kernel_rfl) (fun _ _ _ h => h) (Or.inl ⟨by rfl, ?_⟩) ?_ ?_
            rotate_left
            ·intro w'
             go_simp
             with_reducible rfl
            rotate_left
            ·simp only [Act.put, Qp1, Qp2, Qp3, i64_w, i32_w]
             rfl
            refine pure_ (i := 19) (N := some 47) (v := ?_) (a' := ?_) (Qbz 21 1048575) rfl rfl (by kernel_rfl) (fun _ _ _ h => h) (Or.inl ⟨by rfl, ?_⟩) ?_ ?_
            rotate_left
            ·intro w'
             go_simp
             with_reducible rfl
            rotate_left
            ·simp only [Act.put, Qp1, Qp2, Qp3, i64_w, i32_w]
             rfl
            refine pure_ (i := 20) (N := some 48) (v := ?_) (a' := ?_) (Qbz 21 2097151) rfl rfl (by kernel_rfl) (fun _ _ _ h => h) (Or.inl ⟨by rfl, ?_⟩) ?_ ?_
            rotate_left
            ·intro w'
             go_simp
             with_reducible rfl
            rotate_left
            ·simp only [Act.put, Qp1, Qp2, Qp3, i64_w, i32_w]
             rfl
            refine done_ (by kernel_rfl) ?_
            go_wp2_with (go_at_call 79; refine (HST.out _ HSD.out).mono ?_; rintro e w10 ⟨rfl, hb10⟩; have hb11 := below_step hb10 (below_alloc (Below.refl w10.heap.size w10) (.cells #[.int .i64 kd, .int .i64 (xn : Int), .int .i64 s1, .int .i64 s2] 95)); have HS11 := Aside0.mk (HSD.out.low hb11); have hx11 := blk_below HX9d.out hb11; obtain ⟨y0, y1, y2, y3⟩ := four_reads hx11; have HX11 := Aside0.mk hx11; clear hx11 hb10 hb11)
            go_ret2
            exact ⟨rfl, below_weaken HB1.out HB1.out.size HS11.out.below⟩
          ·have hr : false = r1 := by
            have := HAH.out
            rw [HCD.out, HSS.out] at this
            simpa [eqS, show (s1 == x2) = false from beq_eq_false_iff_ne.2 c2] using this
           subst hr
           have c2' : ¬ x2 = s1 := fun e => c2 e.symm
           have d1 : (s1 == x2) = false := beq_eq_false_iff_ne.2 c2
           have d3 : decide (s1 = x2) = false := decide_eq_false c2
           go_wp2
           rw [← hw9, ← htS]; clear hw9 htS
           refine start_ (n := 21) (S := fun w' => w'.cell? ⟨tS, 1, none⟩ = some (.int .i64 (xn : Int)) ∧ w'.cell? ⟨rB, 1, none⟩ = some (.int .i64 (left : Int))) (ds := []) (Qbz 21 0) (by kernel_rfl) rfl rfl ⟨f1d, f2d⟩ (fun hHeld => ?_)
           refine pure_ (i := 0) (N := some 28) (v := ?_) (a' := ?_) (Qbz 21 1) rfl rfl (by kernel_rfl) (fun _ _ _ h => h) (Or.inl ⟨by rfl, ?_⟩) ?_ ?_
           rotate_left
           ·intro w'
            go_simp
            with_reducible rfl
           rotate_left
           ·simp only [Act.put, Qp1, Qp2, Qp3, i64_w, i32_w]
            rfl
           refine take_ (i := 1) (N := some 29) (v := ?_) (a' := ?_) (Qbz 21 3) rfl rfl (by kernel_rfl) (fun _ _ _ h => h) (Or.inl ⟨by rfl, ?_⟩) hHeld ?_ ?_
           rotate_left
           ·rintro w' ⟨s0, s1⟩
            go_simp
            with_reducible rfl
           rotate_left
           ·simp only [Act.put, Qp1, Qp2, Qp3, i64_w, i32_w]
            rfl
           refine pure_ (i := 2) (N := some 30) (v := ?_) (a' := ?_) (Qbz 21 7) rfl rfl (by kernel_rfl) (fun _ _ _ h => h) (Or.inl ⟨by rfl, ?_⟩) ?_ ?_
           rotate_left
           ·intro w'
            go_simp
            with_reducible rfl
           rotate_left
           ·simp only [Act.put, Qp1, Qp2, Qp3, i64_w, i32_w]
            rfl
           refine pure_ (i := 3) (N := some 31) (v := ?_) (a' := ?_) (Qbz 21 15) rfl rfl (by kernel_rfl) (fun _ _ _ h => h) (Or.inl ⟨by rfl, ?_⟩) ?_ ?_
           rotate_left
           ·intro w'
            go_simp
            with_reducible rfl
           rotate_left
           ·simp only [Act.put, Qp1, Qp2, Qp3, i64_w, i32_w]
            rfl
           refine pure_ (i := 4) (N := some 32) (v := ?_) (a' := ?_) (Qbz 21 31) rfl rfl (by kernel_rfl) (fun _ _ _ h => h) (Or.inl ⟨by rfl, ?_⟩) ?_ ?_
           rotate_left
           ·intro w'
            go_simp
            with_reducible rfl
           rotate_left
           ·simp only [Act.put, Qp1, Qp2, Qp3, i64_w, i32_w]
            rfl
           refine pure_ (i := 6) (N := some 34) (v := ?_) (a' := ?_) (Qbz 21 95) rfl rfl (by kernel_rfl) (fun _ _ _ h => h) (Or.inl ⟨by rfl, ?_⟩) ?_ ?_
           rotate_left
           ·intro w'
            go_simp
            with_reducible rfl
           rotate_left
           ·simp only [Act.put, Qp1, Qp2, Qp3, i64_w, i32_w]
            rfl
           refine pure_ (i := 7) (N := some 35) (v := ?_) (a' := ?_) (Qbz 21 223) rfl rfl (by kernel_rfl) (fun _ _ _ h => h) (Or.inl ⟨by rfl, ?_⟩) ?_ ?_
           rotate_left
           ·intro w'
            go_simp
            with_reducible rfl
           rotate_left
           ·simp only [Act.put, Qp1, Qp2, Qp3, i64_w, i32_w]
            rfl
           refine take_ (i := 5) (N := some 33) (v := ?_) (a' := ?_) (Qbz 21 255) rfl rfl (by kernel_rfl) (fun _ _ _ h => h) (Or.inl ⟨by rfl, ?_⟩) hHeld ?_ ?_
           rotate_left
           ·rintro w' ⟨s0, s1⟩
            go_simp
            with_reducible rfl
           rotate_left
           ·simp only [Act.put, Qp1, Qp2, Qp3, i64_w, i32_w]
            rfl
           refine pure_ (i := 8) (N := some 36) (v := ?_) (a' := ?_) (Qbz 21 511) rfl rfl (by kernel_rfl) (fun _ _ _ h => h) (Or.inl ⟨by rfl, ?_⟩) ?_ ?_
           rotate_left
           ·intro w'
            go_simp
            with_reducible rfl
           rotate_left
           ·simp only [Act.put, Qp1, Qp2, Qp3, i64_w, i32_w]
            rfl
           refine pure_ (i := 9) (N := some 37) (v := ?_) (a' := ?_) (Qbz 21 1023) rfl rfl (by kernel_rfl) (fun _ _ _ h => h) (Or.inl ⟨by rfl, ?_⟩) ?_ ?_
           rotate_left
           ·intro w'
            go_simp
            with_reducible rfl
           rotate_left
           ·simp only [Act.put, Qp1, Qp2, Qp3, i64_w, i32_w]
            rfl
           refine pure_ (i := 10) (N := some 38) (v := ?_) (a' := ?_) (Qbz 21 2047) rfl rfl (by kernel_rfl) (fun _ _ _ h => h) (Or.inl ⟨by rfl, ?_⟩) ?_ ?_
           rotate_left
           ·intro w'
            go_simp
            with_reducible rfl
           rotate_left
           ·simp only [Act.put, Qp1, Qp2, Qp3, i64_w, i32_w]
            rfl
           refine pure_ (i := 11) (N := some 39) (v := ?_) (a' := ?_) (Qbz 21 4095) rfl rfl (by kernel_rfl) (fun _ _ _ h => h) (Or.inl ⟨by rfl, ?_⟩) ?_ ?_
           rotate_left
           ·intro w'
            go_simp
            with_reducible rfl
           rotate_left
           ·simp only [Act.put, Qp1, Qp2, Qp3, i64_w, i32_w]
            rfl
           refine pure_ (i := 12) (N := some 40) (v := ?_) (a' := ?_) (Qbz 21 8191) rfl rfl (by kernel_rfl) (fun _ _ _ h => h) (Or.inl ⟨by rfl, ?_⟩) ?_ ?_
           rotate_left
           ·intro w'
            go_simp
            with_reducible rfl
           rotate_left
           ·simp only [Act.put, Qp1, Qp2, Qp3, i64_w, i32_w]
            rfl
           refine pure_ (i := 13) (N := some 41) (v := ?_) (a' := ?_) (Qbz 21 16383) rfl rfl (by kernel_rfl) (fun _ _ _ h => h) (Or.inl ⟨by rfl, ?_⟩) ?_ ?_
           rotate_left
           ·intro w'
            go_simp
            with_reducible rfl
           rotate_left
           ·simp only [Act.put, Qp1, Qp2, Qp3, i64_w, i32_w]
            rfl
           refine pure_ (i := 15) (N := some 43) (v := ?_) (a' := ?_) (Qbz 21 49151) rfl rfl (by kernel_rfl) (fun _ _ _ h => h) (Or.inl ⟨by rfl, ?_⟩) ?_ ?_
           rotate_left
           ·intro w'
            go_simp
            with_reducible rfl
           rotate_left
           ·simp only [Act.put, Qp1, Qp2, Qp3, i64_w, i32_w]
            rfl
           refine take_ (i := 14) (N := some 42) (v := ?_) (a' := ?_) (Qbz 21 65535) rfl rfl (by kernel_rfl) (fun _ _ _ h => h) (Or.inl ⟨by rfl, ?_⟩) hHeld ?_ ?_
           rotate_left
           ·rintro w' ⟨s0, s1⟩
            go_simp
            with_reducible rfl
           rotate_left
           ·simp only [Act.put, Qp1, Qp2, Qp3, i64_w, i32_w]
            rfl
           refine take_ (i := 16) (N := some 44) (v := ?_) (a' := ?_) (Qbz 21 131071) rfl rfl (by kernel_rfl) (fun _ _ _ h => h) (Or.inl ⟨by rfl, ?_⟩) hHeld ?_ ?_
           rotate_left
           ·rintro w' ⟨s0, s1⟩
            go_simp
            with_reducible rfl
           rotate_left
           ·simp only [Act.put, Qp1, Qp2, Qp3, i64_w, i32_w]
            rfl
           refine pure_ (i := 17) (N := some 45) (v := ?_) (a' := ?_) (Qbz 21 262143) rfl rfl (by kernel_rfl) (fun _ _ _ h => h) (Or.inl ⟨by rfl, ?_⟩) ?_ ?_
           rotate_left
           ·intro w'
            go_simp
            with_reducible rfl
           rotate_left
           ·simp only [Act.put, Qp1, Qp2, Qp3, i64_w, i32_w]
            rfl
           refine pure_ (i := 18) (N := some 46) (v := ?_) (a' := ?_) (Qbz 21 524287) rfl rfl (by kernel_rfl) (fun _ _ _ h => h) (Or.inl ⟨by rfl, ?_⟩) ?_ ?_
           rotate_left
           ·intro w'
            go_simp
            with_reducible rfl
           rotate_left
           ·simp only [Act.put, Qp1, Qp2, Qp3, i64_w, i32_w]
            rfl
           refine pure_ (i := 19) (N := some 47) (v := ?_) (a' := ?_) (Qbz 21 1048575) rfl rfl (by kernel_rfl) (fun _ _ _ h => h) (Or.inl ⟨by rfl, ?_⟩) ?_ ?_
           rotate_left
           ·intro w'
            go_simp
            with_reducible rfl
           rotate_left
           ·simp only [Act.put, Qp1, Qp2, Qp3, i64_w, i32_w]
            rfl
           refine pure_ (i := 20) (N := some 48) (v := ?_) (a' := ?_) (Qbz 21 2097151) rfl rfl (by kernel_rfl) (fun _ _ _ h => h) (Or.inl ⟨by rfl, ?_⟩) ?_ ?_
           rotate_left
           ·intro w'
            go_simp
            with_reducible rfl
           rotate_left
           ·simp only [Act.put, Qp1, Qp2, Qp3, i64_w, i32_w]
            rfl
           refine done_ (by kernel_rfl) ?_
           go_wp2_with (go_at_call 79; refine (HST.out _ HSD.out).mono ?_; rintro e w10 ⟨rfl, hb10⟩; have hb11 := below_step hb10 (below_alloc (Below.refl w10.heap.size w10) (.cells #[.int .i64 kd, .int .i64 (xn : Int), .int .i64 s1, .int .i64 s2] 95)); have HS11 := Aside0.mk (HSD.out.low hb11); have hx11 := blk_below HX9d.out hb11; obtain ⟨y0, y1, y2, y3⟩ := four_reads hx11; have HX11 := Aside0.mk hx11; clear hx11 hb10 hb11)
           go_ret2
           exact ⟨rfl, below_weaken HB1.out HB1.out.size HS11.out.below⟩
         ·have hr : false = r1 := by
           have := HAH.out
           rw [HCD.out, HSS.out] at this
           simpa [eqS, show (kd == x0) = false from beq_eq_false_iff_ne.2 c0] using this
          subst hr
          have c0' : ¬ x0 = kd := fun e => c0 e.symm
          have d1 : (kd == x0) = false := beq_eq_false_iff_ne.2 c0
          have d3 : decide (kd = x0) = false := decide_eq_false c0
          go_wp2
          rw [← hw9, ← htS]; clear hw9 htS
          refine start_ (n := 21) (S := fun w' => w'.cell? ⟨tS, 1, none⟩ = some (.int .i64 (xn : Int)) ∧ w'.cell? ⟨rB, 1, none⟩ = some (.int .i64 (left : Int))) (ds := []) (Qbz 21 0) (by kernel_rfl) rfl rfl ⟨f1d, f2d⟩ (fun hHeld => ?_)
          refine pure_ (i := 0) (N := some 28) (v := ?_) (a' := ?_) (Qbz 21 1) rfl rfl (by kernel_rfl) (fun _ _ _ h => h) (Or.inl ⟨by rfl, ?_⟩) ?_ ?_
          rotate_left
          ·intro w'
           go_simp
           with_reducible rfl
          rotate_left
          ·simp only [Act.put, Qp1, Qp2, Qp3, i64_w, i32_w]
           rfl
          refine take_ (i := 1) (N := some 29) (v := ?_) (a' := ?_) (Qbz 21 3) rfl rfl (by kernel_rfl) (fun _ _ _ h => h) (Or.inl ⟨by rfl, ?_⟩) hHeld ?_ ?_
          rotate_left
          ·rintro w' ⟨s0, s1⟩
           go_simp
           with_reducible rfl
          rotate_left
          ·simp only [Act.put, Qp1, Qp2, Qp3, i64_w, i32_w]
           rfl
          refine pure_ (i := 2) (N := some 30) (v := ?_) (a' := ?_) (Qbz 21 7) rfl rfl (by kernel_rfl) (fun _ _ _ h => h) (Or.inl ⟨by rfl, ?_⟩) ?_ ?_
          rotate_left
          ·intro w'
           go_simp
           with_reducible rfl
          rotate_left
          ·simp only [Act.put, Qp1, Qp2, Qp3, i64_w, i32_w]
           rfl
          refine pure_ (i := 3) (N := some 31) (v := ?_) (a' := ?_) (Qbz 21 15) rfl rfl (by kernel_rfl) (fun _ _ _ h => h) (Or.inl ⟨by rfl, ?_⟩) ?_ ?_
          rotate_left
          ·intro w'
           go_simp
           with_reducible rfl
          rotate_left
          ·simp only [Act.put, Qp1, Qp2, Qp3, i64_w, i32_w]
           rfl
          refine pure_ (i := 4) (N := some 32) (v := ?_) (a' := ?_) (Qbz 21 31) rfl rfl (by kernel_rfl) (fun _ _ _ h => h) (Or.inl ⟨by rfl, ?_⟩) ?_ ?_
          rotate_left
          ·intro w'
           go_simp
           with_reducible rfl
          rotate_left
          ·simp only [Act.put, Qp1, Qp2, Qp3, i64_w, i32_w]
           rfl
          refine pure_ (i := 6) (N := some 34) (v := ?_) (a' := ?_) (Qbz 21 95) rfl rfl (by kernel_rfl) (fun _ _ _ h => h) (Or.inl ⟨by rfl, ?_⟩) ?_ ?_
          rotate_left
          ·intro w'
           go_simp
           with_reducible rfl
          rotate_left
          ·simp only [Act.put, Qp1, Qp2, Qp3, i64_w, i32_w]
           rfl
          refine pure_ (i := 7) (N := some 35) (v := ?_) (a' := ?_) (Qbz 21 223) rfl rfl (by kernel_rfl) (fun _ _ _ h => h) (Or.inl ⟨by rfl, ?_⟩) ?_ ?_
          rotate_left
          ·intro w'
           go_simp
           with_reducible rfl
          rotate_left
          ·simp only [Act.put, Qp1, Qp2, Qp3, i64_w, i32_w]
           rfl
          refine take_ (i := 5) (N := some 33) (v := ?_) (a' := ?_) (Qbz 21 255) rfl rfl (by kernel_rfl) (fun _ _ _ h => h) (Or.inl ⟨by rfl, ?_⟩) hHeld ?_ ?_
          rotate_left
          ·rintro w' ⟨s0, s1⟩
           go_simp
           with_reducible rfl
          rotate_left
          ·simp only [Act.put, Qp1, Qp2, Qp3, i64_w, i32_w]
           rfl
          refine pure_ (i := 8) (N := some 36) (v := ?_) (a' := ?_) (Qbz 21 511) rfl rfl (by kernel_rfl) (fun _ _ _ h => h) (Or.inl ⟨by rfl, ?_⟩) ?_ ?_
          rotate_left
          ·intro w'
           go_simp
           with_reducible rfl
          rotate_left
          ·simp only [Act.put, Qp1, Qp2, Qp3, i64_w, i32_w]
           rfl
          refine pure_ (i := 9) (N := some 37) (v := ?_) (a' := ?_) (Qbz 21 1023) rfl rfl (by kernel_rfl) (fun _ _ _ h => h) (Or.inl ⟨by rfl, ?_⟩) ?_ ?_
          rotate_left
          ·intro w'
           go_simp
           with_reducible rfl
          rotate_left
          ·simp only [Act.put, Qp1, Qp2, Qp3, i64_w, i32_w]
           rfl
          refine pure_ (i := 10) (N := some 38) (v := ?_) (a' := ?_) (Qbz 21 2047) rfl rfl (by kernel_rfl) (fun _ _ _ h => h) (Or.inl ⟨by rfl, ?_⟩) ?_ ?_
          rotate_left
          ·intro w'
           go_simp
           with_reducible rfl
          rotate_left
          ·simp only [Act.put, Qp1, Qp2, Qp3, i64_w, i32_w]
           rfl
          refine pure_ (i := 11) (N := some 39) (v := ?_) (a' := ?_) (Qbz 21 4095) rfl rfl (by kernel_rfl) (fun _ _ _ h => h) (Or.inl ⟨by rfl, ?_⟩) ?_ ?_
          rotate_left
          ·intro w'
           go_simp
           with_reducible rfl
          rotate_left
          ·simp only [Act.put, Qp1, Qp2, Qp3, i64_w, i32_w]
           rfl
          refine pure_ (i := 12) (N := some 40) (v := ?_) (a' := ?_) (Qbz 21 8191) rfl rfl (by kernel_rfl) (fun _ _ _ h => h) (Or.inl ⟨by rfl, ?_⟩) ?_ ?_
          rotate_left
          ·intro w'
           go_simp
           with_reducible rfl
          rotate_left
          ·simp only [Act.put, Qp1, Qp2, Qp3, i64_w, i32_w]
           rfl
          refine pure_ (i := 13) (N := some 41) (v := ?_) (a' := ?_) (Qbz 21 16383) rfl rfl (by kernel_rfl) (fun _ _ _ h => h) (Or.inl ⟨by rfl, ?_⟩) ?_ ?_
          rotate_left
          ·intro w'
           go_simp
           with_reducible rfl
          rotate_left
          ·simp only [Act.put, Qp1, Qp2, Qp3, i64_w, i32_w]
           rfl
          refine pure_ (i := 15) (N := some 43) (v := ?_) (a' := ?_) (Qbz 21 49151) rfl rfl (by kernel_rfl) (fun _ _ _ h => h) (Or.inl ⟨by rfl, ?_⟩) ?_ ?_
          rotate_left
          ·intro w'
           go_simp
           with_reducible rfl
          rotate_left
          ·simp only [Act.put, Qp1, Qp2, Qp3, i64_w, i32_w]
           rfl
          refine take_ (i := 14) (N := some 42) (v := ?_) (a' := ?_) (Qbz 21 65535) rfl rfl (by kernel_rfl) (fun _ _ _ h => h) (Or.inl ⟨by rfl, ?_⟩) hHeld ?_ ?_
          rotate_left
          ·rintro w' ⟨s0, s1⟩
           go_simp
           with_reducible rfl
          rotate_left
          ·simp only [Act.put, Qp1, Qp2, Qp3, i64_w, i32_w]
           rfl
          refine take_ (i := 16) (N := some 44) (v := ?_) (a' := ?_) (Qbz 21 131071) rfl rfl (by kernel_rfl) (fun _ _ _ h => h) (Or.inl ⟨by rfl, ?_⟩) hHeld ?_ ?_
          rotate_left
          ·rintro w' ⟨s0, s1⟩
           go_simp
           with_reducible rfl
          rotate_left
          ·simp only [Act.put, Qp1, Qp2, Qp3, i64_w, i32_w]
           rfl
          refine pure_ (i := 17) (N := some 45) (v := ?_) (a' := ?_) (Qbz 21 262143) rfl rfl (by kernel_rfl) (fun _ _ _ h => h) (Or.inl ⟨by rfl, ?_⟩) ?_ ?_
          rotate_left
          ·intro w'
           go_simp
           with_reducible rfl
          rotate_left
          ·simp only [Act.put, Qp1, Qp2, Qp3, i64_w, i32_w]
           rfl
          refine pure_ (i := 18) (N := some 46) (v := ?_) (a' := ?_) (Qbz 21 524287) rfl rfl (by kernel_rfl) (fun _ _ _ h => h) (Or.inl ⟨by rfl, ?_⟩) ?_ ?_
          rotate_left
          ·intro w'
           go_simp
           with_reducible rfl
          rotate_left
          ·simp only [Act.put, Qp1, Qp2, Qp3, i64_w, i32_w]
           rfl
          refine pure_ (i := 19) (N := some 47) (v := ?_) (a' := ?_) (Qbz 21 1048575) rfl rfl (by kernel_rfl) (fun _ _ _ h => h) (Or.inl ⟨by rfl, ?_⟩) ?_ ?_
          rotate_left
          ·intro w'
           go_simp
           with_reducible rfl
          rotate_left
          ·simp only [Act.put, Qp1, Qp2, Qp3, i64_w, i32_w]
           rfl
          refine pure_ (i := 20) (N := some 48) (v := ?_) (a' := ?_) (Qbz 21 2097151) rfl rfl (by kernel_rfl) (fun _ _ _ h => h) (Or.inl ⟨by rfl, ?_⟩) ?_ ?_
          rotate_left
          ·intro w'
           go_simp
           with_reducible rfl
          rotate_left
          ·simp only [Act.put, Qp1, Qp2, Qp3, i64_w, i32_w]
           rfl
          refine done_ (by kernel_rfl) ?_
          go_wp2_with (go_at_call 79; refine (HST.out _ HSD.out).mono ?_; rintro e w10 ⟨rfl, hb10⟩; have hb11 := below_step hb10 (below_alloc (Below.refl w10.heap.size w10) (.cells #[.int .i64 kd, .int .i64 (xn : Int), .int .i64 s1, .int .i64 s2] 95)); have HS11 := Aside0.mk (HSD.out.low hb11); have hx11 := blk_below HX9d.out hb11; obtain ⟨y0, y1, y2, y3⟩ := four_reads hx11; have HX11 := Aside0.mk hx11; clear hx11 hb10 hb11)
          go_ret2
          exact ⟨rfl, below_weaken HB1.out HB1.out.size HS11.out.below⟩
        ·have hcd : decide ((nearL J left xn).length ≤ 2) = false := decide_eq_false hcan
         rw [hcd] at HST
         have hr : false = r1 := by
          have := HAH.out
          rw [hcd] at this
          simpa using this
         subst hr
         clear hcd hcan hkd hs1 hs2
         go_wp2
         rw [← hw9, ← htS]; clear hw9 htS
         refine start_ (n := 21) (S := fun w' => w'.cell? ⟨tS, 1, none⟩ = some (.int .i64 (xn : Int)) ∧ w'.cell? ⟨rB, 1, none⟩ = some (.int .i64 (left : Int))) (ds := []) (Qbz 21 0) (by kernel_rfl) rfl rfl ⟨f1d, f2d⟩ (fun hHeld => ?_)
         refine pure_ (i := 0) (N := some 28) (v := ?_) (a' := ?_) (Qbz 21 1) rfl rfl (by kernel_rfl) (fun _ _ _ h => h) (Or.inl ⟨by rfl, ?_⟩) ?_ ?_
         rotate_left
         ·intro w'
          go_simp
          with_reducible rfl
         rotate_left
         ·simp only [Act.put, Qp1, Qp2, Qp3, i64_w, i32_w]
          rfl
         refine take_ (i := 1) (N := some 29) (v := ?_) (a' := ?_) (Qbz 21 3) rfl rfl (by kernel_rfl) (fun _ _ _ h => h) (Or.inl ⟨by rfl, ?_⟩) hHeld ?_ ?_
         rotate_left
         ·rintro w' ⟨s0, s1⟩
          go_simp
          with_reducible rfl
         rotate_left
         ·simp only [Act.put, Qp1, Qp2, Qp3, i64_w, i32_w]
          rfl
         refine pure_ (i := 2) (N := some 30) (v := ?_) (a' := ?_) (Qbz 21 7) rfl rfl (by kernel_rfl) (fun _ _ _ h => h) (Or.inl ⟨by rfl, ?_⟩) ?_ ?_
         rotate_left
         ·intro w'
          go_simp
          with_reducible rfl
         rotate_left
         ·simp only [Act.put, Qp1, Qp2, Qp3, i64_w, i32_w]
          rfl
         refine pure_ (i := 3) (N := some 31) (v := ?_) (a' := ?_) (Qbz 21 15) rfl rfl (by kernel_rfl) (fun _ _ _ h => h) (Or.inl ⟨by rfl, ?_⟩) ?_ ?_
         rotate_left
         ·intro w'
          go_simp
          with_reducible rfl
         rotate_left
         ·simp only [Act.put, Qp1, Qp2, Qp3, i64_w, i32_w]
          rfl
         refine pure_ (i := 4) (N := some 32) (v := ?_) (a' := ?_) (Qbz 21 31) rfl rfl (by kernel_rfl) (fun _ _ _ h => h) (Or.inl ⟨by rfl, ?_⟩) ?_ ?_
         rotate_left
         ·intro w'
          go_simp
          with_reducible rfl
         rotate_left
         ·simp only [Act.put, Qp1, Qp2, Qp3, i64_w, i32_w]
          rfl
         refine pure_ (i := 6) (N := some 34) (v := ?_) (a' := ?_) (Qbz 21 95) rfl rfl (by kernel_rfl) (fun _ _ _ h => h) (Or.inl ⟨by rfl, ?_⟩) ?_ ?_
         rotate_left
         ·intro w'
          go_simp
          with_reducible rfl
         rotate_left
         ·simp only [Act.put, Qp1, Qp2, Qp3, i64_w, i32_w]
          rfl
         refine pure_ (i := 7) (N := some 35) (v := ?_) (a' := ?_) (Qbz 21 223) rfl rfl (by kernel_rfl) (fun _ _ _ h => h) (Or.inl ⟨by rfl, ?_⟩) ?_ ?_
         rotate_left
         ·intro w'
          go_simp
          with_reducible rfl
         rotate_left
         ·simp only [Act.put, Qp1, Qp2, Qp3, i64_w, i32_w]
          rfl
         refine take_ (i := 5) (N := some 33) (v := ?_) (a' := ?_) (Qbz 21 255) rfl rfl (by kernel_rfl) (fun _ _ _ h => h) (Or.inl ⟨by rfl, ?_⟩) hHeld ?_ ?_
         rotate_left
         ·rintro w' ⟨s0, s1⟩
          go_simp
          with_reducible rfl
         rotate_left
         ·simp only [Act.put, Qp1, Qp2, Qp3, i64_w, i32_w]
          rfl
         refine pure_ (i := 8) (N := some 36) (v := ?_) (a' := ?_) (Qbz 21 511) rfl rfl (by kernel_rfl) (fun _ _ _ h => h) (Or.inl ⟨by rfl, ?_⟩) ?_ ?_
         rotate_left
         ·intro w'
          go_simp
          with_reducible rfl
         rotate_left
         ·simp only [Act.put, Qp1, Qp2, Qp3, i64_w, i32_w]
          rfl
         refine pure_ (i := 9) (N := some 37) (v := ?_) (a' := ?_) (Qbz 21 1023) rfl rfl (by kernel_rfl) (fun _ _ _ h => h) (Or.inl ⟨by rfl, ?_⟩) ?_ ?_
         rotate_left
         ·intro w'
          go_simp
          with_reducible rfl
         rotate_left
         ·simp only [Act.put, Qp1, Qp2, Qp3, i64_w, i32_w]
          rfl
         refine pure_ (i := 10) (N := some 38) (v := ?_) (a' := ?_) (Qbz 21 2047) rfl rfl (by kernel_rfl) (fun _ _ _ h => h) (Or.inl ⟨by rfl, ?_⟩) ?_ ?_
         rotate_left
         ·intro w'
          go_simp
          with_reducible rfl
         rotate_left
         ·simp only [Act.put, Qp1, Qp2, Qp3, i64_w, i32_w]
          rfl
         refine pure_ (i := 11) (N := some 39) (v := ?_) (a' := ?_) (Qbz 21 4095) rfl rfl (by kernel_rfl) (fun _ _ _ h => h) (Or.inl ⟨by rfl, ?_⟩) ?_ ?_
         rotate_left
         ·intro w'
          go_simp
          with_reducible rfl
         rotate_left
         ·simp only [Act.put, Qp1, Qp2, Qp3, i64_w, i32_w]
          rfl
         refine pure_ (i := 12) (N := some 40) (v := ?_) (a' := ?_) (Qbz 21 8191) rfl rfl (by kernel_rfl) (fun _ _ _ h => h) (Or.inl ⟨by rfl, ?_⟩) ?_ ?_
         rotate_left
         ·intro w'
          go_simp
          with_reducible rfl
         rotate_left
         ·simp only [Act.put, Qp1, Qp2, Qp3, i64_w, i32_w]
          rfl
         refine pure_ (i := 13) (N := some 41) (v := ?_) (a' := ?_) (Qbz 21 16383) rfl rfl (by kernel_rfl) (fun _ _ _ h => h) (Or.inl ⟨by rfl, ?_⟩) ?_ ?_
         rotate_left
         ·intro w'
          go_simp
          with_reducible rfl
         rotate_left
         ·simp only [Act.put, Qp1, Qp2, Qp3, i64_w, i32_w]
          rfl
         refine pure_ (i := 15) (N := some 43) (v := ?_) (a' := ?_) (Qbz 21 49151) rfl rfl (by kernel_rfl) (fun _ _ _ h => h) (Or.inl ⟨by rfl, ?_⟩) ?_ ?_
         rotate_left
         ·intro w'
          go_simp
          with_reducible rfl
         rotate_left
         ·simp only [Act.put, Qp1, Qp2, Qp3, i64_w, i32_w]
          rfl
         refine take_ (i := 14) (N := some 42) (v := ?_) (a' := ?_) (Qbz 21 65535) rfl rfl (by kernel_rfl) (fun _ _ _ h => h) (Or.inl ⟨by rfl, ?_⟩) hHeld ?_ ?_
         rotate_left
         ·rintro w' ⟨s0, s1⟩
          go_simp
          with_reducible rfl
         rotate_left
         ·simp only [Act.put, Qp1, Qp2, Qp3, i64_w, i32_w]
          rfl
         refine take_ (i := 16) (N := some 44) (v := ?_) (a' := ?_) (Qbz 21 131071) rfl rfl (by kernel_rfl) (fun _ _ _ h => h) (Or.inl ⟨by rfl, ?_⟩) hHeld ?_ ?_
         rotate_left
         ·rintro w' ⟨s0, s1⟩
          go_simp
          with_reducible rfl
         rotate_left
         ·simp only [Act.put, Qp1, Qp2, Qp3, i64_w, i32_w]
          rfl
         refine pure_ (i := 17) (N := some 45) (v := ?_) (a' := ?_) (Qbz 21 262143) rfl rfl (by kernel_rfl) (fun _ _ _ h => h) (Or.inl ⟨by rfl, ?_⟩) ?_ ?_
         rotate_left
         ·intro w'
          go_simp
          with_reducible rfl
         rotate_left
         ·simp only [Act.put, Qp1, Qp2, Qp3, i64_w, i32_w]
          rfl
         refine pure_ (i := 18) (N := some 46) (v := ?_) (a' := ?_) (Qbz 21 524287) rfl rfl (by kernel_rfl) (fun _ _ _ h => h) (Or.inl ⟨by rfl, ?_⟩) ?_ ?_
         rotate_left
         ·intro w'
          go_simp
          with_reducible rfl
         rotate_left
         ·simp only [Act.put, Qp1, Qp2, Qp3, i64_w, i32_w]
          rfl
         refine pure_ (i := 19) (N := some 47) (v := ?_) (a' := ?_) (Qbz 21 1048575) rfl rfl (by kernel_rfl) (fun _ _ _ h => h) (Or.inl ⟨by rfl, ?_⟩) ?_ ?_
         rotate_left
         ·intro w'
          go_simp
          with_reducible rfl
         rotate_left
         ·simp only [Act.put, Qp1, Qp2, Qp3, i64_w, i32_w]
          rfl
         refine pure_ (i := 20) (N := some 48) (v := ?_) (a' := ?_) (Qbz 21 2097151) rfl rfl (by kernel_rfl) (fun _ _ _ h => h) (Or.inl ⟨by rfl, ?_⟩) ?_ ?_
         rotate_left
         ·intro w'
          go_simp
          with_reducible rfl
         rotate_left
         ·simp only [Act.put, Qp1, Qp2, Qp3, i64_w, i32_w]
          rfl
         refine done_ (by kernel_rfl) ?_
         go_wp2_with (go_at_call 79; refine (HST.out _ HSD.out).mono ?_; rintro e w10 ⟨rfl, hb10⟩; have hb11 := below_step hb10 (below_alloc (Below.refl w10.heap.size w10) (.cells #[.int .i64 kd, .int .i64 (xn : Int), .int .i64 s1, .int .i64 s2] 95)); have HS11 := Aside0.mk (HSD.out.low hb11); have hx11 := blk_below HX9d.out hb11; obtain ⟨y0, y1, y2, y3⟩ := four_reads hx11; have HX11 := Aside0.mk hx11; clear hx11 hb10 hb11)
         go_ret2
         exact ⟨rfl, below_weaken HB1.out HB1.out.size HS11.out.below⟩
    ·have hi1 : ((i : Int) < (l1.length : Int)) = False := eq_false (by omega)
     have hi2 : decide ((i : Int) < (l1.length : Int)) = false := decide_eq_false (by omega)
     have ha := HA.out
     rw [List.drop_eq_nil_of_le (by omega)] at ha
     have hz1 : wr.cell? ⟨rB, 1, none⟩ = some (.int .i64 (left : Int)) := (blk_cell HS.out.blk 1).trans rfl
     have hr : decide (left = 0) = r1 := ha
     have hd : ((left : Int) == 0) = r1 := by
      rw [← hr]
      by_cases h0 : left = 0
      ·rw [h0]; rfl
      ·rw [decide_eq_false h0, beq_eq_false_iff_ne]; omega
     clear ha HA hr
     go_wp2
     go_ret2
     refine ⟨?_, below_weaken HB1.out HB1.out.size HS.out.below⟩
     rw [← hd]
     rfl
 ·rw [if_neg hlen] at h
  cases h
end Go.Proofs.YtjloppfdagfpmaaDoor.X
end
section
namespace Go.Proofs.YtjloppfdagfpmaaDoor.X
open Go.RowKit YtjloppfdagfpmaaDoorW.PrintWords YtjloppfdagfpmaaDoorW.PrintLast YtjloppfdagfpmaaDoorW.PrintMore
attribute [local go_sem] max2_int min2_int max_two min_two max_three min_three max_four min_four
/-! ### lampblacklaw07_own: function 45 -/
def lampblacklaw07_own.l0 : Nat → List (S62) → List (S95) → Int → Int → Option ((List (S62)))
 | 0, _, _, _, _ => none
 | k + 1, x3, x6, x7, x8 => if x8 < x7 then (if 0 ≤ x8 then (if x8 < (x6.length : Int) then (if x3.length < 4398046511104 then (lampblacklaw07_own.l0 k (x3 ++ [(⟨(rd_T95 x6 x8).f0, (rd_T95 x6 x8).f1, (rd_T95 x6 x8).f2, (rd_T95 x6 x8).f3⟩ : S62)]) x6 x7 (wrap64 (x8 + 1))) else (none)) else (none)) else (none)) else (some x3)
def lampblacklaw07_own.f (k : Nat) (l0 : List (S95)) : Option ((List (S62))) := lampblacklaw07_own.l0 k ([] : List (S62)) l0 (l0.length : Int) 0
set_option maxHeartbeats 8000000 in
set_option maxRecDepth 100000 in
theorem lampblacklaw07_own.calls (k : Nat) (A0 : Option Addr) (c0 : Nat) (l0 : List (S95)) (r : List (S62)) (w : World) (hr0 : Kd.C k95 w A0 l0.length l0) (hc0 : l0.length ≤ c0) (h : lampblacklaw07_own.f k l0 = some r) :
  Calls Tryd.prog 45 #[.slice A0 l0.length c0] w fun e w' => ∃ v0_ : Value, e = .returned (v0_) ∧ Kd.R k62 62 w' w.heap.size (fun _ => True) v0_ r ∧ Below w.heap.size w w' := by
 have hu95 := Tryd.underlying95
 have hu62 := Tryd.underlying62
 have HR0 := Aside0.mk hr0
 have HC0 := Aside0.mk hc0
 clear hr0 hc0
 have HB := Aside0.mk (Below.refl w.heap.size w)
 have H : (lampblacklaw07_own.l0 k ([] : List (S62)) l0 (l0.length : Int) 0) = some r := h
 clear h
 have H' := Aside0.mk H
 clear H
 go_enter Tryd.func45, Tryd.ntmps45
 go_wp2
 go_loopg [3, 8] k (fun kq v3 v8 w' => ∃ (x3_1 : List (S62)) (x8_1 : Int), v8 = .int .i64 x8_1 ∧ Aside0 (lampblacklaw07_own.l0 kq x3_1 l0 (l0.length : Int) x8_1 = some r) ∧ Aside0 (kq ≤ k) ∧ Aside0 (Kd.R k62 62 w' w.heap.size (fun _ => True) v3 x3_1) ∧ Aside0 (Below w.heap.size w w'))
 case atStart => exact ⟨(([] : List (S62))), (0), (by first | rfl | (simp; done) | (simp [*]; done)), H', ⟨Nat.le_refl _⟩, ⟨by first | exact Kd.R_nil _ _ _ _ _ | exact Kd.N_nil _ _ _ _ _ | exact Kd.V_nil _ _ _ _ _ | exact Kd.Q_nil _ _ _ _ _ | exact Kd.S_nil _ _ _ _ _⟩, ⟨by repeat (first | (with_reducible first | exact HB.out | apply below_alloc | apply pw_below_drewN | apply below_drew1) | exact HB.out)⟩⟩
 case round =>
  clear H'
  obtain ⟨x3_1, x8_1, rfl, HA, HK1, HO_3, HB⟩ := hrel
  cases gk with
  | zero => exact absurd HA.out (by simp [lampblacklaw07_own.l0])
  | succ k1 =>
   have H := HA.out
   clear HA
   simp only [lampblacklaw07_own.l0] at H
   by_cases c2 : x8_1 < (l0.length : Int)
   ·rw [if_pos c2] at H
    have c2b0 : decide (x8_1 < (l0.length : Int)) = true := decide_eq_true c2
    clear c2
    by_cases c3 : 0 ≤ x8_1
    ·rw [if_pos c3] at H
     have c3b0 : decide (0 ≤ x8_1) = true := decide_eq_true c3
     clear c3
     by_cases c4 : x8_1 < (l0.length : Int)
     ·rw [if_pos c4] at H
      have c4b0 : decide (x8_1 < (l0.length : Int)) = true := decide_eq_true c4
      clear c4
      by_cases c5 : x3_1.length < 4398046511104
      ·rw [if_pos c5] at H
       have LMc5 := Aside0.mk c5
       clear c5
       obtain ⟨y480, hy480⟩ : ∃ y_ : List (S62), y_ = (x3_1 ++ [(⟨(rd_T95 l0 x8_1).f0, (rd_T95 l0 x8_1).f1, (rd_T95 l0 x8_1).f2, (rd_T95 l0 x8_1).f3⟩ : S62)]) := ⟨_, rfl⟩
       replace H : (lampblacklaw07_own.l0 k1 y480 l0 (l0.length : Int) (wrap64 (x8_1 + 1))) = some r := by first | (rw [hy480]; with_reducible exact H) | (have H2_ := (Option.bind_some _ _).symm.trans H; rw [hy480]; with_reducible exact H2_) | (have H2_ := (Option.bind_some _ _).symm.trans H; with_reducible exact H2_) | with_reducible exact H | (rw [hy480]; exact H) | exact H
       have Ny480 := Aside0.mk hy480
       clear hy480
       have H' := Aside0.mk H
       clear H
       have p478 : 0 ≤ (x8_1 : Int) := of_decide_eq_true (by first | (with_reducible assumption) | assumption)
       have q478 : x8_1 < (l0.length : Int) := of_decide_eq_true (by first | (with_reducible assumption) | assumption)
       obtain ⟨ad478, e478, hx478_0, hx478_1, hx478_2, hx478_3⟩ := at_T95 HR0.out x8_1 p478 q478
       cases e478
       replace hx478_0 := (HB.out.cell (World.block_lt_of_cell? w _ hx478_0)).trans hx478_0
       replace hx478_1 := (HB.out.cell (World.block_lt_of_cell? w _ hx478_1)).trans hx478_1
       replace hx478_2 := (HB.out.cell (World.block_lt_of_cell? w _ hx478_2)).trans hx478_2
       replace hx478_3 := (HB.out.cell (World.block_lt_of_cell? w _ hx478_3)).trans hx478_3
       replace p478 := eq_true p478
       replace q478 := eq_true q478
       go_wp2_with (first | ((with_reducible refine gate_dst (N := 5) rfl ?_); refine box_event ?hg (N := 5) ?hd (cs := #[.int .i64 0, .int .i64 0, .int .i64 0, .int .i64 0]) (t := 95) ?hr ?_; (case hd => rfl); (case hg => rfl); (case hr => first | (go_simp; done) | (go_simp; rfl)); intro gb479 hg w6 hbox hb; have n0_ := Aside0.mk (Kd.R_below (Qro HO_3.out) hb); have n1_ := Aside0.mk (below_step (Qaw) hb); have n2_ := Aside0.mk (hbox); have n3_ := Aside0.mk ((by rw [hg]; exact (below_size (Qaw)) : w.heap.size ≤ gb479)); have n4_ := Aside0.mk ((by rw [hg]; exact (below_size (Qaw)) : w.heap.size ≤ gb479)); clear HO_3; clear HB; have HO_3 := n0_; have HB := n1_; have BK479 := n2_; have GW479 := n3_; have GE479 := n4_; clear n0_ n1_ n2_ n3_ n4_; clear hb hbox hg; have hcz7_0 : w6.cell? ⟨gb479, 0, none⟩ = some (.int .i64 0) := (blk_cell BK479.out 0).trans rfl; have hcz7_1 : w6.cell? ⟨gb479, 1, none⟩ = some (.int .i64 0) := (blk_cell BK479.out 1).trans rfl; have hcz7_2 : w6.cell? ⟨gb479, 2, none⟩ = some (.int .i64 0) := (blk_cell BK479.out 2).trans rfl; have hcz7_3 : w6.cell? ⟨gb479, 3, none⟩ = some (.int .i64 0) := (blk_cell BK479.out 3).trans rfl; have hfz7_0 := blk_frozen BK479.out 0; have hfz7_1 := blk_frozen BK479.out 1; have hfz7_2 := blk_frozen BK479.out 2; have hfz7_3 := blk_frozen BK479.out 3) | ((with_reducible refine gate_builtin (b := .append) (xs := #[.tmp 12, .tmp 22]) rfl ?_); at_builtin; refine Kd.R_append k62 (w0 := w) w.heap.size rfl (.tmp 12) (.tmp 22) 52 62 (.agg #[(.int .i64 0), (.int .i64 0), (.int .i64 0), (.int .i64 0)]) 32 rfl Tryd.underlying52 info62 rfl (by decide) (by omega) u3 x3_1 (⟨(rd_T95 l0 x8_1).f0, (rd_T95 l0 x8_1).f1, (rd_T95 l0 x8_1).f2, (rd_T95 l0 x8_1).f3⟩ : S62) [.int .i64 ((rd_T95 l0 x8_1).f0), .int .i64 ((rd_T95 l0 x8_1).f1), .int .i64 ((rd_T95 l0 x8_1).f2), .int .i64 ((rd_T95 l0 x8_1).f3)] (fun _ => True) (fun _ => False) rfl (by first | (go_simp; done) | (go_simp; rfl)) ?aP (fun _ hk => hk.elim) ?aF ?aO ?aB ?aS ?aL ?_; (case aP => exact k62_mkM _ _ _ (⟨(rd_T95 l0 x8_1).f0, (rd_T95 l0 x8_1).f1, (rd_T95 l0 x8_1).f2, (rd_T95 l0 x8_1).f3⟩ : S62)); (case aB => exact (by repeat (first | (with_reducible first | exact HB.out | apply below_alloc | apply pw_below_drewN | apply below_drew1 | refine below_set ?_ GE479.out) | exact HB.out))); (case aF => exact (fun _ _ => trivial)); (case aO => exact (by (with_reducible repeat (first | apply Kd.R_alloc | apply Kd.R_drewN | apply Kd.R_drew)); exact Kd.R_mono (Kd.R_far (p := ⟨gb479, 3, none⟩) (Kd.R_far (p := ⟨gb479, 2, none⟩) (Kd.R_far (p := ⟨gb479, 1, none⟩) (Kd.R_far (p := ⟨gb479, 0, none⟩) (Kd.R_types HO_3.out BK479.out (by decide)) (fun _ hk => hk.2) (.int .i64 ((rd_T95 l0 x8_1).f0))) (fun _ hk => hk.2) (.int .i64 ((rd_T95 l0 x8_1).f1))) (fun _ hk => hk.2) (.int .i64 ((rd_T95 l0 x8_1).f2))) (fun _ hk => hk.2) (.int .i64 ((rd_T95 l0 x8_1).f3))) (fun _ hk => trivial))); (case aS => exact (below_size (by repeat (first | (with_reducible first | exact HB.out | apply below_alloc | apply pw_below_drewN | apply below_drew1 | refine below_set ?_ GE479.out) | exact HB.out)))); (case aL => have := LMc5.out; omega); intro v481 w8 ho hb hg hat; rw [← Ny480.out] at ho; have n0_ := Aside0.mk (blk_grown (g := gb479) (o := .cells #[.int .i64 ((rd_T95 l0 x8_1).f0), .int .i64 ((rd_T95 l0 x8_1).f1), .int .i64 ((rd_T95 l0 x8_1).f2), .int .i64 ((rd_T95 l0 x8_1).f3)] 95 (0, 0)) (by (with_reducible repeat (first | refine blk_drewN ?_ _ | refine blk_drew ?_ | refine blk_alloc ?_ _)); refine blk_put (cs := #[.int .i64 ((rd_T95 l0 x8_1).f0), .int .i64 ((rd_T95 l0 x8_1).f1), .int .i64 ((rd_T95 l0 x8_1).f2), .int .i64 0]) ?_ 3 _ rfl; (with_reducible repeat (first | refine blk_drewN ?_ _ | refine blk_drew ?_ | refine blk_alloc ?_ _)); refine blk_put (cs := #[.int .i64 ((rd_T95 l0 x8_1).f0), .int .i64 ((rd_T95 l0 x8_1).f1), .int .i64 0, .int .i64 0]) ?_ 2 _ rfl; (with_reducible repeat (first | refine blk_drewN ?_ _ | refine blk_drew ?_ | refine blk_alloc ?_ _)); refine blk_put (cs := #[.int .i64 ((rd_T95 l0 x8_1).f0), .int .i64 0, .int .i64 0, .int .i64 0]) ?_ 1 _ rfl; (with_reducible repeat (first | refine blk_drewN ?_ _ | refine blk_drew ?_ | refine blk_alloc ?_ _)); refine blk_put (cs := #[.int .i64 0, .int .i64 0, .int .i64 0, .int .i64 0]) ?_ 0 _ rfl; (with_reducible repeat (first | refine blk_drewN ?_ _ | refine blk_drew ?_ | refine blk_alloc ?_ _)); exact BK479.out) hg (Kd.R_ne HO_3.out BK479.out (by decide))); have n1_ := Aside0.mk (hb); have n2_ := Aside0.mk (ho); clear BK479; clear HB; clear HO_3; have BK479 := n0_; have HB := n1_; have HO482 := n2_; clear n0_ n1_ n2_; clear ho hb hg hat))
       go_roundg k1
       case measure => have := HK1.out; omega
       case rel => exact ⟨(y480), (wrap64 (x8_1 + 1)), (by first | rfl | (simp; done) | (simp [*]; done)), H', ⟨by have := HK1.out; omega⟩, ⟨by (with_reducible repeat (first | apply Kd.R_alloc | apply Kd.R_drewN | apply Kd.R_drew)); exact HO482.out⟩, ⟨by repeat (first | (with_reducible first | exact HB.out | apply below_alloc | apply pw_below_drewN | apply below_drew1 | refine below_set ?_ GE479.out) | exact HB.out)⟩⟩
      ·rw [if_neg c5] at H
       exact absurd H (by simp)
     ·rw [if_neg c4] at H
      exact absurd H (by simp)
    ·rw [if_neg c3] at H
     exact absurd H (by simp)
   ·rw [if_neg c2] at H
    have c2b0 : decide (x8_1 < (l0.length : Int)) = false := decide_eq_false c2
    clear c2
    obtain rfl := Option.some.inj H
    go_wp2
    go_ret
    exact ⟨_, by first | rfl | (simp [errW_none, errW_some] <;> rfl) | (simp [*, errW_none, errW_some] <;> rfl), by (with_reducible repeat (first | apply Kd.R_alloc | apply Kd.R_drewN | apply Kd.R_drew)); exact HO_3.out, by repeat (first | (with_reducible first | exact HB.out | apply below_alloc | apply pw_below_drewN | apply below_drew1) | exact HB.out)⟩
end Go.Proofs.YtjloppfdagfpmaaDoor.X
end
section
namespace Go.Proofs.YtjloppfdagfpmaaDoor.X
open Go.RowKit YtjloppfdagfpmaaDoorW.PrintWords YtjloppfdagfpmaaDoorW.PrintLast YtjloppfdagfpmaaDoorW.PrintMore
attribute [local go_sem] max2_int min2_int max_two min_two max_three min_three max_four min_four
/-! ### lampblacklaw07_steps: function 42 -/
def lampblacklaw07_steps.l0 : Nat → List (S95) → List (S62) → Int → Int → Option ((List (S95)))
 | 0, _, _, _, _ => none
 | k + 1, x3, x6, x7, x8 => if x8 < x7 then (if 0 ≤ x8 then (if x8 < (x6.length : Int) then (if x8 < 12 then (if x3.length < 4398046511104 then (lampblacklaw07_steps.l0 k (x3 ++ [(⟨(rd_T62 x6 x8).f0, (rd_T62 x6 x8).f1, (rd_T62 x6 x8).f2, (rd_T62 x6 x8).f3⟩ : S95)]) x6 x7 (wrap64 (x8 + 1))) else (none)) else (lampblacklaw07_steps.l0 k x3 x6 x7 (wrap64 (x8 + 1)))) else (none)) else (none)) else (some x3)
def lampblacklaw07_steps.f (k : Nat) (l0 : List (S62)) : Option ((List (S95))) := lampblacklaw07_steps.l0 k ([] : List (S95)) l0 (l0.length : Int) 0
set_option maxHeartbeats 8000000 in
set_option maxRecDepth 100000 in
theorem lampblacklaw07_steps.calls (k : Nat) (A0 : Option Addr) (c0 : Nat) (l0 : List (S62)) (r : List (S95)) (w : World) (hr0 : Kd.C k62 w A0 l0.length l0) (hc0 : l0.length ≤ c0) (h : lampblacklaw07_steps.f k l0 = some r) :
  Calls Tryd.prog 42 #[.slice A0 l0.length c0] w fun e w' => ∃ v0_ : Value, e = .returned (v0_) ∧ Kd.R k95 95 w' w.heap.size (fun _ => True) v0_ r ∧ Below w.heap.size w w' := by
 have hu62 := Tryd.underlying62
 have hu95 := Tryd.underlying95
 have HR0 := Aside0.mk hr0
 have HC0 := Aside0.mk hc0
 clear hr0 hc0
 have HB := Aside0.mk (Below.refl w.heap.size w)
 have H : (lampblacklaw07_steps.l0 k ([] : List (S95)) l0 (l0.length : Int) 0) = some r := h
 clear h
 have H' := Aside0.mk H
 clear H
 go_enter Tryd.func42, Tryd.ntmps42
 go_wp2
 go_loopg [3, 8] k (fun kq v3 v8 w' => ∃ (x3_1 : List (S95)) (x8_1 : Int), v8 = .int .i64 x8_1 ∧ Aside0 (lampblacklaw07_steps.l0 kq x3_1 l0 (l0.length : Int) x8_1 = some r) ∧ Aside0 (kq ≤ k) ∧ Aside0 (Kd.R k95 95 w' w.heap.size (fun _ => True) v3 x3_1) ∧ Aside0 (Below w.heap.size w w'))
 case atStart => exact ⟨(([] : List (S95))), (0), (by first | rfl | (simp; done) | (simp [*]; done)), H', ⟨Nat.le_refl _⟩, ⟨by first | exact Kd.R_nil _ _ _ _ _ | exact Kd.N_nil _ _ _ _ _ | exact Kd.V_nil _ _ _ _ _ | exact Kd.Q_nil _ _ _ _ _ | exact Kd.S_nil _ _ _ _ _⟩, ⟨by repeat (first | (with_reducible first | exact HB.out | apply below_alloc | apply pw_below_drewN | apply below_drew1) | exact HB.out)⟩⟩
 case round =>
  clear H'
  obtain ⟨x3_1, x8_1, rfl, HA, HK1, HO_3, HB⟩ := hrel
  cases gk with
  | zero => exact absurd HA.out (by simp [lampblacklaw07_steps.l0])
  | succ k1 =>
   have H := HA.out
   clear HA
   simp only [lampblacklaw07_steps.l0] at H
   by_cases c2 : x8_1 < (l0.length : Int)
   ·rw [if_pos c2] at H
    have c2b0 : decide (x8_1 < (l0.length : Int)) = true := decide_eq_true c2
    clear c2
    by_cases c3 : 0 ≤ x8_1
    ·rw [if_pos c3] at H
     have c3b0 : decide (0 ≤ x8_1) = true := decide_eq_true c3
     clear c3
     by_cases c4 : x8_1 < (l0.length : Int)
     ·rw [if_pos c4] at H
      have c4b0 : decide (x8_1 < (l0.length : Int)) = true := decide_eq_true c4
      clear c4
      by_cases c5 : x8_1 < 12
      ·rw [if_pos c5] at H
       have c5b0 : decide (x8_1 < 12) = true := decide_eq_true c5
       clear c5
       by_cases c6 : x3_1.length < 4398046511104
       ·rw [if_pos c6] at H
        have LMc6 := Aside0.mk c6
        clear c6
        obtain ⟨y449, hy449⟩ : ∃ y_ : List (S95), y_ = (x3_1 ++ [(⟨(rd_T62 l0 x8_1).f0, (rd_T62 l0 x8_1).f1, (rd_T62 l0 x8_1).f2, (rd_T62 l0 x8_1).f3⟩ : S95)]) := ⟨_, rfl⟩
        replace H : (lampblacklaw07_steps.l0 k1 y449 l0 (l0.length : Int) (wrap64 (x8_1 + 1))) = some r := by first | (rw [hy449]; with_reducible exact H) | (have H2_ := (Option.bind_some _ _).symm.trans H; rw [hy449]; with_reducible exact H2_) | (have H2_ := (Option.bind_some _ _).symm.trans H; with_reducible exact H2_) | with_reducible exact H | (rw [hy449]; exact H) | exact H
        have Ny449 := Aside0.mk hy449
        clear hy449
        have H' := Aside0.mk H
        clear H
        have p447 : 0 ≤ (x8_1 : Int) := of_decide_eq_true (by first | (with_reducible assumption) | assumption)
        have q447 : x8_1 < (l0.length : Int) := of_decide_eq_true (by first | (with_reducible assumption) | assumption)
        obtain ⟨ad447, e447, hx447_0, hx447_1, hx447_2, hx447_3⟩ := at_T62 HR0.out x8_1 p447 q447
        cases e447
        replace hx447_0 := (HB.out.cell (World.block_lt_of_cell? w _ hx447_0)).trans hx447_0
        replace hx447_1 := (HB.out.cell (World.block_lt_of_cell? w _ hx447_1)).trans hx447_1
        replace hx447_2 := (HB.out.cell (World.block_lt_of_cell? w _ hx447_2)).trans hx447_2
        replace hx447_3 := (HB.out.cell (World.block_lt_of_cell? w _ hx447_3)).trans hx447_3
        replace p447 := eq_true p447
        replace q447 := eq_true q447
        go_wp2_with (first | ((with_reducible refine gate_dst (N := 5) rfl ?_); refine box_event ?hg (N := 5) ?hd (cs := #[.int .i64 0, .int .i64 0, .int .i64 0, .int .i64 0]) (t := 62) ?hr ?_; (case hd => rfl); (case hg => rfl); (case hr => first | (go_simp; done) | (go_simp; rfl)); intro gb448 hg w7 hbox hb; have n0_ := Aside0.mk (Kd.R_below (Qro HO_3.out) hb); have n1_ := Aside0.mk (below_step (Qaw) hb); have n2_ := Aside0.mk (hbox); have n3_ := Aside0.mk ((by rw [hg]; exact (below_size (Qaw)) : w.heap.size ≤ gb448)); have n4_ := Aside0.mk ((by rw [hg]; exact (below_size (Qaw)) : w.heap.size ≤ gb448)); clear HO_3; clear HB; have HO_3 := n0_; have HB := n1_; have BK448 := n2_; have GW448 := n3_; have GE448 := n4_; clear n0_ n1_ n2_ n3_ n4_; clear hb hbox hg; have hcz8_0 : w7.cell? ⟨gb448, 0, none⟩ = some (.int .i64 0) := (blk_cell BK448.out 0).trans rfl; have hcz8_1 : w7.cell? ⟨gb448, 1, none⟩ = some (.int .i64 0) := (blk_cell BK448.out 1).trans rfl; have hcz8_2 : w7.cell? ⟨gb448, 2, none⟩ = some (.int .i64 0) := (blk_cell BK448.out 2).trans rfl; have hcz8_3 : w7.cell? ⟨gb448, 3, none⟩ = some (.int .i64 0) := (blk_cell BK448.out 3).trans rfl; have hfz8_0 := blk_frozen BK448.out 0; have hfz8_1 := blk_frozen BK448.out 1; have hfz8_2 := blk_frozen BK448.out 2; have hfz8_3 := blk_frozen BK448.out 3) | ((with_reducible refine gate_builtin (b := .append) (xs := #[.tmp 15, .tmp 25]) rfl ?_); at_builtin; refine Kd.R_append k95 (w0 := w) w.heap.size rfl (.tmp 15) (.tmp 25) 53 95 (.agg #[(.int .i64 0), (.int .i64 0), (.int .i64 0), (.int .i64 0)]) 32 rfl Tryd.underlying53 info95 rfl (by decide) (by omega) u3 x3_1 (⟨(rd_T62 l0 x8_1).f0, (rd_T62 l0 x8_1).f1, (rd_T62 l0 x8_1).f2, (rd_T62 l0 x8_1).f3⟩ : S95) [.int .i64 ((rd_T62 l0 x8_1).f0), .int .i64 ((rd_T62 l0 x8_1).f1), .int .i64 ((rd_T62 l0 x8_1).f2), .int .i64 ((rd_T62 l0 x8_1).f3)] (fun _ => True) (fun _ => False) rfl (by first | (go_simp; done) | (go_simp; rfl)) ?aP (fun _ hk => hk.elim) ?aF ?aO ?aB ?aS ?aL ?_; (case aP => exact k95_mkM _ _ _ (⟨(rd_T62 l0 x8_1).f0, (rd_T62 l0 x8_1).f1, (rd_T62 l0 x8_1).f2, (rd_T62 l0 x8_1).f3⟩ : S95)); (case aB => exact (by repeat (first | (with_reducible first | exact HB.out | apply below_alloc | apply pw_below_drewN | apply below_drew1 | refine below_set ?_ GE448.out) | exact HB.out))); (case aF => exact (fun _ _ => trivial)); (case aO => exact (by (with_reducible repeat (first | apply Kd.R_alloc | apply Kd.R_drewN | apply Kd.R_drew)); exact Kd.R_mono (Kd.R_far (p := ⟨gb448, 3, none⟩) (Kd.R_far (p := ⟨gb448, 2, none⟩) (Kd.R_far (p := ⟨gb448, 1, none⟩) (Kd.R_far (p := ⟨gb448, 0, none⟩) (Kd.R_types HO_3.out BK448.out (by decide)) (fun _ hk => hk.2) (.int .i64 ((rd_T62 l0 x8_1).f0))) (fun _ hk => hk.2) (.int .i64 ((rd_T62 l0 x8_1).f1))) (fun _ hk => hk.2) (.int .i64 ((rd_T62 l0 x8_1).f2))) (fun _ hk => hk.2) (.int .i64 ((rd_T62 l0 x8_1).f3))) (fun _ hk => trivial))); (case aS => exact (below_size (by repeat (first | (with_reducible first | exact HB.out | apply below_alloc | apply pw_below_drewN | apply below_drew1 | refine below_set ?_ GE448.out) | exact HB.out)))); (case aL => have := LMc6.out; omega); intro v450 w9 ho hb hg hat; rw [← Ny449.out] at ho; have n0_ := Aside0.mk (blk_grown (g := gb448) (o := .cells #[.int .i64 ((rd_T62 l0 x8_1).f0), .int .i64 ((rd_T62 l0 x8_1).f1), .int .i64 ((rd_T62 l0 x8_1).f2), .int .i64 ((rd_T62 l0 x8_1).f3)] 62 (0, 0)) (by (with_reducible repeat (first | refine blk_drewN ?_ _ | refine blk_drew ?_ | refine blk_alloc ?_ _)); refine blk_put (cs := #[.int .i64 ((rd_T62 l0 x8_1).f0), .int .i64 ((rd_T62 l0 x8_1).f1), .int .i64 ((rd_T62 l0 x8_1).f2), .int .i64 0]) ?_ 3 _ rfl; (with_reducible repeat (first | refine blk_drewN ?_ _ | refine blk_drew ?_ | refine blk_alloc ?_ _)); refine blk_put (cs := #[.int .i64 ((rd_T62 l0 x8_1).f0), .int .i64 ((rd_T62 l0 x8_1).f1), .int .i64 0, .int .i64 0]) ?_ 2 _ rfl; (with_reducible repeat (first | refine blk_drewN ?_ _ | refine blk_drew ?_ | refine blk_alloc ?_ _)); refine blk_put (cs := #[.int .i64 ((rd_T62 l0 x8_1).f0), .int .i64 0, .int .i64 0, .int .i64 0]) ?_ 1 _ rfl; (with_reducible repeat (first | refine blk_drewN ?_ _ | refine blk_drew ?_ | refine blk_alloc ?_ _)); refine blk_put (cs := #[.int .i64 0, .int .i64 0, .int .i64 0, .int .i64 0]) ?_ 0 _ rfl; (with_reducible repeat (first | refine blk_drewN ?_ _ | refine blk_drew ?_ | refine blk_alloc ?_ _)); exact BK448.out) hg (Kd.R_ne HO_3.out BK448.out (by decide))); have n1_ := Aside0.mk (hb); have n2_ := Aside0.mk (ho); clear BK448; clear HB; clear HO_3; have BK448 := n0_; have HB := n1_; have HO451 := n2_; clear n0_ n1_ n2_; clear ho hb hg hat))
        go_roundg k1
        case measure => have := HK1.out; omega
        case rel => exact ⟨(y449), (wrap64 (x8_1 + 1)), (by first | rfl | (simp; done) | (simp [*]; done)), H', ⟨by have := HK1.out; omega⟩, ⟨by (with_reducible repeat (first | apply Kd.R_alloc | apply Kd.R_drewN | apply Kd.R_drew)); exact HO451.out⟩, ⟨by repeat (first | (with_reducible first | exact HB.out | apply below_alloc | apply pw_below_drewN | apply below_drew1 | refine below_set ?_ GE448.out) | exact HB.out)⟩⟩
       ·rw [if_neg c6] at H
        exact absurd H (by simp)
      ·rw [if_neg c5] at H
       have c5b0 : decide (x8_1 < 12) = false := decide_eq_false c5
       clear c5
       have H' := Aside0.mk H
       clear H
       have p447 : 0 ≤ (x8_1 : Int) := of_decide_eq_true (by first | (with_reducible assumption) | assumption)
       have q447 : x8_1 < (l0.length : Int) := of_decide_eq_true (by first | (with_reducible assumption) | assumption)
       obtain ⟨ad447, e447, hx447_0, hx447_1, hx447_2, hx447_3⟩ := at_T62 HR0.out x8_1 p447 q447
       cases e447
       replace hx447_0 := (HB.out.cell (World.block_lt_of_cell? w _ hx447_0)).trans hx447_0
       replace hx447_1 := (HB.out.cell (World.block_lt_of_cell? w _ hx447_1)).trans hx447_1
       replace hx447_2 := (HB.out.cell (World.block_lt_of_cell? w _ hx447_2)).trans hx447_2
       replace hx447_3 := (HB.out.cell (World.block_lt_of_cell? w _ hx447_3)).trans hx447_3
       replace p447 := eq_true p447
       replace q447 := eq_true q447
       go_wp2_with (first | ((with_reducible refine gate_dst (N := 5) rfl ?_); refine box_event ?hg (N := 5) ?hd (cs := #[.int .i64 0, .int .i64 0, .int .i64 0, .int .i64 0]) (t := 62) ?hr ?_; (case hd => rfl); (case hg => rfl); (case hr => first | (go_simp; done) | (go_simp; rfl)); intro gb448 hg w10 hbox hb; have n0_ := Aside0.mk (Kd.R_below (Qro HO_3.out) hb); have n1_ := Aside0.mk (below_step (Qaw) hb); have n2_ := Aside0.mk (hbox); have n3_ := Aside0.mk ((by rw [hg]; exact (below_size (Qaw)) : w.heap.size ≤ gb448)); have n4_ := Aside0.mk ((by rw [hg]; exact (below_size (Qaw)) : w.heap.size ≤ gb448)); clear HO_3; clear HB; have HO_3 := n0_; have HB := n1_; have BK448 := n2_; have GW448 := n3_; have GE448 := n4_; clear n0_ n1_ n2_ n3_ n4_; clear hb hbox hg; have hcz11_0 : w10.cell? ⟨gb448, 0, none⟩ = some (.int .i64 0) := (blk_cell BK448.out 0).trans rfl; have hcz11_1 : w10.cell? ⟨gb448, 1, none⟩ = some (.int .i64 0) := (blk_cell BK448.out 1).trans rfl; have hcz11_2 : w10.cell? ⟨gb448, 2, none⟩ = some (.int .i64 0) := (blk_cell BK448.out 2).trans rfl; have hcz11_3 : w10.cell? ⟨gb448, 3, none⟩ = some (.int .i64 0) := (blk_cell BK448.out 3).trans rfl; have hfz11_0 := blk_frozen BK448.out 0; have hfz11_1 := blk_frozen BK448.out 1; have hfz11_2 := blk_frozen BK448.out 2; have hfz11_3 := blk_frozen BK448.out 3))
       go_roundg k1
       case measure => have := HK1.out; omega
       case rel => exact ⟨(x3_1), (wrap64 (x8_1 + 1)), (by first | rfl | (simp; done) | (simp [*]; done)), H', ⟨by have := HK1.out; omega⟩, ⟨by (with_reducible repeat (first | apply Kd.R_alloc | apply Kd.R_drewN | apply Kd.R_drew)); exact Kd.R_mono (Kd.R_far (p := ⟨gb448, 3, none⟩) (Kd.R_far (p := ⟨gb448, 2, none⟩) (Kd.R_far (p := ⟨gb448, 1, none⟩) (Kd.R_far (p := ⟨gb448, 0, none⟩) (Kd.R_types HO_3.out BK448.out (by decide)) (fun _ hk => hk.2) (.int .i64 ((rd_T62 l0 x8_1).f0))) (fun _ hk => hk.2) (.int .i64 ((rd_T62 l0 x8_1).f1))) (fun _ hk => hk.2) (.int .i64 ((rd_T62 l0 x8_1).f2))) (fun _ hk => hk.2) (.int .i64 ((rd_T62 l0 x8_1).f3))) (fun _ hk => trivial)⟩, ⟨by repeat (first | (with_reducible first | exact HB.out | apply below_alloc | apply pw_below_drewN | apply below_drew1 | refine below_set ?_ GE448.out) | exact HB.out)⟩⟩
     ·rw [if_neg c4] at H
      exact absurd H (by simp)
    ·rw [if_neg c3] at H
     exact absurd H (by simp)
   ·rw [if_neg c2] at H
    have c2b0 : decide (x8_1 < (l0.length : Int)) = false := decide_eq_false c2
    clear c2
    obtain rfl := Option.some.inj H
    go_wp2
    go_ret
    exact ⟨_, by first | rfl | (simp [errW_none, errW_some] <;> rfl) | (simp [*, errW_none, errW_some] <;> rfl), by (with_reducible repeat (first | apply Kd.R_alloc | apply Kd.R_drewN | apply Kd.R_drew)); exact HO_3.out, by repeat (first | (with_reducible first | exact HB.out | apply below_alloc | apply pw_below_drewN | apply below_drew1) | exact HB.out)⟩
end Go.Proofs.YtjloppfdagfpmaaDoor.X
end
section
namespace Go.Proofs.YtjloppfdagfpmaaDoor.X
open Go.RowKit YtjloppfdagfpmaaDoorW.PrintWords YtjloppfdagfpmaaDoorW.PrintLast YtjloppfdagfpmaaDoorW.PrintMore
attribute [local go_sem] max2_int min2_int max_two min_two max_three min_three max_four min_four
/-! ### lampblackref07_reduced: function 81 -/
mutual
def lampblackref07_reduced.j0 : Nat → List Int → Int → Int → Bool → Int → Int → Int → Int → Option (Int × Int × Int × Int × List Int × Bool)
 | 0, _, _, _, _, _, _, _, _ => none
 | k + 1, x0, x1, x2, x30, x456000, x456001, x456002, x456003 => if x30 = true then (some (0, 0, 0, 0, x0, false)) else (lampblackref07_reduced.l0 k x0 x1 x2 (x0.length : Int) 0 x456000 x456001 x456002 x456003)
def lampblackref07_reduced.l0 : Nat → List Int → Int → Int → Int → Int → Int → Int → Int → Int → Option (Int × Int × Int × Int × List Int × Bool)
 | 0, _, _, _, _, _, _, _, _, _ => none
 | k + 1, x0, x1, x2, x34, x35, x456000, x456001, x456002, x456003 => if x35 < x34 then (if 0 ≤ x2 then (if x2 < (x0.length : Int) then (if 0 ≤ x35 then (if (Go.bits .and .i64 (shr .i64 (Go.bits .and .i64 (rd x0 x2) x1) x35) 1) = 1 then (if x456002 < 0 then (lampblackref07_reduced.l0 k x0 x1 x2 x34 (wrap64 (x35 + 1)) x456000 x456001 x35 x456003) else (lampblackref07_reduced.l0 k x0 x1 x2 x34 (wrap64 (x35 + 1)) x456000 x456001 x456002 x35)) else (lampblackref07_reduced.l0 k x0 x1 x2 x34 (wrap64 (x35 + 1)) x456000 x456001 x456002 x456003)) else (none)) else (none)) else (none)) else ((some (([] : List Int) : List Int)).bind fun y456 => (if y456.length + x0.length < 17592186044416 then ((some (y456 ++ x0 : List Int)).bind fun y459 => (if x456000 = 2 then ((lampblackref07_join.f y459 x456002 x456003).bind fun t462 => (some (x456000, x456001, x456002, x456003, t462, true))) else (some (x456000, x456001, x456002, x456003, y459, true)))) else (none)))
end
def lampblackref07_reduced.f (k : Nat) (l0 : List Int) (a1 : Int) (a2 : Int) : Option (Int × Int × Int × Int × List Int × Bool) := if 0 ≤ a2 then (if a2 < (l0.length : Int) then ((lampblackref02_Size.f k (Go.bits .and .i64 (rd l0 a2) a1)).bind fun t454 => (if (Go.bits .and .i64 (shr .i64 a1 a2) 1) = 0 then (lampblackref07_reduced.j0 k l0 a1 a2 true t454 a2 (-1) (-1)) else (lampblackref07_reduced.j0 k l0 a1 a2 (decide (t454 > 2)) t454 a2 (-1) (-1)))) else (none)) else (none)
set_option maxHeartbeats 8000000 in
set_option maxRecDepth 100000 in
theorem lampblackref07_reduced.calls (k : Nat) (P0_ : Nat → Prop) (A0 : Option Addr) (c0 : Nat) (l0 : List Int) (a1 : Int) (a2 : Int) (r1 : Int) (r2 : Int) (r3 : Int) (r4 : Int) (r5 : List Int) (r6 : Bool) (w : World) (hs0 : Kd.V (Kd.int .i64) 3 w w.heap.size (fun k_ => P0_ k_) (.slice A0 l0.length c0) l0) (h : lampblackref07_reduced.f k l0 a1 a2 = some (r1, r2, r3, r4, r5, r6)) :
  Calls Tryd.prog 81 #[.slice A0 l0.length c0, .int .i64 a1, .int .i64 a2] w fun e w' => ∃ v4_ : Value, e = .returned (.tuple #[.agg #[.int .i64 r1, .int .i64 r2, .int .i64 r3, .int .i64 r4], v4_, .bool r6]) ∧ Kd.V (Kd.int .i64) 3 w' w.heap.size (fun k_ => (P0_ k_ ∨ w.heap.size ≤ k_)) v4_ r5 ∧ Below w.heap.size w w' := by
 have hu62 := Tryd.underlying62
 have HO0 := Aside0.mk (show Kd.V (Kd.int .i64) 3 w w.heap.size (fun k_ => (P0_ k_ ∨ w.heap.size ≤ k_)) (.slice A0 l0.length c0) l0 from Kd.V_mono hs0 (fun k_ hk => .inl hk))
 have HB := Aside0.mk (Below.refl w.heap.size w)
 have H : (if 0 ≤ a2 then (if a2 < (l0.length : Int) then ((lampblackref02_Size.f k (Go.bits .and .i64 (rd l0 a2) a1)).bind fun t454 => (if (Go.bits .and .i64 (shr .i64 a1 a2) 1) = 0 then (lampblackref07_reduced.j0 k l0 a1 a2 true t454 a2 (-1) (-1)) else (lampblackref07_reduced.j0 k l0 a1 a2 (decide (t454 > 2)) t454 a2 (-1) (-1)))) else (none)) else (none)) = some (r1, r2, r3, r4, r5, r6) := h
 clear h
 by_cases c4 : 0 ≤ a2
 ·rw [if_pos c4] at H
  have c4b0 : decide (0 ≤ a2) = true := decide_eq_true c4
  clear c4
  by_cases c5 : a2 < (l0.length : Int)
  ·rw [if_pos c5] at H
   have c5b0 : decide (a2 < (l0.length : Int)) = true := decide_eq_true c5
   clear c5
   replace H := Option.bind_eq_some_iff.mp H
   obtain ⟨t454, A60, H⟩ := H
   replace H : (if (Go.bits .and .i64 (shr .i64 a1 a2) 1) = 0 then (lampblackref07_reduced.j0 k l0 a1 a2 true t454 a2 (-1) (-1)) else (lampblackref07_reduced.j0 k l0 a1 a2 (decide (t454 > 2)) t454 a2 (-1) (-1))) = some (r1, r2, r3, r4, r5, r6) := H
   have A6 := Aside0.mk A60
   clear A60
   have HC7 := Aside0.mk H
   clear H
   go_enter Tryd.func81, Tryd.ntmps81
   go_upto_region 2 with (first | ((with_reducible refine gate_dst (N := 6) rfl ?_); refine box_event ?hg (N := 6) ?hd (cs := #[.int .i64 0, .int .i64 0, .int .i64 0, .int .i64 0]) (t := 62) ?hr ?_; (case hd => rfl); (case hg => rfl); (case hr => first | (go_simp; done) | (go_simp; rfl)); intro gb452 hg w8 hbox hb; have n0_ := Aside0.mk (Kd.V_below (Kd.V_elderB (by (with_reducible repeat (first | apply Kd.V_alloc | apply Kd.V_drewN | apply Kd.V_drew)); exact HO0.out) gb452 (Nat.le_of_eq hg.symm)) hb); have n1_ := Aside0.mk (below_step (Qaw) hb); have n2_ := Aside0.mk (hbox); have n3_ := Aside0.mk ((by rw [hg]; exact (below_size (Qaw)) : w.heap.size ≤ gb452)); have n4_ := Aside0.mk ((by rw [hg]; exact (below_size (Qaw)) : w.heap.size ≤ gb452)); clear HO0; clear HB; have HO0 := n0_; have HB := n1_; have BK452 := n2_; have GW452 := n3_; have GE452 := n4_; clear n0_ n1_ n2_ n3_ n4_; clear hb hbox hg; have p453 : 0 ≤ (a2 : Int) := of_decide_eq_true (by first | (with_reducible assumption) | assumption); have q453 : a2 < (l0.length : Int) := of_decide_eq_true (by first | (with_reducible assumption) | assumption); obtain ⟨ad453, e453, hx453_0⟩ := Kd.at_int (Kd.V_reads' HO0.out).2.2 a2 p453 q453; cases e453; replace p453 := eq_true p453; replace q453 := eq_true q453) | ((with_reducible refine gate_callee (f := 39) rfl ?_); refine goesL_ (some 18) rfl rfl Tryd.func39 (by kernel_rfl) rfl #[.int .i64 (Go.bits .and .i64 (rd l0 a2) a1)] rfl (Qls) ?_; (with_reducible refine (lampblackref02_Size.calls k (Go.bits .and .i64 (rd l0 a2) a1) t454 _ A6.out).mono ?_); rintro e w' ⟨rfl, ⟨nd, rfl⟩⟩; refine ⟨_, rfl, ?_⟩; (try (rw [drewN_self w8]; generalize hq_ : World.drewN w8 _ = w8; have n0_ : Aside0 (Kd.V (Kd.int .i64) 3 w8 w.heap.size (fun k_ => (P0_ k_ ∨ w.heap.size ≤ k_) ∧ k_ ≠ gb452) (.slice (some ad453) l0.length c0) l0) := ⟨by rw [← hq_]; exact (by (with_reducible repeat (first | apply Kd.V_alloc | apply Kd.V_drewN | apply Kd.V_drew)); exact HO0.out)⟩; have n1_ : Aside0 (w8.heap[gb452]? = some (.cells #[.int .i64 0, .int .i64 0, .int .i64 0, .int .i64 0] 62 (0, 0))) := ⟨by rw [← hq_]; exact (by (with_reducible repeat (first | refine blk_drewN ?_ _ | refine blk_drew ?_ | refine blk_alloc ?_ _)); exact BK452.out)⟩; have n2_ : Aside0 (Below w.heap.size w w8) := ⟨by rw [← hq_]; exact (by repeat (first | (with_reducible first | exact HB.out | apply below_alloc | apply pw_below_drewN | apply below_drew1 | refine below_set ?_ GE452.out) | exact HB.out))⟩; clear HO0 BK452 HB hq_; have HO0 := n0_; have BK452 := n1_; have HB := n2_; clear n0_ n1_ n2_))) | ((with_reducible refine gate_dst (N := 9) rfl ?_); refine box_event ?hg (N := 9) ?hd (cs := #[.int .i64 0, .int .i64 0, .int .i64 0, .int .i64 0]) (t := 62) ?hr ?_; (case hd => rfl); (case hg => rfl); (case hr => first | (go_simp; done) | (go_simp; rfl)); intro gb455 hg w9 hbox hb; have n0_ := Aside0.mk (Kd.V_below (Kd.V_elderB (by (with_reducible repeat (first | apply Kd.V_alloc | apply Kd.V_drewN | apply Kd.V_drew)); exact HO0.out) gb455 (Nat.le_of_eq hg.symm)) hb); have n1_ := Aside0.mk (blk_below (g := gb452) (o := .cells #[.int .i64 0, .int .i64 0, .int .i64 0, .int .i64 0] 62 (0, 0)) (by (with_reducible repeat (first | refine blk_drewN ?_ _ | refine blk_drew ?_ | refine blk_alloc ?_ _)); exact BK452.out) hb); have n2_ := Aside0.mk (below_step (by repeat (first | (with_reducible first | exact HB.out | apply below_alloc | apply pw_below_drewN | apply below_drew1 | refine below_set ?_ GE452.out) | exact HB.out)) hb); have n3_ := Aside0.mk (hbox); have n4_ := Aside0.mk ((by rw [hg]; exact (below_size (by repeat (first | (with_reducible first | exact HB.out | apply below_alloc | apply pw_below_drewN | apply below_drew1 | refine below_set ?_ GE452.out) | exact HB.out))) : w.heap.size ≤ gb455)); have n5_ := Aside0.mk ((by rw [hg]; exact (below_size (by repeat (first | (with_reducible first | exact HB.out | apply below_alloc | apply pw_below_drewN | apply below_drew1 | refine below_set ?_ GE452.out) | exact HB.out))) : w.heap.size ≤ gb455)); have n6_ := Aside0.mk ((by rw [hg]; exact Nat.ne_of_lt (blk_lt (g := gb452) (o := .cells #[.int .i64 0, .int .i64 0, .int .i64 0, .int .i64 0] 62 (0, 0)) (by (with_reducible repeat (first | refine blk_drewN ?_ _ | refine blk_drew ?_ | refine blk_alloc ?_ _)); exact BK452.out)) : gb452 ≠ gb455)); have n7_ := Aside0.mk ((by rw [hg]; exact Nat.ne_of_gt (blk_lt (g := gb452) (o := .cells #[.int .i64 0, .int .i64 0, .int .i64 0, .int .i64 0] 62 (0, 0)) (by (with_reducible repeat (first | refine blk_drewN ?_ _ | refine blk_drew ?_ | refine blk_alloc ?_ _)); exact BK452.out)) : gb455 ≠ gb452)); clear HO0; clear BK452; clear HB; have HO0 := n0_; have BK452 := n1_; have HB := n2_; have BK455 := n3_; have GW455 := n4_; have GE455 := n5_; have NB452_455 := n6_; have NB455_452 := n7_; clear n0_ n1_ n2_ n3_ n4_ n5_ n6_ n7_; clear hb hbox hg; have hnb10 := NB455_452.out; have hnc10 := NB452_455.out; have hcz11_0 : w9.cell? ⟨gb455, 0, none⟩ = some (.int .i64 0) := (blk_cell BK455.out 0).trans rfl; have hcz11_1 : w9.cell? ⟨gb455, 1, none⟩ = some (.int .i64 0) := (blk_cell BK455.out 1).trans rfl; have hcz11_2 : w9.cell? ⟨gb455, 2, none⟩ = some (.int .i64 0) := (blk_cell BK455.out 2).trans rfl; have hcz11_3 : w9.cell? ⟨gb455, 3, none⟩ = some (.int .i64 0) := (blk_cell BK455.out 3).trans rfl; have hfz11_0 := blk_frozen BK455.out 0; have hfz11_1 := blk_frozen BK455.out 1; have hfz11_2 := blk_frozen BK455.out 2; have hfz11_3 := blk_frozen BK455.out 3))
   (try simp only [Act.put, List.setIfInBounds_toArray, List.set_cons_zero, List.set_cons_succ])
   go_cut [30] (fun v30 wc => ∃ (kq : Nat) (x30_6 : Bool), v30 = .bool x30_6 ∧ Aside0 (lampblackref07_reduced.j0 kq l0 a1 a2 x30_6 t454 a2 (-1) (-1) = some (r1, r2, r3, r4, r5, r6)) ∧ Aside0 (kq ≤ k) ∧ Aside0 (Kd.V (Kd.int .i64) 3 wc w.heap.size (fun k_ => (P0_ k_ ∨ w.heap.size ≤ k_) ∧ k_ ≠ gb452 ∧ k_ ≠ gb455) (.slice (some ad453) l0.length c0) l0) ∧ Aside0 (wc.heap[gb452]? = some (.cells #[.int .i64 0, .int .i64 0, .int .i64 0, .int .i64 0] 62 (0, 0))) ∧ Aside0 (wc.heap[gb455]? = some (.cells #[.int .i64 t454, .int .i64 a2, .int .i64 (-1), .int .i64 (-1)] 62 (0, 0))) ∧ Aside0 (Below w.heap.size w wc))
   case first =>
    have H := HC7.out
    clear HC7
    have c12b0 := eq_true (of_decide_eq_true (by first | (with_reducible assumption) | assumption) : 0 ≤ a2)
    obtain ⟨ji13, hji13⟩ : ∃ j_ : Int, (shr .i64 a1 a2) = j_ := ⟨_, rfl⟩
    replace H : (if (Go.bits .and .i64 (ji13) 1) = 0 then (lampblackref07_reduced.j0 k l0 a1 a2 true t454 a2 (-1) (-1)) else (lampblackref07_reduced.j0 k l0 a1 a2 (decide (t454 > 2)) t454 a2 (-1) (-1))) = some (r1, r2, r3, r4, r5, r6) := by first | (rw [hji13] at H; exact H) | (simp only [hji13] at H ⊢; exact H)
    have hji13_ : (a1 / 2 ^ min a2.toNat 64) = ji13 := hji13
    have hji13z : a2 ≤ 64 → (a1 / 2 ^ a2.toNat) = ji13 := shr_small hji13
    by_cases c14 : (Go.bits .and .i64 (ji13) 1) = 0
    ·rw [if_pos c14] at H
     have c14b0 : ((Go.bits .and .i64 (ji13) 1) == 0) = true := beq_iff_eq.mpr c14
     have c14b1 : ((Go.bits .and .i64 (ji13) 1) != 0) = false := bne_eq_false_iff_eq.mpr c14
     clear c14
     (first | rw [c14b0] | (simp only [i64_w, i32_w]; rw [c14b0]) | skip)
     have H' := Aside0.mk H
     clear H
     go_wp2
     go_meet
     case rel => exact ⟨_, (true), (by first | rfl | (simp; done) | (simp [*]; done)), H', ⟨by first | omega | exact Nat.le_refl _⟩, ⟨by (with_reducible repeat (first | apply Kd.V_alloc | apply Kd.V_drewN | apply Kd.V_drew)); exact Kd.V_mono (Kd.V_far (p := ⟨gb455, 3, none⟩) (Kd.V_far (p := ⟨gb455, 2, none⟩) (Kd.V_far (p := ⟨gb455, 1, none⟩) (Kd.V_far (p := ⟨gb455, 0, none⟩) (Kd.V_mono HO0.out (fun k_ hk => (⟨hk, hk.2⟩ : _ ∧ k_ ≠ gb455))) (fun _ hk => hk.2) (.int .i64 t454)) (fun _ hk => hk.2) (.int .i64 a2)) (fun _ hk => hk.2) (.int .i64 (-1))) (fun _ hk => hk.2) (.int .i64 (-1))) (fun _ hk => ⟨hk.1.1.1, ⟨hk.1.1.2, hk.1.2⟩⟩)⟩, ⟨by (with_reducible repeat (first | refine blk_drewN ?_ _ | refine blk_drew ?_ | refine blk_alloc ?_ _)); refine blk_far ?_ NB452_455.out _; (with_reducible repeat (first | refine blk_drewN ?_ _ | refine blk_drew ?_ | refine blk_alloc ?_ _)); refine blk_far ?_ NB452_455.out _; (with_reducible repeat (first | refine blk_drewN ?_ _ | refine blk_drew ?_ | refine blk_alloc ?_ _)); refine blk_far ?_ NB452_455.out _; (with_reducible repeat (first | refine blk_drewN ?_ _ | refine blk_drew ?_ | refine blk_alloc ?_ _)); refine blk_far ?_ NB452_455.out _; (with_reducible repeat (first | refine blk_drewN ?_ _ | refine blk_drew ?_ | refine blk_alloc ?_ _)); exact BK452.out⟩, ⟨by (with_reducible repeat (first | refine blk_drewN ?_ _ | refine blk_drew ?_ | refine blk_alloc ?_ _)); refine blk_put (cs := #[.int .i64 t454, .int .i64 a2, .int .i64 (-1), .int .i64 0]) ?_ 3 _ rfl; (with_reducible repeat (first | refine blk_drewN ?_ _ | refine blk_drew ?_ | refine blk_alloc ?_ _)); refine blk_put (cs := #[.int .i64 t454, .int .i64 a2, .int .i64 0, .int .i64 0]) ?_ 2 _ rfl; (with_reducible repeat (first | refine blk_drewN ?_ _ | refine blk_drew ?_ | refine blk_alloc ?_ _)); refine blk_put (cs := #[.int .i64 t454, .int .i64 0, .int .i64 0, .int .i64 0]) ?_ 1 _ rfl; (with_reducible repeat (first | refine blk_drewN ?_ _ | refine blk_drew ?_ | refine blk_alloc ?_ _)); refine blk_put (cs := #[.int .i64 0, .int .i64 0, .int .i64 0, .int .i64 0]) ?_ 0 _ rfl; (with_reducible repeat (first | refine blk_drewN ?_ _ | refine blk_drew ?_ | refine blk_alloc ?_ _)); exact BK455.out⟩, ⟨by repeat (first | (with_reducible first | exact HB.out | apply below_alloc | apply pw_below_drewN | apply below_drew1 | refine below_set ?_ GE452.out | refine below_set ?_ GE455.out) | exact HB.out)⟩⟩
    ·rw [if_neg c14] at H
     have c14b0 : ((Go.bits .and .i64 (ji13) 1) == 0) = false := beq_eq_false_iff_ne.mpr c14
     have c14b1 : ((Go.bits .and .i64 (ji13) 1) != 0) = true := bne_iff_ne.mpr c14
     (first | rw [c14b0] | (simp only [i64_w, i32_w]; rw [c14b0]) | skip)
     have H' := Aside0.mk H
     clear H
     have hnb15 := NB455_452.out
     have hnc15 := NB452_455.out
     have hcz16_0 : w9.cell? ⟨gb455, 0, none⟩ = some (.int .i64 0) := (blk_cell BK455.out 0).trans rfl
     have hcz16_1 : w9.cell? ⟨gb455, 1, none⟩ = some (.int .i64 0) := (blk_cell BK455.out 1).trans rfl
     have hcz16_2 : w9.cell? ⟨gb455, 2, none⟩ = some (.int .i64 0) := (blk_cell BK455.out 2).trans rfl
     have hcz16_3 : w9.cell? ⟨gb455, 3, none⟩ = some (.int .i64 0) := (blk_cell BK455.out 3).trans rfl
     have hfz16_0 := blk_frozen BK455.out 0
     have hfz16_1 := blk_frozen BK455.out 1
     have hfz16_2 := blk_frozen BK455.out 2
     have hfz16_3 := blk_frozen BK455.out 3
     go_wp2
     go_meet
     case rel => exact ⟨_, (decide (t454 > 2)), (by first | rfl | (simp; done) | (simp [*]; done)), H', ⟨by first | omega | exact Nat.le_refl _⟩, ⟨by (with_reducible repeat (first | apply Kd.V_alloc | apply Kd.V_drewN | apply Kd.V_drew)); exact Kd.V_mono (Kd.V_far (p := ⟨gb455, 3, none⟩) (Kd.V_far (p := ⟨gb455, 2, none⟩) (Kd.V_far (p := ⟨gb455, 1, none⟩) (Kd.V_far (p := ⟨gb455, 0, none⟩) (Kd.V_mono HO0.out (fun k_ hk => (⟨hk, hk.2⟩ : _ ∧ k_ ≠ gb455))) (fun _ hk => hk.2) (.int .i64 t454)) (fun _ hk => hk.2) (.int .i64 a2)) (fun _ hk => hk.2) (.int .i64 (-1))) (fun _ hk => hk.2) (.int .i64 (-1))) (fun _ hk => ⟨hk.1.1.1, ⟨hk.1.1.2, hk.1.2⟩⟩)⟩, ⟨by (with_reducible repeat (first | refine blk_drewN ?_ _ | refine blk_drew ?_ | refine blk_alloc ?_ _)); refine blk_far ?_ NB452_455.out _; (with_reducible repeat (first | refine blk_drewN ?_ _ | refine blk_drew ?_ | refine blk_alloc ?_ _)); refine blk_far ?_ NB452_455.out _; (with_reducible repeat (first | refine blk_drewN ?_ _ | refine blk_drew ?_ | refine blk_alloc ?_ _)); refine blk_far ?_ NB452_455.out _; (with_reducible repeat (first | refine blk_drewN ?_ _ | refine blk_drew ?_ | refine blk_alloc ?_ _)); refine blk_far ?_ NB452_455.out _; (with_reducible repeat (first | refine blk_drewN ?_ _ | refine blk_drew ?_ | refine blk_alloc ?_ _)); exact BK452.out⟩, ⟨by (with_reducible repeat (first | refine blk_drewN ?_ _ | refine blk_drew ?_ | refine blk_alloc ?_ _)); refine blk_put (cs := #[.int .i64 t454, .int .i64 a2, .int .i64 (-1), .int .i64 0]) ?_ 3 _ rfl; (with_reducible repeat (first | refine blk_drewN ?_ _ | refine blk_drew ?_ | refine blk_alloc ?_ _)); refine blk_put (cs := #[.int .i64 t454, .int .i64 a2, .int .i64 0, .int .i64 0]) ?_ 2 _ rfl; (with_reducible repeat (first | refine blk_drewN ?_ _ | refine blk_drew ?_ | refine blk_alloc ?_ _)); refine blk_put (cs := #[.int .i64 t454, .int .i64 0, .int .i64 0, .int .i64 0]) ?_ 1 _ rfl; (with_reducible repeat (first | refine blk_drewN ?_ _ | refine blk_drew ?_ | refine blk_alloc ?_ _)); refine blk_put (cs := #[.int .i64 0, .int .i64 0, .int .i64 0, .int .i64 0]) ?_ 0 _ rfl; (with_reducible repeat (first | refine blk_drewN ?_ _ | refine blk_drew ?_ | refine blk_alloc ?_ _)); exact BK455.out⟩, ⟨by repeat (first | (with_reducible first | exact HB.out | apply below_alloc | apply pw_below_drewN | apply below_drew1 | refine below_set ?_ GE452.out | refine below_set ?_ GE455.out) | exact HB.out)⟩⟩
   case rest =>
    clear HC7
    try clear c1
    try clear p2
    try clear c3
    try clear c4
    try clear c4b0
    try clear p4
    try clear q4
    try clear hx4
    try clear c5
    try clear c5b0
    try clear c8
    try clear c10
    try clear c12
    try clear c12b0
    try clear c14
    try clear c14b0
    try clear c14b1
    try clear c15
    try clear hcz11_0
    try clear hcz11_1
    try clear hcz11_2
    try clear hcz11_3
    try clear hcz16_0
    try clear hcz16_1
    try clear hcz16_2
    try clear hcz16_3
    try clear hfz11_0
    try clear hfz11_1
    try clear hfz11_2
    try clear hfz11_3
    try clear hfz16_0
    try clear hfz16_1
    try clear hfz16_2
    try clear hfz16_3
    try clear hx453_0
    try clear p453
    try clear q453
    obtain ⟨kq, x30_6, rfl, HA, HJ6, HO_0, BK452, BK455, HB⟩ := hcut
    cases kq with
    | zero => exact absurd HA.out (by simp [lampblackref07_reduced.j0])
    | succ kj6 =>
     have H := HA.out
     clear HA
     simp only [lampblackref07_reduced.j0] at H
     by_cases c17 : x30_6 = true
     ·subst c17
      have H1 : (some (0, 0, 0, 0, l0, false)) = some (r1, r2, r3, r4, r5, r6) := by rw [if_pos rfl] at H; exact H
      clear H
      have H := H1
      clear H1
      simp only [Option.some.injEq, Prod.mk.injEq] at H
      obtain ⟨rfl, rfl, rfl, rfl, rfl, rfl⟩ := H
      have hnb18 := NB452_455.out
      have hnc18 := NB455_452.out
      have hcz19_0 : wc.cell? ⟨gb452, 0, none⟩ = some (.int .i64 0) := (blk_cell BK452.out 0).trans rfl
      have hcz19_1 : wc.cell? ⟨gb452, 1, none⟩ = some (.int .i64 0) := (blk_cell BK452.out 1).trans rfl
      have hcz19_2 : wc.cell? ⟨gb452, 2, none⟩ = some (.int .i64 0) := (blk_cell BK452.out 2).trans rfl
      have hcz19_3 : wc.cell? ⟨gb452, 3, none⟩ = some (.int .i64 0) := (blk_cell BK452.out 3).trans rfl
      have hfz19_0 := blk_frozen BK452.out 0
      have hfz19_1 := blk_frozen BK452.out 1
      have hfz19_2 := blk_frozen BK452.out 2
      have hfz19_3 := blk_frozen BK452.out 3
      go_wp2
      refine bodyPost_ret (results_ctt rfl _ _ gb452 62 #[.int .i64 0, .int .i64 0, .int .i64 0, .int .i64 0] (0, 0) _ rfl (by (with_reducible repeat (first | refine blk_drewN ?_ _ | refine blk_drew ?_ | refine blk_alloc ?_ _)); refine blk_put (cs := #[.int .i64 0, .int .i64 0, .int .i64 0, .int .i64 0]) ?_ 3 _ rfl; (with_reducible repeat (first | refine blk_drewN ?_ _ | refine blk_drew ?_ | refine blk_alloc ?_ _)); refine blk_put (cs := #[.int .i64 0, .int .i64 0, .int .i64 0, .int .i64 0]) ?_ 2 _ rfl; (with_reducible repeat (first | refine blk_drewN ?_ _ | refine blk_drew ?_ | refine blk_alloc ?_ _)); refine blk_put (cs := #[.int .i64 0, .int .i64 0, .int .i64 0, .int .i64 0]) ?_ 1 _ rfl; (with_reducible repeat (first | refine blk_drewN ?_ _ | refine blk_drew ?_ | refine blk_alloc ?_ _)); refine blk_put (cs := #[.int .i64 0, .int .i64 0, .int .i64 0, .int .i64 0]) ?_ 0 _ rfl; (with_reducible repeat (first | refine blk_drewN ?_ _ | refine blk_drew ?_ | refine blk_alloc ?_ _)); exact BK452.out) Tryd.underlying62 rfl (by kernel_rfl)) rfl ?_
      exact ⟨_, by first | rfl | (simp [errW_none, errW_some] <;> rfl) | (simp [*, errW_none, errW_some] <;> rfl), by (with_reducible repeat (first | apply Kd.V_alloc | apply Kd.V_drewN | apply Kd.V_drew)); exact Kd.V_mono (Kd.V_far (p := ⟨gb452, 3, none⟩) (Kd.V_far (p := ⟨gb452, 2, none⟩) (Kd.V_far (p := ⟨gb452, 1, none⟩) (Kd.V_far (p := ⟨gb452, 0, none⟩) (Kd.V_mono HO_0.out (fun k_ hk => (⟨hk, hk.2.1⟩ : _ ∧ k_ ≠ gb452))) (fun _ hk => hk.2) (.int .i64 0)) (fun _ hk => hk.2) (.int .i64 0)) (fun _ hk => hk.2) (.int .i64 0)) (fun _ hk => hk.2) (.int .i64 0)) (fun _ hk => hk.1.1), by repeat (first | (with_reducible first | exact HB.out | apply below_alloc | apply pw_below_drewN | apply below_drew1 | refine below_set ?_ GE452.out | refine below_set ?_ GE455.out) | exact HB.out)⟩
     ·replace c17 := Bool.eq_false_iff.mpr c17
      subst c17
      have H1 : (lampblackref07_reduced.l0 kj6 l0 a1 a2 (l0.length : Int) 0 t454 a2 (-1) (-1)) = some (r1, r2, r3, r4, r5, r6) := by rw [if_neg (show ¬ (false = true) by decide)] at H; exact H
      clear H
      have H := H1
      clear H1
      have H' := Aside0.mk H
      clear H
      go_wp2
      go_loopg [35] kj6 (fun kq v35 w' => ∃ (x35_2 : Int) (x456002_2 : Int) (x456003_2 : Int), v35 = .int .i64 x35_2 ∧ Aside0 (lampblackref07_reduced.l0 kq l0 a1 a2 (l0.length : Int) x35_2 t454 a2 x456002_2 x456003_2 = some (r1, r2, r3, r4, r5, r6)) ∧ Aside0 (kq ≤ kj6) ∧ Aside0 (Kd.V (Kd.int .i64) 3 w' w.heap.size (fun k_ => (P0_ k_ ∨ w.heap.size ≤ k_) ∧ k_ ≠ gb452 ∧ k_ ≠ gb455) (.slice (some ad453) l0.length c0) l0) ∧ Aside0 (w'.heap[gb452]? = some (.cells #[.int .i64 0, .int .i64 0, .int .i64 0, .int .i64 0] 62 (0, 0))) ∧ Aside0 (w'.heap[gb455]? = some (.cells #[.int .i64 t454, .int .i64 a2, .int .i64 x456002_2, .int .i64 x456003_2] 62 (0, 0))) ∧ Aside0 (Below w.heap.size w w'))
      case atStart => exact ⟨(0), ((-1)), ((-1)), (by first | rfl | (simp; done) | (simp [*]; done)), H', ⟨Nat.le_refl _⟩, ⟨by (with_reducible repeat (first | apply Kd.V_alloc | apply Kd.V_drewN | apply Kd.V_drew)); exact HO_0.out⟩, ⟨by (with_reducible repeat (first | refine blk_drewN ?_ _ | refine blk_drew ?_ | refine blk_alloc ?_ _)); exact BK452.out⟩, ⟨by (with_reducible repeat (first | refine blk_drewN ?_ _ | refine blk_drew ?_ | refine blk_alloc ?_ _)); exact BK455.out⟩, ⟨by repeat (first | (with_reducible first | exact HB.out | apply below_alloc | apply pw_below_drewN | apply below_drew1 | refine below_set ?_ GE452.out | refine below_set ?_ GE455.out) | exact HB.out)⟩⟩
      case round =>
       clear H'
       try clear c1
       try clear p2
       try clear c3
       try clear c4
       try clear c4b0
       try clear p4
       try clear q4
       try clear hx4
       try clear c5
       try clear c5b0
       try clear c8
       try clear c10
       try clear c12
       try clear c12b0
       try clear c14
       try clear c14b0
       try clear c14b1
       try clear c15
       try clear c17
       try clear c18
       try clear hcz11_0
       try clear hcz11_1
       try clear hcz11_2
       try clear hcz11_3
       try clear hcz16_0
       try clear hcz16_1
       try clear hcz16_2
       try clear hcz16_3
       try clear hcz19_0
       try clear hcz19_1
       try clear hcz19_2
       try clear hcz19_3
       try clear hfz11_0
       try clear hfz11_1
       try clear hfz11_2
       try clear hfz11_3
       try clear hfz16_0
       try clear hfz16_1
       try clear hfz16_2
       try clear hfz16_3
       try clear hfz19_0
       try clear hfz19_1
       try clear hfz19_2
       try clear hfz19_3
       try clear hx453_0
       try clear p2
       try clear p4
       try clear p453
       try clear q4
       try clear q453
       obtain ⟨x35_2, x456002_2, x456003_2, rfl, HA, HK2, HO_0, BK452, BK455, HB⟩ := hrel
       cases gk with
       | zero => exact absurd HA.out (by simp [lampblackref07_reduced.l0])
       | succ k2 =>
        have H := HA.out
        clear HA
        simp only [lampblackref07_reduced.l0] at H
        by_cases c20 : x35_2 < (l0.length : Int)
        ·rw [if_pos c20] at H
         have c20b0 : decide (x35_2 < (l0.length : Int)) = true := decide_eq_true c20
         clear c20
         by_cases c21 : 0 ≤ a2
         ·rw [if_pos c21] at H
          have c21b0 : decide (0 ≤ a2) = true := decide_eq_true c21
          clear c21
          by_cases c22 : a2 < (l0.length : Int)
          ·rw [if_pos c22] at H
           have c22b0 : decide (a2 < (l0.length : Int)) = true := decide_eq_true c22
           clear c22
           by_cases c23 : 0 ≤ x35_2
           ·rw [if_pos c23] at H
            have c23b0 := eq_true c23
            have c23b1 : decide (0 ≤ x35_2) = true := decide_eq_true c23
            clear c23
            obtain ⟨ji24, hji24⟩ : ∃ j_ : Int, (shr .i64 (Go.bits .and .i64 (rd l0 a2) a1) x35_2) = j_ := ⟨_, rfl⟩
            replace H : (if (Go.bits .and .i64 (ji24) 1) = 1 then (if x456002_2 < 0 then (lampblackref07_reduced.l0 k2 l0 a1 a2 (l0.length : Int) (wrap64 (x35_2 + 1)) t454 a2 x35_2 x456003_2) else (lampblackref07_reduced.l0 k2 l0 a1 a2 (l0.length : Int) (wrap64 (x35_2 + 1)) t454 a2 x456002_2 x35_2)) else (lampblackref07_reduced.l0 k2 l0 a1 a2 (l0.length : Int) (wrap64 (x35_2 + 1)) t454 a2 x456002_2 x456003_2)) = some (r1, r2, r3, r4, r5, r6) := by first | (rw [hji24] at H; exact H) | (simp only [hji24] at H ⊢; exact H)
            have hji24_ : ((Go.bits .and .i64 (rd l0 a2) a1) / 2 ^ min x35_2.toNat 64) = ji24 := hji24
            have hji24z : x35_2 ≤ 64 → ((Go.bits .and .i64 (rd l0 a2) a1) / 2 ^ x35_2.toNat) = ji24 := shr_small hji24
            by_cases c25 : (Go.bits .and .i64 (ji24) 1) = 1
            ·rw [if_pos c25] at H
             have c25b0 : ((Go.bits .and .i64 (ji24) 1) == 1) = true := beq_iff_eq.mpr c25
             have c25b1 : ((Go.bits .and .i64 (ji24) 1) != 1) = false := bne_eq_false_iff_eq.mpr c25
             clear c25
             by_cases c26 : x456002_2 < 0
             ·rw [if_pos c26] at H
              have c26b0 : decide (x456002_2 < 0) = true := decide_eq_true c26
              clear c26
              have H' := Aside0.mk H
              clear H
              have p463 : 0 ≤ (a2 : Int) := of_decide_eq_true (by first | (with_reducible assumption) | assumption)
              have q463 : a2 < (l0.length : Int) := of_decide_eq_true (by first | (with_reducible assumption) | assumption)
              obtain ⟨ad463, e463, hx463_0⟩ := Kd.at_int (Kd.V_reads' HO_0.out).2.2 a2 p463 q463
              obtain rfl : ad453 = ad463 := (by injection e463)
              replace p463 := eq_true p463
              replace q463 := eq_true q463
              have hnb27 := NB455_452.out
              have hnc27 := NB452_455.out
              have hcz28_0 : wr.cell? ⟨gb455, 0, none⟩ = some (.int .i64 t454) := (blk_cell BK455.out 0).trans rfl
              have hcz28_1 : wr.cell? ⟨gb455, 1, none⟩ = some (.int .i64 a2) := (blk_cell BK455.out 1).trans rfl
              have hcz28_2 : wr.cell? ⟨gb455, 2, none⟩ = some (.int .i64 x456002_2) := (blk_cell BK455.out 2).trans rfl
              have hcz28_3 : wr.cell? ⟨gb455, 3, none⟩ = some (.int .i64 x456003_2) := (blk_cell BK455.out 3).trans rfl
              have hfz28_0 := blk_frozen BK455.out 0
              have hfz28_1 := blk_frozen BK455.out 1
              have hfz28_2 := blk_frozen BK455.out 2
              have hfz28_3 := blk_frozen BK455.out 3
              go_wp2
              go_roundg k2
              case measure => have := HJ6.out; have := HK2.out; omega
              case rel => exact ⟨(wrap64 (x35_2 + 1)), (x35_2), (x456003_2), (by first | rfl | (simp; done) | (simp [*]; done)), H', ⟨by have := HJ6.out; have := HK2.out; omega⟩, ⟨by (with_reducible repeat (first | apply Kd.V_alloc | apply Kd.V_drewN | apply Kd.V_drew)); exact Kd.V_mono (Kd.V_far (p := ⟨gb455, 2, none⟩) (Kd.V_mono HO_0.out (fun k_ hk => (⟨hk, hk.2.2⟩ : _ ∧ k_ ≠ gb455))) (fun _ hk => hk.2) (.int .i64 x35_2)) (fun _ hk => ⟨hk.1.1, ⟨hk.1.2.1, hk.1.2.2⟩⟩)⟩, ⟨by (with_reducible repeat (first | refine blk_drewN ?_ _ | refine blk_drew ?_ | refine blk_alloc ?_ _)); refine blk_far ?_ NB452_455.out _; (with_reducible repeat (first | refine blk_drewN ?_ _ | refine blk_drew ?_ | refine blk_alloc ?_ _)); exact BK452.out⟩, ⟨by (with_reducible repeat (first | refine blk_drewN ?_ _ | refine blk_drew ?_ | refine blk_alloc ?_ _)); refine blk_put (cs := #[.int .i64 t454, .int .i64 a2, .int .i64 x456002_2, .int .i64 x456003_2]) ?_ 2 _ rfl; (with_reducible repeat (first | refine blk_drewN ?_ _ | refine blk_drew ?_ | refine blk_alloc ?_ _)); exact BK455.out⟩, ⟨by repeat (first | (with_reducible first | exact HB.out | apply below_alloc | apply pw_below_drewN | apply below_drew1 | refine below_set ?_ GE452.out | refine below_set ?_ GE455.out) | exact HB.out)⟩⟩
             ·rw [if_neg c26] at H
              have c26b0 : decide (x456002_2 < 0) = false := decide_eq_false c26
              clear c26
              have H' := Aside0.mk H
              clear H
              have p463 : 0 ≤ (a2 : Int) := of_decide_eq_true (by first | (with_reducible assumption) | assumption)
              have q463 : a2 < (l0.length : Int) := of_decide_eq_true (by first | (with_reducible assumption) | assumption)
              obtain ⟨ad463, e463, hx463_0⟩ := Kd.at_int (Kd.V_reads' HO_0.out).2.2 a2 p463 q463
              obtain rfl : ad453 = ad463 := (by injection e463)
              replace p463 := eq_true p463
              replace q463 := eq_true q463
              have hnb29 := NB455_452.out
              have hnc29 := NB452_455.out
              have hcz30_0 : wr.cell? ⟨gb455, 0, none⟩ = some (.int .i64 t454) := (blk_cell BK455.out 0).trans rfl
              have hcz30_1 : wr.cell? ⟨gb455, 1, none⟩ = some (.int .i64 a2) := (blk_cell BK455.out 1).trans rfl
              have hcz30_2 : wr.cell? ⟨gb455, 2, none⟩ = some (.int .i64 x456002_2) := (blk_cell BK455.out 2).trans rfl
              have hcz30_3 : wr.cell? ⟨gb455, 3, none⟩ = some (.int .i64 x456003_2) := (blk_cell BK455.out 3).trans rfl
              have hfz30_0 := blk_frozen BK455.out 0
              have hfz30_1 := blk_frozen BK455.out 1
              have hfz30_2 := blk_frozen BK455.out 2
              have hfz30_3 := blk_frozen BK455.out 3
              go_wp2
              go_roundg k2
              case measure => have := HJ6.out; have := HK2.out; omega
              case rel => exact ⟨(wrap64 (x35_2 + 1)), (x456002_2), (x35_2), (by first | rfl | (simp; done) | (simp [*]; done)), H', ⟨by have := HJ6.out; have := HK2.out; omega⟩, ⟨by (with_reducible repeat (first | apply Kd.V_alloc | apply Kd.V_drewN | apply Kd.V_drew)); exact Kd.V_mono (Kd.V_far (p := ⟨gb455, 3, none⟩) (Kd.V_mono HO_0.out (fun k_ hk => (⟨hk, hk.2.2⟩ : _ ∧ k_ ≠ gb455))) (fun _ hk => hk.2) (.int .i64 x35_2)) (fun _ hk => ⟨hk.1.1, ⟨hk.1.2.1, hk.1.2.2⟩⟩)⟩, ⟨by (with_reducible repeat (first | refine blk_drewN ?_ _ | refine blk_drew ?_ | refine blk_alloc ?_ _)); refine blk_far ?_ NB452_455.out _; (with_reducible repeat (first | refine blk_drewN ?_ _ | refine blk_drew ?_ | refine blk_alloc ?_ _)); exact BK452.out⟩, ⟨by (with_reducible repeat (first | refine blk_drewN ?_ _ | refine blk_drew ?_ | refine blk_alloc ?_ _)); refine blk_put (cs := #[.int .i64 t454, .int .i64 a2, .int .i64 x456002_2, .int .i64 x456003_2]) ?_ 3 _ rfl; (with_reducible repeat (first | refine blk_drewN ?_ _ | refine blk_drew ?_ | refine blk_alloc ?_ _)); exact BK455.out⟩, ⟨by repeat (first | (with_reducible first | exact HB.out | apply below_alloc | apply pw_below_drewN | apply below_drew1 | refine below_set ?_ GE452.out | refine below_set ?_ GE455.out) | exact HB.out)⟩⟩
            ·rw [if_neg c25] at H
             have c25b0 : ((Go.bits .and .i64 (ji24) 1) == 1) = false := beq_eq_false_iff_ne.mpr c25
             have c25b1 : ((Go.bits .and .i64 (ji24) 1) != 1) = true := bne_iff_ne.mpr c25
             have H' := Aside0.mk H
             clear H
             have p463 : 0 ≤ (a2 : Int) := of_decide_eq_true (by first | (with_reducible assumption) | assumption)
             have q463 : a2 < (l0.length : Int) := of_decide_eq_true (by first | (with_reducible assumption) | assumption)
             obtain ⟨ad463, e463, hx463_0⟩ := Kd.at_int (Kd.V_reads' HO_0.out).2.2 a2 p463 q463
             obtain rfl : ad453 = ad463 := (by injection e463)
             replace p463 := eq_true p463
             replace q463 := eq_true q463
             go_wp2
             go_roundg k2
             case measure => have := HJ6.out; have := HK2.out; omega
             case rel => exact ⟨(wrap64 (x35_2 + 1)), (x456002_2), (x456003_2), (by first | rfl | (simp; done) | (simp [*]; done)), H', ⟨by have := HJ6.out; have := HK2.out; omega⟩, ⟨by (with_reducible repeat (first | apply Kd.V_alloc | apply Kd.V_drewN | apply Kd.V_drew)); exact HO_0.out⟩, ⟨by (with_reducible repeat (first | refine blk_drewN ?_ _ | refine blk_drew ?_ | refine blk_alloc ?_ _)); exact BK452.out⟩, ⟨by (with_reducible repeat (first | refine blk_drewN ?_ _ | refine blk_drew ?_ | refine blk_alloc ?_ _)); exact BK455.out⟩, ⟨by repeat (first | (with_reducible first | exact HB.out | apply below_alloc | apply pw_below_drewN | apply below_drew1 | refine below_set ?_ GE452.out | refine below_set ?_ GE455.out) | exact HB.out)⟩⟩
           ·rw [if_neg c23] at H
            exact absurd H (by simp)
          ·rw [if_neg c22] at H
           exact absurd H (by simp)
         ·rw [if_neg c21] at H
          exact absurd H (by simp)
        ·rw [if_neg c20] at H
         have c20b0 : decide (x35_2 < (l0.length : Int)) = false := decide_eq_false c20
         clear c20
         obtain ⟨y456, hy456⟩ : ∃ y_ : List Int, y_ = (([] : List Int)) := ⟨_, rfl⟩
         replace H : (if y456.length + l0.length < 17592186044416 then ((some (y456 ++ l0 : List Int)).bind fun y459 => (if t454 = 2 then ((lampblackref07_join.f y459 x456002_2 x456003_2).bind fun t462 => (some (t454, a2, x456002_2, x456003_2, t462, true))) else (some (t454, a2, x456002_2, x456003_2, y459, true)))) else (none)) = some (r1, r2, r3, r4, r5, r6) := by first | (rw [hy456]; with_reducible exact H) | (have H2_ := (Option.bind_some _ _).symm.trans H; rw [hy456]; with_reducible exact H2_) | (have H2_ := (Option.bind_some _ _).symm.trans H; with_reducible exact H2_) | with_reducible exact H | (rw [hy456]; exact H) | exact H
         have Ny456 := Aside0.mk hy456
         clear hy456
         by_cases c31 : y456.length + l0.length < 17592186044416
         ·rw [if_pos c31] at H
          have LMc31 := Aside0.mk c31
          clear c31
          obtain ⟨y459, hy459⟩ : ∃ y_ : List Int, y_ = (y456 ++ l0) := ⟨_, rfl⟩
          replace H : (if t454 = 2 then ((lampblackref07_join.f y459 x456002_2 x456003_2).bind fun t462 => (some (t454, a2, x456002_2, x456003_2, t462, true))) else (some (t454, a2, x456002_2, x456003_2, y459, true))) = some (r1, r2, r3, r4, r5, r6) := by first | (rw [hy459]; with_reducible exact H) | (have H2_ := (Option.bind_some _ _).symm.trans H; rw [hy459]; with_reducible exact H2_) | (have H2_ := (Option.bind_some _ _).symm.trans H; with_reducible exact H2_) | with_reducible exact H | (rw [hy459]; exact H) | exact H
          have Ny459 := Aside0.mk hy459
          clear hy459
          by_cases c32 : t454 = 2
          ·rw [if_pos c32] at H
           have c32b0 : (t454 == 2) = true := beq_iff_eq.mpr c32
           have c32b1 : (t454 != 2) = false := bne_eq_false_iff_eq.mpr c32
           clear c32
           replace H := Option.bind_eq_some_iff.mp H
           obtain ⟨t462, A330, H⟩ := H
           replace H : (some (t454, a2, x456002_2, x456003_2, t462, true)) = some (r1, r2, r3, r4, r5, r6) := H
           have A33 := Aside0.mk A330
           clear A330
           simp only [Option.some.injEq, Prod.mk.injEq] at H
           obtain ⟨rfl, rfl, rfl, rfl, rfl, rfl⟩ := H
           go_wp2_with (first | ((with_reducible refine gate_dst (N := 56) rfl ?_); refine Kd.R_lit (Kd.int .i64) _ 3 ?hg (N := 56) ?hd (xs := ([] : List Int)) (inner := []) (ok := fun _ => True) (okp := fun _ => True) ?hr ?hp (fun _ hk => hk) trivial (Below.refl _ _) (Nat.le_refl _) (by simp) ?_; (case hd => rfl); (case hg => rfl); (case hr => first | (go_simp; done) | (go_simp; rfl)); (case hp => exact (Reps.none _ _)); intro v457 w34 ho35 hb hg_ hnew_; clear hg_ hnew_; (first | rw [← Ny456.out] at ho35 | (simp only [Int.reduceToNat] at ho35; rw [← Ny456.out] at ho35)); have n0_ := Aside0.mk (Kd.V_elder' (by (with_reducible repeat (first | apply Kd.V_alloc | apply Kd.V_drewN | apply Kd.V_drew)); exact HO_0.out) (Kd.R_base ho35) hb); have n1_ := Aside0.mk (Kd.R_lower (Kd.R_newM (M := fun k_ => (w.heap.size ≤ k_)) ho35 (below_size (by repeat (first | (with_reducible first | exact HB.out | apply below_alloc | apply pw_below_drewN | apply below_drew1 | refine below_set ?_ GE452.out | refine below_set ?_ GE455.out) | exact HB.out))) (fun k_ h_ => h_)) (below_size (by repeat (first | (with_reducible first | exact HB.out | apply below_alloc | apply pw_below_drewN | apply below_drew1 | refine below_set ?_ GE452.out | refine below_set ?_ GE455.out) | exact HB.out)))); have n2_ := Aside0.mk (blk_below (g := gb452) (o := .cells #[.int .i64 0, .int .i64 0, .int .i64 0, .int .i64 0] 62 (0, 0)) (by (with_reducible repeat (first | refine blk_drewN ?_ _ | refine blk_drew ?_ | refine blk_alloc ?_ _)); exact BK452.out) hb); have n3_ := Aside0.mk (blk_below (g := gb455) (o := .cells #[.int .i64 t454, .int .i64 a2, .int .i64 x456002_2, .int .i64 x456003_2] 62 (0, 0)) (by (with_reducible repeat (first | refine blk_drewN ?_ _ | refine blk_drew ?_ | refine blk_alloc ?_ _)); exact BK455.out) hb); have n4_ := Aside0.mk (below_step (by repeat (first | (with_reducible first | exact HB.out | apply below_alloc | apply pw_below_drewN | apply below_drew1 | refine below_set ?_ GE452.out | refine below_set ?_ GE455.out) | exact HB.out)) hb); clear HO_0; clear BK452; clear BK455; clear HB; have HO_0 := n0_; have HO458 := n1_; have BK452 := n2_; have BK455 := n3_; have HB := n4_; clear n0_ n1_ n2_ n3_ n4_; clear hb ho35) | ((with_reducible refine gate_builtin (b := .append) (xs := #[.tmp 56, .tmp 57]) rfl ?_); at_builtin; refine Kd.R_append_rows (Kd.int .i64) (w0 := w) w.heap.size rfl (.tmp 56) (.tmp 57) 23 3 (.int .i64 0) 8 rfl Tryd.underlying23 info3 rfl (by decide) (by omega) v457 y456 l0 _ _ _ (fun k_ => (w.heap.size ≤ k_)) (fun _ => False) rfl rfl ?aO ?aR (fun _ _ h => h) (fun _ h => h.elim) ?aF ?aB ?aS ?aL ?_; (case aR => exact Qsc (Kd.V_reads' HO_0.out).2.2); (case aB => exact (by repeat (first | (with_reducible first | exact HB.out | apply below_alloc | apply pw_below_drewN | apply below_drew1 | refine below_set ?_ GE452.out | refine below_set ?_ GE455.out) | exact HB.out))); (case aF => exact (fun k_ hk => (Nat.le_trans (below_size (by repeat (first | (with_reducible first | exact HB.out | apply below_alloc | apply pw_below_drewN | apply below_drew1 | refine below_set ?_ GE452.out | refine below_set ?_ GE455.out) | exact HB.out))) hk))); (case aO => exact (by (with_reducible repeat (first | apply Kd.R_alloc | apply Kd.R_drewN | apply Kd.R_drew)); exact Kd.R_mono HO458.out (fun _ hk => hk.1))); (case aS => exact (below_size (by repeat (first | (with_reducible first | exact HB.out | apply below_alloc | apply pw_below_drewN | apply below_drew1 | refine below_set ?_ GE452.out | refine below_set ?_ GE455.out) | exact HB.out)))); (case aL => have := LMc31.out; omega); intro v460 w36 ho hb hg hat; rw [← Ny459.out] at ho; have n0_ := Aside0.mk (Kd.V_afterv (ok := (fun k_ => (P0_ k_ ∨ w.heap.size ≤ k_) ∧ k_ ≠ gb452 ∧ k_ ≠ gb455)) (by (with_reducible repeat (first | apply Kd.V_alloc | apply Kd.V_drewN | apply Kd.V_drew)); exact HO_0.out) hg hat); have n1_ := Aside0.mk (blk_grown (g := gb452) (o := .cells #[.int .i64 0, .int .i64 0, .int .i64 0, .int .i64 0] 62 (0, 0)) (by (with_reducible repeat (first | refine blk_drewN ?_ _ | refine blk_drew ?_ | refine blk_alloc ?_ _)); exact BK452.out) hg (Kd.R_ne HO458.out BK452.out (by decide))); have n2_ := Aside0.mk (blk_grown (g := gb455) (o := .cells #[.int .i64 t454, .int .i64 a2, .int .i64 x456002_2, .int .i64 x456003_2] 62 (0, 0)) (by (with_reducible repeat (first | refine blk_drewN ?_ _ | refine blk_drew ?_ | refine blk_alloc ?_ _)); exact BK455.out) hg (Kd.R_ne HO458.out BK455.out (by decide))); have n3_ := Aside0.mk (hb); have n4_ := Aside0.mk (ho); clear HO_0; clear BK452; clear BK455; clear HB; clear HO458; have HO_0 := n0_; have BK452 := n1_; have BK455 := n2_; have HB := n3_; have HO461 := n4_; clear n0_ n1_ n2_ n3_ n4_; clear ho hb hg hat; have hnb37 := NB455_452.out; have hnc37 := NB452_455.out; have hcz38_0 : w36.cell? ⟨gb455, 0, none⟩ = some (.int .i64 t454) := (blk_cell BK455.out 0).trans rfl; have hcz38_1 : w36.cell? ⟨gb455, 1, none⟩ = some (.int .i64 a2) := (blk_cell BK455.out 1).trans rfl; have hcz38_2 : w36.cell? ⟨gb455, 2, none⟩ = some (.int .i64 x456002_2) := (blk_cell BK455.out 2).trans rfl; have hcz38_3 : w36.cell? ⟨gb455, 3, none⟩ = some (.int .i64 x456003_2) := (blk_cell BK455.out 3).trans rfl; have hfz38_0 := blk_frozen BK455.out 0; have hfz38_1 := blk_frozen BK455.out 1; have hfz38_2 := blk_frozen BK455.out 2; have hfz38_3 := blk_frozen BK455.out 3; obtain ⟨Ao39, co39, eo39⟩ := Kd.R_slice HO461.out; subst eo39) | ((with_reducible refine gate_callee (f := 75) rfl ?_); refine goesL_ (some 67) rfl rfl Tryd.func75 (by kernel_rfl) rfl #[.slice Ao39 y459.length co39, .int .i64 x456002_2, .int .i64 x456003_2] rfl (Qls) ?_; (with_reducible refine (lampblackref07_join.calls (fun k_ => some k_ = (.slice Ao39 y459.length co39 : Value).ownBlock) (.slice Ao39 y459.length co39) y459 x456002_2 x456003_2 t462 w _ ?side1 ?side2 A33.out).mono ?_); (case side1 => repeat (first | (with_reducible first | exact HB.out | apply below_alloc | apply pw_below_drewN | apply below_drew1 | refine below_set ?_ GE452.out | refine below_set ?_ GE455.out) | exact HB.out)); (case side2 => exact Kd.R_tight rfl HO461.out); rintro e w40 ⟨rfl, hy0, hb, hkp⟩; refine ⟨_, rfl, ?_⟩; have n0_ := Aside0.mk (Kd.V_mono (ok' := fun k_ => (P0_ k_ ∨ w.heap.size ≤ k_) ∧ some k_ ≠ (.slice Ao39 y459.length co39 : Value).ownBlock ∧ k_ ≠ gb452 ∧ k_ ≠ gb455) (Kd.V_keptB (HO_0.out) hkp (fun k_ hk_ hs_ => (hk_.2) hs_)) (fun k_ hk_ => ⟨hk_.1.1.1, hk_.1.2, hk_.1.1.2.1, hk_.1.1.2.2⟩)); have n1_ := Aside0.mk (blk_kept (by (with_reducible repeat (first | refine blk_drewN ?_ _ | refine blk_drew ?_ | refine blk_alloc ?_ _)); exact BK452.out) hkp (fun hs_ => (fun e_ => (Kd.R_ne HO461.out BK452.out (by decide)) e_) hs_)); have n2_ := Aside0.mk (blk_kept (by (with_reducible repeat (first | refine blk_drewN ?_ _ | refine blk_drew ?_ | refine blk_alloc ?_ _)); exact BK455.out) hkp (fun hs_ => (fun e_ => (Kd.R_ne HO461.out BK455.out (by decide)) e_) hs_)); have n3_ := Aside0.mk (Kd.R_reok rfl hy0 (fun k_ e_ => HO461.out.1 k_ e_)); have n4_ := Aside0.mk (hb); clear HO_0; clear BK452; clear BK455; clear HO461; clear HB; have HO_0 := n0_; have BK452 := n1_; have BK455 := n2_; have HO461 := n3_; have HB := n4_; clear n0_ n1_ n2_ n3_ n4_; (try clear hb); (try clear hkp); (try clear hy0); have hcz41_0 : w40.cell? ⟨gb455, 0, none⟩ = some (.int .i64 t454) := (blk_cell BK455.out 0).trans rfl; have hcz41_1 : w40.cell? ⟨gb455, 1, none⟩ = some (.int .i64 a2) := (blk_cell BK455.out 1).trans rfl; have hcz41_2 : w40.cell? ⟨gb455, 2, none⟩ = some (.int .i64 x456002_2) := (blk_cell BK455.out 2).trans rfl; have hcz41_3 : w40.cell? ⟨gb455, 3, none⟩ = some (.int .i64 x456003_2) := (blk_cell BK455.out 3).trans rfl; have hfz41_0 := blk_frozen BK455.out 0; have hfz41_1 := blk_frozen BK455.out 1; have hfz41_2 := blk_frozen BK455.out 2; have hfz41_3 := blk_frozen BK455.out 3; have hcz42_0 : w40.cell? ⟨gb452, 0, none⟩ = some (.int .i64 0) := (blk_cell BK452.out 0).trans rfl; have hcz42_1 : w40.cell? ⟨gb452, 1, none⟩ = some (.int .i64 0) := (blk_cell BK452.out 1).trans rfl; have hcz42_2 : w40.cell? ⟨gb452, 2, none⟩ = some (.int .i64 0) := (blk_cell BK452.out 2).trans rfl; have hcz42_3 : w40.cell? ⟨gb452, 3, none⟩ = some (.int .i64 0) := (blk_cell BK452.out 3).trans rfl; have hfz42_0 := blk_frozen BK452.out 0; have hfz42_1 := blk_frozen BK452.out 1; have hfz42_2 := blk_frozen BK452.out 2; have hfz42_3 := blk_frozen BK452.out 3))
           refine bodyPost_ret (results_ctt rfl _ _ gb452 62 #[.int .i64 t454, .int .i64 a2, .int .i64 x456002_2, .int .i64 x456003_2] (0, 0) _ rfl (by (with_reducible repeat (first | refine blk_drewN ?_ _ | refine blk_drew ?_ | refine blk_alloc ?_ _)); refine blk_put (cs := #[.int .i64 t454, .int .i64 a2, .int .i64 x456002_2, .int .i64 0]) ?_ 3 _ rfl; (with_reducible repeat (first | refine blk_drewN ?_ _ | refine blk_drew ?_ | refine blk_alloc ?_ _)); refine blk_put (cs := #[.int .i64 t454, .int .i64 a2, .int .i64 0, .int .i64 0]) ?_ 2 _ rfl; (with_reducible repeat (first | refine blk_drewN ?_ _ | refine blk_drew ?_ | refine blk_alloc ?_ _)); refine blk_put (cs := #[.int .i64 t454, .int .i64 0, .int .i64 0, .int .i64 0]) ?_ 1 _ rfl; (with_reducible repeat (first | refine blk_drewN ?_ _ | refine blk_drew ?_ | refine blk_alloc ?_ _)); refine blk_put (cs := #[.int .i64 0, .int .i64 0, .int .i64 0, .int .i64 0]) ?_ 0 _ rfl; (with_reducible repeat (first | refine blk_drewN ?_ _ | refine blk_drew ?_ | refine blk_alloc ?_ _)); exact BK452.out) Tryd.underlying62 rfl (by kernel_rfl)) rfl ?_
           exact ⟨_, by first | rfl | (simp [errW_none, errW_some] <;> rfl) | (simp [*, errW_none, errW_some] <;> rfl), Kd.V_mono (Kd.R_V (by (with_reducible repeat (first | apply Kd.R_alloc | apply Kd.R_drewN | apply Kd.R_drew)); exact Kd.R_mono (Kd.R_far (p := ⟨gb452, 3, none⟩) (Kd.R_far (p := ⟨gb452, 2, none⟩) (Kd.R_far (p := ⟨gb452, 1, none⟩) (Kd.R_far (p := ⟨gb452, 0, none⟩) (Kd.R_types HO461.out BK452.out (by decide)) (fun _ hk => hk.2) (.int .i64 t454)) (fun _ hk => hk.2) (.int .i64 a2)) (fun _ hk => hk.2) (.int .i64 x456002_2)) (fun _ hk => hk.2) (.int .i64 x456003_2)) (fun _ hk => hk.1))) (fun k_ hk => by first | exact ⟨(.inr (hk.1)), hk.2⟩ | exact (.inr (hk))), by repeat (first | (with_reducible first | exact HB.out | apply below_alloc | apply pw_below_drewN | apply below_drew1 | refine below_set ?_ GE452.out | refine below_set ?_ GE455.out) | exact HB.out)⟩
          ·rw [if_neg c32] at H
           have c32b0 : (t454 == 2) = false := beq_eq_false_iff_ne.mpr c32
           have c32b1 : (t454 != 2) = true := bne_iff_ne.mpr c32
           simp only [Option.some.injEq, Prod.mk.injEq] at H
           obtain ⟨rfl, rfl, rfl, rfl, rfl, rfl⟩ := H
           go_wp2_with (first | ((with_reducible refine gate_dst (N := 56) rfl ?_); refine Kd.R_lit (Kd.int .i64) _ 3 ?hg (N := 56) ?hd (xs := ([] : List Int)) (inner := []) (ok := fun _ => True) (okp := fun _ => True) ?hr ?hp (fun _ hk => hk) trivial (Below.refl _ _) (Nat.le_refl _) (by simp) ?_; (case hd => rfl); (case hg => rfl); (case hr => first | (go_simp; done) | (go_simp; rfl)); (case hp => exact (Reps.none _ _)); intro v457 w43 ho44 hb hg_ hnew_; clear hg_ hnew_; (first | rw [← Ny456.out] at ho44 | (simp only [Int.reduceToNat] at ho44; rw [← Ny456.out] at ho44)); have n0_ := Aside0.mk (Kd.V_elder' (by (with_reducible repeat (first | apply Kd.V_alloc | apply Kd.V_drewN | apply Kd.V_drew)); exact HO_0.out) (Kd.R_base ho44) hb); have n1_ := Aside0.mk (Kd.R_lower (Kd.R_newM (M := fun k_ => (w.heap.size ≤ k_)) ho44 (below_size (by repeat (first | (with_reducible first | exact HB.out | apply below_alloc | apply pw_below_drewN | apply below_drew1 | refine below_set ?_ GE452.out | refine below_set ?_ GE455.out) | exact HB.out))) (fun k_ h_ => h_)) (below_size (by repeat (first | (with_reducible first | exact HB.out | apply below_alloc | apply pw_below_drewN | apply below_drew1 | refine below_set ?_ GE452.out | refine below_set ?_ GE455.out) | exact HB.out)))); have n2_ := Aside0.mk (blk_below (g := gb452) (o := .cells #[.int .i64 0, .int .i64 0, .int .i64 0, .int .i64 0] 62 (0, 0)) (by (with_reducible repeat (first | refine blk_drewN ?_ _ | refine blk_drew ?_ | refine blk_alloc ?_ _)); exact BK452.out) hb); have n3_ := Aside0.mk (blk_below (g := gb455) (o := .cells #[.int .i64 t454, .int .i64 a2, .int .i64 x456002_2, .int .i64 x456003_2] 62 (0, 0)) (by (with_reducible repeat (first | refine blk_drewN ?_ _ | refine blk_drew ?_ | refine blk_alloc ?_ _)); exact BK455.out) hb); have n4_ := Aside0.mk (below_step (by repeat (first | (with_reducible first | exact HB.out | apply below_alloc | apply pw_below_drewN | apply below_drew1 | refine below_set ?_ GE452.out | refine below_set ?_ GE455.out) | exact HB.out)) hb); clear HO_0; clear BK452; clear BK455; clear HB; have HO_0 := n0_; have HO458 := n1_; have BK452 := n2_; have BK455 := n3_; have HB := n4_; clear n0_ n1_ n2_ n3_ n4_; clear hb ho44) | ((with_reducible refine gate_builtin (b := .append) (xs := #[.tmp 56, .tmp 57]) rfl ?_); at_builtin; refine Kd.R_append_rows (Kd.int .i64) (w0 := w) w.heap.size rfl (.tmp 56) (.tmp 57) 23 3 (.int .i64 0) 8 rfl Tryd.underlying23 info3 rfl (by decide) (by omega) v457 y456 l0 _ _ _ (fun k_ => (w.heap.size ≤ k_)) (fun _ => False) rfl rfl ?aO ?aR (fun _ _ h => h) (fun _ h => h.elim) ?aF ?aB ?aS ?aL ?_; (case aR => exact Qsc (Kd.V_reads' HO_0.out).2.2); (case aB => exact (by repeat (first | (with_reducible first | exact HB.out | apply below_alloc | apply pw_below_drewN | apply below_drew1 | refine below_set ?_ GE452.out | refine below_set ?_ GE455.out) | exact HB.out))); (case aF => exact (fun k_ hk => (Nat.le_trans (below_size (by repeat (first | (with_reducible first | exact HB.out | apply below_alloc | apply pw_below_drewN | apply below_drew1 | refine below_set ?_ GE452.out | refine below_set ?_ GE455.out) | exact HB.out))) hk))); (case aO => exact (by (with_reducible repeat (first | apply Kd.R_alloc | apply Kd.R_drewN | apply Kd.R_drew)); exact Kd.R_mono HO458.out (fun _ hk => hk.1))); (case aS => exact (below_size (by repeat (first | (with_reducible first | exact HB.out | apply below_alloc | apply pw_below_drewN | apply below_drew1 | refine below_set ?_ GE452.out | refine below_set ?_ GE455.out) | exact HB.out)))); (case aL => have := LMc31.out; omega); intro v460 w45 ho hb hg hat; rw [← Ny459.out] at ho; have n0_ := Aside0.mk (Kd.V_afterv (ok := (fun k_ => (P0_ k_ ∨ w.heap.size ≤ k_) ∧ k_ ≠ gb452 ∧ k_ ≠ gb455)) (by (with_reducible repeat (first | apply Kd.V_alloc | apply Kd.V_drewN | apply Kd.V_drew)); exact HO_0.out) hg hat); have n1_ := Aside0.mk (blk_grown (g := gb452) (o := .cells #[.int .i64 0, .int .i64 0, .int .i64 0, .int .i64 0] 62 (0, 0)) (by (with_reducible repeat (first | refine blk_drewN ?_ _ | refine blk_drew ?_ | refine blk_alloc ?_ _)); exact BK452.out) hg (Kd.R_ne HO458.out BK452.out (by decide))); have n2_ := Aside0.mk (blk_grown (g := gb455) (o := .cells #[.int .i64 t454, .int .i64 a2, .int .i64 x456002_2, .int .i64 x456003_2] 62 (0, 0)) (by (with_reducible repeat (first | refine blk_drewN ?_ _ | refine blk_drew ?_ | refine blk_alloc ?_ _)); exact BK455.out) hg (Kd.R_ne HO458.out BK455.out (by decide))); have n3_ := Aside0.mk (hb); have n4_ := Aside0.mk (ho); clear HO_0; clear BK452; clear BK455; clear HB; clear HO458; have HO_0 := n0_; have BK452 := n1_; have BK455 := n2_; have HB := n3_; have HO461 := n4_; clear n0_ n1_ n2_ n3_ n4_; clear ho hb hg hat; have hnb46 := NB455_452.out; have hnc46 := NB452_455.out; have hcz47_0 : w45.cell? ⟨gb455, 0, none⟩ = some (.int .i64 t454) := (blk_cell BK455.out 0).trans rfl; have hcz47_1 : w45.cell? ⟨gb455, 1, none⟩ = some (.int .i64 a2) := (blk_cell BK455.out 1).trans rfl; have hcz47_2 : w45.cell? ⟨gb455, 2, none⟩ = some (.int .i64 x456002_2) := (blk_cell BK455.out 2).trans rfl; have hcz47_3 : w45.cell? ⟨gb455, 3, none⟩ = some (.int .i64 x456003_2) := (blk_cell BK455.out 3).trans rfl; have hfz47_0 := blk_frozen BK455.out 0; have hfz47_1 := blk_frozen BK455.out 1; have hfz47_2 := blk_frozen BK455.out 2; have hfz47_3 := blk_frozen BK455.out 3; have hcz48_0 : w45.cell? ⟨gb452, 0, none⟩ = some (.int .i64 0) := (blk_cell BK452.out 0).trans rfl; have hcz48_1 : w45.cell? ⟨gb452, 1, none⟩ = some (.int .i64 0) := (blk_cell BK452.out 1).trans rfl; have hcz48_2 : w45.cell? ⟨gb452, 2, none⟩ = some (.int .i64 0) := (blk_cell BK452.out 2).trans rfl; have hcz48_3 : w45.cell? ⟨gb452, 3, none⟩ = some (.int .i64 0) := (blk_cell BK452.out 3).trans rfl; have hfz48_0 := blk_frozen BK452.out 0; have hfz48_1 := blk_frozen BK452.out 1; have hfz48_2 := blk_frozen BK452.out 2; have hfz48_3 := blk_frozen BK452.out 3))
           refine bodyPost_ret (results_ctt rfl _ _ gb452 62 #[.int .i64 t454, .int .i64 a2, .int .i64 x456002_2, .int .i64 x456003_2] (0, 0) _ rfl (by (with_reducible repeat (first | refine blk_drewN ?_ _ | refine blk_drew ?_ | refine blk_alloc ?_ _)); refine blk_put (cs := #[.int .i64 t454, .int .i64 a2, .int .i64 x456002_2, .int .i64 0]) ?_ 3 _ rfl; (with_reducible repeat (first | refine blk_drewN ?_ _ | refine blk_drew ?_ | refine blk_alloc ?_ _)); refine blk_put (cs := #[.int .i64 t454, .int .i64 a2, .int .i64 0, .int .i64 0]) ?_ 2 _ rfl; (with_reducible repeat (first | refine blk_drewN ?_ _ | refine blk_drew ?_ | refine blk_alloc ?_ _)); refine blk_put (cs := #[.int .i64 t454, .int .i64 0, .int .i64 0, .int .i64 0]) ?_ 1 _ rfl; (with_reducible repeat (first | refine blk_drewN ?_ _ | refine blk_drew ?_ | refine blk_alloc ?_ _)); refine blk_put (cs := #[.int .i64 0, .int .i64 0, .int .i64 0, .int .i64 0]) ?_ 0 _ rfl; (with_reducible repeat (first | refine blk_drewN ?_ _ | refine blk_drew ?_ | refine blk_alloc ?_ _)); exact BK452.out) Tryd.underlying62 rfl (by kernel_rfl)) rfl ?_
           exact ⟨_, by first | rfl | (simp [errW_none, errW_some] <;> rfl) | (simp [*, errW_none, errW_some] <;> rfl), Kd.V_mono (Kd.R_V (by (with_reducible repeat (first | apply Kd.R_alloc | apply Kd.R_drewN | apply Kd.R_drew)); exact Kd.R_mono (Kd.R_far (p := ⟨gb452, 3, none⟩) (Kd.R_far (p := ⟨gb452, 2, none⟩) (Kd.R_far (p := ⟨gb452, 1, none⟩) (Kd.R_far (p := ⟨gb452, 0, none⟩) (Kd.R_types HO461.out BK452.out (by decide)) (fun _ hk => hk.2) (.int .i64 t454)) (fun _ hk => hk.2) (.int .i64 a2)) (fun _ hk => hk.2) (.int .i64 x456002_2)) (fun _ hk => hk.2) (.int .i64 x456003_2)) (fun _ hk => hk.1))) (fun k_ hk => by first | exact ⟨(.inr (hk.1)), hk.2⟩ | exact (.inr (hk))), by repeat (first | (with_reducible first | exact HB.out | apply below_alloc | apply pw_below_drewN | apply below_drew1 | refine below_set ?_ GE452.out | refine below_set ?_ GE455.out) | exact HB.out)⟩
         ·rw [if_neg c31] at H
          exact absurd H (by simp)
  ·rw [if_neg c5] at H
   exact absurd H (by simp)
 ·rw [if_neg c4] at H
  exact absurd H (by simp)
end Go.Proofs.YtjloppfdagfpmaaDoor.X
end
