/- Part 1 of what MinorWidths rests on: contracts of the functions that it reaches, and what they compute, in plain words. -/
import Derived.Test.YtjloppfdagfpmaaDoorZMinorWidths0
set_option linter.unusedVariables false
set_option linter.unusedSimpArgs false
section
/- An order of elimination gives a small cover of what touches pairwise; a complete minor has at most one node more than the width. -/
namespace Go.Proofs.YtjloppfdagfpmaaDoor.T
open Go.RowKit YtjloppfdagfpmaaDoorW.PrintWords YtjloppfdagfpmaaDoorW.PrintLast YtjloppfdagfpmaaDoorW.PrintMore
theorem bram_cover {V : Nat → Prop} {adj : Nat → Nat → Prop} {k : Nat} {S : Nat → Prop} (h : Elim V adj k S) (B : (Nat → Prop) → Prop) (hc : ∀ M, B M → Conn adj M)
  (ht : ∀ M N, B M → B N → ∃ x y, M x ∧ N y ∧ (x = y ∨ adj x y)) : (∀ M, B M → ∃ x, M x ∧ ¬ S x) ∨ ∃ l : List Nat, l.length ≤ k + 1 ∧ ∀ M, B M → ∃ x, x ∈ l ∧ M x := by
 induction h with
 | nil =>
  refine .inl fun M hM => ?_
  obtain ⟨x, hx⟩ := (hc M hM).1
  exact ⟨x, hx, id⟩
 | @snoc S v _ hv hsv ha ih =>
  rcases ih with no | cov
  ·by_cases hex : ∃ M, B M ∧ ∀ x, M x → S x ∨ x = v
   ·obtain ⟨M, hM, hin⟩ := hex
    right
    obtain ⟨l, hl, hm⟩ := ha
    refine ⟨v :: l, by simp; omega, fun N hN => ?_⟩
    by_cases hNv : N v
    ·exact ⟨v, List.mem_cons_self .., hNv⟩
    ·obtain ⟨z, hz, hzS⟩ := no M hM
     have hMv : M v := (hin z hz).resolve_left hzS ▸ hz
     obtain ⟨x, y, hx, hy, hxy⟩ := ht M N hM hN
     have w1 : ∀ z, Con adj M (fun q => q = v) z → z = v ∨ Way adj S v z := by
      intro z hz
      induction hz with
      | base h => exact .inl h
      | @step p q hp hadj hq ihp =>
       rcases ihp with e | hw
       ·subst e; exact .inr (.one hadj)
       ·by_cases e : p = v
        ·subst e; exact .inr (.one hadj)
        ·have hpM : M p := by
          rcases hp.inside with h | h
          ·exact (e h).elim
          ·exact h
         exact .inr (.more hw ((hin p hpM).resolve_right e) hadj)
     have hyv : y ≠ v := fun e => hNv (e ▸ hy)
     have w2 : Way adj S v y := by
      have hx2 := w1 x ((hc M hM).2 v x hMv hx)
      rcases hxy with e | e
      ·subst e; exact hx2.resolve_left hyv
      ·rcases hx2 with e2 | hw
       ·subst e2; exact .one e
       ·by_cases e2 : x = v
        ·subst e2; exact .one e
        ·exact .more hw ((hin x hx).resolve_right e2) e
     obtain ⟨y', hy', hyS⟩ := no N hN
     have w3 : ∀ z, Con adj N (fun q => q = y) z → Way adj S v z ∨ ∃ n, N n ∧ Way adj S v n ∧ ¬ S n := by
      intro z hz
      induction hz with
      | base h => subst h; exact .inl w2
      | @step p q hp hadj hq ihp =>
       rcases ihp with hw | hn
       ·by_cases hs : S p
        ·exact .inl (.more hw hs hadj)
        ·refine .inr ⟨p, ?_, hw, hs⟩
         rcases hp.inside with h | h
         ·rw [h]; exact hy
         ·exact h
       ·exact .inr hn
     have : ∃ n, N n ∧ Way adj S v n ∧ ¬ S n := by
      rcases w3 y' ((hc N hN).2 y y' hy hy') with h | h
      ·exact ⟨y', hy', h, hyS⟩
      ·exact h
     obtain ⟨n, hn, hw, hns⟩ := this
     exact ⟨n, List.mem_cons_of_mem _ (hm n ⟨hw, hns, fun e => hNv (e ▸ hn)⟩), hn⟩
   ·refine .inl fun M hM => ?_
    apply Classical.byContradiction
    intro hn
    refine hex ⟨M, hM, fun x hx => ?_⟩
    apply Classical.byContradiction
    intro hc
    exact hn ⟨x, hx, hc⟩
  ·exact .inr cov
theorem cover_len {M : Nat → Nat → Prop} {l : List Nat} : ∀ k, (∀ i j x, i < k → j < k → M i x → M j x → i = j) → (∀ i, i < k → ∃ x, x ∈ l ∧ M i x) → k ≤ l.length := by
 intro k hd hc
 have hch : ∀ i, ∃ x, i < k → x ∈ l ∧ M i x := fun i => by
  by_cases h : i < k
  ·obtain ⟨x, hx⟩ := hc i h
   exact ⟨x, fun _ => hx⟩
  ·exact ⟨0, fun h' => (h h').elim⟩
 obtain ⟨f, hf⟩ := Classical.axiomOfChoice hch
 have := nodup_le (l := (List.range k).map f) (m := l) ?_ ?_
 ·simpa using this
 ·rw [List.nodup_iff_pairwise_ne, List.pairwise_map]
  have hr := List.nodup_range (n := k)
  rw [List.nodup_iff_pairwise_ne] at hr
  refine List.Pairwise.imp_of_mem ?_ hr
  intro a b ha hb hab e
  have ha := List.mem_range.1 ha
  have hb := List.mem_range.1 hb
  exact hab (hd a b (f a) ha hb (hf a ha).2 (by rw [e]; exact (hf b hb).2))
 ·intro x hx
  obtain ⟨i, hi, rfl⟩ := List.mem_map.1 hx
  exact (hf i (List.mem_range.1 hi)).1
theorem clique_width {V : Nat → Prop} {adj : Nat → Nat → Prop} {k w : Nat} (hE : Elim V adj w V) (h : Mnr V adj k (fun i j => i ≠ j)) : k ≤ w + 1 := by
 obtain ⟨M, h1, h2, h3⟩ := h
 by_cases hk : k = 0
 ·omega
 rcases bram_cover hE (fun N => ∃ i, i < k ∧ N = M i) (by rintro N ⟨i, hi, rfl⟩; exact (h1 i hi).1) (by
  rintro N N' ⟨i, hi, rfl⟩ ⟨j, hj, rfl⟩
  by_cases e : i = j
  ·subst e
   obtain ⟨x, hx⟩ := (h1 i hi).1.1
   exact ⟨x, x, hx, hx, .inl rfl⟩
  ·obtain ⟨x, y, hx, hy, hxy⟩ := h3 i j hi hj e
   exact ⟨x, y, hx, hy, .inr hxy⟩) with no | ⟨l, hl, hc⟩
 ·obtain ⟨x, hx, hn⟩ := no (M 0) ⟨0, by omega, rfl⟩
  exact (hn ((h1 0 (by omega)).2 x hx)).elim
 ·have := cover_len (M := M) (l := l) k h2 fun i hi => hc (M i) ⟨i, hi, rfl⟩
  omega
end Go.Proofs.YtjloppfdagfpmaaDoor.T
end
section
/- Minors of a graph with a node less, or with two neighbours made one; of complete patterns with a node less. -/
namespace Go.Proofs.YtjloppfdagfpmaaDoor.T
open Go.RowKit YtjloppfdagfpmaaDoorW.PrintWords YtjloppfdagfpmaaDoorW.PrintLast YtjloppfdagfpmaaDoorW.PrintMore
theorem mnr_pe {V : Nat → Prop} {adj : Nat → Nat → Prop} {k : Nat} {pe pe' : Nat → Nat → Prop} (hp : ∀ i j, i < k → j < k → pe' i j → pe i j) (h : Mnr V adj k pe) : Mnr V adj k pe' := by
 obtain ⟨M, h1, h2, h3⟩ := h
 exact ⟨M, h1, h2, fun i j hi hj hij => h3 i j hi hj (hp i j hi hj hij)⟩
theorem mnr_len {n : Nat} {adj : Nat → Nat → Prop} {k : Nat} {pe : Nat → Nat → Prop} (h : Mnr (fun x => x < n) adj k pe) : k ≤ n := by
 obtain ⟨M, h1, h2, h3⟩ := h
 have := cover_len (M := M) (l := List.range n) k h2 fun i hi => by
  obtain ⟨x, hx⟩ := (h1 i hi).1.1
  exact ⟨x, List.mem_range.2 ((h1 i hi).2 x hx), hx⟩
 simpa using this
end Go.Proofs.YtjloppfdagfpmaaDoor.T
end
section
namespace Go.Proofs.YtjloppfdagfpmaaDoor.X
open Go.RowKit YtjloppfdagfpmaaDoorW.PrintWords YtjloppfdagfpmaaDoorW.PrintLast YtjloppfdagfpmaaDoorW.PrintMore
attribute [local go_sem] max2_int min2_int max_two min_two max_three min_three max_four min_four
/-! ### lampblacklaw07_has: function 20 -/
def lampblacklaw07_has.f (l0 : List Int) (l1 : List Int) : Option (Bool × Bool) := (lampblacklaw07_Few.f l0).bind fun t164 => ((minor_Model.f t164 l1).bind fun bt167 => (if bt167.2 = 0 then (some ((bt167.2 == 0), true)) else (some ((bt167.2 == 0), (bt167.2 == 4)))))
set_option maxHeartbeats 8000000 in
set_option maxRecDepth 100000 in
theorem lampblacklaw07_has.calls (A0 : Option Addr) (c0 : Nat) (l0 : List Int) (A1 : Option Addr) (c1 : Nat) (l1 : List Int) (r1 : Bool) (r2 : Bool) (w : World) (hGL : GL w) (hr0 : Kd.C (Kd.int .i64) w A0 l0.length l0) (hc0 : l0.length ≤ c0) (hr1 : Kd.C (Kd.int .i64) w A1 l1.length l1) (hc1 : l1.length ≤ c1) (h : lampblacklaw07_has.f l0 l1 = some (r1, r2)) :
  Calls Tryd.prog 20 #[.slice A0 l0.length c0, .slice A1 l1.length c1] w fun e w' => e = .returned (.tuple #[.bool r1, .bool r2]) ∧ Below w.heap.size w w' := by
 have HGL := Aside0.mk hGL
 clear hGL
 have HR0 := Aside0.mk hr0
 have HC0 := Aside0.mk hc0
 clear hr0 hc0
 have HR1 := Aside0.mk hr1
 have HC1 := Aside0.mk hc1
 clear hr1 hc1
 have HB := Aside0.mk (Below.refl w.heap.size w)
 have H : ((lampblacklaw07_Few.f l0).bind fun t164 => ((minor_Model.f t164 l1).bind fun bt167 => (if bt167.2 = 0 then (some ((bt167.2 == 0), true)) else (some ((bt167.2 == 0), (bt167.2 == 4)))))) = some (r1, r2) := h
 clear h
 replace H := Option.bind_eq_some_iff.mp H
 obtain ⟨t164, A30, H⟩ := H
 replace H : ((minor_Model.f t164 l1).bind fun bt167 => (if bt167.2 = 0 then (some ((bt167.2 == 0), true)) else (some ((bt167.2 == 0), (bt167.2 == 4))))) = some (r1, r2) := H
 have A3 := Aside0.mk A30
 clear A30
 replace H := Option.bind_eq_some_iff.mp H
 obtain ⟨⟨t167, t168⟩, A40, H⟩ := H
 replace H : (if t168 = 0 then (some ((t168 == 0), true)) else (some ((t168 == 0), (t168 == 4)))) = some (r1, r2) := H
 have A4 := Aside0.mk A40
 clear A40
 by_cases c5 : t168 = 0
 ·rw [if_pos c5] at H
  have c5b0 : (t168 == 0) = true := beq_iff_eq.mpr c5
  have c5b1 : (t168 != 0) = false := bne_eq_false_iff_eq.mpr c5
  clear c5
  simp only [Option.some.injEq, Prod.mk.injEq] at H
  obtain ⟨rfl, rfl⟩ := H
  go_enter Tryd.func20, Tryd.ntmps20
  go_wp2_with (first | ((with_reducible refine gate_callee (f := 22) rfl ?_); refine goesL_ (some 10) rfl rfl Tryd.func22 (by kernel_rfl) rfl #[.slice A0 l0.length c0] rfl (Qls) ?_; (with_reducible refine (lampblacklaw07_Few.calls _ _ l0 t164 _ ?side1 ?side2 A3.out).mono ?_); (case side1 => exact Qsc HR0.out); (case side2 => exact HC0.out); rintro e w6 ⟨v165, rfl, ho0, hb⟩; refine ⟨_, rfl, ?_⟩; have n0_ := Aside0.mk (Kd.R_lower ho0 (below_size (Qaw))); have n1_ := Aside0.mk (below_step (Qaw) hb); clear HB; have HO166 := n0_; have HB := n1_; clear n0_ n1_; (try clear hb); (try clear hb2); (try clear hk); (try clear hi); (try clear ho0); obtain ⟨Ao7, co7, eo7⟩ := Kd.R_slice HO166.out; subst eo7) | ((with_reducible refine gate_callee (f := 21) rfl ?_); refine goesL_ (some 12) rfl rfl Tryd.func21 (by kernel_rfl) rfl #[.slice Ao7 t164.length co7, .slice A1 l1.length c1] rfl (Qls) ?_; (with_reducible refine (minor_Model.calls (hGL := (Qlg)) _ _ t164 _ _ l1 t167 t168 _ ?side1 ?side2 ?side3 ?side4 A4.out).mono ?_); (case side1 => exact Qsc (Kd.R_reads' HO166.out).2.2); (case side2 => exact (Kd.R_reads' HO166.out).2.1); (case side3 => exact Qsc (Kd.C_below HR1.out HB.out)); (case side4 => exact HC1.out); rintro e w8 ⟨v169, rfl, ho0, hb⟩; refine ⟨_, rfl, ?_⟩; have n0_ := Aside0.mk (Kd.R_elder' (Qro HO166.out) (Kd.R_base ho0) hb); have n1_ := Aside0.mk (Kd.R_lower (Kd.R_new' ho0 (Kd.R_lt (Qro HO166.out))) (below_size (Qaw))); have n2_ := Aside0.mk (below_step (Qaw) hb); clear HO166; clear HB; have HO166 := n0_; have HO170 := n1_; have HB := n2_; clear n0_ n1_ n2_; (try clear hb); (try clear hb2); (try clear hk); (try clear hi); (try clear ho0)))
  go_ret2
  exact ⟨by first | rfl | (simp [errW_none, errW_some] <;> rfl) | (simp [*, errW_none, errW_some] <;> rfl), by repeat (first | (with_reducible first | exact HB.out | apply below_alloc | apply pw_below_drewN | apply below_drew1) | exact HB.out)⟩
 ·rw [if_neg c5] at H
  have c5b0 : (t168 == 0) = false := beq_eq_false_iff_ne.mpr c5
  have c5b1 : (t168 != 0) = true := bne_iff_ne.mpr c5
  simp only [Option.some.injEq, Prod.mk.injEq] at H
  obtain ⟨rfl, rfl⟩ := H
  go_enter Tryd.func20, Tryd.ntmps20
  go_wp2_with (first | ((with_reducible refine gate_callee (f := 22) rfl ?_); refine goesL_ (some 10) rfl rfl Tryd.func22 (by kernel_rfl) rfl #[.slice A0 l0.length c0] rfl (Qls) ?_; (with_reducible refine (lampblacklaw07_Few.calls _ _ l0 t164 _ ?side1 ?side2 A3.out).mono ?_); (case side1 => exact Qsc HR0.out); (case side2 => exact HC0.out); rintro e w9 ⟨v165, rfl, ho0, hb⟩; refine ⟨_, rfl, ?_⟩; have n0_ := Aside0.mk (Kd.R_lower ho0 (below_size (Qaw))); have n1_ := Aside0.mk (below_step (Qaw) hb); clear HB; have HO166 := n0_; have HB := n1_; clear n0_ n1_; (try clear hb); (try clear hb2); (try clear hk); (try clear hi); (try clear ho0); obtain ⟨Ao10, co10, eo10⟩ := Kd.R_slice HO166.out; subst eo10) | ((with_reducible refine gate_callee (f := 21) rfl ?_); refine goesL_ (some 12) rfl rfl Tryd.func21 (by kernel_rfl) rfl #[.slice Ao10 t164.length co10, .slice A1 l1.length c1] rfl (Qls) ?_; (with_reducible refine (minor_Model.calls (hGL := (Qlg)) _ _ t164 _ _ l1 t167 t168 _ ?side1 ?side2 ?side3 ?side4 A4.out).mono ?_); (case side1 => exact Qsc (Kd.R_reads' HO166.out).2.2); (case side2 => exact (Kd.R_reads' HO166.out).2.1); (case side3 => exact Qsc (Kd.C_below HR1.out HB.out)); (case side4 => exact HC1.out); rintro e w11 ⟨v169, rfl, ho0, hb⟩; refine ⟨_, rfl, ?_⟩; have n0_ := Aside0.mk (Kd.R_elder' (Qro HO166.out) (Kd.R_base ho0) hb); have n1_ := Aside0.mk (Kd.R_lower (Kd.R_new' ho0 (Kd.R_lt (Qro HO166.out))) (below_size (Qaw))); have n2_ := Aside0.mk (below_step (Qaw) hb); clear HO166; clear HB; have HO166 := n0_; have HO170 := n1_; have HB := n2_; clear n0_ n1_ n2_; (try clear hb); (try clear hb2); (try clear hk); (try clear hi); (try clear ho0)))
  go_ret2
  exact ⟨by first | rfl | (simp [errW_none, errW_some] <;> rfl) | (simp [*, errW_none, errW_some] <;> rfl), by repeat (first | (with_reducible first | exact HB.out | apply below_alloc | apply pw_below_drewN | apply below_drew1) | exact HB.out)⟩
end Go.Proofs.YtjloppfdagfpmaaDoor.X
end
section
namespace Go.Proofs.YtjloppfdagfpmaaDoor.X
open Go.RowKit YtjloppfdagfpmaaDoorW.PrintWords YtjloppfdagfpmaaDoorW.PrintLast YtjloppfdagfpmaaDoorW.PrintMore
attribute [local go_sem] max2_int min2_int max_two min_two max_three min_three max_four min_four
/-! ### lampblackref07_join: function 75 -/
def lampblackref07_join.f (l0 : List Int) (a1 : Int) (a2 : Int) : Option (List Int) := if 0 ≤ a1 then (if a1 < (l0.length : Int) then (if 0 ≤ a2 then ((some (l0.set (a1 : Int).toNat (Go.bits .or .i64 (rd l0 a1) (shl .i64 1 a2)) : List Int)).bind fun y243 => (if a2 < (l0.length : Int) then (some (y243.set (a2 : Int).toNat (Go.bits .or .i64 (rd y243 a2) (shl .i64 1 a1)))) else (none))) else (none)) else (none)) else (none)
def lampblackref07_join.T0 : Bool × List (List Nat × List Nat) := (true, [([], []), ([], []), ([0, 1], [0, 1]), ([2], [2]), ([], []), ([4], [4]), ([3, 5], [3, 5]), ([0, 1, 0, 1, 2, 3, 4, 5, 6], [0, 1]), ([7, 6, 0, 1, 2, 3, 4, 5, 6], [6, 7])])
def lampblackref07_join.B0 : List Nat := [0, 0, 3, 7, 0, 16, 63, 127, 255]
theorem lampblackref07_join.tab0 : rtab .any (opsOf Tryd.f75 0) = lampblackref07_join.T0 := by kernel_rfl
theorem lampblackref07_join.bits0 : waitsOk lampblackref07_join.T0.2 lampblackref07_join.B0 = true := by kernel_rfl
def lampblackref07_join.T1 : Bool × List (List Nat × List Nat) := (true, [([], []), ([], []), ([0, 1], [0, 1]), ([2], [2]), ([], []), ([4], [4]), ([3, 5], [3, 5]), ([0, 1, 0, 1, 2, 3, 4, 5, 6], [0, 1]), ([7, 6, 0, 1, 2, 3, 4, 5, 6], [6, 7])])
def lampblackref07_join.B1 : List Nat := [0, 0, 3, 7, 0, 16, 63, 127, 255]
theorem lampblackref07_join.tab1 : rtab .any (opsOf Tryd.f75 1) = lampblackref07_join.T1 := by kernel_rfl
theorem lampblackref07_join.bits1 : waitsOk lampblackref07_join.T1.2 lampblackref07_join.B1 = true := by kernel_rfl
set_option maxHeartbeats 8000000 in
set_option maxRecDepth 100000 in
theorem lampblackref07_join.calls (P0_ : Nat → Prop) (u9000_ : Value) (l0 : List Int) (a1 : Int) (a2 : Int) (r : List Int) (w0 w : World) (hB : Below w0.heap.size w0 w) (ho0 : Kd.R (Kd.int .i64) 3 w w0.heap.size P0_ u9000_ l0) (h : lampblackref07_join.f l0 a1 a2 = some r) :
  Calls Tryd.prog 75 #[u9000_, .int .i64 a1, .int .i64 a2] w fun e w' => e = .returned (.tuple #[]) ∧ Kd.R (Kd.int .i64) 3 w' w0.heap.size (fun k_ => (P0_ k_ ∨ w.heap.size ≤ k_)) u9000_ r ∧ Below w0.heap.size w0 w' ∧ Kept w w' (fun k_ => P0_ k_) := by
 have HO0 := Aside0.mk (show Kd.R (Kd.int .i64) 3 w w0.heap.size (fun k_ => (P0_ k_ ∨ w.heap.size ≤ k_)) u9000_ l0 from Kd.R_mono ho0 (fun k_ hk => (.inl hk)))
 have HK := Aside0.mk (Kept.refl w (fun k_ => P0_ k_))
 have HW0 := Aside0.mk hB.size
 have HB := Aside0.mk hB
 clear hB
 have H : (if 0 ≤ a1 then (if a1 < (l0.length : Int) then (if 0 ≤ a2 then ((some (l0.set (a1 : Int).toNat (Go.bits .or .i64 (rd l0 a1) (shl .i64 1 a2)) : List Int)).bind fun y243 => (if a2 < (l0.length : Int) then (some (y243.set (a2 : Int).toNat (Go.bits .or .i64 (rd y243 a2) (shl .i64 1 a1)))) else (none))) else (none)) else (none)) else (none)) = some r := h
 clear h
 by_cases c4 : 0 ≤ a1
 ·rw [if_pos c4] at H
  have c4b0 : decide (0 ≤ a1) = true := decide_eq_true c4
  clear c4
  by_cases c5 : a1 < (l0.length : Int)
  ·rw [if_pos c5] at H
   have c5b0 : decide (a1 < (l0.length : Int)) = true := decide_eq_true c5
   clear c5
   by_cases c6 : 0 ≤ a2
   ·rw [if_pos c6] at H
    have c6b0 := eq_true c6
    have c6b1 : decide (0 ≤ a2) = true := decide_eq_true c6
    clear c6
    obtain ⟨ji7, hji7⟩ : ∃ j_ : Int, (shl .i64 1 a2) = j_ := ⟨_, rfl⟩
    replace H : ((some (l0.set (a1 : Int).toNat (Go.bits .or .i64 (rd l0 a1) (ji7)) : List Int)).bind fun y243 => (if a2 < (l0.length : Int) then (some (y243.set (a2 : Int).toNat (Go.bits .or .i64 (rd y243 a2) (shl .i64 1 a1)))) else (none))) = some r := by first | (rw [hji7] at H; exact H) | (simp only [hji7] at H ⊢; exact H)
    have hji7_ : (IntKind.i64.wrap (1 * 2 ^ min a2.toNat 64)) = ji7 := hji7
    have hji7z : a2 ≤ 64 → (IntKind.i64.wrap (1 * 2 ^ a2.toNat)) = ji7 := shl_small hji7
    have hji7u : (IntKind.i64.wrap (2 ^ min a2.toNat 64)) = ji7 := by have h_ := hji7_; rw [Int.one_mul] at h_; exact h_
    have hji7v : a2 ≤ 64 → (IntKind.i64.wrap (2 ^ a2.toNat)) = ji7 := fun hle_ => by have h_ := hji7z hle_; rw [Int.one_mul] at h_; exact h_
    have hji7y : (wrap64 (1 * 2 ^ min a2.toNat 64)) = ji7 := (i64_w _).symm.trans hji7_
    have hji7x : a2 ≤ 64 → (wrap64 (1 * 2 ^ a2.toNat)) = ji7 := fun h_ => (i64_w _).symm.trans (hji7z h_)
    obtain ⟨y243, hy243⟩ : ∃ y_ : List Int, y_ = (l0.set (a1 : Int).toNat (Go.bits .or .i64 (rd l0 a1) (ji7))) := ⟨_, rfl⟩
    replace H : (if a2 < (l0.length : Int) then (some (y243.set (a2 : Int).toNat (Go.bits .or .i64 (rd y243 a2) (shl .i64 1 a1)))) else (none)) = some r := by first | (rw [hy243]; with_reducible exact H) | (have H2_ := (Option.bind_some _ _).symm.trans H; rw [hy243]; with_reducible exact H2_) | (have H2_ := (Option.bind_some _ _).symm.trans H; with_reducible exact H2_) | with_reducible exact H | (rw [hy243]; exact H) | exact H
    have Ny243 := Aside0.mk hy243
    clear hy243
    by_cases c9 : a2 < (l0.length : Int)
    ·rw [if_pos c9] at H
     have c9b0 : decide (a2 < (l0.length : Int)) = true := decide_eq_true c9
     clear c9
     have c10b0 := eq_true (of_decide_eq_true (by first | (with_reducible assumption) | assumption) : 0 ≤ a1)
     obtain ⟨ji11, hji11⟩ : ∃ j_ : Int, (shl .i64 1 a1) = j_ := ⟨_, rfl⟩
     replace H : (some (y243.set (a2 : Int).toNat (Go.bits .or .i64 (rd y243 a2) (ji11)))) = some r := by first | (rw [hji11] at H; exact H) | (simp only [hji11] at H ⊢; exact H)
     have hji11_ : (IntKind.i64.wrap (1 * 2 ^ min a1.toNat 64)) = ji11 := hji11
     have hji11z : a1 ≤ 64 → (IntKind.i64.wrap (1 * 2 ^ a1.toNat)) = ji11 := shl_small hji11
     have hji11u : (IntKind.i64.wrap (2 ^ min a1.toNat 64)) = ji11 := by have h_ := hji11_; rw [Int.one_mul] at h_; exact h_
     have hji11v : a1 ≤ 64 → (IntKind.i64.wrap (2 ^ a1.toNat)) = ji11 := fun hle_ => by have h_ := hji11z hle_; rw [Int.one_mul] at h_; exact h_
     have hji11y : (wrap64 (1 * 2 ^ min a1.toNat 64)) = ji11 := (i64_w _).symm.trans hji11_
     have hji11x : a1 ≤ 64 → (wrap64 (1 * 2 ^ a1.toNat)) = ji11 := fun h_ => (i64_w _).symm.trans (hji11z h_)
     obtain ⟨y245, hy245⟩ : ∃ y_ : List Int, y_ = (y243.set (a2 : Int).toNat (Go.bits .or .i64 (rd y243 a2) (ji11))) := ⟨_, rfl⟩
     replace H : (some y245) = some r := by first | (rw [hy245]; with_reducible exact H) | (have H2_ := (Option.bind_some _ _).symm.trans H; rw [hy245]; with_reducible exact H2_) | (have H2_ := (Option.bind_some _ _).symm.trans H; with_reducible exact H2_) | with_reducible exact H | (rw [hy245]; exact H) | exact H
     have Ny245 := Aside0.mk hy245
     clear hy245
     obtain rfl := Option.some.inj H
     go_enter Tryd.func75, Tryd.ntmps75
     try go_wp2
     have n0_ := Aside0.mk (Kd.R_drew HO0.out)
     have n1_ := Aside0.mk (Kept.drew HK.out)
     have n2_ := Aside0.mk (below_drew1 HB.out)
     clear HO0
     clear HK
     clear HB
     have HO0 := n0_
     have HK := n1_
     have HB := n2_
     clear n0_ n1_ n2_
     obtain ⟨Ao14, co14, eo14⟩ := Kd.R_slice HO0.out
     (first | subst eo14 | (injection eo14 with f1_ f2_ f3_; have f4_ := f1_.symm; have f5_ := f3_.symm; clear f1_ f2_ f3_; subst f4_; subst f5_))
     have p242 : 0 ≤ (a1 : Int) := of_decide_eq_true (by first | (with_reducible assumption) | assumption)
     have q242 : a1 < (l0.length : Int) := of_decide_eq_true (by first | (with_reducible assumption) | assumption)
     obtain ⟨ad242, e242, hx242_0⟩ := Kd.at_int (Kd.R_reads' HO0.out).2.2 a1 p242 q242
     cases e242
     replace p242 := eq_true p242
     replace q242 := eq_true q242
     have p8 : 0 ≤ (a1 : Int) := of_decide_eq_true (by first | (with_reducible assumption) | assumption)
     have q8 : (a1 : Int) < ((l0.length : Int) : Int) := of_decide_eq_true (by first | (with_reducible assumption) | assumption)
     obtain ⟨go8, co8, eo8, gb8, gl8, cl8, HG8⟩ := Kd.R_form HO0.out (by omega)
     (first | cases eo8 | (injection eo8 with ea_ en_ ec_; (first | subst ea_ | (injection ea_ with ea_; subst ea_)); subst ec_; clear en_))
     have GB8 := Aside0.mk gb8
     have GG8 := Aside0.mk HG8
     clear gb8 gl8 HG8
     have HMgo8 := Aside0.mk (show (P0_ go8 ∨ w.heap.size ≤ go8) from (HO0.out.1 _ rfl))
     (first | simp only [add_plain] at hx242_0 | skip)
     obtain ⟨hx8_0, hf8_0⟩ := Kd.R_celln 0 HO0.out (a1 : Int) p8 q8
     replace p8 := eq_true p8
     replace q8 := eq_true q8
     have HP15 := Kd.R_putn HO0.out (a1 : Int) (Go.bits .or .i64 (rd l0 a1) (ji7))
     rw [← Ny243.out] at HP15
     have HQ15 := Aside0.mk HP15
     clear HP15
     refine start_ (n := 9) (S := fun w' => w'.cell? ⟨go8, (a1).toNat, none⟩ = some (.int .i64 (rd l0 a1))) (ds := [8]) (Qbz 9 0) (by kernel_rfl) rfl rfl (hx242_0) (fun hHeld => ?_); refine with_tabW lampblackref07_join.tab0 lampblackref07_join.bits0 (fun HT_ HW_ => ?_)
     generalize w.drew = w13 at HO0 HK HB GG8 HQ15 hf8_0 hx242_0 hx8_0 hHeld ⊢
     refine pure_ (i := 0) (N := some 6) (v := ?_) (a' := ?_) (Qbz 9 1) rfl rfl (any_of HT_.out (by kernel_rfl)) (fun _ _ _ h => h) (Or.inl ⟨by rfl, ?_⟩) ?_ ?_
     rotate_left
     ·intro w'
      go_simp
      with_reducible rfl
     rotate_left
     ·simp only [Act.put, Qp1, Qp2, Qp3, i64_w, i32_w]
      rfl
     refine pure_ (i := 1) (N := some 7) (v := ?_) (a' := ?_) (Qbz 9 3) rfl rfl (any_of HT_.out (by kernel_rfl)) (fun _ _ _ h => h) (Or.inl ⟨by rfl, ?_⟩) ?_ ?_
     rotate_left
     ·intro w'
      go_simp
      with_reducible rfl
     rotate_left
     ·simp only [Act.put, Qp1, Qp2, Qp3, i64_w, i32_w]
      rfl
     refine pure_ (i := 2) (N := some 8) (v := ?_) (a' := ?_) (Qbz 9 7) rfl rfl (any_of HT_.out (by kernel_rfl)) (fun _ _ _ h => h) (Or.inl ⟨by rfl, ?_⟩) ?_ ?_
     rotate_left
     ·intro w'
      go_simp
      with_reducible rfl
     rotate_left
     ·simp only [Act.put, Qp1, Qp2, Qp3, i64_w, i32_w]
      rfl
     refine pure_ (i := 4) (N := some 10) (v := ?_) (a' := ?_) (Qbz 9 23) rfl rfl (any_of HT_.out (by kernel_rfl)) (fun _ _ _ h => h) (Or.inl ⟨by rfl, ?_⟩) ?_ ?_
     rotate_left
     ·intro w'
      go_simp
      with_reducible rfl
     rotate_left
     ·simp only [Act.put, Qp1, Qp2, Qp3, i64_w, i32_w]
      rfl
     refine pure_ (i := 5) (N := some 11) (v := ?_) (a' := ?_) (Qbz 9 55) rfl rfl (any_of HT_.out (by kernel_rfl)) (fun _ _ _ h => h) (Or.inl ⟨by rfl, ?_⟩) ?_ ?_
     rotate_left
     ·intro w'
      go_simp
      with_reducible rfl
     rotate_left
     ·simp only [Act.put, Qp1, Qp2, Qp3, i64_w, i32_w]
      rfl
     refine take_ (i := 3) (N := some 9) (v := ?_) (a' := ?_) (Qbz 9 63) rfl rfl (take_ofW HT_.out HW_.out (by kernel_rfl)) (fun _ _ _ h => h) (Or.inl ⟨by rfl, ?_⟩) hHeld ?_ ?_
     rotate_left
     ·intro w' s0
      go_simp
      with_reducible rfl
     rotate_left
     ·simp only [Act.put, Qp1, Qp2, Qp3, i64_w, i32_w]
      rfl
     refine pure_ (i := 6) (N := some 12) (v := ?_) (a' := ?_) (Qbz 9 127) rfl rfl (any_of HT_.out (by kernel_rfl)) (fun _ _ _ h => h) (Or.inl ⟨by rfl, ?_⟩) ?_ ?_
     rotate_left
     ·intro w'
      go_simp
      with_reducible rfl
     rotate_left
     ·simp only [Act.put, Qp1, Qp2, Qp3, i64_w, i32_w]
      rfl
     refine pure_ (i := 7) (N := some 13) (v := ?_) (a' := ?_) (Qbz 9 255) rfl rfl (any_of HT_.out (by kernel_rfl)) (fun _ _ _ h => h) (Or.inl ⟨by rfl, ?_⟩) ?_ ?_
     rotate_left
     ·intro w'
      go_simp
      with_reducible rfl
     rotate_left
     ·simp only [Act.put, Qp1, Qp2, Qp3, i64_w, i32_w]
      rfl
     refine last_ (i := 8) (N := none) (Qbz 9 511) rfl rfl (one_of HT_.out (by kernel_rfl)) (by decide) (fun K hK => ?_)
     refine skip_ (w1 := ?_) (by rfl) rfl ?_ ?_
     rotate_left
     ·go_simp
      rfl
     refine hK.out _ _ ?_
     clear hK K
     refine done_ (done_of HT_.out (by kernel_rfl)) ?_
     try go_wp2
     have n0_ : Aside0 (Kd.R (Kd.int .i64) 3 (w13.setCell ⟨go8, (a1 : Int).toNat, none⟩ (.int .i64 (Go.bits .or .i64 (rd l0 a1) (ji7)))) w0.heap.size (fun k_ => (P0_ k_ ∨ w.heap.size ≤ k_)) (.slice (some ⟨go8, 0, none⟩) l0.length co14) y243) := ⟨by (with_reducible repeat (first | apply Kd.R_alloc | apply Kd.R_drewN | apply Kd.R_drew)); exact HQ15.out⟩
     have n1_ : Aside0 (Kept w (w13.setCell ⟨go8, (a1 : Int).toNat, none⟩ (.int .i64 (Go.bits .or .i64 (rd l0 a1) (ji7)))) (fun k_ => P0_ k_)) := ⟨by repeat (first | (with_reducible first | exact HK.out | apply Kept.alloc | apply Kept.drewN | apply Kept.drew | refine Kept.setCell ?_ HMgo8.out _) | exact HK.out)⟩
     have n2_ : Aside0 (Below w0.heap.size w0 (w13.setCell ⟨go8, (a1 : Int).toNat, none⟩ (.int .i64 (Go.bits .or .i64 (rd l0 a1) (ji7))))) := ⟨by repeat (first | (with_reducible first | exact HB.out | apply below_alloc | apply pw_below_drewN | apply below_drew1 | refine below_set ?_ GB8.out) | exact HB.out)⟩
     (try clear HO0)
     (try clear HK)
     (try clear HB)
     generalize (w13.setCell ⟨go8, (a1 : Int).toNat, none⟩ (.int .i64 (Go.bits .or .i64 (rd l0 a1) (ji7)))) = w16 at n0_ n1_ n2_ ⊢
     have HO0 := n0_
     have HK := n1_
     have HB := n2_
     clear n0_ n1_ n2_
     have n0_ := Aside0.mk (Kd.R_drew HO0.out)
     have n1_ := Aside0.mk (Kept.drew HK.out)
     have n2_ := Aside0.mk (below_drew1 HB.out)
     clear HO0
     clear HK
     clear HB
     have HO0 := n0_
     have HK := n1_
     have HB := n2_
     clear n0_ n1_ n2_
     have p244 : 0 ≤ (a2 : Int) := of_decide_eq_true (by first | (with_reducible assumption) | assumption)
     have q244 : a2 < (y243.length : Int) := (by have h_ : (a2 : Int) < ((l0.length : Int) : Int) := of_decide_eq_true (by first | (with_reducible assumption) | assumption); first | (have e_ := (Kd.R_reads' HO0.out).1; omega) | simpa only [Ny243.out, List.length_set] using h_)
     have ql244 : ((a2 : Int) < ((l0.length : Int) : Int)) = True := eq_true (of_decide_eq_true (by first | (with_reducible assumption) | assumption))
     obtain ⟨ad244, e244, hx244_0⟩ := Kd.at_int (Kd.R_reads' HO0.out).2.2 a2 p244 q244
     obtain rfl : (⟨go8, 0, none⟩ : Addr) = ad244 := (by injection e244)
     (first | simp only [add_plain] at hx244_0 | simp only [add_at] at hx244_0 | simp only [Addr.add, Nat.zero_add] at hx244_0 | skip)
     replace p244 := eq_true p244
     replace q244 := eq_true q244
     have p12 : 0 ≤ (a2 : Int) := of_decide_eq_true (by first | (with_reducible assumption) | assumption)
     have q12 : (a2 : Int) < ((l0.length : Int) : Int) := of_decide_eq_true (by first | (with_reducible assumption) | assumption)
     obtain ⟨hx12_0, hf12_0⟩ := Kd.R_celln 0 HO0.out (a2 : Int) p12 q12
     replace p12 := eq_true p12
     replace q12 := eq_true q12
     have HP18 := Kd.R_putn HO0.out (a2 : Int) (Go.bits .or .i64 (rd y243 a2) (ji11))
     rw [← Ny245.out] at HP18
     have HQ18 := Aside0.mk HP18
     clear HP18
     refine start_ (n := 9) (S := fun w' => w'.cell? ⟨go8, (a2).toNat, none⟩ = some (.int .i64 (rd y243 a2))) (ds := [8]) (Qbz 9 0) (by kernel_rfl) rfl rfl (hx244_0) (fun hHeld => ?_); refine with_tabW lampblackref07_join.tab1 lampblackref07_join.bits1 (fun HT_ HW_ => ?_)
     generalize w16.drew = w17 at HO0 HK HB HQ15 HQ18 hf12_0 hx12_0 hx244_0 hHeld ⊢
     refine pure_ (i := 0) (N := some 14) (v := ?_) (a' := ?_) (Qbz 9 1) rfl rfl (any_of HT_.out (by kernel_rfl)) (fun _ _ _ h => h) (Or.inl ⟨by rfl, ?_⟩) ?_ ?_
     rotate_left
     ·intro w'
      go_simp
      with_reducible rfl
     rotate_left
     ·simp only [Act.put, Qp1, Qp2, Qp3, i64_w, i32_w]
      rfl
     refine pure_ (i := 1) (N := some 15) (v := ?_) (a' := ?_) (Qbz 9 3) rfl rfl (any_of HT_.out (by kernel_rfl)) (fun _ _ _ h => h) (Or.inl ⟨by rfl, ?_⟩) ?_ ?_
     rotate_left
     ·intro w'
      go_simp
      with_reducible rfl
     rotate_left
     ·simp only [Act.put, Qp1, Qp2, Qp3, i64_w, i32_w]
      rfl
     refine pure_ (i := 2) (N := some 16) (v := ?_) (a' := ?_) (Qbz 9 7) rfl rfl (any_of HT_.out (by kernel_rfl)) (fun _ _ _ h => h) (Or.inl ⟨by rfl, ?_⟩) ?_ ?_
     rotate_left
     ·intro w'
      go_simp
      with_reducible rfl
     rotate_left
     ·simp only [Act.put, Qp1, Qp2, Qp3, i64_w, i32_w]
      rfl
     refine pure_ (i := 4) (N := some 18) (v := ?_) (a' := ?_) (Qbz 9 23) rfl rfl (any_of HT_.out (by kernel_rfl)) (fun _ _ _ h => h) (Or.inl ⟨by rfl, ?_⟩) ?_ ?_
     rotate_left
     ·intro w'
      go_simp
      with_reducible rfl
     rotate_left
     ·simp only [Act.put, Qp1, Qp2, Qp3, i64_w, i32_w]
      rfl
     refine pure_ (i := 5) (N := some 19) (v := ?_) (a' := ?_) (Qbz 9 55) rfl rfl (any_of HT_.out (by kernel_rfl)) (fun _ _ _ h => h) (Or.inl ⟨by rfl, ?_⟩) ?_ ?_
     rotate_left
     ·intro w'
      go_simp
      with_reducible rfl
     rotate_left
     ·simp only [Act.put, Qp1, Qp2, Qp3, i64_w, i32_w]
      rfl
     refine take_ (i := 3) (N := some 17) (v := ?_) (a' := ?_) (Qbz 9 63) rfl rfl (take_ofW HT_.out HW_.out (by kernel_rfl)) (fun _ _ _ h => h) (Or.inl ⟨by rfl, ?_⟩) hHeld ?_ ?_
     rotate_left
     ·intro w' s0
      go_simp
      with_reducible rfl
     rotate_left
     ·simp only [Act.put, Qp1, Qp2, Qp3, i64_w, i32_w]
      rfl
     refine pure_ (i := 6) (N := some 20) (v := ?_) (a' := ?_) (Qbz 9 127) rfl rfl (any_of HT_.out (by kernel_rfl)) (fun _ _ _ h => h) (Or.inl ⟨by rfl, ?_⟩) ?_ ?_
     rotate_left
     ·intro w'
      go_simp
      with_reducible rfl
     rotate_left
     ·simp only [Act.put, Qp1, Qp2, Qp3, i64_w, i32_w]
      rfl
     refine pure_ (i := 7) (N := some 21) (v := ?_) (a' := ?_) (Qbz 9 255) rfl rfl (any_of HT_.out (by kernel_rfl)) (fun _ _ _ h => h) (Or.inl ⟨by rfl, ?_⟩) ?_ ?_
     rotate_left
     ·intro w'
      go_simp
      with_reducible rfl
     rotate_left
     ·simp only [Act.put, Qp1, Qp2, Qp3, i64_w, i32_w]
      rfl
     refine last_ (i := 8) (N := none) (Qbz 9 511) rfl rfl (one_of HT_.out (by kernel_rfl)) (by decide) (fun K hK => ?_)
     refine skip_ (w1 := ?_) (by rfl) rfl ?_ ?_
     rotate_left
     ·go_simp
      rfl
     refine hK.out _ _ ?_
     clear hK K
     refine done_ (done_of HT_.out (by kernel_rfl)) ?_
     try go_wp2
     first | go_end0 | ((try simp only [Exit.inBlock, Exit.then]); refine bodyPost_ret (results_none rfl _ _ _) rfl ?_)
     exact ⟨by first | rfl | (simp [errW_none, errW_some] <;> rfl) | (simp only [← hji7, ← hji11]; first | rfl | (simp [errW_none, errW_some] <;> rfl)) | (simp [*, errW_none, errW_some] <;> rfl), by (with_reducible repeat (first | apply Kd.R_alloc | apply Kd.R_drewN | apply Kd.R_drew)); exact HQ18.out, by repeat (first | (with_reducible first | exact HB.out | apply below_alloc | apply pw_below_drewN | apply below_drew1 | refine below_set ?_ GB8.out) | exact HB.out), by repeat (first | (with_reducible first | exact HK.out | apply Kept.alloc | apply Kept.drewN | apply Kept.drew | refine Kept.setCell ?_ HMgo8.out _) | exact HK.out)⟩
    ·rw [if_neg c9] at H
     exact absurd H (by simp)
   ·rw [if_neg c6] at H
    exact absurd H (by simp)
  ·rw [if_neg c5] at H
   exact absurd H (by simp)
 ·rw [if_neg c4] at H
  exact absurd H (by simp)
end Go.Proofs.YtjloppfdagfpmaaDoor.X
end
section
namespace Go.Proofs.YtjloppfdagfpmaaDoor.X
open Go.RowKit YtjloppfdagfpmaaDoorW.PrintWords YtjloppfdagfpmaaDoorW.PrintLast YtjloppfdagfpmaaDoorW.PrintMore
attribute [local go_sem] max2_int min2_int max_two min_two max_three min_three max_four min_four
/-! ### lampblackref07_K: function 33 -/
mutual
def lampblackref07_K.l0 : Nat → List Int → Int → Int → Option (List Int)
 | 0, _, _, _ => none
 | k + 1, x3, x8, x9 => if x9 < x8 then (lampblackref07_K.l1 k x3 x9 x8 x9 x9 0) else (some x3)
def lampblackref07_K.l1 : Nat → List Int → Int → Int → Int → Int → Int → Option (List Int)
 | 0, _, _, _, _, _, _ => none
 | k + 1, x3, x4, x8, x9, x12, x13 => if x13 < x12 then ((lampblackref07_join.f x3 x4 x13).bind fun t254 => (lampblackref07_K.l1 k t254 x4 x8 x9 x12 (wrap64 (x13 + 1)))) else (lampblackref07_K.l0 k x3 x8 (wrap64 (x9 + 1)))
end
def lampblackref07_K.f (k : Nat) (a0 : Int) : Option (List Int) := if 0 ≤ a0 then (if (a0 : Int).toNat ≤ 35184372088832 then (lampblackref07_K.l0 k (List.replicate (a0 : Int).toNat 0) a0 0) else (none)) else (none)
theorem lampblackref07_K.mono_l : ∀ k, (∀ y0 y1 y2, LeO (lampblackref07_K.l0 k y0 y1 y2) (lampblackref07_K.l0 (k + 1) y0 y1 y2)) ∧ (∀ y0 y1 y2 y3 y4 y5, LeO (lampblackref07_K.l1 k y0 y1 y2 y3 y4 y5) (lampblackref07_K.l1 (k + 1) y0 y1 y2 y3 y4 y5))
 | 0 => ⟨fun _ _ _ r h => by simp [lampblackref07_K.l0] at h, fun _ _ _ _ _ _ r h => by simp [lampblackref07_K.l1] at h⟩
 | k + 1 => by
  obtain ⟨ih0, ih1⟩ := lampblackref07_K.mono_l k
  refine ⟨?_, ?_⟩
  ·intro y0 y1 y2
   unfold lampblackref07_K.l0
   repeat' first
   | (with_reducible exact ih0 _ _ _)
   | (with_reducible exact ih1 _ _ _ _ _ _)
   | (with_reducible exact LeO.refl _)
   | (with_reducible exact LeO.none _)
   | (with_reducible refine LeO.ite ?_ ?_)
   | (with_reducible refine LeO.bind ?_ (fun _ => ?_))
   | exact ih0 _ _ _
   | exact ih1 _ _ _ _ _ _
   | exact LeO.none _
   | refine LeO.ite ?_ ?_
   | refine LeO.bind ?_ (fun _ => ?_)
  ·intro y0 y1 y2 y3 y4 y5
   unfold lampblackref07_K.l1
   repeat' first
   | (with_reducible exact ih0 _ _ _)
   | (with_reducible exact ih1 _ _ _ _ _ _)
   | (with_reducible exact LeO.refl _)
   | (with_reducible exact LeO.none _)
   | (with_reducible refine LeO.ite ?_ ?_)
   | (with_reducible refine LeO.bind ?_ (fun _ => ?_))
   | exact ih0 _ _ _
   | exact ih1 _ _ _ _ _ _
   | exact LeO.none _
   | refine LeO.ite ?_ ?_
   | refine LeO.bind ?_ (fun _ => ?_)
theorem lampblackref07_K.mono : ∀ a0 k, LeO (lampblackref07_K.f k a0) (lampblackref07_K.f (k + 1) a0) := by
 intro a0 k
 obtain ⟨ih0, ih1⟩ := lampblackref07_K.mono_l k
 unfold lampblackref07_K.f
 repeat' first
   | (with_reducible exact ih0 _ _ _)
   | (with_reducible exact ih1 _ _ _ _ _ _)
   | (with_reducible exact LeO.refl _)
   | (with_reducible exact LeO.none _)
   | (with_reducible refine LeO.ite ?_ ?_)
   | (with_reducible refine LeO.bind ?_ (fun _ => ?_))
   | exact ih0 _ _ _
   | exact ih1 _ _ _ _ _ _
   | exact LeO.none _
   | refine LeO.ite ?_ ?_
   | refine LeO.bind ?_ (fun _ => ?_)
set_option maxHeartbeats 8000000 in
set_option maxRecDepth 100000 in
theorem lampblackref07_K.calls (k : Nat) (a0 : Int) (r : List Int) (w : World) (h : lampblackref07_K.f k a0 = some r) :
  Calls Tryd.prog 33 #[.int .i64 a0] w fun e w' => ∃ v0_ : Value, e = .returned (v0_) ∧ Kd.R (Kd.int .i64) 3 w' w.heap.size (fun _ => True) v0_ r ∧ Below w.heap.size w w' := by
 have HB := Aside0.mk (Below.refl w.heap.size w)
 have H : (if 0 ≤ a0 then (if (a0 : Int).toNat ≤ 35184372088832 then (lampblackref07_K.l0 k (List.replicate (a0 : Int).toNat 0) a0 0) else (none)) else (none)) = some r := h
 clear h
 by_cases c2 : 0 ≤ a0
 ·rw [if_pos c2] at H
  have c2b0 := eq_true c2
  have c2b1 : decide (0 ≤ a0) = true := decide_eq_true c2
  clear c2
  by_cases c3 : (a0 : Int).toNat ≤ 35184372088832
  ·rw [if_pos c3] at H
   have c3b0 := eq_true c3
   have c3b1 : decide ((a0 : Int).toNat ≤ 35184372088832) = true := decide_eq_true c3
   clear c3
   obtain ⟨y251, hy251⟩ : ∃ y_ : List Int, y_ = (List.replicate (a0 : Int).toNat 0) := ⟨_, rfl⟩
   replace H : (lampblackref07_K.l0 k y251 a0 0) = some r := by first | (rw [hy251]; with_reducible exact H) | (have H2_ := (Option.bind_some _ _).symm.trans H; rw [hy251]; with_reducible exact H2_) | (have H2_ := (Option.bind_some _ _).symm.trans H; with_reducible exact H2_) | with_reducible exact H | (rw [hy251]; exact H) | exact H
   have Ny251 := Aside0.mk hy251
   clear hy251
   have H' := Aside0.mk H
   clear H
   go_enter Tryd.func33, Tryd.ntmps33
   go_wp2_with (first | ((with_reducible refine gate_dst (N := 7) rfl ?_); refine Kd.R_make (Kd.int .i64) _ 3 rfl (N := 7) rfl 23 _ _ rfl a0 rfl rfl Tryd.underlying23 (.int .i64 0) 8 info3 rfl (by decide) (by omega) 0 (ok := fun _ => True) (okp := fun _ => True) rfl (fun _ hk => hk) trivial (of_decide_eq_true (by first | (with_reducible assumption) | assumption)) (Nat.le_trans (Nat.mul_le_mul_right _ (of_decide_eq_true (by first | (with_reducible assumption) | assumption) : a0.toNat ≤ 35184372088832)) (by omega)) (Below.refl _ _) (Nat.le_refl _) ?_; intro v252 w4 ho5 hb hg_ hnew_; clear hg_ hnew_; (first | rw [← Ny251.out] at ho5 | (simp only [Int.reduceToNat] at ho5; rw [← Ny251.out] at ho5)); have n0_ := Aside0.mk (Kd.R_lower ho5 (below_size (Qaw))); have n1_ := Aside0.mk (below_step (Qaw) hb); clear HB; have HO253 := n0_; have HB := n1_; clear n0_ n1_; clear hb ho5))
   go_loopg [9] k (fun kq v9 w' => ∃ (x3_1 : List Int) (x9_1 : Int), v9 = .int .i64 x9_1 ∧ Aside0 (lampblackref07_K.l0 kq x3_1 a0 x9_1 = some r) ∧ Aside0 (kq ≤ k) ∧ Aside0 (Kd.R (Kd.int .i64) 3 w' w.heap.size (fun _ => True) v252 x3_1) ∧ Aside0 (Below w.heap.size w w'))
   case atStart => exact ⟨(y251), (0), (by first | rfl | (simp; done) | (simp [*]; done)), H', ⟨Nat.le_refl _⟩, ⟨by (with_reducible repeat (first | apply Kd.R_alloc | apply Kd.R_drewN | apply Kd.R_drew)); exact HO253.out⟩, ⟨by repeat (first | (with_reducible first | exact HB.out | apply below_alloc | apply pw_below_drewN | apply below_drew1) | exact HB.out)⟩⟩
   case round =>
    clear H'
    try clear c2
    try clear c2b0
    try clear c2b1
    try clear p2
    try clear c3
    try clear c3b0
    try clear c3b1
    obtain ⟨x3_1, x9_1, rfl, HA, HK1, HO_3, HB⟩ := hrel
    cases gk with
    | zero => exact absurd HA.out (by simp [lampblackref07_K.l0])
    | succ k1 =>
     have H := HA.out
     clear HA
     simp only [lampblackref07_K.l0] at H
     by_cases c6 : x9_1 < a0
     ·rw [if_pos c6] at H
      have c6b0 : decide (x9_1 < a0) = true := decide_eq_true c6
      clear c6
      have H' := Aside0.mk H
      clear H
      go_wp2
      go_loopg [13] k1 (fun kq v13 w' => ∃ (x3_2 : List Int) (x13_2 : Int), v13 = .int .i64 x13_2 ∧ Aside0 (lampblackref07_K.l1 kq x3_2 x9_1 a0 x9_1 x9_1 x13_2 = some r) ∧ Aside0 (kq ≤ k1) ∧ Aside0 (Kd.R (Kd.int .i64) 3 w' w.heap.size (fun _ => True) v252 x3_2) ∧ Aside0 (Below w.heap.size w w'))
      case atStart => exact ⟨(x3_1), (0), (by first | rfl | (simp; done) | (simp [*]; done)), H', ⟨Nat.le_refl _⟩, ⟨by (with_reducible repeat (first | apply Kd.R_alloc | apply Kd.R_drewN | apply Kd.R_drew)); exact HO_3.out⟩, ⟨by repeat (first | (with_reducible first | exact HB.out | apply below_alloc | apply pw_below_drewN | apply below_drew1) | exact HB.out)⟩⟩
      case round =>
       clear H'
       try clear c2
       try clear c2b0
       try clear c2b1
       try clear p2
       try clear c3
       try clear c3b0
       try clear c3b1
       try clear c6
       try clear c6b0
       try clear p2
       obtain ⟨x3_2, x13_2, rfl, HA, HK2, HO_3, HB⟩ := hrel
       cases gk with
       | zero => exact absurd HA.out (by simp [lampblackref07_K.l1])
       | succ k2 =>
        have H := HA.out
        clear HA
        simp only [lampblackref07_K.l1] at H
        by_cases c7 : x13_2 < x9_1
        ·rw [if_pos c7] at H
         have c7b0 : decide (x13_2 < x9_1) = true := decide_eq_true c7
         clear c7
         replace H := Option.bind_eq_some_iff.mp H
         obtain ⟨t254, A80, H⟩ := H
         replace H : (lampblackref07_K.l1 k2 t254 x9_1 a0 x9_1 x9_1 (wrap64 (x13_2 + 1))) = some r := H
         have A8 := Aside0.mk A80
         clear A80
         have H' := Aside0.mk H
         clear H
         obtain ⟨Ao9, co9, eo9⟩ := Kd.R_slice HO_3.out
         subst eo9
         go_wp2_with (first | ((with_reducible refine gate_callee (f := 75) rfl ?_); refine goesL_ (some 19) rfl rfl Tryd.func75 (by kernel_rfl) rfl #[.slice Ao9 x3_2.length co9, .int .i64 x9_1, .int .i64 x13_2] rfl (Qls) ?_; (with_reducible refine (lampblackref07_join.calls (fun k_ => some k_ = (.slice Ao9 x3_2.length co9 : Value).ownBlock) (.slice Ao9 x3_2.length co9) x3_2 x9_1 x13_2 t254 w _ ?side1 ?side2 A8.out).mono ?_); (case side1 => repeat (first | (with_reducible first | exact HB.out | apply below_alloc | apply pw_below_drewN | apply below_drew1) | exact HB.out)); (case side2 => exact Kd.R_tight rfl HO_3.out); rintro e w10 ⟨rfl, hy0, hb, hkp⟩; refine ⟨_, rfl, ?_⟩; have n0_ := Aside0.mk (Kd.R_reok rfl hy0 (fun k_ e_ => HO_3.out.1 k_ e_)); have n1_ := Aside0.mk (hb); clear HO_3; clear HB; have HO_3 := n0_; have HB := n1_; clear n0_ n1_; (try clear hb); (try clear hkp); (try clear hy0)))
         go_roundg k2
         case measure => have := HK1.out; have := HK2.out; omega
         case rel => exact ⟨(t254), (wrap64 (x13_2 + 1)), (by first | rfl | (simp; done) | (simp [*]; done)), H', ⟨by have := HK1.out; have := HK2.out; omega⟩, ⟨by (with_reducible repeat (first | apply Kd.R_alloc | apply Kd.R_drewN | apply Kd.R_drew)); exact HO_3.out⟩, ⟨by repeat (first | (with_reducible first | exact HB.out | apply below_alloc | apply pw_below_drewN | apply below_drew1) | exact HB.out)⟩⟩
        ·rw [if_neg c7] at H
         have c7b0 : decide (x13_2 < x9_1) = false := decide_eq_false c7
         clear c7
         have H' := Aside0.mk H
         clear H
         go_wp2
         go_roundg k2
         case measure => have := HK1.out; have := HK2.out; omega
         case rel => exact ⟨(x3_2), (wrap64 (x9_1 + 1)), (by first | rfl | (simp; done) | (simp [*]; done)), H', ⟨by have := HK1.out; have := HK2.out; omega⟩, ⟨by (with_reducible repeat (first | apply Kd.R_alloc | apply Kd.R_drewN | apply Kd.R_drew)); exact HO_3.out⟩, ⟨by repeat (first | (with_reducible first | exact HB.out | apply below_alloc | apply pw_below_drewN | apply below_drew1) | exact HB.out)⟩⟩
     ·rw [if_neg c6] at H
      have c6b0 : decide (x9_1 < a0) = false := decide_eq_false c6
      clear c6
      obtain rfl := Option.some.inj H
      go_wp2
      go_ret
      exact ⟨_, by first | rfl | (simp [errW_none, errW_some] <;> rfl) | (simp [*, errW_none, errW_some] <;> rfl), by (with_reducible repeat (first | apply Kd.R_alloc | apply Kd.R_drewN | apply Kd.R_drew)); exact HO_3.out, by repeat (first | (with_reducible first | exact HB.out | apply below_alloc | apply pw_below_drewN | apply below_drew1) | exact HB.out)⟩
  ·rw [if_neg c3] at H
   exact absurd H (by simp)
 ·rw [if_neg c2] at H
  exact absurd H (by simp)
end Go.Proofs.YtjloppfdagfpmaaDoor.X
end
section
/- (minor) Model and has in plain words; complete graphs as patterns. -/
namespace Go.Proofs.YtjloppfdagfpmaaDoor.X
open Go.RowKit YtjloppfdagfpmaaDoorW.PrintWords YtjloppfdagfpmaaDoorW.PrintLast YtjloppfdagfpmaaDoorW.PrintMore YtjloppfdagfpmaaDoor.T
theorem gi_inj {A B : List Nat} (h : gi A = gi B) : A = B := by rw [← gi_toNat A, h, gi_toNat]
theorem gr_of_chk {m : Nat} (hm : m ≤ 13) {G : List Nat} (h : chk m (gi G) = true) : Gr m G := by
 obtain ⟨G', e, hG⟩ := (chk_iff m (by omega) _).1 h
 rw [gi_inj e]; exact hG
theorem Model_eq {G P : List Nat} (hG : Gr 8 G) (hP : Gr 6 P) : minor_Model.f (gi G) (gi P) = some ((findN G P).elim ([], 4) fun M => (gi M, 0)) := by
 have h1 := hG.most
 have h2 := hP.most
 unfold minor_Model.f
 rw [if_pos ⟨by rw [gi_length]; omega, by rw [gi_length]; omega⟩, (chk_iff 8 (by omega) _).2 ⟨G, rfl, hG⟩, (chk_iff 6 (by omega) _).2 ⟨P, rfl, hP⟩, gi_toNat, gi_toNat]
 rfl
def IsMnr (G P : List Nat) : Prop := Mnr (fun x => x < G.length) (Adj G) P.length (Adj P)
theorem find_mnr {m m' : Nat} {G P : List Nat} (hG : Gr m G) (hm : m ≤ 9) (hP : Gr m' P) (hm' : m' ≤ 9) : (findN G P).isSome = true ↔ IsMnr G P := by
 unfold IsMnr
 rw [← mod_iff hG hm hP hm']
 have hn := Nat.le_trans hG.most hm
 cases h : findN G P with
 | none => exact ⟨fun h => (by cases h), fun ⟨M, hM⟩ => (find_none hn hP.pos h M hM).elim⟩
 | some R => exact ⟨fun _ => ⟨R, (find_some hn hP.pos h).1⟩, fun _ => rfl⟩
theorem few_ok {G : List Nat} (hG : Gr 8 G) : lampblacklaw07_Few.f (gi G) = some (gi G) := by
 obtain ⟨h, e, e1, _, _⟩ := few_eq (gi G) (by rw [gi_length]; have := hG.most; omega)
 rw [e1 ((chk_iff 8 (by omega) _).2 ⟨G, rfl, hG⟩)] at e
 exact e
theorem has_eq {G P : List Nat} (hG : Gr 8 G) (hP : Gr 6 P) : ∃ b, lampblacklaw07_has.f (gi G) (gi P) = some (b, true) ∧ (b = true ↔ IsMnr G P) := by
 have hf := find_mnr hG (by omega) hP (by omega)
 unfold lampblacklaw07_has.f
 rw [few_ok hG]
 simp only [Option.bind_some]
 rw [Model_eq hG hP]
 cases h : findN G P with
 | none =>
  refine ⟨false, rfl, ?_⟩
  rw [← hf, h]
  simp
 | some R =>
  refine ⟨true, rfl, ?_⟩
  rw [← hf, h]
  simp
def kN (n : Nat) : List Nat := (List.range n).map fun i => diff (2 ^ n - 1) (2 ^ i)
theorem kN_length (n : Nat) : (kN n).length = n := by unfold kN; simp
theorem kN_chk : ∀ i : Fin 6, chk 6 (gi (kN (i.val + 1))) = true := by decide +kernel
theorem kN_gr {n : Nat} (h1 : 1 ≤ n) (h6 : n ≤ 6) : Gr 6 (kN n) := by
 have := kN_chk ⟨n - 1, by omega⟩
 rw [show (n - 1 + 1) = n by omega] at this
 exact gr_of_chk (by omega) this
theorem kN_adj {n i j : Nat} (hi : i < n) (hj : j < n) : Adj (kN n) i j ↔ i ≠ j := by
 show ((kN n).getD i 0).testBit j = true ↔ _
 unfold kN
 rw [List.getD_eq_getElem?_getD, List.getElem?_map, List.getElem?_range hi, Option.map_some, Option.getD_some, diff_testBit, Bool.and_eq_true]
 constructor
 ·rintro ⟨_, h⟩ rfl
  simp at h
 ·intro h
  refine ⟨(all_bit n j).2 hj, ?_⟩
  have : ¬ bset (2 ^ i) j := fun h2 => h ((two_pow_bit i j).1 h2).symm
  simpa [bset] using this
theorem mnr_k {G : List Nat} {n : Nat} : IsMnr G (kN n) ↔ Mnr (fun x => x < G.length) (Adj G) n (fun i j => i ≠ j) := by
 unfold IsMnr
 rw [kN_length]
 exact ⟨mnr_pe fun i j hi hj h => (kN_adj hi hj).2 h, mnr_pe fun i j hi hj h => (kN_adj hi hj).1 h⟩
theorem refK_all : ∀ i : Fin 6, lampblackref07_K.f 60 ((i.val : Int) + 1) = some (gi (kN (i.val + 1))) := by decide +kernel
theorem refK_ev {n : Nat} (h1 : 1 ≤ n) (h6 : n ≤ 6) : Ev (fun k => lampblackref07_K.f k (n : Int)) (gi (kN n)) := by
 have := refK_all ⟨n - 1, by omega⟩
 rw [show (((⟨n - 1, by omega⟩ : Fin 6).val : Int) + 1) = (n : Int) by simp; omega, show ((⟨n - 1, by omega⟩ : Fin 6).val + 1) = n by simp; omega] at this
 exact Ev.of (lampblackref07_K.mono _) this
end Go.Proofs.YtjloppfdagfpmaaDoor.X
end
section
namespace Go.Proofs.YtjloppfdagfpmaaDoor.X
open Go.RowKit YtjloppfdagfpmaaDoorW.PrintWords YtjloppfdagfpmaaDoorW.PrintLast YtjloppfdagfpmaaDoorW.PrintMore
attribute [local go_sem] max2_int min2_int max_two min_two max_three min_three max_four min_four
/-! ### minor_town_join: function 62 -/
def minor_town_join.f (l0 : List Int) (a1 : Int) (a2 : Int) : Option (List Int) := if 0 ≤ a1 then (if a1 < (l0.length : Int) then (if 0 ≤ a2 then ((some (l0.set (a1 : Int).toNat (Go.bits .or .i64 (rd l0 a1) (shl .i64 1 a2)) : List Int)).bind fun y146 => (if a2 < (l0.length : Int) then (some (y146.set (a2 : Int).toNat (Go.bits .or .i64 (rd y146 a2) (shl .i64 1 a1)))) else (none))) else (none)) else (none)) else (none)
def minor_town_join.T0 : Bool × List (List Nat × List Nat) := (true, [([], []), ([], []), ([0, 1], [0, 1]), ([2], [2]), ([], []), ([4], [4]), ([3, 5], [3, 5]), ([0, 1, 0, 1, 2, 3, 4, 5, 6], [0, 1]), ([7, 6, 0, 1, 2, 3, 4, 5, 6], [6, 7])])
def minor_town_join.B0 : List Nat := [0, 0, 3, 7, 0, 16, 63, 127, 255]
theorem minor_town_join.tab0 : rtab .any (opsOf Tryd.f62 0) = minor_town_join.T0 := by kernel_rfl
theorem minor_town_join.bits0 : waitsOk minor_town_join.T0.2 minor_town_join.B0 = true := by kernel_rfl
def minor_town_join.T1 : Bool × List (List Nat × List Nat) := (true, [([], []), ([], []), ([0, 1], [0, 1]), ([2], [2]), ([], []), ([4], [4]), ([3, 5], [3, 5]), ([0, 1, 0, 1, 2, 3, 4, 5, 6], [0, 1]), ([7, 6, 0, 1, 2, 3, 4, 5, 6], [6, 7])])
def minor_town_join.B1 : List Nat := [0, 0, 3, 7, 0, 16, 63, 127, 255]
theorem minor_town_join.tab1 : rtab .any (opsOf Tryd.f62 1) = minor_town_join.T1 := by kernel_rfl
theorem minor_town_join.bits1 : waitsOk minor_town_join.T1.2 minor_town_join.B1 = true := by kernel_rfl
set_option maxHeartbeats 8000000 in
set_option maxRecDepth 100000 in
theorem minor_town_join.calls (P0_ : Nat → Prop) (u9000_ : Value) (l0 : List Int) (a1 : Int) (a2 : Int) (r : List Int) (w0 w : World) (hB : Below w0.heap.size w0 w) (ho0 : Kd.R (Kd.int .i64) 3 w w0.heap.size P0_ u9000_ l0) (h : minor_town_join.f l0 a1 a2 = some r) :
  Calls Tryd.prog 62 #[u9000_, .int .i64 a1, .int .i64 a2] w fun e w' => e = .returned (.tuple #[]) ∧ Kd.R (Kd.int .i64) 3 w' w0.heap.size (fun k_ => (P0_ k_ ∨ w.heap.size ≤ k_)) u9000_ r ∧ Below w0.heap.size w0 w' ∧ Kept w w' (fun k_ => P0_ k_) := by
 have HO0 := Aside0.mk (show Kd.R (Kd.int .i64) 3 w w0.heap.size (fun k_ => (P0_ k_ ∨ w.heap.size ≤ k_)) u9000_ l0 from Kd.R_mono ho0 (fun k_ hk => (.inl hk)))
 have HK := Aside0.mk (Kept.refl w (fun k_ => P0_ k_))
 have HW0 := Aside0.mk hB.size
 have HB := Aside0.mk hB
 clear hB
 have H : (if 0 ≤ a1 then (if a1 < (l0.length : Int) then (if 0 ≤ a2 then ((some (l0.set (a1 : Int).toNat (Go.bits .or .i64 (rd l0 a1) (shl .i64 1 a2)) : List Int)).bind fun y146 => (if a2 < (l0.length : Int) then (some (y146.set (a2 : Int).toNat (Go.bits .or .i64 (rd y146 a2) (shl .i64 1 a1)))) else (none))) else (none)) else (none)) else (none)) = some r := h
 clear h
 by_cases c4 : 0 ≤ a1
 ·rw [if_pos c4] at H
  have c4b0 : decide (0 ≤ a1) = true := decide_eq_true c4
  clear c4
  by_cases c5 : a1 < (l0.length : Int)
  ·rw [if_pos c5] at H
   have c5b0 : decide (a1 < (l0.length : Int)) = true := decide_eq_true c5
   clear c5
   by_cases c6 : 0 ≤ a2
   ·rw [if_pos c6] at H
    have c6b0 := eq_true c6
    have c6b1 : decide (0 ≤ a2) = true := decide_eq_true c6
    clear c6
    obtain ⟨ji7, hji7⟩ : ∃ j_ : Int, (shl .i64 1 a2) = j_ := ⟨_, rfl⟩
    replace H : ((some (l0.set (a1 : Int).toNat (Go.bits .or .i64 (rd l0 a1) (ji7)) : List Int)).bind fun y146 => (if a2 < (l0.length : Int) then (some (y146.set (a2 : Int).toNat (Go.bits .or .i64 (rd y146 a2) (shl .i64 1 a1)))) else (none))) = some r := by first | (rw [hji7] at H; exact H) | (simp only [hji7] at H ⊢; exact H)
    have hji7_ : (IntKind.i64.wrap (1 * 2 ^ min a2.toNat 64)) = ji7 := hji7
    have hji7z : a2 ≤ 64 → (IntKind.i64.wrap (1 * 2 ^ a2.toNat)) = ji7 := shl_small hji7
    have hji7u : (IntKind.i64.wrap (2 ^ min a2.toNat 64)) = ji7 := by have h_ := hji7_; rw [Int.one_mul] at h_; exact h_
    have hji7v : a2 ≤ 64 → (IntKind.i64.wrap (2 ^ a2.toNat)) = ji7 := fun hle_ => by have h_ := hji7z hle_; rw [Int.one_mul] at h_; exact h_
    have hji7y : (wrap64 (1 * 2 ^ min a2.toNat 64)) = ji7 := (i64_w _).symm.trans hji7_
    have hji7x : a2 ≤ 64 → (wrap64 (1 * 2 ^ a2.toNat)) = ji7 := fun h_ => (i64_w _).symm.trans (hji7z h_)
    obtain ⟨y146, hy146⟩ : ∃ y_ : List Int, y_ = (l0.set (a1 : Int).toNat (Go.bits .or .i64 (rd l0 a1) (ji7))) := ⟨_, rfl⟩
    replace H : (if a2 < (l0.length : Int) then (some (y146.set (a2 : Int).toNat (Go.bits .or .i64 (rd y146 a2) (shl .i64 1 a1)))) else (none)) = some r := by first | (rw [hy146]; with_reducible exact H) | (have H2_ := (Option.bind_some _ _).symm.trans H; rw [hy146]; with_reducible exact H2_) | (have H2_ := (Option.bind_some _ _).symm.trans H; with_reducible exact H2_) | with_reducible exact H | (rw [hy146]; exact H) | exact H
    have Ny146 := Aside0.mk hy146
    clear hy146
    by_cases c9 : a2 < (l0.length : Int)
    ·rw [if_pos c9] at H
     have c9b0 : decide (a2 < (l0.length : Int)) = true := decide_eq_true c9
     clear c9
     have c10b0 := eq_true (of_decide_eq_true (by first | (with_reducible assumption) | assumption) : 0 ≤ a1)
     obtain ⟨ji11, hji11⟩ : ∃ j_ : Int, (shl .i64 1 a1) = j_ := ⟨_, rfl⟩
     replace H : (some (y146.set (a2 : Int).toNat (Go.bits .or .i64 (rd y146 a2) (ji11)))) = some r := by first | (rw [hji11] at H; exact H) | (simp only [hji11] at H ⊢; exact H)
     have hji11_ : (IntKind.i64.wrap (1 * 2 ^ min a1.toNat 64)) = ji11 := hji11
     have hji11z : a1 ≤ 64 → (IntKind.i64.wrap (1 * 2 ^ a1.toNat)) = ji11 := shl_small hji11
     have hji11u : (IntKind.i64.wrap (2 ^ min a1.toNat 64)) = ji11 := by have h_ := hji11_; rw [Int.one_mul] at h_; exact h_
     have hji11v : a1 ≤ 64 → (IntKind.i64.wrap (2 ^ a1.toNat)) = ji11 := fun hle_ => by have h_ := hji11z hle_; rw [Int.one_mul] at h_; exact h_
     have hji11y : (wrap64 (1 * 2 ^ min a1.toNat 64)) = ji11 := (i64_w _).symm.trans hji11_
     have hji11x : a1 ≤ 64 → (wrap64 (1 * 2 ^ a1.toNat)) = ji11 := fun h_ => (i64_w _).symm.trans (hji11z h_)
     obtain ⟨y148, hy148⟩ : ∃ y_ : List Int, y_ = (y146.set (a2 : Int).toNat (Go.bits .or .i64 (rd y146 a2) (ji11))) := ⟨_, rfl⟩
     replace H : (some y148) = some r := by first | (rw [hy148]; with_reducible exact H) | (have H2_ := (Option.bind_some _ _).symm.trans H; rw [hy148]; with_reducible exact H2_) | (have H2_ := (Option.bind_some _ _).symm.trans H; with_reducible exact H2_) | with_reducible exact H | (rw [hy148]; exact H) | exact H
     have Ny148 := Aside0.mk hy148
     clear hy148
     obtain rfl := Option.some.inj H
     go_enter Tryd.func62, Tryd.ntmps62
     try go_wp2
     have n0_ := Aside0.mk (Kd.R_drew HO0.out)
     have n1_ := Aside0.mk (Kept.drew HK.out)
     have n2_ := Aside0.mk (below_drew1 HB.out)
     clear HO0
     clear HK
     clear HB
     have HO0 := n0_
     have HK := n1_
     have HB := n2_
     clear n0_ n1_ n2_
     obtain ⟨Ao14, co14, eo14⟩ := Kd.R_slice HO0.out
     (first | subst eo14 | (injection eo14 with f1_ f2_ f3_; have f4_ := f1_.symm; have f5_ := f3_.symm; clear f1_ f2_ f3_; subst f4_; subst f5_))
     have p145 : 0 ≤ (a1 : Int) := of_decide_eq_true (by first | (with_reducible assumption) | assumption)
     have q145 : a1 < (l0.length : Int) := of_decide_eq_true (by first | (with_reducible assumption) | assumption)
     obtain ⟨ad145, e145, hx145_0⟩ := Kd.at_int (Kd.R_reads' HO0.out).2.2 a1 p145 q145
     cases e145
     replace p145 := eq_true p145
     replace q145 := eq_true q145
     have p8 : 0 ≤ (a1 : Int) := of_decide_eq_true (by first | (with_reducible assumption) | assumption)
     have q8 : (a1 : Int) < ((l0.length : Int) : Int) := of_decide_eq_true (by first | (with_reducible assumption) | assumption)
     obtain ⟨go8, co8, eo8, gb8, gl8, cl8, HG8⟩ := Kd.R_form HO0.out (by omega)
     (first | cases eo8 | (injection eo8 with ea_ en_ ec_; (first | subst ea_ | (injection ea_ with ea_; subst ea_)); subst ec_; clear en_))
     have GB8 := Aside0.mk gb8
     have GG8 := Aside0.mk HG8
     clear gb8 gl8 HG8
     have HMgo8 := Aside0.mk (show (P0_ go8 ∨ w.heap.size ≤ go8) from (HO0.out.1 _ rfl))
     (first | simp only [add_plain] at hx145_0 | skip)
     obtain ⟨hx8_0, hf8_0⟩ := Kd.R_celln 0 HO0.out (a1 : Int) p8 q8
     replace p8 := eq_true p8
     replace q8 := eq_true q8
     have HP15 := Kd.R_putn HO0.out (a1 : Int) (Go.bits .or .i64 (rd l0 a1) (ji7))
     rw [← Ny146.out] at HP15
     have HQ15 := Aside0.mk HP15
     clear HP15
     refine start_ (n := 9) (S := fun w' => w'.cell? ⟨go8, (a1).toNat, none⟩ = some (.int .i64 (rd l0 a1))) (ds := [8]) (Qbz 9 0) (by kernel_rfl) rfl rfl (hx145_0) (fun hHeld => ?_); refine with_tabW minor_town_join.tab0 minor_town_join.bits0 (fun HT_ HW_ => ?_)
     generalize w.drew = w13 at HO0 HK HB GG8 HQ15 hf8_0 hx145_0 hx8_0 hHeld ⊢
     refine pure_ (i := 0) (N := some 6) (v := ?_) (a' := ?_) (Qbz 9 1) rfl rfl (any_of HT_.out (by kernel_rfl)) (fun _ _ _ h => h) (Or.inl ⟨by rfl, ?_⟩) ?_ ?_
     rotate_left
     ·intro w'
      go_simp
      with_reducible rfl
     rotate_left
     ·simp only [Act.put, Qp1, Qp2, Qp3, i64_w, i32_w]
      rfl
     refine pure_ (i := 1) (N := some 7) (v := ?_) (a' := ?_) (Qbz 9 3) rfl rfl (any_of HT_.out (by kernel_rfl)) (fun _ _ _ h => h) (Or.inl ⟨by rfl, ?_⟩) ?_ ?_
     rotate_left
     ·intro w'
      go_simp
      with_reducible rfl
     rotate_left
     ·simp only [Act.put, Qp1, Qp2, Qp3, i64_w, i32_w]
      rfl
     refine pure_ (i := 2) (N := some 8) (v := ?_) (a' := ?_) (Qbz 9 7) rfl rfl (any_of HT_.out (by kernel_rfl)) (fun _ _ _ h => h) (Or.inl ⟨by rfl, ?_⟩) ?_ ?_
     rotate_left
     ·intro w'
      go_simp
      with_reducible rfl
     rotate_left
     ·simp only [Act.put, Qp1, Qp2, Qp3, i64_w, i32_w]
      rfl
     refine pure_ (i := 4) (N := some 10) (v := ?_) (a' := ?_) (Qbz 9 23) rfl rfl (any_of HT_.out (by kernel_rfl)) (fun _ _ _ h => h) (Or.inl ⟨by rfl, ?_⟩) ?_ ?_
     rotate_left
     ·intro w'
      go_simp
      with_reducible rfl
     rotate_left
     ·simp only [Act.put, Qp1, Qp2, Qp3, i64_w, i32_w]
      rfl
     refine pure_ (i := 5) (N := some 11) (v := ?_) (a' := ?_) (Qbz 9 55) rfl rfl (any_of HT_.out (by kernel_rfl)) (fun _ _ _ h => h) (Or.inl ⟨by rfl, ?_⟩) ?_ ?_
     rotate_left
     ·intro w'
      go_simp
      with_reducible rfl
     rotate_left
     ·simp only [Act.put, Qp1, Qp2, Qp3, i64_w, i32_w]
      rfl
     refine take_ (i := 3) (N := some 9) (v := ?_) (a' := ?_) (Qbz 9 63) rfl rfl (take_ofW HT_.out HW_.out (by kernel_rfl)) (fun _ _ _ h => h) (Or.inl ⟨by rfl, ?_⟩) hHeld ?_ ?_
     rotate_left
     ·intro w' s0
      go_simp
      with_reducible rfl
     rotate_left
     ·simp only [Act.put, Qp1, Qp2, Qp3, i64_w, i32_w]
      rfl
     refine pure_ (i := 6) (N := some 12) (v := ?_) (a' := ?_) (Qbz 9 127) rfl rfl (any_of HT_.out (by kernel_rfl)) (fun _ _ _ h => h) (Or.inl ⟨by rfl, ?_⟩) ?_ ?_
     rotate_left
     ·intro w'
      go_simp
      with_reducible rfl
     rotate_left
     ·simp only [Act.put, Qp1, Qp2, Qp3, i64_w, i32_w]
      rfl
     refine pure_ (i := 7) (N := some 13) (v := ?_) (a' := ?_) (Qbz 9 255) rfl rfl (any_of HT_.out (by kernel_rfl)) (fun _ _ _ h => h) (Or.inl ⟨by rfl, ?_⟩) ?_ ?_
     rotate_left
     ·intro w'
      go_simp
      with_reducible rfl
     rotate_left
     ·simp only [Act.put, Qp1, Qp2, Qp3, i64_w, i32_w]
      rfl
     refine last_ (i := 8) (N := none) (Qbz 9 511) rfl rfl (one_of HT_.out (by kernel_rfl)) (by decide) (fun K hK => ?_)
     refine skip_ (w1 := ?_) (by rfl) rfl ?_ ?_
     rotate_left
     ·go_simp
      rfl
     refine hK.out _ _ ?_
     clear hK K
     refine done_ (done_of HT_.out (by kernel_rfl)) ?_
     try go_wp2
     have n0_ : Aside0 (Kd.R (Kd.int .i64) 3 (w13.setCell ⟨go8, (a1 : Int).toNat, none⟩ (.int .i64 (Go.bits .or .i64 (rd l0 a1) (ji7)))) w0.heap.size (fun k_ => (P0_ k_ ∨ w.heap.size ≤ k_)) (.slice (some ⟨go8, 0, none⟩) l0.length co14) y146) := ⟨by (with_reducible repeat (first | apply Kd.R_alloc | apply Kd.R_drewN | apply Kd.R_drew)); exact HQ15.out⟩
     have n1_ : Aside0 (Kept w (w13.setCell ⟨go8, (a1 : Int).toNat, none⟩ (.int .i64 (Go.bits .or .i64 (rd l0 a1) (ji7)))) (fun k_ => P0_ k_)) := ⟨by repeat (first | (with_reducible first | exact HK.out | apply Kept.alloc | apply Kept.drewN | apply Kept.drew | refine Kept.setCell ?_ HMgo8.out _) | exact HK.out)⟩
     have n2_ : Aside0 (Below w0.heap.size w0 (w13.setCell ⟨go8, (a1 : Int).toNat, none⟩ (.int .i64 (Go.bits .or .i64 (rd l0 a1) (ji7))))) := ⟨by repeat (first | (with_reducible first | exact HB.out | apply below_alloc | apply pw_below_drewN | apply below_drew1 | refine below_set ?_ GB8.out) | exact HB.out)⟩
     (try clear HO0)
     (try clear HK)
     (try clear HB)
     generalize (w13.setCell ⟨go8, (a1 : Int).toNat, none⟩ (.int .i64 (Go.bits .or .i64 (rd l0 a1) (ji7)))) = w16 at n0_ n1_ n2_ ⊢
     have HO0 := n0_
     have HK := n1_
     have HB := n2_
     clear n0_ n1_ n2_
     have n0_ := Aside0.mk (Kd.R_drew HO0.out)
     have n1_ := Aside0.mk (Kept.drew HK.out)
     have n2_ := Aside0.mk (below_drew1 HB.out)
     clear HO0
     clear HK
     clear HB
     have HO0 := n0_
     have HK := n1_
     have HB := n2_
     clear n0_ n1_ n2_
     have p147 : 0 ≤ (a2 : Int) := of_decide_eq_true (by first | (with_reducible assumption) | assumption)
     have q147 : a2 < (y146.length : Int) := (by have h_ : (a2 : Int) < ((l0.length : Int) : Int) := of_decide_eq_true (by first | (with_reducible assumption) | assumption); first | (have e_ := (Kd.R_reads' HO0.out).1; omega) | simpa only [Ny146.out, List.length_set] using h_)
     have ql147 : ((a2 : Int) < ((l0.length : Int) : Int)) = True := eq_true (of_decide_eq_true (by first | (with_reducible assumption) | assumption))
     obtain ⟨ad147, e147, hx147_0⟩ := Kd.at_int (Kd.R_reads' HO0.out).2.2 a2 p147 q147
     obtain rfl : (⟨go8, 0, none⟩ : Addr) = ad147 := (by injection e147)
     (first | simp only [add_plain] at hx147_0 | simp only [add_at] at hx147_0 | simp only [Addr.add, Nat.zero_add] at hx147_0 | skip)
     replace p147 := eq_true p147
     replace q147 := eq_true q147
     have p12 : 0 ≤ (a2 : Int) := of_decide_eq_true (by first | (with_reducible assumption) | assumption)
     have q12 : (a2 : Int) < ((l0.length : Int) : Int) := of_decide_eq_true (by first | (with_reducible assumption) | assumption)
     obtain ⟨hx12_0, hf12_0⟩ := Kd.R_celln 0 HO0.out (a2 : Int) p12 q12
     replace p12 := eq_true p12
     replace q12 := eq_true q12
     have HP18 := Kd.R_putn HO0.out (a2 : Int) (Go.bits .or .i64 (rd y146 a2) (ji11))
     rw [← Ny148.out] at HP18
     have HQ18 := Aside0.mk HP18
     clear HP18
     refine start_ (n := 9) (S := fun w' => w'.cell? ⟨go8, (a2).toNat, none⟩ = some (.int .i64 (rd y146 a2))) (ds := [8]) (Qbz 9 0) (by kernel_rfl) rfl rfl (hx147_0) (fun hHeld => ?_); refine with_tabW minor_town_join.tab1 minor_town_join.bits1 (fun HT_ HW_ => ?_)
     generalize w16.drew = w17 at HO0 HK HB HQ15 HQ18 hf12_0 hx12_0 hx147_0 hHeld ⊢
     refine pure_ (i := 0) (N := some 14) (v := ?_) (a' := ?_) (Qbz 9 1) rfl rfl (any_of HT_.out (by kernel_rfl)) (fun _ _ _ h => h) (Or.inl ⟨by rfl, ?_⟩) ?_ ?_
     rotate_left
     ·intro w'
      go_simp
      with_reducible rfl
     rotate_left
     ·simp only [Act.put, Qp1, Qp2, Qp3, i64_w, i32_w]
      rfl
     refine pure_ (i := 1) (N := some 15) (v := ?_) (a' := ?_) (Qbz 9 3) rfl rfl (any_of HT_.out (by kernel_rfl)) (fun _ _ _ h => h) (Or.inl ⟨by rfl, ?_⟩) ?_ ?_
     rotate_left
     ·intro w'
      go_simp
      with_reducible rfl
     rotate_left
     ·simp only [Act.put, Qp1, Qp2, Qp3, i64_w, i32_w]
      rfl
     refine pure_ (i := 2) (N := some 16) (v := ?_) (a' := ?_) (Qbz 9 7) rfl rfl (any_of HT_.out (by kernel_rfl)) (fun _ _ _ h => h) (Or.inl ⟨by rfl, ?_⟩) ?_ ?_
     rotate_left
     ·intro w'
      go_simp
      with_reducible rfl
     rotate_left
     ·simp only [Act.put, Qp1, Qp2, Qp3, i64_w, i32_w]
      rfl
     refine pure_ (i := 4) (N := some 18) (v := ?_) (a' := ?_) (Qbz 9 23) rfl rfl (any_of HT_.out (by kernel_rfl)) (fun _ _ _ h => h) (Or.inl ⟨by rfl, ?_⟩) ?_ ?_
     rotate_left
     ·intro w'
      go_simp
      with_reducible rfl
     rotate_left
     ·simp only [Act.put, Qp1, Qp2, Qp3, i64_w, i32_w]
      rfl
     refine pure_ (i := 5) (N := some 19) (v := ?_) (a' := ?_) (Qbz 9 55) rfl rfl (any_of HT_.out (by kernel_rfl)) (fun _ _ _ h => h) (Or.inl ⟨by rfl, ?_⟩) ?_ ?_
     rotate_left
     ·intro w'
      go_simp
      with_reducible rfl
     rotate_left
     ·simp only [Act.put, Qp1, Qp2, Qp3, i64_w, i32_w]
      rfl
     refine take_ (i := 3) (N := some 17) (v := ?_) (a' := ?_) (Qbz 9 63) rfl rfl (take_ofW HT_.out HW_.out (by kernel_rfl)) (fun _ _ _ h => h) (Or.inl ⟨by rfl, ?_⟩) hHeld ?_ ?_
     rotate_left
     ·intro w' s0
      go_simp
      with_reducible rfl
     rotate_left
     ·simp only [Act.put, Qp1, Qp2, Qp3, i64_w, i32_w]
      rfl
     refine pure_ (i := 6) (N := some 20) (v := ?_) (a' := ?_) (Qbz 9 127) rfl rfl (any_of HT_.out (by kernel_rfl)) (fun _ _ _ h => h) (Or.inl ⟨by rfl, ?_⟩) ?_ ?_
     rotate_left
     ·intro w'
      go_simp
      with_reducible rfl
     rotate_left
     ·simp only [Act.put, Qp1, Qp2, Qp3, i64_w, i32_w]
      rfl
     refine pure_ (i := 7) (N := some 21) (v := ?_) (a' := ?_) (Qbz 9 255) rfl rfl (any_of HT_.out (by kernel_rfl)) (fun _ _ _ h => h) (Or.inl ⟨by rfl, ?_⟩) ?_ ?_
     rotate_left
     ·intro w'
      go_simp
      with_reducible rfl
     rotate_left
     ·simp only [Act.put, Qp1, Qp2, Qp3, i64_w, i32_w]
      rfl
     refine last_ (i := 8) (N := none) (Qbz 9 511) rfl rfl (one_of HT_.out (by kernel_rfl)) (by decide) (fun K hK => ?_)
     refine skip_ (w1 := ?_) (by rfl) rfl ?_ ?_
     rotate_left
     ·go_simp
      rfl
     refine hK.out _ _ ?_
     clear hK K
     refine done_ (done_of HT_.out (by kernel_rfl)) ?_
     try go_wp2
     first | go_end0 | ((try simp only [Exit.inBlock, Exit.then]); refine bodyPost_ret (results_none rfl _ _ _) rfl ?_)
     exact ⟨by first | rfl | (simp [errW_none, errW_some] <;> rfl) | (simp only [← hji7, ← hji11]; first | rfl | (simp [errW_none, errW_some] <;> rfl)) | (simp [*, errW_none, errW_some] <;> rfl), by (with_reducible repeat (first | apply Kd.R_alloc | apply Kd.R_drewN | apply Kd.R_drew)); exact HQ18.out, by repeat (first | (with_reducible first | exact HB.out | apply below_alloc | apply pw_below_drewN | apply below_drew1 | refine below_set ?_ GB8.out) | exact HB.out), by repeat (first | (with_reducible first | exact HK.out | apply Kept.alloc | apply Kept.drewN | apply Kept.drew | refine Kept.setCell ?_ HMgo8.out _) | exact HK.out)⟩
    ·rw [if_neg c9] at H
     exact absurd H (by simp)
   ·rw [if_neg c6] at H
    exact absurd H (by simp)
  ·rw [if_neg c5] at H
   exact absurd H (by simp)
 ·rw [if_neg c4] at H
  exact absurd H (by simp)
end Go.Proofs.YtjloppfdagfpmaaDoor.X
end
section
namespace Go.Proofs.YtjloppfdagfpmaaDoor.X
open Go.RowKit YtjloppfdagfpmaaDoorW.PrintWords YtjloppfdagfpmaaDoorW.PrintLast YtjloppfdagfpmaaDoorW.PrintMore
attribute [local go_sem] max2_int min2_int max_two min_two max_three min_three max_four min_four
/-! ### minor_clique: function 74 -/
mutual
def minor_clique.l0 : Nat → List Int → Int → Int → Option (List Int)
 | 0, _, _, _ => none
 | k + 1, x3, x8, x9 => if x9 < x8 then (minor_clique.l1 k x3 x9 x8 x9 x9 0) else (some x3)
def minor_clique.l1 : Nat → List Int → Int → Int → Int → Int → Int → Option (List Int)
 | 0, _, _, _, _, _, _ => none
 | k + 1, x3, x4, x8, x9, x12, x13 => if x13 < x12 then ((minor_town_join.f x3 x4 x13).bind fun t232 => (minor_clique.l1 k t232 x4 x8 x9 x12 (wrap64 (x13 + 1)))) else (minor_clique.l0 k x3 x8 (wrap64 (x9 + 1)))
end
def minor_clique.f (k : Nat) (a0 : Int) : Option (List Int) := if 0 ≤ a0 then (if (a0 : Int).toNat ≤ 35184372088832 then (minor_clique.l0 k (List.replicate (a0 : Int).toNat 0) a0 0) else (none)) else (none)
set_option maxHeartbeats 8000000 in
set_option maxRecDepth 100000 in
theorem minor_clique.calls (k : Nat) (a0 : Int) (r : List Int) (w : World) (h : minor_clique.f k a0 = some r) :
  Calls Tryd.prog 74 #[.int .i64 a0] w fun e w' => ∃ v0_ : Value, e = .returned (v0_) ∧ Kd.R (Kd.int .i64) 3 w' w.heap.size (fun _ => True) v0_ r ∧ Below w.heap.size w w' := by
 have HB := Aside0.mk (Below.refl w.heap.size w)
 have H : (if 0 ≤ a0 then (if (a0 : Int).toNat ≤ 35184372088832 then (minor_clique.l0 k (List.replicate (a0 : Int).toNat 0) a0 0) else (none)) else (none)) = some r := h
 clear h
 by_cases c2 : 0 ≤ a0
 ·rw [if_pos c2] at H
  have c2b0 := eq_true c2
  have c2b1 : decide (0 ≤ a0) = true := decide_eq_true c2
  clear c2
  by_cases c3 : (a0 : Int).toNat ≤ 35184372088832
  ·rw [if_pos c3] at H
   have c3b0 := eq_true c3
   have c3b1 : decide ((a0 : Int).toNat ≤ 35184372088832) = true := decide_eq_true c3
   clear c3
   obtain ⟨y229, hy229⟩ : ∃ y_ : List Int, y_ = (List.replicate (a0 : Int).toNat 0) := ⟨_, rfl⟩
   replace H : (minor_clique.l0 k y229 a0 0) = some r := by first | (rw [hy229]; with_reducible exact H) | (have H2_ := (Option.bind_some _ _).symm.trans H; rw [hy229]; with_reducible exact H2_) | (have H2_ := (Option.bind_some _ _).symm.trans H; with_reducible exact H2_) | with_reducible exact H | (rw [hy229]; exact H) | exact H
   have Ny229 := Aside0.mk hy229
   clear hy229
   have H' := Aside0.mk H
   clear H
   go_enter Tryd.func74, Tryd.ntmps74
   go_wp2_with (first | ((with_reducible refine gate_dst (N := 7) rfl ?_); refine Kd.R_make (Kd.int .i64) _ 3 rfl (N := 7) rfl 79 _ _ rfl a0 rfl rfl Tryd.underlying79 (.int .i64 0) 8 info3 rfl (by decide) (by omega) 0 (ok := fun _ => True) (okp := fun _ => True) rfl (fun _ hk => hk) trivial (of_decide_eq_true (by first | (with_reducible assumption) | assumption)) (Nat.le_trans (Nat.mul_le_mul_right _ (of_decide_eq_true (by first | (with_reducible assumption) | assumption) : a0.toNat ≤ 35184372088832)) (by omega)) (Below.refl _ _) (Nat.le_refl _) ?_; intro v230 w4 ho5 hb hg_ hnew_; clear hg_ hnew_; (first | rw [← Ny229.out] at ho5 | (simp only [Int.reduceToNat] at ho5; rw [← Ny229.out] at ho5)); have n0_ := Aside0.mk (Kd.R_lower ho5 (below_size (Qaw))); have n1_ := Aside0.mk (below_step (Qaw) hb); clear HB; have HO231 := n0_; have HB := n1_; clear n0_ n1_; clear hb ho5))
   go_loopg [9] k (fun kq v9 w' => ∃ (x3_1 : List Int) (x9_1 : Int), v9 = .int .i64 x9_1 ∧ Aside0 (minor_clique.l0 kq x3_1 a0 x9_1 = some r) ∧ Aside0 (kq ≤ k) ∧ Aside0 (Kd.R (Kd.int .i64) 3 w' w.heap.size (fun _ => True) v230 x3_1) ∧ Aside0 (Below w.heap.size w w'))
   case atStart => exact ⟨(y229), (0), (by first | rfl | (simp; done) | (simp [*]; done)), H', ⟨Nat.le_refl _⟩, ⟨by (with_reducible repeat (first | apply Kd.R_alloc | apply Kd.R_drewN | apply Kd.R_drew)); exact HO231.out⟩, ⟨by repeat (first | (with_reducible first | exact HB.out | apply below_alloc | apply pw_below_drewN | apply below_drew1) | exact HB.out)⟩⟩
   case round =>
    clear H'
    try clear c2
    try clear c2b0
    try clear c2b1
    try clear p2
    try clear c3
    try clear c3b0
    try clear c3b1
    obtain ⟨x3_1, x9_1, rfl, HA, HK1, HO_3, HB⟩ := hrel
    cases gk with
    | zero => exact absurd HA.out (by simp [minor_clique.l0])
    | succ k1 =>
     have H := HA.out
     clear HA
     simp only [minor_clique.l0] at H
     by_cases c6 : x9_1 < a0
     ·rw [if_pos c6] at H
      have c6b0 : decide (x9_1 < a0) = true := decide_eq_true c6
      clear c6
      have H' := Aside0.mk H
      clear H
      go_wp2
      go_loopg [13] k1 (fun kq v13 w' => ∃ (x3_2 : List Int) (x13_2 : Int), v13 = .int .i64 x13_2 ∧ Aside0 (minor_clique.l1 kq x3_2 x9_1 a0 x9_1 x9_1 x13_2 = some r) ∧ Aside0 (kq ≤ k1) ∧ Aside0 (Kd.R (Kd.int .i64) 3 w' w.heap.size (fun _ => True) v230 x3_2) ∧ Aside0 (Below w.heap.size w w'))
      case atStart => exact ⟨(x3_1), (0), (by first | rfl | (simp; done) | (simp [*]; done)), H', ⟨Nat.le_refl _⟩, ⟨by (with_reducible repeat (first | apply Kd.R_alloc | apply Kd.R_drewN | apply Kd.R_drew)); exact HO_3.out⟩, ⟨by repeat (first | (with_reducible first | exact HB.out | apply below_alloc | apply pw_below_drewN | apply below_drew1) | exact HB.out)⟩⟩
      case round =>
       clear H'
       try clear c2
       try clear c2b0
       try clear c2b1
       try clear p2
       try clear c3
       try clear c3b0
       try clear c3b1
       try clear c6
       try clear c6b0
       try clear p2
       obtain ⟨x3_2, x13_2, rfl, HA, HK2, HO_3, HB⟩ := hrel
       cases gk with
       | zero => exact absurd HA.out (by simp [minor_clique.l1])
       | succ k2 =>
        have H := HA.out
        clear HA
        simp only [minor_clique.l1] at H
        by_cases c7 : x13_2 < x9_1
        ·rw [if_pos c7] at H
         have c7b0 : decide (x13_2 < x9_1) = true := decide_eq_true c7
         clear c7
         replace H := Option.bind_eq_some_iff.mp H
         obtain ⟨t232, A80, H⟩ := H
         replace H : (minor_clique.l1 k2 t232 x9_1 a0 x9_1 x9_1 (wrap64 (x13_2 + 1))) = some r := H
         have A8 := Aside0.mk A80
         clear A80
         have H' := Aside0.mk H
         clear H
         obtain ⟨Ao9, co9, eo9⟩ := Kd.R_slice HO_3.out
         subst eo9
         go_wp2_with (first | ((with_reducible refine gate_callee (f := 62) rfl ?_); refine goesL_ (some 19) rfl rfl Tryd.func62 (by kernel_rfl) rfl #[.slice Ao9 x3_2.length co9, .int .i64 x9_1, .int .i64 x13_2] rfl (Qls) ?_; (with_reducible refine (minor_town_join.calls (fun k_ => some k_ = (.slice Ao9 x3_2.length co9 : Value).ownBlock) (.slice Ao9 x3_2.length co9) x3_2 x9_1 x13_2 t232 w _ ?side1 ?side2 A8.out).mono ?_); (case side1 => repeat (first | (with_reducible first | exact HB.out | apply below_alloc | apply pw_below_drewN | apply below_drew1) | exact HB.out)); (case side2 => exact Kd.R_tight rfl HO_3.out); rintro e w10 ⟨rfl, hy0, hb, hkp⟩; refine ⟨_, rfl, ?_⟩; have n0_ := Aside0.mk (Kd.R_reok rfl hy0 (fun k_ e_ => HO_3.out.1 k_ e_)); have n1_ := Aside0.mk (hb); clear HO_3; clear HB; have HO_3 := n0_; have HB := n1_; clear n0_ n1_; (try clear hb); (try clear hkp); (try clear hy0)))
         go_roundg k2
         case measure => have := HK1.out; have := HK2.out; omega
         case rel => exact ⟨(t232), (wrap64 (x13_2 + 1)), (by first | rfl | (simp; done) | (simp [*]; done)), H', ⟨by have := HK1.out; have := HK2.out; omega⟩, ⟨by (with_reducible repeat (first | apply Kd.R_alloc | apply Kd.R_drewN | apply Kd.R_drew)); exact HO_3.out⟩, ⟨by repeat (first | (with_reducible first | exact HB.out | apply below_alloc | apply pw_below_drewN | apply below_drew1) | exact HB.out)⟩⟩
        ·rw [if_neg c7] at H
         have c7b0 : decide (x13_2 < x9_1) = false := decide_eq_false c7
         clear c7
         have H' := Aside0.mk H
         clear H
         go_wp2
         go_roundg k2
         case measure => have := HK1.out; have := HK2.out; omega
         case rel => exact ⟨(x3_2), (wrap64 (x9_1 + 1)), (by first | rfl | (simp; done) | (simp [*]; done)), H', ⟨by have := HK1.out; have := HK2.out; omega⟩, ⟨by (with_reducible repeat (first | apply Kd.R_alloc | apply Kd.R_drewN | apply Kd.R_drew)); exact HO_3.out⟩, ⟨by repeat (first | (with_reducible first | exact HB.out | apply below_alloc | apply pw_below_drewN | apply below_drew1) | exact HB.out)⟩⟩
     ·rw [if_neg c6] at H
      have c6b0 : decide (x9_1 < a0) = false := decide_eq_false c6
      clear c6
      obtain rfl := Option.some.inj H
      go_wp2
      go_ret
      exact ⟨_, by first | rfl | (simp [errW_none, errW_some] <;> rfl) | (simp [*, errW_none, errW_some] <;> rfl), by (with_reducible repeat (first | apply Kd.R_alloc | apply Kd.R_drewN | apply Kd.R_drew)); exact HO_3.out, by repeat (first | (with_reducible first | exact HB.out | apply below_alloc | apply pw_below_drewN | apply below_drew1) | exact HB.out)⟩
  ·rw [if_neg c3] at H
   exact absurd H (by simp)
 ·rw [if_neg c2] at H
  exact absurd H (by simp)
end Go.Proofs.YtjloppfdagfpmaaDoor.X
end
section
/- minor.Greatest, by hand. -/
namespace Go.Proofs.YtjloppfdagfpmaaDoor.X
open Go.RowKit YtjloppfdagfpmaaDoorW.PrintWords YtjloppfdagfpmaaDoorW.PrintLast YtjloppfdagfpmaaDoorW.PrintMore YtjloppfdagfpmaaDoor.T
def greatN (G : List Nat) : Nat → Nat
 | 0 => 0
 | n + 1 => if (findN G (kN (n + 1))).isSome then n + 1 else greatN G n
def minor_Greatest.f (g : List Int) : Option (Int × Int) :=
 if g.length < 1000 then some (if chk 8 g = true then ((greatN (g.map Int.toNat) (min 6 g.length) : Int), 0) else (0, 2)) else none
theorem find_one {G : List Nat} (hG : Gr 8 G) : (findN G (kN 1)).isSome = true := by
 rw [find_mnr hG (by omega) (kN_gr (n := 1) (by omega) (by omega)) (by omega), mnr_k]
 exact ⟨fun _ x => x = 0, fun i _ => ⟨conn_one _ 0, fun x hx => by rw [hx]; exact hG.pos⟩, fun i j x hi hj _ _ => by omega, fun i j hi hj h => by omega⟩
theorem clique_all : ∀ i : Fin 6, minor_clique.f 60 ((i.val : Int) + 1) = some (gi (kN (i.val + 1))) := by decide +kernel
theorem clique_f {n : Nat} (h1 : 1 ≤ n) (h6 : n ≤ 6) : minor_clique.f 60 (n : Int) = some (gi (kN n)) := by
 have := clique_all ⟨n - 1, by omega⟩
 rw [show (((⟨n - 1, by omega⟩ : Fin 6).val : Int) + 1) = (n : Int) by simp; omega, show ((⟨n - 1, by omega⟩ : Fin 6).val + 1) = n by simp; omega] at this
 exact this
theorem kN_small {n : Nat} (h1 : 1 ≤ n) (h6 : n ≤ 6) : ∀ x ∈ kN n, x < 512 := fun x hx => by
 have hg := kN_gr h1 h6
 obtain ⟨i, hi, e⟩ := List.getElem_of_mem hx
 have := hg.row i
 rw [List.getD_eq_getElem?_getD, List.getElem?_eq_getElem hi] at this
 rw [← e]
 exact small _ (by rw [kN_length]; omega) this
set_option maxHeartbeats 4000000 in
set_option maxRecDepth 100000 in
theorem minor_Greatest.calls (A0 : Option Addr) (c0 : Nat) (l0 : List Int) (r1 : Int) (r2 : Int) (w : World) (hGL : GL w) (hr0 : Kd.C (Kd.int .i64) w A0 l0.length l0) (hc0 : l0.length ≤ c0) (h : minor_Greatest.f l0 = some (r1, r2)) :
  Calls Tryd.prog 53 #[.slice A0 l0.length c0] w fun e w' => e = .returned (.tuple #[.int .i64 r1, .int .i64 r2]) ∧ Below w.heap.size w w' := by
 unfold minor_Greatest.f at h
 by_cases hlen : l0.length < 1000
 ·rw [if_pos hlen] at h
  have h := Option.some.inj h
  have HC1 : Aside0 (∀ W, Below w.heap.size w W → Calls Tryd.prog 63 #[.slice A0 l0.length c0, .int .i64 8] W fun e w' => ∃ v, e = .returned (.tuple #[v, .bool (chk 8 l0)]) ∧ (chk 8 l0 = true → ∃ A1 c1, v = .slice A1 l0.length c1 ∧ l0.length ≤ c1 ∧ Kd.C (Kd.int .i64) w' A1 l0.length l0) ∧ Below W.heap.size W w') := ⟨fun W hW => read_any 8 (by omega) (by omega) A0 c0 W (Kd.C_below hr0 hW) hc0⟩
  have HGL := Aside0.mk hGL
  cases hg : chk 8 l0
  ·rw [hg] at h HC1
   injection h with h1 h2
   subst h1 h2
   clear hg hr0
   go_enter Tryd.func53, Tryd.ntmps53
   go_wp2_with (go_at_call 63; refine (HC1.out _ (Below.refl _ _)).mono ?_; rintro e w1 ⟨v1, rfl, _, hb1⟩; have HB1 := Aside0.mk hb1; clear hb1)
   go_ret2
   exact ⟨rfl, HB1.out⟩
  ·rw [hg] at h HC1
   obtain ⟨G, rfl, hG⟩ := (chk_iff 8 (by omega) _).1 hg
   rw [gi_toNat] at h
   simp only [gi_length] at HC1 hr0 hc0 h ⊢
   have hn := hG.most
   have hn1 := hG.pos
   have HG := Aside0.mk hG
   obtain ⟨z, hz⟩ : ∃ z, min 6 G.length = z := ⟨_, rfl⟩
   rw [hz] at h
   injection h with h1 h2
   subst h2
   have hz6 : z ≤ 6 := by omega
   have hz1 : 1 ≤ z := by omega
   have hmn : (if (6 : Int) ≤ (G.length : Int) then (6 : Int) else (G.length : Int)) = (z : Int) := by split <;> omega
   have hmn2 : min (6 : Int) (G.length : Int) = (z : Int) := by omega
   have hmn3 : (if (G.length : Int) < (6 : Int) then (G.length : Int) else (6 : Int)) = (z : Int) := by split <;> omega
   have HR : Aside0 (((greatN G z : Nat) : Int) = r1) := ⟨h1⟩
   clear hg hr0 hG hGL hz h1
   have HONE := Aside0.mk (find_one HG.out)
   have heq_ := fun (w : World) (a : Option Addr) (n c : Nat) => Lib.run_eql_slice_nil (P := Tryd.prog) w 22 3 a n c 0 0 Tryd.underlying22
   go_enter Tryd.func53, Tryd.ntmps53
   go_wp2_with (go_at_call 63; refine (HC1.out _ (Below.refl _ _)).mono ?_; rintro e w1 ⟨v1, rfl, hv1, hb1⟩; obtain ⟨A5, c5, rfl, hc5, hC5⟩ := hv1 trivial; have HB1 := Aside0.mk hb1; have HC5 := Aside0.mk hC5; clear hb1 hv1 hC5)
   go_loopg [6] z (fun kq v6 w' => v6 = .int .i64 (kq : Int) ∧ 1 ≤ kq ∧ kq ≤ 6 ∧ Aside0 (((greatN G kq : Nat) : Int) = r1) ∧ Aside0 (Below w1.heap.size w1 w'))
   case atStart => exact ⟨by first | rfl | (simp; omega), hz1, hz6, HR, ⟨Below.refl _ _⟩⟩
   case round =>
    clear HR
    obtain ⟨rfl, hk1, hk6, HA, HBW⟩ := hrel
    have HCL : Aside0 (∀ W, Below w1.heap.size w1 W → Calls Tryd.prog 74 #[.int .i64 (gk : Int)] W fun e w' => ∃ A c, e = .returned (.slice A gk c) ∧ gk ≤ c ∧ Kd.C (Kd.int .i64) w' A (gi (kN gk)).length (gi (kN gk)) ∧ Below W.heap.size W w') := ⟨fun W hW => by
     refine (minor_clique.calls 60 (gk : Int) (gi (kN gk)) W (clique_f hk1 hk6)).mono ?_
     rintro e w' ⟨v, rfl, hv, hb⟩
     obtain ⟨A, c, ev, hc, hC⟩ := Kd.R_reads hv
     rw [gi_length, kN_length] at ev hc
     exact ⟨A, c, by rw [ev], hc, hC, hb⟩⟩
    have HFD : Aside0 (∀ W A c, Below w1.heap.size w1 W → Kd.C (Kd.int .i64) W A (gi (kN gk)).length (gi (kN gk)) → Calls Tryd.prog 64 #[.slice A5 G.length c5, .slice A gk c] W fun e w' => ∃ v, e = .returned v ∧ ((findN G (kN gk) = none ∧ v = .slice none 0 0) ∨ ((findN G (kN gk)).isSome = true ∧ ∃ a n c, v = .slice (some a) n c)) ∧ Below W.heap.size W w') := ⟨fun W A c hW hA => by
     have hCG : Kd.C (Kd.int .i64) W A5 (gi G).length (gi G) := by rw [gi_length]; exact Kd.C_below HC5.out hW
     have := find_calls A5 c5 G (gr_mono HG.out (by omega)) hc5 A c (kN gk) (by rw [kN_length]; exact hk1) (by rw [kN_length]; omega) (kN_small hk1 hk6) W (GL_below HGL.out (below_step HB1.out hW)) hCG hA
     rw [kN_length] at this
     refine this.mono ?_
     rintro e w' ⟨v, e1, _, e2, e3⟩
     exact ⟨v, e1, e2, e3⟩⟩
    cases hf : findN G (kN gk) with
    | none =>
     rw [hf] at HFD
     have h2 : 2 ≤ gk := by
      apply Classical.byContradiction
      intro h
      obtain rfl : gk = 1 := by omega
      have := HONE.out
      rw [hf] at this; cases this
     obtain ⟨g1, rfl⟩ : ∃ g1, gk = g1 + 1 := ⟨gk - 1, by omega⟩
     have HA2 : Aside0 (((greatN G g1 : Nat) : Int) = r1) := ⟨by
      have := HA.out
      rw [greatN, hf] at this
      exact this⟩
     clear hf HA
     go_wp2_with (first
      | (go_at_call 74; refine (HCL.out _ HBW.out).mono ?_; rintro e w3 ⟨A6, c6, rfl, hc6, hC6, hb3⟩; have HB3 := Aside0.mk (below_step HBW.out hb3); have HC6 := Aside0.mk hC6; clear hb3 hC6)
      | (go_at_call 64; refine (HFD.out _ _ _ HB3.out HC6.out).mono ?_; rintro e w4 ⟨v4, rfl, hv4, hb4⟩; have hv5 : v4 = .slice none 0 0 := hv4.elim (fun h => h.2) (fun h => by cases h.1); subst hv5; have HB4 := Aside0.mk (below_step HB3.out hb4); clear hb4 hv4))
     go_roundg g1
     case measure => omega
     case rel => exact ⟨by go_num, by omega, by omega, HA2, HB4⟩
    | some M =>
     rw [hf] at HFD
     have hr : ((gk : Nat) : Int) = r1 := by
      have := HA.out
      obtain ⟨g1, rfl⟩ : ∃ g1, gk = g1 + 1 := ⟨gk - 1, by omega⟩
      rw [greatN, hf] at this
      exact this
     subst hr
     clear hf HA
     go_wp2_with (first
      | (go_at_call 74; refine (HCL.out _ HBW.out).mono ?_; rintro e w3 ⟨A6, c6, rfl, hc6, hC6, hb3⟩; have HB3 := Aside0.mk (below_step HBW.out hb3); have HC6 := Aside0.mk hC6; clear hb3 hC6)
      | (go_at_call 64; refine (HFD.out _ _ _ HB3.out HC6.out).mono ?_; rintro e w4 ⟨v4, rfl, hv4, hb4⟩; obtain ⟨a4, n4, c4, rfl⟩ : ∃ a n c, v4 = .slice (some a) n c := hv4.elim (fun h => by cases h.1) (fun h => h.2); have HB4 := Aside0.mk (below_step HB3.out hb4); clear hb4 hv4))
     go_ret2
     exact ⟨rfl, below_step HB1.out HB4.out⟩
 ·rw [if_neg hlen] at h
  cases h
end Go.Proofs.YtjloppfdagfpmaaDoor.X
end
section
namespace Go.Proofs.YtjloppfdagfpmaaDoor.X
open Go.RowKit YtjloppfdagfpmaaDoorW.PrintWords YtjloppfdagfpmaaDoorW.PrintLast YtjloppfdagfpmaaDoorW.PrintMore
attribute [local go_sem] max2_int min2_int max_two min_two max_three min_three max_four min_four
/-! ### width_read: function 86 -/
mutual
def width_read.j0 : Nat → List Int → Int → Bool → Option (List Int × Bool)
 | 0, _, _, _ => none
 | k + 1, x0, x4, x15 => if x15 = true then (some (([] : List Int), false)) else (width_read.l0 k x0 x4 x0 (x0.length : Int) 0)
def width_read.l0 : Nat → List Int → Int → List Int → Int → Int → Option (List Int × Bool)
 | 0, _, _, _, _, _ => none
 | k + 1, x0, x4, x16, x17, x18 => if x18 < x17 then (if 0 ≤ x18 then (if x18 < (x16.length : Int) then (if (rd x16 x18) < 0 then (width_read.j2 k x0 x4 x18 (rd x16 x18) x16 x17 x18 true) else (if 0 ≤ x4 then (if (rd x16 x18) ≥ (shl .i64 1 x4) then (width_read.j2 k x0 x4 x18 (rd x16 x18) x16 x17 x18 true) else (width_read.j2 k x0 x4 x18 (rd x16 x18) x16 x17 x18 ((Go.bits .and .i64 (shr .i64 (rd x16 x18) x18) 1) == 1))) else (none))) else (none)) else (none)) else (some (x0, true))
def width_read.j2 : Nat → List Int → Int → Int → Int → List Int → Int → Int → Bool → Option (List Int × Bool)
 | 0, _, _, _, _, _, _, _, _ => none
 | k + 1, x0, x4, x5, x6, x16, x17, x18, x37 => if x37 = true then (some (([] : List Int), false)) else (width_read.l1 k x0 x4 x5 x6 x16 x17 x18 x4 0)
def width_read.l1 : Nat → List Int → Int → Int → Int → List Int → Int → Int → Int → Int → Option (List Int × Bool)
 | 0, _, _, _, _, _, _, _, _, _ => none
 | k + 1, x0, x4, x5, x6, x16, x17, x18, x38, x39 => if x39 < x38 then (if 0 ≤ x39 then (if x39 < (x0.length : Int) then (if 0 ≤ x5 then (if (Go.bits .and .i64 (shr .i64 x6 x39) 1) = (Go.bits .and .i64 (shr .i64 (rd x0 x39) x5) 1) then (width_read.l1 k x0 x4 x5 x6 x16 x17 x18 x38 (wrap64 (x39 + 1))) else (some (([] : List Int), false))) else (none)) else (none)) else (none)) else (width_read.l0 k x0 x4 x16 x17 (wrap64 (x18 + 1)))
end
def width_read.f (k : Nat) (l0 : List Int) : Option (List Int × Bool) := if (l0.length : Int) < 1 then (width_read.j0 k l0 (l0.length : Int) true) else (width_read.j0 k l0 (l0.length : Int) (decide ((l0.length : Int) > 9)))
set_option maxHeartbeats 8000000 in
set_option maxRecDepth 100000 in
theorem width_read.calls (k : Nat) (P0_ : Nat → Prop) (A0 : Option Addr) (c0 : Nat) (l0 : List Int) (r1 : List Int) (r2 : Bool) (w : World) (hs0 : Kd.V (Kd.int .i64) 3 w w.heap.size (fun k_ => P0_ k_) (.slice A0 l0.length c0) l0) (h : width_read.f k l0 = some (r1, r2)) :
  Calls Tryd.prog 86 #[.slice A0 l0.length c0] w fun e w' => ∃ v0_ : Value, e = .returned (.tuple #[v0_, .bool r2]) ∧ Kd.V (Kd.int .i64) 3 w' w.heap.size (fun k_ => (P0_ k_ ∨ w.heap.size ≤ k_)) v0_ r1 ∧ Below w.heap.size w w' := by
 have HO0 := Aside0.mk (show Kd.V (Kd.int .i64) 3 w w.heap.size (fun k_ => (P0_ k_ ∨ w.heap.size ≤ k_)) (.slice A0 l0.length c0) l0 from Kd.V_mono hs0 (fun k_ hk => .inl hk))
 have HB := Aside0.mk (Below.refl w.heap.size w)
 have H : (if (l0.length : Int) < 1 then (width_read.j0 k l0 (l0.length : Int) true) else (width_read.j0 k l0 (l0.length : Int) (decide ((l0.length : Int) > 9)))) = some (r1, r2) := h
 clear h
 have HC2 := Aside0.mk H
 clear H
 go_enter Tryd.func86, Tryd.ntmps86
 go_upto_region 2 with (fail)
 repeat (go_quiet (fail); go_upto_region 2 with (fail))
 go_cut [15] (fun v15 wc => ∃ (kq : Nat) (x15_1 : Bool), v15 = .bool x15_1 ∧ Aside0 (width_read.j0 kq l0 (l0.length : Int) x15_1 = some (r1, r2)) ∧ Aside0 (kq ≤ k) ∧ Aside0 (Kd.V (Kd.int .i64) 3 wc w.heap.size (fun k_ => (P0_ k_ ∨ w.heap.size ≤ k_)) (.slice A0 l0.length c0) l0) ∧ Aside0 (Below w.heap.size w wc))
 case first =>
  have H := HC2.out
  clear HC2
  by_cases c3 : (l0.length : Int) < 1
  ·rw [if_pos c3] at H
   have c3b0 : decide ((l0.length : Int) < 1) = true := decide_eq_true c3
   have c3b1 : decide (l0.length < 1) = true := decide_eq_true (by omega)
   clear c3
   (first | rw [c3b0] | (simp only [i64_w, i32_w]; rw [c3b0]) | skip)
   have H' := Aside0.mk H
   clear H
   go_wp2
   repeat (go_quiet (fail); try go_wp2)
   go_meet
   case rel => exact ⟨_, (true), (by first | rfl | (simp; done) | (simp [*]; done)), H', ⟨by first | omega | exact Nat.le_refl _⟩, ⟨by (with_reducible repeat (first | apply Kd.V_alloc | apply Kd.V_drewN | apply Kd.V_drew)); exact HO0.out⟩, ⟨by repeat (first | (with_reducible first | exact HB.out | apply below_alloc | apply pw_below_drewN | apply below_drew1) | exact HB.out)⟩⟩
  ·rw [if_neg c3] at H
   have c3b0 : decide ((l0.length : Int) < 1) = false := decide_eq_false c3
   have c3b1 : decide (l0.length < 1) = false := decide_eq_false (by omega)
   clear c3
   (first | rw [c3b0] | (simp only [i64_w, i32_w]; rw [c3b0]) | skip)
   have H' := Aside0.mk H
   clear H
   go_wp2
   repeat (go_quiet (fail); try go_wp2)
   go_meet
   case rel => exact ⟨_, (decide ((l0.length : Int) > 9)), (by first | rfl | (simp; done) | (simp [*]; done)), H', ⟨by first | omega | exact Nat.le_refl _⟩, ⟨by (with_reducible repeat (first | apply Kd.V_alloc | apply Kd.V_drewN | apply Kd.V_drew)); exact HO0.out⟩, ⟨by repeat (first | (with_reducible first | exact HB.out | apply below_alloc | apply pw_below_drewN | apply below_drew1) | exact HB.out)⟩⟩
 case rest =>
  clear HC2
  try clear p2
  try clear c3
  try clear c3b0
  try clear c3b1
  obtain ⟨kq, x15_1, rfl, HA, HJ1, HO_0, HB⟩ := hcut
  cases kq with
  | zero => exact absurd HA.out (by simp [width_read.j0])
  | succ kj1 =>
   have H := HA.out
   clear HA
   simp only [width_read.j0] at H
   by_cases c4 : x15_1 = true
   ·subst c4
    have H1 : (some (([] : List Int), false)) = some (r1, r2) := by rw [if_pos rfl] at H; exact H
    clear H
    have H := H1
    clear H1
    simp only [Option.some.injEq, Prod.mk.injEq] at H
    obtain ⟨rfl, rfl⟩ := H
    go_wp2
    repeat (go_quiet (fail); try go_wp2)
    go_ret2
    exact ⟨_, by first | rfl | (simp [errW_none, errW_some] <;> rfl) | (simp [*, errW_none, errW_some] <;> rfl), Kd.V_nil _ _ _ _ _, by repeat (first | (with_reducible first | exact HB.out | apply below_alloc | apply pw_below_drewN | apply below_drew1) | exact HB.out)⟩
   ·replace c4 := Bool.eq_false_iff.mpr c4
    subst c4
    have H1 : (width_read.l0 kj1 l0 (l0.length : Int) l0 (l0.length : Int) 0) = some (r1, r2) := by rw [if_neg (show ¬ (false = true) by decide)] at H; exact H
    clear H
    have H := H1
    clear H1
    have H' := Aside0.mk H
    clear H
    go_wp2
    repeat (go_quiet (fail); try go_wp2)
    go_loopg [18] kj1 (fun kq v18 w' => ∃ (x18_2 : Int), v18 = .int .i64 x18_2 ∧ Aside0 (width_read.l0 kq l0 (l0.length : Int) l0 (l0.length : Int) x18_2 = some (r1, r2)) ∧ Aside0 (kq ≤ kj1) ∧ Aside0 (Kd.V (Kd.int .i64) 3 w' w.heap.size (fun k_ => (P0_ k_ ∨ w.heap.size ≤ k_)) (.slice A0 l0.length c0) l0) ∧ Aside0 (Kd.V (Kd.int .i64) 3 w' w.heap.size (fun k_ => (P0_ k_ ∨ w.heap.size ≤ k_)) (.slice A0 l0.length c0) l0) ∧ Aside0 (Below w.heap.size w w'))
    case atStart => exact ⟨(0), (by first | rfl | (simp; done) | (simp [*]; done)), H', ⟨Nat.le_refl _⟩, ⟨by (with_reducible repeat (first | apply Kd.V_alloc | apply Kd.V_drewN | apply Kd.V_drew)); exact HO_0.out⟩, ⟨by (with_reducible repeat (first | apply Kd.V_alloc | apply Kd.V_drewN | apply Kd.V_drew)); exact HO_0.out⟩, ⟨by repeat (first | (with_reducible first | exact HB.out | apply below_alloc | apply pw_below_drewN | apply below_drew1) | exact HB.out)⟩⟩
    case round =>
     clear H'
     try clear p2
     try clear c3
     try clear c3b0
     try clear c3b1
     try clear c4
     try clear p2
     obtain ⟨x18_2, rfl, HA, HK2, HO_0, HO_16, HB⟩ := hrel
     cases gk with
     | zero => exact absurd HA.out (by simp [width_read.l0])
     | succ k2 =>
      have H := HA.out
      clear HA
      simp only [width_read.l0] at H
      by_cases c5 : x18_2 < (l0.length : Int)
      ·rw [if_pos c5] at H
       have c5b0 : decide (x18_2 < (l0.length : Int)) = true := decide_eq_true c5
       clear c5
       by_cases c6 : 0 ≤ x18_2
       ·rw [if_pos c6] at H
        have c6b0 : decide (0 ≤ x18_2) = true := decide_eq_true c6
        clear c6
        by_cases c7 : x18_2 < (l0.length : Int)
        ·rw [if_pos c7] at H
         have c7b0 : decide (x18_2 < (l0.length : Int)) = true := decide_eq_true c7
         clear c7
         have HC8 := Aside0.mk H
         clear H
         have p536 : 0 ≤ (x18_2 : Int) := of_decide_eq_true (by first | (with_reducible assumption) | assumption)
         have q536 : x18_2 < (l0.length : Int) := of_decide_eq_true (by first | (with_reducible assumption) | assumption)
         obtain ⟨ad536, e536, hx536_0⟩ := Kd.at_int (Kd.V_reads' HO_16.out).2.2 x18_2 p536 q536
         cases e536
         replace p536 := eq_true p536
         replace q536 := eq_true q536
         go_upto_region 7 with (fail)
         repeat (go_quiet (fail); go_upto_region 7 with (fail))
         go_cut [37] (fun v37 wc => ∃ (kq : Nat) (x37_7 : Bool), v37 = .bool x37_7 ∧ Aside0 (width_read.j2 kq l0 (l0.length : Int) x18_2 (rd l0 x18_2) l0 (l0.length : Int) x18_2 x37_7 = some (r1, r2)) ∧ Aside0 (kq ≤ k2) ∧ Aside0 (Kd.V (Kd.int .i64) 3 wc w.heap.size (fun k_ => (P0_ k_ ∨ w.heap.size ≤ k_)) (.slice (some ad536) l0.length c0) l0) ∧ Aside0 (Kd.V (Kd.int .i64) 3 wc w.heap.size (fun k_ => (P0_ k_ ∨ w.heap.size ≤ k_)) (.slice (some ad536) l0.length c0) l0) ∧ Aside0 (Below w.heap.size w wc))
         case first =>
          have H := HC8.out
          clear HC8
          by_cases c9 : (rd l0 x18_2) < 0
          ·rw [if_pos c9] at H
           have c9b0 : decide ((rd l0 x18_2) < 0) = true := decide_eq_true c9
           clear c9
           (first | rw [c9b0] | (simp only [i64_w, i32_w]; rw [c9b0]) | skip)
           have H' := Aside0.mk H
           clear H
           go_wp2
           repeat (go_quiet (fail); try go_wp2)
           go_meet
           case rel => exact ⟨_, (true), (by first | rfl | (simp; done) | (simp [*]; done)), H', ⟨by have := HJ1.out; have := HK2.out; first | omega | exact Nat.le_refl _⟩, ⟨by (with_reducible repeat (first | apply Kd.V_alloc | apply Kd.V_drewN | apply Kd.V_drew)); exact HO_0.out⟩, ⟨by (with_reducible repeat (first | apply Kd.V_alloc | apply Kd.V_drewN | apply Kd.V_drew)); exact HO_16.out⟩, ⟨by repeat (first | (with_reducible first | exact HB.out | apply below_alloc | apply pw_below_drewN | apply below_drew1) | exact HB.out)⟩⟩
          ·rw [if_neg c9] at H
           have c9b0 : decide ((rd l0 x18_2) < 0) = false := decide_eq_false c9
           clear c9
           (first | rw [c9b0] | (simp only [i64_w, i32_w]; rw [c9b0]) | skip)
           by_cases c10 : 0 ≤ (l0.length : Int)
           ·rw [if_pos c10] at H
            have c10b0 := eq_true c10
            have c10b1 : decide (0 ≤ (l0.length : Int)) = true := decide_eq_true c10
            clear c10
            obtain ⟨ji11, hji11⟩ : ∃ j_ : Int, (shl .i64 1 (l0.length : Int)) = j_ := ⟨_, rfl⟩
            replace H : (if (rd l0 x18_2) ≥ (ji11) then (width_read.j2 k2 l0 (l0.length : Int) x18_2 (rd l0 x18_2) l0 (l0.length : Int) x18_2 true) else (width_read.j2 k2 l0 (l0.length : Int) x18_2 (rd l0 x18_2) l0 (l0.length : Int) x18_2 ((Go.bits .and .i64 (shr .i64 (rd l0 x18_2) x18_2) 1) == 1))) = some (r1, r2) := by first | (rw [hji11] at H; exact H) | (simp only [hji11] at H ⊢; exact H)
            have hji11_ : (IntKind.i64.wrap (1 * 2 ^ min (l0.length : Int).toNat 64)) = ji11 := hji11
            have hji11z : (l0.length : Int) ≤ 64 → (IntKind.i64.wrap (1 * 2 ^ (l0.length : Int).toNat)) = ji11 := shl_small hji11
            have hji11p : (IntKind.i64.wrap (1 * 2 ^ min l0.length 64)) = ji11 := hji11_
            have hji11q : (l0.length : Int) ≤ 64 → (IntKind.i64.wrap (1 * 2 ^ l0.length)) = ji11 := hji11z
            have hji11r : (IntKind.i64.wrap (2 ^ min l0.length 64)) = ji11 := by have h_ := hji11p; rw [Int.one_mul] at h_; exact h_
            have hji11s : (l0.length : Int) ≤ 64 → (IntKind.i64.wrap (2 ^ l0.length)) = ji11 := fun hle_ => by have h_ := hji11q hle_; rw [Int.one_mul] at h_; exact h_
            have hji11u : (IntKind.i64.wrap (2 ^ min (l0.length : Int).toNat 64)) = ji11 := by have h_ := hji11_; rw [Int.one_mul] at h_; exact h_
            have hji11v : (l0.length : Int) ≤ 64 → (IntKind.i64.wrap (2 ^ (l0.length : Int).toNat)) = ji11 := fun hle_ => by have h_ := hji11z hle_; rw [Int.one_mul] at h_; exact h_
            have hji11y : (wrap64 (1 * 2 ^ min (l0.length : Int).toNat 64)) = ji11 := (i64_w _).symm.trans hji11_
            have hji11x : (l0.length : Int) ≤ 64 → (wrap64 (1 * 2 ^ (l0.length : Int).toNat)) = ji11 := fun h_ => (i64_w _).symm.trans (hji11z h_)
            by_cases c12 : (rd l0 x18_2) ≥ (ji11)
            ·rw [if_pos c12] at H
             have c12b0 : decide ((ji11) ≤ (rd l0 x18_2)) = true := decide_eq_true c12
             clear c12
             have H' := Aside0.mk H
             clear H
             go_wp2
             repeat (go_quiet (fail); try go_wp2)
             go_meet
             case rel => exact ⟨_, (true), (by first | rfl | (simp; done) | (simp [*]; done)), H', ⟨by have := HJ1.out; have := HK2.out; first | omega | exact Nat.le_refl _⟩, ⟨by (with_reducible repeat (first | apply Kd.V_alloc | apply Kd.V_drewN | apply Kd.V_drew)); exact HO_0.out⟩, ⟨by (with_reducible repeat (first | apply Kd.V_alloc | apply Kd.V_drewN | apply Kd.V_drew)); exact HO_16.out⟩, ⟨by repeat (first | (with_reducible first | exact HB.out | apply below_alloc | apply pw_below_drewN | apply below_drew1) | exact HB.out)⟩⟩
            ·rw [if_neg c12] at H
             have c12b0 : decide ((ji11) ≤ (rd l0 x18_2)) = false := decide_eq_false c12
             clear c12
             have c13b0 := eq_true (of_decide_eq_true (by first | (with_reducible assumption) | assumption) : 0 ≤ x18_2)
             obtain ⟨ji14, hji14⟩ : ∃ j_ : Int, (shr .i64 (rd l0 x18_2) x18_2) = j_ := ⟨_, rfl⟩
             replace H : (width_read.j2 k2 l0 (l0.length : Int) x18_2 (rd l0 x18_2) l0 (l0.length : Int) x18_2 ((Go.bits .and .i64 (ji14) 1) == 1)) = some (r1, r2) := by first | (rw [hji14] at H; exact H) | (simp only [hji14] at H ⊢; exact H)
             have hji14_ : ((rd l0 x18_2) / 2 ^ min x18_2.toNat 64) = ji14 := hji14
             have hji14z : x18_2 ≤ 64 → ((rd l0 x18_2) / 2 ^ x18_2.toNat) = ji14 := shr_small hji14
             have H' := Aside0.mk H
             clear H
             go_wp2
             repeat (go_quiet (fail); try go_wp2)
             go_meet
             case rel => exact ⟨_, (((Go.bits .and .i64 (ji14) 1) == 1)), (by first | rfl | (simp; done) | (simp only [← hji14] <;> (first | rfl | simp)) | (simp [*]; done)), H', ⟨by have := HJ1.out; have := HK2.out; first | omega | exact Nat.le_refl _⟩, ⟨by (with_reducible repeat (first | apply Kd.V_alloc | apply Kd.V_drewN | apply Kd.V_drew)); exact HO_0.out⟩, ⟨by (with_reducible repeat (first | apply Kd.V_alloc | apply Kd.V_drewN | apply Kd.V_drew)); exact HO_16.out⟩, ⟨by repeat (first | (with_reducible first | exact HB.out | apply below_alloc | apply pw_below_drewN | apply below_drew1) | exact HB.out)⟩⟩
           ·rw [if_neg c10] at H
            exact absurd H (by simp)
         case rest =>
          clear HC8
          try clear c1
          try clear p2
          try clear c3
          try clear c3b0
          try clear c3b1
          try clear c4
          try clear c5
          try clear c5b0
          try clear p5
          try clear q5
          try clear hx5
          try clear c6
          try clear c6b0
          try clear p6
          try clear c7
          try clear c7b0
          try clear c8
          try clear c9
          try clear c9b0
          try clear c10
          try clear c10b0
          try clear c10b1
          try clear c12
          try clear c12b0
          try clear c13
          try clear c13b0
          try clear hx536_0
          try clear p2
          try clear p536
          try clear q536
          obtain ⟨kq, x37_7, rfl, HA, HJ7, HO_0, HO_16, HB⟩ := hcut
          cases kq with
          | zero => exact absurd HA.out (by simp [width_read.j2])
          | succ kj7 =>
           have H := HA.out
           clear HA
           simp only [width_read.j2] at H
           by_cases c15 : x37_7 = true
           ·subst c15
            have H1 : (some (([] : List Int), false)) = some (r1, r2) := by rw [if_pos rfl] at H; exact H
            clear H
            have H := H1
            clear H1
            simp only [Option.some.injEq, Prod.mk.injEq] at H
            obtain ⟨rfl, rfl⟩ := H
            go_wp2
            repeat (go_quiet (fail); try go_wp2)
            go_ret2
            exact ⟨_, by first | rfl | (simp [errW_none, errW_some] <;> rfl) | (simp [*, errW_none, errW_some] <;> rfl), Kd.V_nil _ _ _ _ _, by repeat (first | (with_reducible first | exact HB.out | apply below_alloc | apply pw_below_drewN | apply below_drew1) | exact HB.out)⟩
           ·replace c15 := Bool.eq_false_iff.mpr c15
            subst c15
            have H1 : (width_read.l1 kj7 l0 (l0.length : Int) x18_2 (rd l0 x18_2) l0 (l0.length : Int) x18_2 (l0.length : Int) 0) = some (r1, r2) := by rw [if_neg (show ¬ (false = true) by decide)] at H; exact H
            clear H
            have H := H1
            clear H1
            have H' := Aside0.mk H
            clear H
            go_wp2
            repeat (go_quiet (fail); try go_wp2)
            go_loopg [39] kj7 (fun kq v39 w' => ∃ (x39_4 : Int), v39 = .int .i64 x39_4 ∧ Aside0 (width_read.l1 kq l0 (l0.length : Int) x18_2 (rd l0 x18_2) l0 (l0.length : Int) x18_2 (l0.length : Int) x39_4 = some (r1, r2)) ∧ Aside0 (kq ≤ kj7) ∧ Aside0 (Kd.V (Kd.int .i64) 3 w' w.heap.size (fun k_ => (P0_ k_ ∨ w.heap.size ≤ k_)) (.slice (some ad536) l0.length c0) l0) ∧ Aside0 (Kd.V (Kd.int .i64) 3 w' w.heap.size (fun k_ => (P0_ k_ ∨ w.heap.size ≤ k_)) (.slice (some ad536) l0.length c0) l0) ∧ Aside0 (Below w.heap.size w w'))
            case atStart => exact ⟨(0), (by first | rfl | (simp; done) | (simp [*]; done)), H', ⟨Nat.le_refl _⟩, ⟨by (with_reducible repeat (first | apply Kd.V_alloc | apply Kd.V_drewN | apply Kd.V_drew)); exact HO_0.out⟩, ⟨by (with_reducible repeat (first | apply Kd.V_alloc | apply Kd.V_drewN | apply Kd.V_drew)); exact HO_16.out⟩, ⟨by repeat (first | (with_reducible first | exact HB.out | apply below_alloc | apply pw_below_drewN | apply below_drew1) | exact HB.out)⟩⟩
            case round =>
             clear H'
             try clear c1
             try clear p2
             try clear c3
             try clear c3b0
             try clear c3b1
             try clear c4
             try clear c5
             try clear c5b0
             try clear p5
             try clear q5
             try clear hx5
             try clear c6
             try clear c6b0
             try clear p6
             try clear c7
             try clear c7b0
             try clear c8
             try clear c9
             try clear c9b0
             try clear c10
             try clear c10b0
             try clear c10b1
             try clear c12
             try clear c12b0
             try clear c13
             try clear c13b0
             try clear c15
             try clear hx536_0
             try clear p2
             try clear p5
             try clear p536
             try clear p6
             try clear q5
             try clear q536
             obtain ⟨x39_4, rfl, HA, HK4, HO_0, HO_16, HB⟩ := hrel
             cases gk with
             | zero => exact absurd HA.out (by simp [width_read.l1])
             | succ k4 =>
              have H := HA.out
              clear HA
              simp only [width_read.l1] at H
              by_cases c16 : x39_4 < (l0.length : Int)
              ·rw [if_pos c16] at H
               have c16b0 : decide (x39_4 < (l0.length : Int)) = true := decide_eq_true c16
               clear c16
               by_cases c17 : 0 ≤ x39_4
               ·rw [if_pos c17] at H
                have c17b0 := eq_true c17
                have c17b1 : decide (0 ≤ x39_4) = true := decide_eq_true c17
                clear c17
                obtain ⟨ji18, hji18⟩ : ∃ j_ : Int, (shr .i64 (rd l0 x18_2) x39_4) = j_ := ⟨_, rfl⟩
                replace H : (if x39_4 < (l0.length : Int) then (if 0 ≤ x18_2 then (if (Go.bits .and .i64 (ji18) 1) = (Go.bits .and .i64 (shr .i64 (rd l0 x39_4) x18_2) 1) then (width_read.l1 k4 l0 (l0.length : Int) x18_2 (rd l0 x18_2) l0 (l0.length : Int) x18_2 (l0.length : Int) (wrap64 (x39_4 + 1))) else (some (([] : List Int), false))) else (none)) else (none)) = some (r1, r2) := by first | (rw [hji18] at H; exact H) | (simp only [hji18] at H ⊢; exact H)
                have hji18_ : ((rd l0 x18_2) / 2 ^ min x39_4.toNat 64) = ji18 := hji18
                have hji18z : x39_4 ≤ 64 → ((rd l0 x18_2) / 2 ^ x39_4.toNat) = ji18 := shr_small hji18
                by_cases c19 : x39_4 < (l0.length : Int)
                ·rw [if_pos c19] at H
                 have c19b0 : decide (x39_4 < (l0.length : Int)) = true := decide_eq_true c19
                 clear c19
                 by_cases c20 : 0 ≤ x18_2
                 ·rw [if_pos c20] at H
                  have c20b0 := eq_true c20
                  have c20b1 : decide (0 ≤ x18_2) = true := decide_eq_true c20
                  clear c20
                  obtain ⟨ji21, hji21⟩ : ∃ j_ : Int, (shr .i64 (rd l0 x39_4) x18_2) = j_ := ⟨_, rfl⟩
                  replace H : (if (Go.bits .and .i64 (ji18) 1) = (Go.bits .and .i64 (ji21) 1) then (width_read.l1 k4 l0 (l0.length : Int) x18_2 (rd l0 x18_2) l0 (l0.length : Int) x18_2 (l0.length : Int) (wrap64 (x39_4 + 1))) else (some (([] : List Int), false))) = some (r1, r2) := by first | (rw [hji21] at H; exact H) | (simp only [hji21] at H ⊢; exact H)
                  have hji21_ : ((rd l0 x39_4) / 2 ^ min x18_2.toNat 64) = ji21 := hji21
                  have hji21z : x18_2 ≤ 64 → ((rd l0 x39_4) / 2 ^ x18_2.toNat) = ji21 := shr_small hji21
                  by_cases c22 : (Go.bits .and .i64 (ji18) 1) = (Go.bits .and .i64 (ji21) 1)
                  ·rw [if_pos c22] at H
                   have c22b0 : ((Go.bits .and .i64 (ji18) 1) == (Go.bits .and .i64 (ji21) 1)) = true := beq_iff_eq.mpr c22
                   have c22b1 : ((Go.bits .and .i64 (ji18) 1) != (Go.bits .and .i64 (ji21) 1)) = false := bne_eq_false_iff_eq.mpr c22
                   clear c22
                   have H' := Aside0.mk H
                   clear H
                   have p537 : 0 ≤ (x39_4 : Int) := of_decide_eq_true (by first | (with_reducible assumption) | assumption)
                   have q537 : x39_4 < (l0.length : Int) := of_decide_eq_true (by first | (with_reducible assumption) | assumption)
                   obtain ⟨ad537, e537, hx537_0⟩ := Kd.at_int (Kd.V_reads' HO_0.out).2.2 x39_4 p537 q537
                   obtain rfl : ad536 = ad537 := (by injection e537)
                   replace p537 := eq_true p537
                   replace q537 := eq_true q537
                   go_wp2
                   repeat (go_quiet (fail); try go_wp2)
                   go_roundg k4
                   case measure => have := HJ1.out; have := HK2.out; have := HJ7.out; have := HK4.out; omega
                   case rel => exact ⟨(wrap64 (x39_4 + 1)), (by first | rfl | (simp; done) | (simp [*]; done)), H', ⟨by have := HJ1.out; have := HK2.out; have := HJ7.out; have := HK4.out; omega⟩, ⟨by (with_reducible repeat (first | apply Kd.V_alloc | apply Kd.V_drewN | apply Kd.V_drew)); exact HO_0.out⟩, ⟨by (with_reducible repeat (first | apply Kd.V_alloc | apply Kd.V_drewN | apply Kd.V_drew)); exact HO_16.out⟩, ⟨by repeat (first | (with_reducible first | exact HB.out | apply below_alloc | apply pw_below_drewN | apply below_drew1) | exact HB.out)⟩⟩
                  ·rw [if_neg c22] at H
                   have c22b0 : ((Go.bits .and .i64 (ji18) 1) == (Go.bits .and .i64 (ji21) 1)) = false := beq_eq_false_iff_ne.mpr c22
                   have c22b1 : ((Go.bits .and .i64 (ji18) 1) != (Go.bits .and .i64 (ji21) 1)) = true := bne_iff_ne.mpr c22
                   simp only [Option.some.injEq, Prod.mk.injEq] at H
                   obtain ⟨rfl, rfl⟩ := H
                   have p537 : 0 ≤ (x39_4 : Int) := of_decide_eq_true (by first | (with_reducible assumption) | assumption)
                   have q537 : x39_4 < (l0.length : Int) := of_decide_eq_true (by first | (with_reducible assumption) | assumption)
                   obtain ⟨ad537, e537, hx537_0⟩ := Kd.at_int (Kd.V_reads' HO_0.out).2.2 x39_4 p537 q537
                   obtain rfl : ad536 = ad537 := (by injection e537)
                   replace p537 := eq_true p537
                   replace q537 := eq_true q537
                   go_wp2
                   repeat (go_quiet (fail); try go_wp2)
                   go_ret2
                   exact ⟨_, by first | rfl | (simp [errW_none, errW_some] <;> rfl) | (simp only [← hji18, ← hji21]; first | rfl | (simp [errW_none, errW_some] <;> rfl)) | (simp [*, errW_none, errW_some] <;> rfl), Kd.V_nil _ _ _ _ _, by repeat (first | (with_reducible first | exact HB.out | apply below_alloc | apply pw_below_drewN | apply below_drew1) | exact HB.out)⟩
                 ·rw [if_neg c20] at H
                  exact absurd H (by simp)
                ·rw [if_neg c19] at H
                 exact absurd H (by simp)
               ·rw [if_neg c17] at H
                exact absurd H (by simp)
              ·rw [if_neg c16] at H
               have c16b0 : decide (x39_4 < (l0.length : Int)) = false := decide_eq_false c16
               clear c16
               have H' := Aside0.mk H
               clear H
               go_wp2
               repeat (go_quiet (fail); try go_wp2)
               go_roundg k4
               case measure => have := HJ1.out; have := HK2.out; have := HJ7.out; have := HK4.out; omega
               case rel => exact ⟨(wrap64 (x18_2 + 1)), (by first | rfl | (simp; done) | (simp [*]; done)), H', ⟨by have := HJ1.out; have := HK2.out; have := HJ7.out; have := HK4.out; omega⟩, ⟨by (with_reducible repeat (first | apply Kd.V_alloc | apply Kd.V_drewN | apply Kd.V_drew)); exact HO_0.out⟩, ⟨by (with_reducible repeat (first | apply Kd.V_alloc | apply Kd.V_drewN | apply Kd.V_drew)); exact HO_16.out⟩, ⟨by repeat (first | (with_reducible first | exact HB.out | apply below_alloc | apply pw_below_drewN | apply below_drew1) | exact HB.out)⟩⟩
        ·rw [if_neg c7] at H
         exact absurd H (by simp)
       ·rw [if_neg c6] at H
        exact absurd H (by simp)
      ·rw [if_neg c5] at H
       have c5b0 : decide (x18_2 < (l0.length : Int)) = false := decide_eq_false c5
       clear c5
       simp only [Option.some.injEq, Prod.mk.injEq] at H
       obtain ⟨rfl, rfl⟩ := H
       go_wp2
       repeat (go_quiet (fail); try go_wp2)
       go_ret2
       exact ⟨_, by first | rfl | (simp [errW_none, errW_some] <;> rfl) | (simp [*, errW_none, errW_some] <;> rfl), by (with_reducible repeat (first | apply Kd.V_alloc | apply Kd.V_drewN | apply Kd.V_drew)); exact HO_0.out, by repeat (first | (with_reducible first | exact HB.out | apply below_alloc | apply pw_below_drewN | apply below_drew1) | exact HB.out)⟩
end Go.Proofs.YtjloppfdagfpmaaDoor.X
end
section
namespace Go.Proofs.YtjloppfdagfpmaaDoor.X
open Go.RowKit YtjloppfdagfpmaaDoorW.PrintWords YtjloppfdagfpmaaDoorW.PrintLast YtjloppfdagfpmaaDoorW.PrintMore
attribute [local go_sem] max2_int min2_int max_two min_two max_three min_three max_four min_four
/-! ### width_town_all: function 98 -/
def width_town_all.f (l0 : List Int) : Option (Int) := some (wrap64 ((shl .i64 1 (l0.length : Int)) - 1))
set_option maxHeartbeats 8000000 in
set_option maxRecDepth 100000 in
theorem width_town_all.calls (A0 : Option Addr) (c0 : Nat) (l0 : List Int) (r : Int) (w : World) (hr0 : Kd.C (Kd.int .i64) w A0 l0.length l0) (hc0 : l0.length ≤ c0) (h : width_town_all.f l0 = some r) :
  Calls Tryd.prog 98 #[.slice A0 l0.length c0] w fun e w' => e = .returned (.int .i64 r) ∧ Drawn0 w w' := by
 have HR0 := Aside0.mk hr0
 have HC0 := Aside0.mk hc0
 clear hr0 hc0
 have H : (some (wrap64 ((shl .i64 1 (l0.length : Int)) - 1))) = some r := h
 clear h
 obtain ⟨ji2, hji2⟩ : ∃ j_ : Int, (shl .i64 1 (l0.length : Int)) = j_ := ⟨_, rfl⟩
 replace H : (some (wrap64 ((ji2) - 1))) = some r := by first | (rw [hji2] at H; exact H) | (simp only [hji2] at H ⊢; exact H)
 have hji2_ : (IntKind.i64.wrap (1 * 2 ^ min (l0.length : Int).toNat 64)) = ji2 := hji2
 have hji2z : (l0.length : Int) ≤ 64 → (IntKind.i64.wrap (1 * 2 ^ (l0.length : Int).toNat)) = ji2 := shl_small hji2
 have hji2p : (IntKind.i64.wrap (1 * 2 ^ min l0.length 64)) = ji2 := hji2_
 have hji2q : (l0.length : Int) ≤ 64 → (IntKind.i64.wrap (1 * 2 ^ l0.length)) = ji2 := hji2z
 have hji2r : (IntKind.i64.wrap (2 ^ min l0.length 64)) = ji2 := by have h_ := hji2p; rw [Int.one_mul] at h_; exact h_
 have hji2s : (l0.length : Int) ≤ 64 → (IntKind.i64.wrap (2 ^ l0.length)) = ji2 := fun hle_ => by have h_ := hji2q hle_; rw [Int.one_mul] at h_; exact h_
 have hji2u : (IntKind.i64.wrap (2 ^ min (l0.length : Int).toNat 64)) = ji2 := by have h_ := hji2_; rw [Int.one_mul] at h_; exact h_
 have hji2v : (l0.length : Int) ≤ 64 → (IntKind.i64.wrap (2 ^ (l0.length : Int).toNat)) = ji2 := fun hle_ => by have h_ := hji2z hle_; rw [Int.one_mul] at h_; exact h_
 have hji2y : (wrap64 (1 * 2 ^ min (l0.length : Int).toNat 64)) = ji2 := (i64_w _).symm.trans hji2_
 have hji2x : (l0.length : Int) ≤ 64 → (wrap64 (1 * 2 ^ (l0.length : Int).toNat)) = ji2 := fun h_ => (i64_w _).symm.trans (hji2z h_)
 obtain rfl := Option.some.inj H
 go_enter Tryd.func98, Tryd.ntmps98
 go_wp2
 go_ret
 exact ⟨by first | rfl | (simp; done) | (simp only [← hji2] <;> (first | rfl | simp)) | (simp [*]; done), by repeat (first | exact Drawn0.refl _ | apply Drawn0.step)⟩
end Go.Proofs.YtjloppfdagfpmaaDoor.X
end
section
namespace Go.Proofs.YtjloppfdagfpmaaDoor.X
open Go.RowKit YtjloppfdagfpmaaDoorW.PrintWords YtjloppfdagfpmaaDoorW.PrintLast YtjloppfdagfpmaaDoorW.PrintMore
attribute [local go_sem] max2_int min2_int max_two min_two max_three min_three max_four min_four
/-! ### width_nodes: function 104 -/
def width_nodes.l0 : Nat → Int → List Int → Option (List Int)
 | 0, _, _ => none
 | k + 1, x0, x3 => if x0 = 0 then (some x3) else ((bits_TrailingZeros.f (IntKind.u64.wrap (x0))).bind fun t538 => (if x3.length < 17592186044416 then (width_nodes.l0 k (Go.bits .and .i64 x0 (wrap64 (x0 - 1))) (x3 ++ [t538])) else (none)))
def width_nodes.f (k : Nat) (a0 : Int) : Option (List Int) := width_nodes.l0 k a0 ([] : List Int)
theorem width_nodes.mono_l : ∀ k, (∀ y0 y1, LeO (width_nodes.l0 k y0 y1) (width_nodes.l0 (k + 1) y0 y1))
 | 0 => fun _ _ r h => by simp [width_nodes.l0] at h
 | k + 1 => by
  have ih0 := width_nodes.mono_l k
  ·intro y0 y1
   unfold width_nodes.l0
   repeat' first
   | (with_reducible exact ih0 _ _)
   | (with_reducible exact LeO.refl _)
   | (with_reducible exact LeO.none _)
   | (with_reducible refine LeO.ite ?_ ?_)
   | (with_reducible refine LeO.bind ?_ (fun _ => ?_))
   | exact ih0 _ _
   | exact LeO.none _
   | refine LeO.ite ?_ ?_
   | refine LeO.bind ?_ (fun _ => ?_)
theorem width_nodes.mono : ∀ a0 k, LeO (width_nodes.f k a0) (width_nodes.f (k + 1) a0) := by
 intro a0 k
 have ih0 := width_nodes.mono_l k
 unfold width_nodes.f
 repeat' first
   | (with_reducible exact ih0 _ _)
   | (with_reducible exact LeO.refl _)
   | (with_reducible exact LeO.none _)
   | (with_reducible refine LeO.ite ?_ ?_)
   | (with_reducible refine LeO.bind ?_ (fun _ => ?_))
   | exact ih0 _ _
   | exact LeO.none _
   | refine LeO.ite ?_ ?_
   | refine LeO.bind ?_ (fun _ => ?_)
set_option maxHeartbeats 8000000 in
set_option maxRecDepth 100000 in
theorem width_nodes.calls (k : Nat) (a0 : Int) (r : List Int) (w : World) (hGL : GL w) (h : width_nodes.f k a0 = some r) :
  Calls Tryd.prog 104 #[.int .i64 a0] w fun e w' => ∃ v0_ : Value, e = .returned (v0_) ∧ Kd.R (Kd.int .i64) 3 w' w.heap.size (fun _ => True) v0_ r ∧ Below w.heap.size w w' := by
 have HGL := Aside0.mk hGL
 clear hGL
 have HB := Aside0.mk (Below.refl w.heap.size w)
 have H : (width_nodes.l0 k a0 ([] : List Int)) = some r := h
 clear h
 have H' := Aside0.mk H
 clear H
 go_enter Tryd.func104, Tryd.ntmps104
 go_wp2
 go_loopg [0, 3] k (fun kq v0 v3 w' => ∃ (x0_1 : Int) (x3_1 : List Int), v0 = .int .i64 x0_1 ∧ Aside0 (width_nodes.l0 kq x0_1 x3_1 = some r) ∧ Aside0 (kq ≤ k) ∧ Aside0 (Kd.R (Kd.int .i64) 3 w' w.heap.size (fun _ => True) v3 x3_1) ∧ Aside0 (Below w.heap.size w w'))
 case atStart => exact ⟨(a0), (([] : List Int)), (by first | rfl | (simp; done) | (simp [*]; done)), H', ⟨Nat.le_refl _⟩, ⟨by first | exact Kd.R_nil _ _ _ _ _ | exact Kd.N_nil _ _ _ _ _ | exact Kd.V_nil _ _ _ _ _ | exact Kd.Q_nil _ _ _ _ _ | exact Kd.S_nil _ _ _ _ _⟩, ⟨by repeat (first | (with_reducible first | exact HB.out | apply below_alloc | apply pw_below_drewN | apply below_drew1) | exact HB.out)⟩⟩
 case round =>
  clear H'
  try clear c1
  obtain ⟨x0_1, x3_1, rfl, HA, HK1, HO_3, HB⟩ := hrel
  cases gk with
  | zero => exact absurd HA.out (by simp [width_nodes.l0])
  | succ k1 =>
   have H := HA.out
   clear HA
   simp only [width_nodes.l0] at H
   by_cases c2 : x0_1 = 0
   ·rw [if_pos c2] at H
    have c2b0 : (x0_1 == 0) = true := beq_iff_eq.mpr c2
    have c2b1 : (x0_1 != 0) = false := bne_eq_false_iff_eq.mpr c2
    clear c2
    obtain rfl := Option.some.inj H
    go_wp2
    go_ret
    exact ⟨_, by first | rfl | (simp [errW_none, errW_some] <;> rfl) | (simp [*, errW_none, errW_some] <;> rfl), by (with_reducible repeat (first | apply Kd.R_alloc | apply Kd.R_drewN | apply Kd.R_drew)); exact HO_3.out, by repeat (first | (with_reducible first | exact HB.out | apply below_alloc | apply pw_below_drewN | apply below_drew1) | exact HB.out)⟩
   ·rw [if_neg c2] at H
    have c2b0 : (x0_1 == 0) = false := beq_eq_false_iff_ne.mpr c2
    have c2b1 : (x0_1 != 0) = true := bne_iff_ne.mpr c2
    replace H := Option.bind_eq_some_iff.mp H
    obtain ⟨t538, A30, H⟩ := H
    replace H : (if x3_1.length < 17592186044416 then (width_nodes.l0 k1 (Go.bits .and .i64 x0_1 (wrap64 (x0_1 - 1))) (x3_1 ++ [t538])) else (none)) = some r := H
    have A3 := Aside0.mk A30
    clear A30
    by_cases c4 : x3_1.length < 17592186044416
    ·rw [if_pos c4] at H
     have LMc4 := Aside0.mk c4
     clear c4
     obtain ⟨y539, hy539⟩ : ∃ y_ : List Int, y_ = (x3_1 ++ [t538]) := ⟨_, rfl⟩
     replace H : (width_nodes.l0 k1 (Go.bits .and .i64 x0_1 (wrap64 (x0_1 - 1))) y539) = some r := by first | (rw [hy539]; with_reducible exact H) | (have H2_ := (Option.bind_some _ _).symm.trans H; rw [hy539]; with_reducible exact H2_) | (have H2_ := (Option.bind_some _ _).symm.trans H; with_reducible exact H2_) | with_reducible exact H | (rw [hy539]; exact H) | exact H
     have Ny539 := Aside0.mk hy539
     clear hy539
     have H' := Aside0.mk H
     clear H
     go_wp2_with (first | ((with_reducible refine gate_callee (f := 94) rfl ?_); refine goesL_ (some 13) rfl rfl Tryd.func94 (by kernel_rfl) rfl #[.int .u64 (IntKind.u64.wrap (x0_1))] rfl (Qls) ?_; (with_reducible refine (bits_TrailingZeros.calls (hGL := (Qlg)) (IntKind.u64.wrap (x0_1)) t538 _ A3.out).mono ?_); rintro e w' ⟨rfl, ⟨nd, rfl⟩⟩; refine ⟨_, rfl, ?_⟩) | ((with_reducible refine gate_builtin (b := .append) (xs := #[.tmp 10, .tmp 14]) rfl ?_); at_builtin; refine Kd.R_append (Kd.int .i64) (w0 := w) w.heap.size rfl (.tmp 10) (.tmp 14) 22 3 (.int .i64 0) 8 rfl Tryd.underlying22 info3 rfl (by decide) (by omega) u3 x3_1 t538 [.int .i64 t538] (fun _ => True) (fun _ => False) rfl rfl ?aP (fun _ hk => hk.elim) ?aF ?aO ?aB ?aS ?aL ?_; (case aP => exact rfl); (case aB => exact (Qaw)); (case aF => exact (fun _ _ => trivial)); (case aO => exact (Qro HO_3.out)); (case aS => exact (below_size (Qaw))); (case aL => have := LMc4.out; omega); intro v540 w5 ho hb hg hat; rw [← Ny539.out] at ho; have n0_ := Aside0.mk (hb); have n1_ := Aside0.mk (ho); clear HB; clear HO_3; have HB := n0_; have HO541 := n1_; clear n0_ n1_; clear ho hb hg hat))
     go_roundg k1
     case measure => have := HK1.out; omega
     case rel => exact ⟨(Go.bits .and .i64 x0_1 (wrap64 (x0_1 - 1))), (y539), (by first | rfl | (simp; done) | (simp [*]; done)), H', ⟨by have := HK1.out; omega⟩, ⟨by (with_reducible repeat (first | apply Kd.R_alloc | apply Kd.R_drewN | apply Kd.R_drew)); exact HO541.out⟩, ⟨by repeat (first | (with_reducible first | exact HB.out | apply below_alloc | apply pw_below_drewN | apply below_drew1) | exact HB.out)⟩⟩
    ·rw [if_neg c4] at H
     exact absurd H (by simp)
end Go.Proofs.YtjloppfdagfpmaaDoor.X
end
section
namespace Go.Proofs.YtjloppfdagfpmaaDoor.X
open Go.RowKit YtjloppfdagfpmaaDoorW.PrintWords YtjloppfdagfpmaaDoorW.PrintLast YtjloppfdagfpmaaDoorW.PrintMore
attribute [local go_sem] max2_int min2_int max_two min_two max_three min_three max_four min_four
/-! ### width_count: function 120 -/
def width_count.f (a0 : Int) : Option (Int) := (bits_OnesCount.f (IntKind.u64.wrap (a0))).bind fun t548 => (some t548)
set_option maxHeartbeats 8000000 in
set_option maxRecDepth 100000 in
theorem width_count.calls (a0 : Int) (r : Int) (w : World) (h : width_count.f a0 = some r) :
  Calls Tryd.prog 120 #[.int .i64 a0] w fun e w' => e = .returned (.int .i64 r) ∧ Drawn0 w w' := by
 have H : ((bits_OnesCount.f (IntKind.u64.wrap (a0))).bind fun t548 => (some t548)) = some r := h
 clear h
 replace H := Option.bind_eq_some_iff.mp H
 obtain ⟨t548, A20, H⟩ := H
 replace H : (some t548) = some r := H
 have A2 := Aside0.mk A20
 clear A20
 obtain rfl := Option.some.inj H
 go_enter Tryd.func120, Tryd.ntmps120
 go_wp2_with (first | ((with_reducible refine gate_callee (f := 118) rfl ?_); refine goesL_ (some 5) rfl rfl Tryd.func118 (by kernel_rfl) rfl #[.int .u64 (IntKind.u64.wrap (a0))] rfl (Qls) ?_; (with_reducible refine (bits_OnesCount.calls (IntKind.u64.wrap (a0)) t548 _ A2.out).mono ?_); rintro e w' ⟨rfl, ⟨nd, rfl⟩⟩; refine ⟨_, rfl, ?_⟩))
 go_ret
 exact ⟨by first | rfl | (simp; done) | (simp [*]; done), by repeat (first | exact Drawn0.refl _ | apply Drawn0.step)⟩
end Go.Proofs.YtjloppfdagfpmaaDoor.X
end
section
namespace Go.Proofs.YtjloppfdagfpmaaDoor.X
open Go.RowKit YtjloppfdagfpmaaDoorW.PrintWords YtjloppfdagfpmaaDoorW.PrintLast YtjloppfdagfpmaaDoorW.PrintMore
attribute [local go_sem] max2_int min2_int max_two min_two max_three min_three max_four min_four
/-! ### width_town_around: function 100 -/
def width_town_around.l0 : Nat → List Int → Int → List Int → Int → Int → Option (Int)
 | 0, _, _, _, _, _ => none
 | k + 1, x0, x5, x9, x10, x11 => if x11 < x10 then (if 0 ≤ x11 then (if x11 < (x9.length : Int) then (if 0 ≤ (rd x9 x11) then (if (rd x9 x11) < (x0.length : Int) then (width_town_around.l0 k x0 (Go.bits .or .i64 x5 (rd x0 (rd x9 x11))) x9 x10 (wrap64 (x11 + 1))) else (none)) else (none)) else (none)) else (none)) else (some x5)
def width_town_around.f (k : Nat) (l0 : List Int) (a1 : Int) : Option (Int) := (width_nodes.f k a1).bind fun t542 => (width_town_around.l0 k l0 0 t542 (t542.length : Int) 0)
set_option maxHeartbeats 8000000 in
set_option maxRecDepth 100000 in
theorem width_town_around.calls (k : Nat) (A0 : Option Addr) (c0 : Nat) (l0 : List Int) (a1 : Int) (r : Int) (w : World) (hGL : GL w) (hr0 : Kd.C (Kd.int .i64) w A0 l0.length l0) (hc0 : l0.length ≤ c0) (h : width_town_around.f k l0 a1 = some r) :
  Calls Tryd.prog 100 #[.slice A0 l0.length c0, .int .i64 a1] w fun e w' => e = .returned (.int .i64 r) ∧ Below w.heap.size w w' := by
 have HGL := Aside0.mk hGL
 clear hGL
 have HR0 := Aside0.mk hr0
 have HC0 := Aside0.mk hc0
 clear hr0 hc0
 have HB := Aside0.mk (Below.refl w.heap.size w)
 have H : ((width_nodes.f k a1).bind fun t542 => (width_town_around.l0 k l0 0 t542 (t542.length : Int) 0)) = some r := h
 clear h
 replace H := Option.bind_eq_some_iff.mp H
 obtain ⟨t542, A30, H⟩ := H
 replace H : (width_town_around.l0 k l0 0 t542 (t542.length : Int) 0) = some r := H
 have A3 := Aside0.mk A30
 clear A30
 have H' := Aside0.mk H
 clear H
 go_enter Tryd.func100, Tryd.ntmps100
 go_wp2_with (first | ((with_reducible refine gate_callee (f := 104) rfl ?_); refine goesL_ (some 9) rfl rfl Tryd.func104 (by kernel_rfl) rfl #[.int .i64 a1] rfl (Qls) ?_; (with_reducible refine (width_nodes.calls (hGL := (Qlg)) k a1 t542 _ A3.out).mono ?_); rintro e w4 ⟨v543, rfl, ho0, hb⟩; refine ⟨_, rfl, ?_⟩; have n0_ := Aside0.mk (Kd.R_lower ho0 (below_size (Qaw))); have n1_ := Aside0.mk (below_step (Qaw) hb); clear HB; have HO544 := n0_; have HB := n1_; clear n0_ n1_; (try clear hb); (try clear hb2); (try clear hk); (try clear hi); (try clear ho0); obtain ⟨Ao5, co5, eo5⟩ := Kd.R_slice HO544.out; subst eo5))
 go_loopg [5, 11] k (fun kq v5 v11 w' => ∃ (x5_1 : Int) (x11_1 : Int), v5 = .int .i64 x5_1 ∧ v11 = .int .i64 x11_1 ∧ Aside0 (width_town_around.l0 kq l0 x5_1 t542 (t542.length : Int) x11_1 = some r) ∧ Aside0 (kq ≤ k) ∧ Aside0 (Kd.R (Kd.int .i64) 3 w' w.heap.size (fun _ => True) (.slice Ao5 t542.length co5) t542) ∧ Aside0 (Below w.heap.size w w'))
 case atStart => exact ⟨(0), (0), (by first | rfl | (simp; done) | (simp [*]; done)), (by first | rfl | (simp; done) | (simp [*]; done)), H', ⟨Nat.le_refl _⟩, ⟨by (with_reducible repeat (first | apply Kd.R_alloc | apply Kd.R_drewN | apply Kd.R_drew)); exact HO544.out⟩, ⟨by repeat (first | (with_reducible first | exact HB.out | apply below_alloc | apply pw_below_drewN | apply below_drew1) | exact HB.out)⟩⟩
 case round =>
  clear H'
  try clear c1
  try clear p2
  obtain ⟨x5_1, x11_1, rfl, rfl, HA, HK1, HO_9, HB⟩ := hrel
  cases gk with
  | zero => exact absurd HA.out (by simp [width_town_around.l0])
  | succ k1 =>
   have H := HA.out
   clear HA
   simp only [width_town_around.l0] at H
   by_cases c6 : x11_1 < (t542.length : Int)
   ·rw [if_pos c6] at H
    have c6b0 : decide (x11_1 < (t542.length : Int)) = true := decide_eq_true c6
    clear c6
    by_cases c7 : 0 ≤ x11_1
    ·rw [if_pos c7] at H
     have c7b0 : decide (0 ≤ x11_1) = true := decide_eq_true c7
     clear c7
     by_cases c8 : x11_1 < (t542.length : Int)
     ·rw [if_pos c8] at H
      have c8b0 : decide (x11_1 < (t542.length : Int)) = true := decide_eq_true c8
      clear c8
      by_cases c9 : 0 ≤ (rd t542 x11_1)
      ·rw [if_pos c9] at H
       have c9b0 : decide (0 ≤ (rd t542 x11_1)) = true := decide_eq_true c9
       clear c9
       by_cases c10 : (rd t542 x11_1) < (l0.length : Int)
       ·rw [if_pos c10] at H
        have c10b0 : decide ((rd t542 x11_1) < (l0.length : Int)) = true := decide_eq_true c10
        clear c10
        have H' := Aside0.mk H
        clear H
        have p545 : 0 ≤ (x11_1 : Int) := of_decide_eq_true (by first | (with_reducible assumption) | assumption)
        have q545 : x11_1 < (t542.length : Int) := of_decide_eq_true (by first | (with_reducible assumption) | assumption)
        obtain ⟨ad545, e545, hx545_0⟩ := Kd.at_int (Kd.R_reads' HO_9.out).2.2 x11_1 p545 q545
        cases e545
        replace p545 := eq_true p545
        replace q545 := eq_true q545
        have p546 : 0 ≤ ((rd t542 x11_1) : Int) := of_decide_eq_true (by first | (with_reducible assumption) | assumption)
        have q546 : (rd t542 x11_1) < (l0.length : Int) := of_decide_eq_true (by first | (with_reducible assumption) | assumption)
        obtain ⟨ad546, e546, hx546_0⟩ := Kd.at_int HR0.out (rd t542 x11_1) p546 q546
        cases e546
        replace hx546_0 := (HB.out.cell (World.block_lt_of_cell? w _ hx546_0)).trans hx546_0
        replace p546 := eq_true p546
        replace q546 := eq_true q546
        go_wp2
        go_roundg k1
        case measure => have := HK1.out; omega
        case rel => exact ⟨(Go.bits .or .i64 x5_1 (rd l0 (rd t542 x11_1))), (wrap64 (x11_1 + 1)), (by first | rfl | (simp; done) | (simp [*]; done)), (by first | rfl | (simp; done) | (simp [*]; done)), H', ⟨by have := HK1.out; omega⟩, ⟨by (with_reducible repeat (first | apply Kd.R_alloc | apply Kd.R_drewN | apply Kd.R_drew)); exact HO_9.out⟩, ⟨by repeat (first | (with_reducible first | exact HB.out | apply below_alloc | apply pw_below_drewN | apply below_drew1) | exact HB.out)⟩⟩
       ·rw [if_neg c10] at H
        exact absurd H (by simp)
      ·rw [if_neg c9] at H
       exact absurd H (by simp)
     ·rw [if_neg c8] at H
      exact absurd H (by simp)
    ·rw [if_neg c7] at H
     exact absurd H (by simp)
   ·rw [if_neg c6] at H
    have c6b0 : decide (x11_1 < (t542.length : Int)) = false := decide_eq_false c6
    clear c6
    obtain rfl := Option.some.inj H
    go_wp2
    go_ret
    exact ⟨by first | rfl | (simp [errW_none, errW_some] <;> rfl) | (simp [*, errW_none, errW_some] <;> rfl), by repeat (first | (with_reducible first | exact HB.out | apply below_alloc | apply pw_below_drewN | apply below_drew1) | exact HB.out)⟩
end Go.Proofs.YtjloppfdagfpmaaDoor.X
end
section
namespace Go.Proofs.YtjloppfdagfpmaaDoor.X
open Go.RowKit YtjloppfdagfpmaaDoorW.PrintWords YtjloppfdagfpmaaDoorW.PrintLast YtjloppfdagfpmaaDoorW.PrintMore
attribute [local go_sem] max2_int min2_int max_two min_two max_three min_three max_four min_four
/-! ### width_town_part: function 101 -/
def width_town_part.l0 : Nat → List Int → Int → Int → Option (Int)
 | 0, _, _, _ => none
 | k + 1, x0, x1, x2 => (width_town_around.f k x0 x1).bind fun t547 => (if (Go.bits .or .i64 x1 (Go.bits .and .i64 t547 x2)) = x1 then (some x1) else (width_town_part.l0 k x0 (Go.bits .or .i64 x1 (Go.bits .and .i64 t547 x2)) x2))
def width_town_part.f (k : Nat) (l0 : List Int) (a1 : Int) (a2 : Int) : Option (Int) := width_town_part.l0 k l0 a1 a2
set_option maxHeartbeats 8000000 in
set_option maxRecDepth 100000 in
theorem width_town_part.calls (k : Nat) (A0 : Option Addr) (c0 : Nat) (l0 : List Int) (a1 : Int) (a2 : Int) (r : Int) (w : World) (hGL : GL w) (hr0 : Kd.C (Kd.int .i64) w A0 l0.length l0) (hc0 : l0.length ≤ c0) (h : width_town_part.f k l0 a1 a2 = some r) :
  Calls Tryd.prog 101 #[.slice A0 l0.length c0, .int .i64 a1, .int .i64 a2] w fun e w' => e = .returned (.int .i64 r) ∧ Below w.heap.size w w' := by
 have HGL := Aside0.mk hGL
 clear hGL
 have HR0 := Aside0.mk hr0
 have HC0 := Aside0.mk hc0
 clear hr0 hc0
 have HB := Aside0.mk (Below.refl w.heap.size w)
 have H : (width_town_part.l0 k l0 a1 a2) = some r := h
 clear h
 have H' := Aside0.mk H
 clear H
 go_enter Tryd.func101, Tryd.ntmps101
 go_wp2
 go_loopg [1] k (fun kq v1 w' => ∃ (x1_1 : Int), v1 = .int .i64 x1_1 ∧ Aside0 (width_town_part.l0 kq l0 x1_1 a2 = some r) ∧ Aside0 (kq ≤ k) ∧ Aside0 (Below w.heap.size w w'))
 case atStart => exact ⟨(a1), (by first | rfl | (simp; done) | (simp [*]; done)), H', ⟨Nat.le_refl _⟩, ⟨by repeat (first | (with_reducible first | exact HB.out | apply below_alloc | apply pw_below_drewN | apply below_drew1) | exact HB.out)⟩⟩
 case round =>
  clear H'
  try clear c1
  try clear p2
  obtain ⟨x1_1, rfl, HA, HK1, HB⟩ := hrel
  cases gk with
  | zero => exact absurd HA.out (by simp [width_town_part.l0])
  | succ k1 =>
   have H := HA.out
   clear HA
   simp only [width_town_part.l0] at H
   replace H := Option.bind_eq_some_iff.mp H
   obtain ⟨t547, A40, H⟩ := H
   replace H : (if (Go.bits .or .i64 x1_1 (Go.bits .and .i64 t547 a2)) = x1_1 then (some x1_1) else (width_town_part.l0 k1 l0 (Go.bits .or .i64 x1_1 (Go.bits .and .i64 t547 a2)) a2)) = some r := H
   have A4 := Aside0.mk A40
   clear A40
   by_cases c5 : (Go.bits .or .i64 x1_1 (Go.bits .and .i64 t547 a2)) = x1_1
   ·rw [if_pos c5] at H
    have c5b0 : ((Go.bits .or .i64 x1_1 (Go.bits .and .i64 t547 a2)) == x1_1) = true := beq_iff_eq.mpr c5
    have c5b1 : ((Go.bits .or .i64 x1_1 (Go.bits .and .i64 t547 a2)) != x1_1) = false := bne_eq_false_iff_eq.mpr c5
    clear c5
    obtain rfl := Option.some.inj H
    go_wp2_with (first | ((with_reducible refine gate_callee (f := 100) rfl ?_); refine goesL_ (some 11) rfl rfl Tryd.func100 (by kernel_rfl) rfl #[.slice A0 l0.length c0, .int .i64 x1_1] rfl (Qls) ?_; (with_reducible refine (width_town_around.calls (hGL := (Qlg)) k1 _ _ l0 x1_1 t547 _ ?side1 ?side2 A4.out).mono ?_); (case side1 => exact Qsc (Kd.C_below HR0.out HB.out)); (case side2 => exact HC0.out); rintro e w6 ⟨rfl, hb⟩; refine ⟨_, rfl, ?_⟩; have n0_ := Aside0.mk (below_step (Qaw) hb); clear HB; have HB := n0_; clear n0_; (try clear hb); (try clear hb2); (try clear hk); (try clear hi)))
    go_ret
    exact ⟨by first | rfl | (simp [errW_none, errW_some] <;> rfl) | (simp [*, errW_none, errW_some] <;> rfl), by repeat (first | (with_reducible first | exact HB.out | apply below_alloc | apply pw_below_drewN | apply below_drew1) | exact HB.out)⟩
   ·rw [if_neg c5] at H
    have c5b0 : ((Go.bits .or .i64 x1_1 (Go.bits .and .i64 t547 a2)) == x1_1) = false := beq_eq_false_iff_ne.mpr c5
    have c5b1 : ((Go.bits .or .i64 x1_1 (Go.bits .and .i64 t547 a2)) != x1_1) = true := bne_iff_ne.mpr c5
    have H' := Aside0.mk H
    clear H
    go_wp2_with (first | ((with_reducible refine gate_callee (f := 100) rfl ?_); refine goesL_ (some 11) rfl rfl Tryd.func100 (by kernel_rfl) rfl #[.slice A0 l0.length c0, .int .i64 x1_1] rfl (Qls) ?_; (with_reducible refine (width_town_around.calls (hGL := (Qlg)) k1 _ _ l0 x1_1 t547 _ ?side1 ?side2 A4.out).mono ?_); (case side1 => exact Qsc (Kd.C_below HR0.out HB.out)); (case side2 => exact HC0.out); rintro e w7 ⟨rfl, hb⟩; refine ⟨_, rfl, ?_⟩; have n0_ := Aside0.mk (below_step (Qaw) hb); clear HB; have HB := n0_; clear n0_; (try clear hb); (try clear hb2); (try clear hk); (try clear hi)))
    go_roundg k1
    case measure => have := HK1.out; omega
    case rel => exact ⟨(Go.bits .or .i64 x1_1 (Go.bits .and .i64 t547 a2)), (by first | rfl | (simp; done) | (simp [*]; done)), H', ⟨by have := HK1.out; omega⟩, ⟨by repeat (first | (with_reducible first | exact HB.out | apply below_alloc | apply pw_below_drewN | apply below_drew1) | exact HB.out)⟩⟩
end Go.Proofs.YtjloppfdagfpmaaDoor.X
end
section
namespace Go.Proofs.YtjloppfdagfpmaaDoor.X
open Go.RowKit YtjloppfdagfpmaaDoorW.PrintWords YtjloppfdagfpmaaDoorW.PrintLast YtjloppfdagfpmaaDoorW.PrintMore
attribute [local go_sem] max2_int min2_int max_two min_two max_three min_three max_four min_four
/-! ### width_town_degree: function 113 -/
def width_town_degree.f (k : Nat) (l0 : List Int) (a1 : Int) (a2 : Int) : Option (Int) := if 0 ≤ a1 then ((width_town_part.f k l0 (shl .i64 1 a1) (Go.bits .or .i64 a2 (shl .i64 1 a1))).bind fun t549 => ((width_town_around.f k l0 t549).bind fun t550 => ((width_count.f (Go.bits .andNot .i64 (Go.bits .andNot .i64 t550 a2) (shl .i64 1 a1))).bind fun t551 => (some t551)))) else (none)
def width_town_degree.T1 : Bool × List (List Nat × List Nat) := (true, [([], []), ([], []), ([], []), ([2], [2]), ([], []), ([], []), ([5], [5]), ([4, 6], [4, 6]), ([1, 3, 7], [1, 3, 7]), ([0, 8, 8], [0, 8]), ([], []), ([9, 10], [9, 10]), ([], []), ([12], [12]), ([11, 13], [11, 13]), ([14, 9], [14]), ([15, 15, 0, 1, 2, 3, 4, 5, 6, 7, 8, 9, 10, 11, 12, 13, 14, 15], [15])])
def width_town_degree.B1 : List Nat := [0, 0, 0, 4, 0, 0, 32, 112, 254, 511, 0, 2047, 0, 4096, 16383, 32767, 65535]
theorem width_town_degree.tab1 : rtab .any (opsOf Tryd.f113 1) = width_town_degree.T1 := by kernel_rfl
theorem width_town_degree.bits1 : waitsOk width_town_degree.T1.2 width_town_degree.B1 = true := by kernel_rfl
set_option maxHeartbeats 8000000 in
set_option maxRecDepth 100000 in
theorem width_town_degree.calls (k : Nat) (A0 : Option Addr) (c0 : Nat) (l0 : List Int) (a1 : Int) (a2 : Int) (r : Int) (w : World) (hGL : GL w) (hr0 : Kd.C (Kd.int .i64) w A0 l0.length l0) (hc0 : l0.length ≤ c0) (h : width_town_degree.f k l0 a1 a2 = some r) :
  Calls Tryd.prog 113 #[.slice A0 l0.length c0, .int .i64 a1, .int .i64 a2] w fun e w' => e = .returned (.int .i64 r) ∧ Below w.heap.size w w' := by
 have HGL := Aside0.mk hGL
 clear hGL
 have HR0 := Aside0.mk hr0
 have HC0 := Aside0.mk hc0
 clear hr0 hc0
 have HB := Aside0.mk (Below.refl w.heap.size w)
 have H : (if 0 ≤ a1 then ((width_town_part.f k l0 (shl .i64 1 a1) (Go.bits .or .i64 a2 (shl .i64 1 a1))).bind fun t549 => ((width_town_around.f k l0 t549).bind fun t550 => ((width_count.f (Go.bits .andNot .i64 (Go.bits .andNot .i64 t550 a2) (shl .i64 1 a1))).bind fun t551 => (some t551)))) else (none)) = some r := h
 clear h
 by_cases c4 : 0 ≤ a1
 ·rw [if_pos c4] at H
  have c4b0 := eq_true c4
  have c4b1 : decide (0 ≤ a1) = true := decide_eq_true c4
  clear c4
  obtain ⟨ji5, hji5⟩ : ∃ j_ : Int, (shl .i64 1 a1) = j_ := ⟨_, rfl⟩
  replace H : ((width_town_part.f k l0 (ji5) (Go.bits .or .i64 a2 (ji5))).bind fun t549 => ((width_town_around.f k l0 t549).bind fun t550 => ((width_count.f (Go.bits .andNot .i64 (Go.bits .andNot .i64 t550 a2) (ji5))).bind fun t551 => (some t551)))) = some r := by first | (rw [hji5] at H; exact H) | (simp only [hji5] at H ⊢; exact H)
  have hji5_ : (IntKind.i64.wrap (1 * 2 ^ min a1.toNat 64)) = ji5 := hji5
  have hji5z : a1 ≤ 64 → (IntKind.i64.wrap (1 * 2 ^ a1.toNat)) = ji5 := shl_small hji5
  have hji5u : (IntKind.i64.wrap (2 ^ min a1.toNat 64)) = ji5 := by have h_ := hji5_; rw [Int.one_mul] at h_; exact h_
  have hji5v : a1 ≤ 64 → (IntKind.i64.wrap (2 ^ a1.toNat)) = ji5 := fun hle_ => by have h_ := hji5z hle_; rw [Int.one_mul] at h_; exact h_
  have hji5y : (wrap64 (1 * 2 ^ min a1.toNat 64)) = ji5 := (i64_w _).symm.trans hji5_
  have hji5x : a1 ≤ 64 → (wrap64 (1 * 2 ^ a1.toNat)) = ji5 := fun h_ => (i64_w _).symm.trans (hji5z h_)
  have c6b0 := eq_true (of_decide_eq_true (by first | (with_reducible assumption) | assumption) : 0 ≤ a1)
  replace H := Option.bind_eq_some_iff.mp H
  obtain ⟨t549, A70, H⟩ := H
  replace H : ((width_town_around.f k l0 t549).bind fun t550 => ((width_count.f (Go.bits .andNot .i64 (Go.bits .andNot .i64 t550 a2) (ji5))).bind fun t551 => (some t551))) = some r := H
  have A7 := Aside0.mk A70
  clear A70
  replace H := Option.bind_eq_some_iff.mp H
  obtain ⟨t550, A80, H⟩ := H
  replace H : ((width_count.f (Go.bits .andNot .i64 (Go.bits .andNot .i64 t550 a2) (ji5))).bind fun t551 => (some t551)) = some r := H
  have A8 := Aside0.mk A80
  clear A80
  have c9b0 := eq_true (of_decide_eq_true (by first | (with_reducible assumption) | assumption) : 0 ≤ a1)
  replace H := Option.bind_eq_some_iff.mp H
  obtain ⟨t551, A100, H⟩ := H
  replace H : (some t551) = some r := H
  have A10 := Aside0.mk A100
  clear A100
  obtain rfl := Option.some.inj H
  go_enter Tryd.func113, Tryd.ntmps113
  try go_wp2
  have n0_ := Aside0.mk (below_drew1 HB.out)
  clear HB
  have HB := n0_
  clear n0_
  refine start_ (n := 17) (S := fun w' => True) (ds := []) (Qbz 17 0) (by kernel_rfl) rfl rfl trivial (fun hHeld => ?_); refine with_tabW width_town_degree.tab1 width_town_degree.bits1 (fun HT_ HW_ => ?_)
  generalize w.drew = w11 at HB hHeld ⊢
  refine pure_ (i := 0) (N := some 7) (v := ?_) (a' := ?_) (Qbz 17 1) rfl rfl (any_of HT_.out (by kernel_rfl)) (fun _ _ _ h => h) (Or.inl ⟨by rfl, ?_⟩) ?_ ?_
  rotate_left
  ·intro w'
   go_simp
   with_reducible rfl
  rotate_left
  ·simp only [Act.put, Qp1, Qp2, Qp3, i64_w, i32_w]
   rfl
  refine pure_ (i := 1) (N := some 8) (v := ?_) (a' := ?_) (Qbz 17 3) rfl rfl (any_of HT_.out (by kernel_rfl)) (fun _ _ _ h => h) (Or.inl ⟨by rfl, ?_⟩) ?_ ?_
  rotate_left
  ·intro w'
   go_simp
   with_reducible rfl
  rotate_left
  ·simp only [Act.put, Qp1, Qp2, Qp3, i64_w, i32_w]
   rfl
  refine pure_ (i := 2) (N := some 9) (v := ?_) (a' := ?_) (Qbz 17 7) rfl rfl (any_of HT_.out (by kernel_rfl)) (fun _ _ _ h => h) (Or.inl ⟨by rfl, ?_⟩) ?_ ?_
  rotate_left
  ·intro w'
   go_simp
   with_reducible rfl
  rotate_left
  ·simp only [Act.put, Qp1, Qp2, Qp3, i64_w, i32_w]
   rfl
  refine pure_ (i := 3) (N := some 10) (v := ?_) (a' := ?_) (Qbz 17 15) rfl rfl (any_of HT_.out (by kernel_rfl)) (fun _ _ _ h => h) (Or.inl ⟨by rfl, ?_⟩) ?_ ?_
  rotate_left
  ·intro w'
   go_simp
   with_reducible rfl
  rotate_left
  ·simp only [Act.put, Qp1, Qp2, Qp3, i64_w, i32_w]
   rfl
  refine pure_ (i := 4) (N := some 11) (v := ?_) (a' := ?_) (Qbz 17 31) rfl rfl (any_of HT_.out (by kernel_rfl)) (fun _ _ _ h => h) (Or.inl ⟨by rfl, ?_⟩) ?_ ?_
  rotate_left
  ·intro w'
   go_simp
   with_reducible rfl
  rotate_left
  ·simp only [Act.put, Qp1, Qp2, Qp3, i64_w, i32_w]
   rfl
  refine pure_ (i := 5) (N := some 12) (v := ?_) (a' := ?_) (Qbz 17 63) rfl rfl (any_of HT_.out (by kernel_rfl)) (fun _ _ _ h => h) (Or.inl ⟨by rfl, ?_⟩) ?_ ?_
  rotate_left
  ·intro w'
   go_simp
   with_reducible rfl
  rotate_left
  ·simp only [Act.put, Qp1, Qp2, Qp3, i64_w, i32_w]
   rfl
  refine pure_ (i := 6) (N := some 13) (v := ?_) (a' := ?_) (Qbz 17 127) rfl rfl (any_of HT_.out (by kernel_rfl)) (fun _ _ _ h => h) (Or.inl ⟨by rfl, ?_⟩) ?_ ?_
  rotate_left
  ·intro w'
   go_simp
   with_reducible rfl
  rotate_left
  ·simp only [Act.put, Qp1, Qp2, Qp3, i64_w, i32_w]
   rfl
  refine pure_ (i := 7) (N := some 14) (v := ?_) (a' := ?_) (Qbz 17 255) rfl rfl (any_of HT_.out (by kernel_rfl)) (fun _ _ _ h => h) (Or.inl ⟨by rfl, ?_⟩) ?_ ?_
  rotate_left
  ·intro w'
   go_simp
   with_reducible rfl
  rotate_left
  ·simp only [Act.put, Qp1, Qp2, Qp3, i64_w, i32_w]
   rfl
  refine pure_ (i := 10) (N := some 17) (v := ?_) (a' := ?_) (Qbz 17 1279) rfl rfl (any_of HT_.out (by kernel_rfl)) (fun _ _ _ h => h) (Or.inl ⟨by rfl, ?_⟩) ?_ ?_
  rotate_left
  ·intro w'
   go_simp
   with_reducible rfl
  rotate_left
  ·simp only [Act.put, Qp1, Qp2, Qp3, i64_w, i32_w]
   rfl
  refine pure_ (i := 12) (N := some 19) (v := ?_) (a' := ?_) (Qbz 17 5375) rfl rfl (any_of HT_.out (by kernel_rfl)) (fun _ _ _ h => h) (Or.inl ⟨by rfl, ?_⟩) ?_ ?_
  rotate_left
  ·intro w'
   go_simp
   with_reducible rfl
  rotate_left
  ·simp only [Act.put, Qp1, Qp2, Qp3, i64_w, i32_w]
   rfl
  refine pure_ (i := 13) (N := some 20) (v := ?_) (a' := ?_) (Qbz 17 13567) rfl rfl (any_of HT_.out (by kernel_rfl)) (fun _ _ _ h => h) (Or.inl ⟨by rfl, ?_⟩) ?_ ?_
  rotate_left
  ·intro w'
   go_simp
   with_reducible rfl
  rotate_left
  ·simp only [Act.put, Qp1, Qp2, Qp3, i64_w, i32_w]
   rfl
  refine one_ (i := 8) (N := some 15) (Qbz 17 13823) rfl rfl (one_of HT_.out (by kernel_rfl)) (by decide) (fun K hK => ?_)
  refine goes_ Tryd.func101 (by kernel_rfl) rfl #[.slice A0 l0.length c0, .int .i64 ji5, .int .i64 (Go.bits .or .i64 a2 (ji5))] (by rfl) rfl rfl (by (try simp only [List.map_toArray, List.map_cons, List.map_nil]); first | done | (simp only [hji5]; rfl) | rfl | (simp only [List.length_drop, List.length_take]; rfl)) ?_
  with_reducible refine (width_town_part.calls (hGL := (Qlg)) k _ _ l0 ji5 (Go.bits .or .i64 a2 (ji5)) t549 _ ?side1 ?side2 A7.out).mono ?_
  (case side1 => exact Qsc (Kd.C_below HR0.out HB.out))
  (case side2 => exact HC0.out)
  rintro e w12 ⟨rfl, hb⟩
  refine ⟨_, rfl, ?_⟩
  have n0_ := Aside0.mk (below_step (Qaw) hb)
  clear HB
  have HB := n0_
  clear n0_
  (try clear hb)
  (try clear hb2)
  (try clear hk)
  (try clear hi)
  refine hK.out _ _ trivial (fun hHeld => ?_)
  clear hK K
  refine norm_ (a' := ?_) ?_ ?_
  rotate_left
  ·show Act.put _ (some 15) _ = _
   simp only [Act.put, Qp1, Qp2, Qp3, i64_w, i32_w]
   rfl
  refine one_ (i := 9) (N := some 16) (Qbz 17 14335) rfl rfl (one_of HT_.out (by kernel_rfl)) (by decide) (fun K hK => ?_)
  refine goes_ Tryd.func100 (by kernel_rfl) rfl #[.slice A0 l0.length c0, .int .i64 t549] (by rfl) rfl rfl (Qls) ?_
  with_reducible refine (width_town_around.calls (hGL := (Qlg)) k _ _ l0 t549 t550 _ ?side1 ?side2 A8.out).mono ?_
  (case side1 => exact Qsc (Kd.C_below HR0.out HB.out))
  (case side2 => exact HC0.out)
  rintro e w13 ⟨rfl, hb⟩
  refine ⟨_, rfl, ?_⟩
  have n0_ := Aside0.mk (below_step (Qaw) hb)
  clear HB
  have HB := n0_
  clear n0_
  (try clear hb)
  (try clear hb2)
  (try clear hk)
  (try clear hi)
  refine hK.out _ _ trivial (fun hHeld => ?_)
  clear hK K
  refine norm_ (a' := ?_) ?_ ?_
  rotate_left
  ·show Act.put _ (some 16) _ = _
   simp only [Act.put, Qp1, Qp2, Qp3, i64_w, i32_w]
   rfl
  refine pure_ (i := 11) (N := some 18) (v := ?_) (a' := ?_) (Qbz 17 16383) rfl rfl (any_of HT_.out (by kernel_rfl)) (fun _ _ _ h => h) (Or.inl ⟨by rfl, ?_⟩) ?_ ?_
  rotate_left
  ·intro w'
   go_simp
   with_reducible rfl
  rotate_left
  ·simp only [Act.put, Qp1, Qp2, Qp3, i64_w, i32_w]
   rfl
  refine pure_ (i := 14) (N := some 21) (v := ?_) (a' := ?_) (Qbz 17 32767) rfl rfl (any_of HT_.out (by kernel_rfl)) (fun _ _ _ h => h) (Or.inl ⟨by rfl, ?_⟩) ?_ ?_
  rotate_left
  ·intro w'
   go_simp
   with_reducible rfl
  rotate_left
  ·simp only [Act.put, Qp1, Qp2, Qp3, i64_w, i32_w]
   rfl
  refine one_ (i := 15) (N := some 22) (Qbz 17 65535) rfl rfl (one_of HT_.out (by kernel_rfl)) (by decide) (fun K hK => ?_)
  refine goes_ Tryd.func120 (by kernel_rfl) rfl #[.int .i64 (Go.bits .andNot .i64 (Go.bits .andNot .i64 t550 a2) (ji5))] (by rfl) rfl rfl (by (try simp only [List.map_toArray, List.map_cons, List.map_nil]); first | done | (simp only [hji5]; rfl) | rfl | (simp only [List.length_drop, List.length_take]; rfl)) ?_
  with_reducible refine (width_count.calls (Go.bits .andNot .i64 (Go.bits .andNot .i64 t550 a2) (ji5)) t551 _ A10.out).mono ?_
  rintro e w' ⟨rfl, ⟨nd, rfl⟩⟩
  refine ⟨_, rfl, ?_⟩
  refine hK.out _ _ trivial (fun hHeld => ?_)
  clear hK K
  refine norm_ (a' := ?_) ?_ ?_
  rotate_left
  ·show Act.put _ (some 22) _ = _
   simp only [Act.put, Qp1, Qp2, Qp3, i64_w, i32_w]
   rfl
  refine pure_ (i := 16) (N := some 6) (v := ?_) (a' := ?_) (Qbz 17 131071) rfl rfl (any_of HT_.out (by kernel_rfl)) (fun _ _ _ h => h) (Or.inl ⟨by rfl, ?_⟩) ?_ ?_
  rotate_left
  ·intro w'
   go_simp
   with_reducible rfl
  rotate_left
  ·simp only [Act.put, Qp1, Qp2, Qp3, i64_w, i32_w]
   rfl
  refine done_ (done_of HT_.out (by kernel_rfl)) ?_
  try go_wp2
  go_ret
  exact ⟨by first | rfl | (simp [errW_none, errW_some] <;> rfl) | (simp only [← hji5]; first | rfl | (simp [errW_none, errW_some] <;> rfl)) | (simp [*, errW_none, errW_some] <;> rfl), by repeat (first | (with_reducible first | exact HB.out | apply below_alloc | apply pw_below_drewN | apply below_drew1) | exact HB.out)⟩
 ·rw [if_neg c4] at H
  exact absurd H (by simp)
end Go.Proofs.YtjloppfdagfpmaaDoor.X
end
section
namespace Go.Proofs.YtjloppfdagfpmaaDoor.X
open Go.RowKit YtjloppfdagfpmaaDoorW.PrintWords YtjloppfdagfpmaaDoorW.PrintLast YtjloppfdagfpmaaDoorW.PrintMore
attribute [local go_sem] max2_int min2_int max_two min_two max_three min_three max_four min_four
/-! ### width_town_widths: function 97 -/
mutual
def width_town_widths.l0 : Nat → List Int → List Int → Int → Option (List Int)
 | 0, _, _, _ => none
 | k + 1, x0, x3, x4 => if x4 < (x3.length : Int) then (if 0 ≤ x4 then ((width_nodes.f k x4).bind fun t556 => (width_town_widths.l1 k x0 (x3.set (x4 : Int).toNat (x0.length : Int)) x4 t556 (t556.length : Int) 0)) else (none)) else (some x3)
def width_town_widths.l1 : Nat → List Int → List Int → Int → List Int → Int → Int → Option (List Int)
 | 0, _, _, _, _, _, _ => none
 | k + 1, x0, x3, x4, x23, x24, x25 => if x25 < x24 then (if 0 ≤ x25 then (if x25 < (x23.length : Int) then (if 0 ≤ x4 then (if x4 < (x3.length : Int) then (if 0 ≤ (rd x23 x25) then (if 0 ≤ (Go.bits .andNot .i64 x4 (shl .i64 1 (rd x23 x25))) then (if (Go.bits .andNot .i64 x4 (shl .i64 1 (rd x23 x25))) < (x3.length : Int) then ((width_town_degree.f k x0 (rd x23 x25) (Go.bits .andNot .i64 x4 (shl .i64 1 (rd x23 x25)))).bind fun t562 => (width_town_widths.l1 k x0 (x3.set (x4 : Int).toNat (mn (rd x3 x4) (mx (rd x3 (Go.bits .andNot .i64 x4 (shl .i64 1 (rd x23 x25)))) t562))) x4 x23 x24 (wrap64 (x25 + 1)))) else (none)) else (none)) else (none)) else (none)) else (none)) else (none)) else (none)) else (width_town_widths.l0 k x0 x3 (wrap64 (x4 + 1)))
end
def width_town_widths.f (k : Nat) (l0 : List Int) : Option (List Int) := if 0 ≤ (shl .i64 1 (l0.length : Int)) then (if (shl .i64 1 (l0.length : Int) : Int).toNat ≤ 35184372088832 then (width_town_widths.l0 k l0 (List.replicate (shl .i64 1 (l0.length : Int) : Int).toNat 0) 1) else (none)) else (none)
def width_town_widths.T9 : Bool × List (List Nat × List Nat) := (true, [([], []), ([], []), ([], []), ([], []), ([2, 3], [2, 3]), ([4], [4]), ([], []), ([], []), ([], []), ([8], [8]), ([7, 9], [7, 9]), ([6, 10], [6, 10]), ([11], [11]), ([], []), ([], []), ([], []), ([], []), ([16], [16]), ([15, 17], [15, 17]), ([13, 14, 18], [13, 14, 18]), ([12, 19], [12, 19]), ([5, 20], [5, 20]), ([0, 1, 0, 1, 2, 3, 4, 5, 6, 7, 8, 9, 10, 11, 12, 13, 14, 15, 16, 17, 18, 19, 20, 21], [0, 1]), ([22, 21, 19, 0, 1, 2, 3, 4, 5, 6, 7, 8, 9, 10, 11, 12, 13, 14, 15, 16, 17, 18, 19, 20, 21], [21, 22])])
def width_town_widths.B9 : List Nat := [0, 0, 0, 0, 12, 28, 0, 0, 0, 256, 896, 1984, 4032, 0, 0, 0, 0, 65536, 229376, 516096, 1048512, 2097148, 4194303, 8388607]
theorem width_town_widths.tab9 : rtab .any (opsOf Tryd.f97 9) = width_town_widths.T9 := by kernel_rfl
theorem width_town_widths.bits9 : waitsOk width_town_widths.T9.2 width_town_widths.B9 = true := by kernel_rfl
set_option maxHeartbeats 8000000 in
set_option maxRecDepth 100000 in
theorem width_town_widths.calls (k : Nat) (A0 : Option Addr) (c0 : Nat) (l0 : List Int) (r : List Int) (w : World) (hGL : GL w) (hr0 : Kd.C (Kd.int .i64) w A0 l0.length l0) (hc0 : l0.length ≤ c0) (h : width_town_widths.f k l0 = some r) :
  Calls Tryd.prog 97 #[.slice A0 l0.length c0] w fun e w' => ∃ v0_ : Value, e = .returned (v0_) ∧ Kd.R (Kd.int .i64) 3 w' w.heap.size (fun _ => True) v0_ r ∧ Below w.heap.size w w' := by
 have HGL := Aside0.mk hGL
 clear hGL
 have HR0 := Aside0.mk hr0
 have HC0 := Aside0.mk hc0
 clear hr0 hc0
 have HB := Aside0.mk (Below.refl w.heap.size w)
 have H : (if 0 ≤ (shl .i64 1 (l0.length : Int)) then (if (shl .i64 1 (l0.length : Int) : Int).toNat ≤ 35184372088832 then (width_town_widths.l0 k l0 (List.replicate (shl .i64 1 (l0.length : Int) : Int).toNat 0) 1) else (none)) else (none)) = some r := h
 clear h
 obtain ⟨ji2, hji2⟩ : ∃ j_ : Int, (shl .i64 1 (l0.length : Int)) = j_ := ⟨_, rfl⟩
 replace H : (if 0 ≤ (ji2) then (if (ji2 : Int).toNat ≤ 35184372088832 then (width_town_widths.l0 k l0 (List.replicate (ji2 : Int).toNat 0) 1) else (none)) else (none)) = some r := by first | (rw [hji2] at H; exact H) | (simp only [hji2] at H ⊢; exact H)
 have hji2_ : (IntKind.i64.wrap (1 * 2 ^ min (l0.length : Int).toNat 64)) = ji2 := hji2
 have hji2z : (l0.length : Int) ≤ 64 → (IntKind.i64.wrap (1 * 2 ^ (l0.length : Int).toNat)) = ji2 := shl_small hji2
 have hji2p : (IntKind.i64.wrap (1 * 2 ^ min l0.length 64)) = ji2 := hji2_
 have hji2q : (l0.length : Int) ≤ 64 → (IntKind.i64.wrap (1 * 2 ^ l0.length)) = ji2 := hji2z
 have hji2r : (IntKind.i64.wrap (2 ^ min l0.length 64)) = ji2 := by have h_ := hji2p; rw [Int.one_mul] at h_; exact h_
 have hji2s : (l0.length : Int) ≤ 64 → (IntKind.i64.wrap (2 ^ l0.length)) = ji2 := fun hle_ => by have h_ := hji2q hle_; rw [Int.one_mul] at h_; exact h_
 have hji2u : (IntKind.i64.wrap (2 ^ min (l0.length : Int).toNat 64)) = ji2 := by have h_ := hji2_; rw [Int.one_mul] at h_; exact h_
 have hji2v : (l0.length : Int) ≤ 64 → (IntKind.i64.wrap (2 ^ (l0.length : Int).toNat)) = ji2 := fun hle_ => by have h_ := hji2z hle_; rw [Int.one_mul] at h_; exact h_
 have hji2y : (wrap64 (1 * 2 ^ min (l0.length : Int).toNat 64)) = ji2 := (i64_w _).symm.trans hji2_
 have hji2x : (l0.length : Int) ≤ 64 → (wrap64 (1 * 2 ^ (l0.length : Int).toNat)) = ji2 := fun h_ => (i64_w _).symm.trans (hji2z h_)
 by_cases c3 : 0 ≤ (ji2)
 ·rw [if_pos c3] at H
  have c3b0 := eq_true c3
  have c3b1 : decide (0 ≤ (ji2)) = true := decide_eq_true c3
  clear c3
  by_cases c4 : (ji2 : Int).toNat ≤ 35184372088832
  ·rw [if_pos c4] at H
   have c4b0 := eq_true c4
   have c4b1 : decide ((ji2 : Int).toNat ≤ 35184372088832) = true := decide_eq_true c4
   clear c4
   obtain ⟨y552, hy552⟩ : ∃ y_ : List Int, y_ = (List.replicate (ji2 : Int).toNat 0) := ⟨_, rfl⟩
   replace H : (width_town_widths.l0 k l0 y552 1) = some r := by first | (rw [hy552]; with_reducible exact H) | (have H2_ := (Option.bind_some _ _).symm.trans H; rw [hy552]; with_reducible exact H2_) | (have H2_ := (Option.bind_some _ _).symm.trans H; with_reducible exact H2_) | with_reducible exact H | (rw [hy552]; exact H) | exact H
   have Ny552 := Aside0.mk hy552
   clear hy552
   have H' := Aside0.mk H
   clear H
   go_enter Tryd.func97, Tryd.ntmps97
   go_wp2_with (first | ((with_reducible refine gate_dst (N := 10) rfl ?_); refine Kd.R_make (Kd.int .i64) _ 3 rfl (N := 10) rfl 22 _ _ rfl ji2 rfl rfl Tryd.underlying22 (.int .i64 0) 8 info3 rfl (by decide) (by omega) 0 (ok := fun _ => True) (okp := fun _ => True) rfl (fun _ hk => hk) trivial (of_decide_eq_true (by first | (with_reducible assumption) | assumption)) (Nat.le_trans (Nat.mul_le_mul_right _ (of_decide_eq_true (by first | (with_reducible assumption) | assumption) : ji2.toNat ≤ 35184372088832)) (by omega)) (Below.refl _ _) (Nat.le_refl _) ?_; intro v553 w5 ho6 hb hg_ hnew_; clear hg_ hnew_; (first | rw [← Ny552.out] at ho6 | (simp only [Int.reduceToNat] at ho6; rw [← Ny552.out] at ho6)); have n0_ := Aside0.mk (Kd.R_lower ho6 (below_size (Qaw))); have n1_ := Aside0.mk (below_step (Qaw) hb); clear HB; have HO554 := n0_; have HB := n1_; clear n0_ n1_; clear hb ho6))
   go_loopg [4] k (fun kq v4 w' => ∃ (x3_1 : List Int) (x4_1 : Int), v4 = .int .i64 x4_1 ∧ Aside0 (width_town_widths.l0 kq l0 x3_1 x4_1 = some r) ∧ Aside0 (kq ≤ k) ∧ Aside0 (Kd.R (Kd.int .i64) 3 w' w.heap.size (fun _ => True) v553 x3_1) ∧ Aside0 (Below w.heap.size w w'))
   case atStart => exact ⟨(y552), (1), (by first | rfl | (simp; done) | (simp [*]; done)), H', ⟨Nat.le_refl _⟩, ⟨by (with_reducible repeat (first | apply Kd.R_alloc | apply Kd.R_drewN | apply Kd.R_drew)); exact HO554.out⟩, ⟨by repeat (first | (with_reducible first | exact HB.out | apply below_alloc | apply pw_below_drewN | apply below_drew1) | exact HB.out)⟩⟩
   case round =>
    clear H'
    try clear p2
    try clear c3
    try clear c3b0
    try clear c3b1
    try clear c4
    try clear c4b0
    try clear c4b1
    try clear p6
    obtain ⟨x3_1, x4_1, rfl, HA, HK1, HO_3, HB⟩ := hrel
    cases gk with
    | zero => exact absurd HA.out (by simp [width_town_widths.l0])
    | succ k1 =>
     have H := HA.out
     clear HA
     simp only [width_town_widths.l0] at H
     by_cases c7 : x4_1 < (x3_1.length : Int)
     ·rw [if_pos c7] at H
      have c7b0 : decide (x4_1 < (x3_1.length : Int)) = true := decide_eq_true c7
      clear c7
      by_cases c8 : 0 ≤ x4_1
      ·rw [if_pos c8] at H
       have c8b0 : decide (0 ≤ x4_1) = true := decide_eq_true c8
       clear c8
       obtain ⟨y555, hy555⟩ : ∃ y_ : List Int, y_ = (x3_1.set (x4_1 : Int).toNat (l0.length : Int)) := ⟨_, rfl⟩
       replace H : ((width_nodes.f k1 x4_1).bind fun t556 => (width_town_widths.l1 k1 l0 y555 x4_1 t556 (t556.length : Int) 0)) = some r := by first | (rw [hy555]; with_reducible exact H) | (have H2_ := (Option.bind_some _ _).symm.trans H; rw [hy555]; with_reducible exact H2_) | (have H2_ := (Option.bind_some _ _).symm.trans H; with_reducible exact H2_) | with_reducible exact H | (rw [hy555]; exact H) | exact H
       have Ny555 := Aside0.mk hy555
       clear hy555
       replace H := Option.bind_eq_some_iff.mp H
       obtain ⟨t556, A100, H⟩ := H
       replace H : (width_town_widths.l1 k1 l0 y555 x4_1 t556 (t556.length : Int) 0) = some r := H
       have A10 := Aside0.mk A100
       clear A100
       have H' := Aside0.mk H
       clear H
       obtain ⟨Ao11, co11, eo11⟩ := Kd.R_slice HO_3.out
       subst eo11
       have p9 : 0 ≤ (x4_1 : Int) := of_decide_eq_true (by first | (with_reducible assumption) | assumption)
       have q9 : (x4_1 : Int) < ((x3_1.length : Int) : Int) := of_decide_eq_true (by first | (with_reducible assumption) | assumption)
       obtain ⟨go9, co9, eo9, gb9, gl9, cl9, HG9⟩ := Kd.R_form HO_3.out (by omega)
       (first | cases eo9 | (injection eo9 with ea_ en_ ec_; (first | subst ea_ | (injection ea_ with ea_; subst ea_)); subst ec_; clear en_))
       have GB9 := Aside0.mk gb9
       have GG9 := Aside0.mk HG9
       clear gb9 gl9 HG9
       obtain ⟨hx9_0, hf9_0⟩ := Kd.R_celln 0 HO_3.out (x4_1 : Int) p9 q9
       replace p9 := eq_true p9
       replace q9 := eq_true q9
       have HP12 := Kd.R_putg HO_3.out (x4_1 : Int) (l0.length : Int)
       go_wp2_with (first | ((with_reducible refine gate_store (t := 3) (p := 21) rfl ?_); refine store_event (t := 3) (p := 21) (v := ?vo_w13) (w1 := (wr.setCell ⟨go9, (x4_1 : Int).toNat, none⟩ (.int .i64 (l0.length : Int)))) ?hg ?ho ?hn ?hr ?_; (case ho => rfl); (case hg => rfl); (case hn => rfl); (case hr => first | (go_simp; done) | (go_simp; rfl)); intro w13 hw; have hg : wr.grownBy w13 (some go9) := (by rw [hw]; exact HP12.2); have hp_ : Kd.R (Kd.int .i64) 3 w13 w.heap.size (fun _ => True) (.slice (some ⟨go9, 0, none⟩) x3_1.length co11) y555 := (by rw [hw, Ny555.out]; exact HP12.1); clear HP12; have n0_ := Aside0.mk (hp_); have n1_ := Aside0.mk ((by rw [hw]; exact below_set (HB.out) GB9.out : Below w.heap.size w w13)); clear HO_3; clear HB; have HO_3 := n0_; have HB := n1_; clear n0_ n1_; clear hg hw hp_) | ((with_reducible refine gate_callee (f := 104) rfl ?_); refine goesL_ (some 23) rfl rfl Tryd.func104 (by kernel_rfl) rfl #[.int .i64 x4_1] rfl (Qls) ?_; (with_reducible refine (width_nodes.calls (hGL := (Qlg)) k1 x4_1 t556 _ A10.out).mono ?_); rintro e w14 ⟨v557, rfl, ho0, hb⟩; refine ⟨_, rfl, ?_⟩; have n0_ := Aside0.mk (Kd.R_elder' (Qro HO_3.out) (Kd.R_base ho0) hb); have n1_ := Aside0.mk (Kd.R_lower (Kd.R_new' ho0 (Kd.R_lt (Qro HO_3.out))) (below_size (Qaw))); have n2_ := Aside0.mk (below_step (Qaw) hb); clear HO_3; clear HB; have HO_3 := n0_; have HO558 := n1_; have HB := n2_; clear n0_ n1_ n2_; (try clear hb); (try clear hb2); (try clear hk); (try clear hi); (try clear ho0); obtain ⟨Ao15, co15, eo15⟩ := Kd.R_slice HO558.out; subst eo15))
       go_loopg [25] k1 (fun kq v25 w' => ∃ (x3_2 : List Int) (x25_2 : Int), v25 = .int .i64 x25_2 ∧ Aside0 (width_town_widths.l1 kq l0 x3_2 x4_1 t556 (t556.length : Int) x25_2 = some r) ∧ Aside0 (kq ≤ k1) ∧ Aside0 (Kd.R (Kd.int .i64) 3 w' w.heap.size (fun k_ => some k_ ≠ ((.slice Ao15 t556.length co15) : Value).ownBlock) (.slice (some ⟨go9, 0, none⟩) x3_1.length co11) x3_2) ∧ Aside0 (Kd.R (Kd.int .i64) 3 w' w.heap.size (fun k_ => some k_ ≠ ((.slice (some ⟨go9, 0, none⟩) x3_1.length co11) : Value).ownBlock) (.slice Ao15 t556.length co15) t556) ∧ Aside0 (Below w.heap.size w w'))
       case atStart => exact ⟨(y555), (0), (by first | rfl | (simp; done) | (simp [*]; done)), H', ⟨Nat.le_refl _⟩, ⟨by (with_reducible repeat (first | apply Kd.R_alloc | apply Kd.R_drewN | apply Kd.R_drew)); exact Kd.R_mono HO_3.out (fun _ hk => hk.2)⟩, ⟨by (with_reducible repeat (first | apply Kd.R_alloc | apply Kd.R_drewN | apply Kd.R_drew)); exact Kd.R_mono HO558.out (fun _ hk => hk.2)⟩, ⟨by repeat (first | (with_reducible first | exact HB.out | apply below_alloc | apply pw_below_drewN | apply below_drew1) | exact HB.out)⟩⟩
       case round =>
        clear H'
        try clear c1
        try clear p2
        try clear c3
        try clear c3b0
        try clear c3b1
        try clear c4
        try clear c4b0
        try clear c4b1
        try clear p6
        try clear c7
        try clear c7b0
        try clear c8
        try clear c8b0
        try clear c9
        try clear p9
        try clear q9
        try clear hx9
        try clear hf9
        try clear c10
        try clear hx9_0
        try clear p2
        try clear p6
        try clear p9
        try clear q9
        obtain ⟨x3_2, x25_2, rfl, HA, HK2, HO_3, HO_23, HB⟩ := hrel
        have hl3_2 := (Kd.R_reads' HO_3.out).1
        rw [hl3_2] at HO_3
        (try simp only [hl3_2])
        (try simp only [hl3_2] at HO_23)
        cases gk with
        | zero => exact absurd HA.out (by simp [width_town_widths.l1])
        | succ k2 =>
         have H := HA.out
         clear HA
         simp only [width_town_widths.l1] at H
         by_cases c16 : x25_2 < (t556.length : Int)
         ·rw [if_pos c16] at H
          have c16b0 : decide (x25_2 < (t556.length : Int)) = true := decide_eq_true c16
          clear c16
          by_cases c17 : 0 ≤ x25_2
          ·rw [if_pos c17] at H
           have c17b0 : decide (0 ≤ x25_2) = true := decide_eq_true c17
           clear c17
           by_cases c18 : x25_2 < (t556.length : Int)
           ·rw [if_pos c18] at H
            have c18b0 : decide (x25_2 < (t556.length : Int)) = true := decide_eq_true c18
            clear c18
            by_cases c19 : 0 ≤ x4_1
            ·rw [if_pos c19] at H
             have c19b0 : decide (0 ≤ x4_1) = true := decide_eq_true c19
             clear c19
             by_cases c20 : x4_1 < (x3_2.length : Int)
             ·rw [if_pos c20] at H
              have c20b0 : decide (x4_1 < (x3_2.length : Int)) = true := decide_eq_true c20
              clear c20
              by_cases c21 : 0 ≤ (rd t556 x25_2)
              ·rw [if_pos c21] at H
               have c21b0 := eq_true c21
               have c21b1 : decide (0 ≤ (rd t556 x25_2)) = true := decide_eq_true c21
               clear c21
               obtain ⟨ji22, hji22⟩ : ∃ j_ : Int, (shl .i64 1 (rd t556 x25_2)) = j_ := ⟨_, rfl⟩
               replace H : (if 0 ≤ (Go.bits .andNot .i64 x4_1 (ji22)) then (if (Go.bits .andNot .i64 x4_1 (ji22)) < (x3_2.length : Int) then ((width_town_degree.f k2 l0 (rd t556 x25_2) (Go.bits .andNot .i64 x4_1 (ji22))).bind fun t562 => (width_town_widths.l1 k2 l0 (x3_2.set (x4_1 : Int).toNat (mn (rd x3_2 x4_1) (mx (rd x3_2 (Go.bits .andNot .i64 x4_1 (ji22))) t562))) x4_1 t556 (t556.length : Int) (wrap64 (x25_2 + 1)))) else (none)) else (none)) = some r := by first | (rw [hji22] at H; exact H) | (simp only [hji22] at H ⊢; exact H)
               have hji22_ : (IntKind.i64.wrap (1 * 2 ^ min (rd t556 x25_2).toNat 64)) = ji22 := hji22
               have hji22z : (rd t556 x25_2) ≤ 64 → (IntKind.i64.wrap (1 * 2 ^ (rd t556 x25_2).toNat)) = ji22 := shl_small hji22
               have hji22u : (IntKind.i64.wrap (2 ^ min (rd t556 x25_2).toNat 64)) = ji22 := by have h_ := hji22_; rw [Int.one_mul] at h_; exact h_
               have hji22v : (rd t556 x25_2) ≤ 64 → (IntKind.i64.wrap (2 ^ (rd t556 x25_2).toNat)) = ji22 := fun hle_ => by have h_ := hji22z hle_; rw [Int.one_mul] at h_; exact h_
               have hji22y : (wrap64 (1 * 2 ^ min (rd t556 x25_2).toNat 64)) = ji22 := (i64_w _).symm.trans hji22_
               have hji22x : (rd t556 x25_2) ≤ 64 → (wrap64 (1 * 2 ^ (rd t556 x25_2).toNat)) = ji22 := fun h_ => (i64_w _).symm.trans (hji22z h_)
               by_cases c23 : 0 ≤ (Go.bits .andNot .i64 x4_1 (ji22))
               ·rw [if_pos c23] at H
                have c23b0 : decide (0 ≤ (Go.bits .andNot .i64 x4_1 (ji22))) = true := decide_eq_true c23
                clear c23
                by_cases c24 : (Go.bits .andNot .i64 x4_1 (ji22)) < (x3_2.length : Int)
                ·rw [if_pos c24] at H
                 have c24b0 : decide ((Go.bits .andNot .i64 x4_1 (ji22)) < (x3_2.length : Int)) = true := decide_eq_true c24
                 clear c24
                 have c25b0 := eq_true (of_decide_eq_true (by first | (with_reducible assumption) | assumption) : 0 ≤ (rd t556 x25_2))
                 replace H := Option.bind_eq_some_iff.mp H
                 obtain ⟨t562, A260, H⟩ := H
                 replace H : (width_town_widths.l1 k2 l0 (x3_2.set (x4_1 : Int).toNat (mn (rd x3_2 x4_1) (mx (rd x3_2 (Go.bits .andNot .i64 x4_1 (ji22))) t562))) x4_1 t556 (t556.length : Int) (wrap64 (x25_2 + 1))) = some r := H
                 have A26 := Aside0.mk A260
                 clear A260
                 obtain ⟨ji27, hji27⟩ : ∃ j_ : Int, (mx (rd x3_2 (Go.bits .andNot .i64 x4_1 (ji22))) t562) = j_ := ⟨_, rfl⟩
                 replace H : (width_town_widths.l1 k2 l0 (x3_2.set (x4_1 : Int).toNat (mn (rd x3_2 x4_1) (ji27))) x4_1 t556 (t556.length : Int) (wrap64 (x25_2 + 1))) = some r := by first | (rw [hji27] at H; exact H) | (simp only [hji27] at H ⊢; exact H)
                 (try rw [hji27] at A26)
                 have hji27_ : (if (rd x3_2 (Go.bits .andNot .i64 x4_1 (ji22))) < t562 then t562 else (rd x3_2 (Go.bits .andNot .i64 x4_1 (ji22)))) = ji27 := hji27
                 obtain ⟨ji28, hji28⟩ : ∃ j_ : Int, (mn (rd x3_2 x4_1) (ji27)) = j_ := ⟨_, rfl⟩
                 replace H : (width_town_widths.l1 k2 l0 (x3_2.set (x4_1 : Int).toNat (ji28)) x4_1 t556 (t556.length : Int) (wrap64 (x25_2 + 1))) = some r := by first | (rw [hji28] at H; exact H) | (simp only [hji28] at H ⊢; exact H)
                 (try rw [hji28] at A26)
                 have hji28_ : (if (ji27) < (rd x3_2 x4_1) then (ji27) else (rd x3_2 x4_1)) = ji28 := hji28
                 obtain ⟨y563, hy563⟩ : ∃ y_ : List Int, y_ = (x3_2.set (x4_1 : Int).toNat (ji28)) := ⟨_, rfl⟩
                 replace H : (width_town_widths.l1 k2 l0 y563 x4_1 t556 (t556.length : Int) (wrap64 (x25_2 + 1))) = some r := by first | (rw [hy563]; with_reducible exact H) | (have H2_ := (Option.bind_some _ _).symm.trans H; rw [hy563]; with_reducible exact H2_) | (have H2_ := (Option.bind_some _ _).symm.trans H; with_reducible exact H2_) | with_reducible exact H | (rw [hy563]; exact H) | exact H
                 have Ny563 := Aside0.mk hy563
                 clear hy563
                 have H' := Aside0.mk H
                 clear H
                 have p559 : 0 ≤ (x25_2 : Int) := of_decide_eq_true (by first | (with_reducible assumption) | assumption)
                 have q559 : x25_2 < (t556.length : Int) := of_decide_eq_true (by first | (with_reducible assumption) | assumption)
                 obtain ⟨ad559, e559, hx559_0⟩ := Kd.at_int (Kd.R_reads' HO_23.out).2.2 x25_2 p559 q559
                 cases e559
                 replace p559 := eq_true p559
                 replace q559 := eq_true q559
                 try go_wp2
                 have n0_ := Aside0.mk (Kd.R_drew HO_3.out)
                 have n1_ := Aside0.mk (Kd.R_drew HO_23.out)
                 have n2_ := Aside0.mk (below_drew1 HB.out)
                 clear HO_3
                 clear HO_23
                 clear HB
                 have HO_3 := n0_
                 have HO_23 := n1_
                 have HB := n2_
                 clear n0_ n1_ n2_
                 have p560 : 0 ≤ (x4_1 : Int) := of_decide_eq_true (by first | (with_reducible assumption) | assumption)
                 have q560 : x4_1 < (x3_2.length : Int) := of_decide_eq_true (by first | (with_reducible assumption) | assumption)
                 obtain ⟨ad560, e560, hx560_0⟩ := Kd.at_int (Kd.R_reads' HO_3.out).2.2 x4_1 p560 q560
                 obtain rfl : (⟨go9, 0, none⟩ : Addr) = ad560 := (by injection e560)
                 (first | simp only [add_plain] at hx560_0 | simp only [add_at] at hx560_0 | simp only [Addr.add, Nat.zero_add] at hx560_0 | skip)
                 replace p560 := eq_true p560
                 replace q560 := eq_true q560
                 have p561 : 0 ≤ ((Go.bits .andNot .i64 x4_1 (ji22)) : Int) := of_decide_eq_true (by first | (with_reducible assumption) | assumption)
                 have q561 : (Go.bits .andNot .i64 x4_1 (ji22)) < (x3_2.length : Int) := of_decide_eq_true (by first | (with_reducible assumption) | assumption)
                 obtain ⟨ad561, e561, hx561_0⟩ := Kd.at_int (Kd.R_reads' HO_3.out).2.2 (Go.bits .andNot .i64 x4_1 (ji22)) p561 q561
                 obtain rfl : (⟨go9, 0, none⟩ : Addr) = ad561 := (by injection e561)
                 (first | simp only [add_plain] at hx561_0 | simp only [add_at] at hx561_0 | simp only [Addr.add, Nat.zero_add] at hx561_0 | skip)
                 replace p561 := eq_true p561
                 replace q561 := eq_true q561
                 refine start_ (n := 24) (S := fun w' => w'.cell? ⟨go9, (x4_1).toNat, none⟩ = some (.int .i64 (rd x3_2 x4_1)) ∧ w'.cell? ⟨go9, ((Go.bits .andNot .i64 x4_1 (ji22))).toNat, none⟩ = some (.int .i64 (rd x3_2 (Go.bits .andNot .i64 x4_1 (ji22))))) (ds := [23]) (Qbz 24 0) (by kernel_rfl) rfl rfl ⟨hx560_0, hx561_0⟩ (fun hHeld => ?_); refine with_tabW width_town_widths.tab9 width_town_widths.bits9 (fun HT_ HW_ => ?_)
                 generalize wr.drew = w30 at HO_3 HO_23 HB hx560_0 hx561_0 hHeld ⊢
                 refine pure_ (i := 0) (N := some 29) (v := ?_) (a' := ?_) (Qbz 24 1) rfl rfl (any_of HT_.out (by kernel_rfl)) (fun _ _ _ h => h) (Or.inl ⟨by rfl, ?_⟩) ?_ ?_
                 rotate_left
                 ·intro w'
                  go_simp
                  with_reducible rfl
                 rotate_left
                 ·simp only [Act.put, Qp1, Qp2, Qp3, i64_w, i32_w]
                  rfl
                 refine pure_ (i := 1) (N := some 30) (v := ?_) (a' := ?_) (Qbz 24 3) rfl rfl (any_of HT_.out (by kernel_rfl)) (fun _ _ _ h => h) (Or.inl ⟨by rfl, ?_⟩) ?_ ?_
                 rotate_left
                 ·intro w'
                  go_simp
                  with_reducible rfl
                 rotate_left
                 ·simp only [Act.put, Qp1, Qp2, Qp3, i64_w, i32_w]
                  rfl
                 refine pure_ (i := 2) (N := some 31) (v := ?_) (a' := ?_) (Qbz 24 7) rfl rfl (any_of HT_.out (by kernel_rfl)) (fun _ _ _ h => h) (Or.inl ⟨by rfl, ?_⟩) ?_ ?_
                 rotate_left
                 ·intro w'
                  go_simp
                  with_reducible rfl
                 rotate_left
                 ·simp only [Act.put, Qp1, Qp2, Qp3, i64_w, i32_w]
                  rfl
                 refine pure_ (i := 3) (N := some 32) (v := ?_) (a' := ?_) (Qbz 24 15) rfl rfl (any_of HT_.out (by kernel_rfl)) (fun _ _ _ h => h) (Or.inl ⟨by rfl, ?_⟩) ?_ ?_
                 rotate_left
                 ·intro w'
                  go_simp
                  with_reducible rfl
                 rotate_left
                 ·simp only [Act.put, Qp1, Qp2, Qp3, i64_w, i32_w]
                  rfl
                 refine pure_ (i := 4) (N := some 33) (v := ?_) (a' := ?_) (Qbz 24 31) rfl rfl (any_of HT_.out (by kernel_rfl)) (fun _ _ _ h => h) (Or.inl ⟨by rfl, ?_⟩) ?_ ?_
                 rotate_left
                 ·intro w'
                  go_simp
                  with_reducible rfl
                 rotate_left
                 ·simp only [Act.put, Qp1, Qp2, Qp3, i64_w, i32_w]
                  rfl
                 refine pure_ (i := 6) (N := some 35) (v := ?_) (a' := ?_) (Qbz 24 95) rfl rfl (any_of HT_.out (by kernel_rfl)) (fun _ _ _ h => h) (Or.inl ⟨by rfl, ?_⟩) ?_ ?_
                 rotate_left
                 ·intro w'
                  go_simp
                  with_reducible rfl
                 rotate_left
                 ·simp only [Act.put, Qp1, Qp2, Qp3, i64_w, i32_w]
                  rfl
                 refine pure_ (i := 7) (N := some 36) (v := ?_) (a' := ?_) (Qbz 24 223) rfl rfl (any_of HT_.out (by kernel_rfl)) (fun _ _ _ h => h) (Or.inl ⟨by rfl, ?_⟩) ?_ ?_
                 rotate_left
                 ·intro w'
                  go_simp
                  with_reducible rfl
                 rotate_left
                 ·simp only [Act.put, Qp1, Qp2, Qp3, i64_w, i32_w]
                  rfl
                 refine pure_ (i := 8) (N := some 37) (v := ?_) (a' := ?_) (Qbz 24 479) rfl rfl (any_of HT_.out (by kernel_rfl)) (fun _ _ _ h => h) (Or.inl ⟨by rfl, ?_⟩) ?_ ?_
                 rotate_left
                 ·intro w'
                  go_simp
                  with_reducible rfl
                 rotate_left
                 ·simp only [Act.put, Qp1, Qp2, Qp3, i64_w, i32_w]
                  rfl
                 refine pure_ (i := 9) (N := some 38) (v := ?_) (a' := ?_) (Qbz 24 991) rfl rfl (any_of HT_.out (by kernel_rfl)) (fun _ _ _ h => h) (Or.inl ⟨by rfl, ?_⟩) ?_ ?_
                 rotate_left
                 ·intro w'
                  go_simp
                  with_reducible rfl
                 rotate_left
                 ·simp only [Act.put, Qp1, Qp2, Qp3, i64_w, i32_w]
                  rfl
                 refine pure_ (i := 10) (N := some 39) (v := ?_) (a' := ?_) (Qbz 24 2015) rfl rfl (any_of HT_.out (by kernel_rfl)) (fun _ _ _ h => h) (Or.inl ⟨by rfl, ?_⟩) ?_ ?_
                 rotate_left
                 ·intro w'
                  go_simp
                  with_reducible rfl
                 rotate_left
                 ·simp only [Act.put, Qp1, Qp2, Qp3, i64_w, i32_w]
                  rfl
                 refine pure_ (i := 11) (N := some 40) (v := ?_) (a' := ?_) (Qbz 24 4063) rfl rfl (any_of HT_.out (by kernel_rfl)) (fun _ _ _ h => h) (Or.inl ⟨by rfl, ?_⟩) ?_ ?_
                 rotate_left
                 ·intro w'
                  go_simp
                  with_reducible rfl
                 rotate_left
                 ·simp only [Act.put, Qp1, Qp2, Qp3, i64_w, i32_w]
                  rfl
                 refine pure_ (i := 13) (N := some 42) (v := ?_) (a' := ?_) (Qbz 24 12255) rfl rfl (any_of HT_.out (by kernel_rfl)) (fun _ _ _ h => h) (Or.inl ⟨by rfl, ?_⟩) ?_ ?_
                 rotate_left
                 ·intro w'
                  go_simp
                  with_reducible rfl
                 rotate_left
                 ·simp only [Act.put, Qp1, Qp2, Qp3, i64_w, i32_w]
                  rfl
                 refine pure_ (i := 14) (N := some 43) (v := ?_) (a' := ?_) (Qbz 24 28639) rfl rfl (any_of HT_.out (by kernel_rfl)) (fun _ _ _ h => h) (Or.inl ⟨by rfl, ?_⟩) ?_ ?_
                 rotate_left
                 ·intro w'
                  go_simp
                  with_reducible rfl
                 rotate_left
                 ·simp only [Act.put, Qp1, Qp2, Qp3, i64_w, i32_w]
                  rfl
                 refine pure_ (i := 15) (N := some 44) (v := ?_) (a' := ?_) (Qbz 24 61407) rfl rfl (any_of HT_.out (by kernel_rfl)) (fun _ _ _ h => h) (Or.inl ⟨by rfl, ?_⟩) ?_ ?_
                 rotate_left
                 ·intro w'
                  go_simp
                  with_reducible rfl
                 rotate_left
                 ·simp only [Act.put, Qp1, Qp2, Qp3, i64_w, i32_w]
                  rfl
                 refine pure_ (i := 16) (N := some 45) (v := ?_) (a' := ?_) (Qbz 24 126943) rfl rfl (any_of HT_.out (by kernel_rfl)) (fun _ _ _ h => h) (Or.inl ⟨by rfl, ?_⟩) ?_ ?_
                 rotate_left
                 ·intro w'
                  go_simp
                  with_reducible rfl
                 rotate_left
                 ·simp only [Act.put, Qp1, Qp2, Qp3, i64_w, i32_w]
                  rfl
                 refine pure_ (i := 17) (N := some 46) (v := ?_) (a' := ?_) (Qbz 24 258015) rfl rfl (any_of HT_.out (by kernel_rfl)) (fun _ _ _ h => h) (Or.inl ⟨by rfl, ?_⟩) ?_ ?_
                 rotate_left
                 ·intro w'
                  go_simp
                  with_reducible rfl
                 rotate_left
                 ·simp only [Act.put, Qp1, Qp2, Qp3, i64_w, i32_w]
                  rfl
                 refine pure_ (i := 18) (N := some 47) (v := ?_) (a' := ?_) (Qbz 24 520159) rfl rfl (any_of HT_.out (by kernel_rfl)) (fun _ _ _ h => h) (Or.inl ⟨by rfl, ?_⟩) ?_ ?_
                 rotate_left
                 ·intro w'
                  go_simp
                  with_reducible rfl
                 rotate_left
                 ·simp only [Act.put, Qp1, Qp2, Qp3, i64_w, i32_w]
                  rfl
                 refine take_ (i := 5) (N := some 34) (v := ?_) (a' := ?_) (Qbz 24 520191) rfl rfl (take_ofW HT_.out HW_.out (by kernel_rfl)) (fun _ _ _ h => h) (Or.inl ⟨by rfl, ?_⟩) hHeld ?_ ?_
                 rotate_left
                 ·rintro w' ⟨s0, s1⟩
                  go_simp
                  with_reducible rfl
                 rotate_left
                 ·simp only [Act.put, Qp1, Qp2, Qp3, i64_w, i32_w]
                  rfl
                 refine take_ (i := 12) (N := some 41) (v := ?_) (a' := ?_) (Qbz 24 524287) rfl rfl (take_ofW HT_.out HW_.out (by kernel_rfl)) (fun _ _ _ h => h) (Or.inl ⟨by rfl, ?_⟩) hHeld ?_ ?_
                 rotate_left
                 ·rintro w' ⟨s0, s1⟩
                  go_simp
                  with_reducible rfl
                 rotate_left
                 ·simp only [Act.put, Qp1, Qp2, Qp3, i64_w, i32_w]
                  rfl
                 refine one_ (i := 19) (N := some 48) (Qbz 24 1048575) rfl rfl (one_of HT_.out (by kernel_rfl)) (by decide) (fun K hK => ?_)
                 refine goes_ Tryd.func113 (by kernel_rfl) rfl #[.slice A0 l0.length c0, .int .i64 (rd t556 x25_2), .int .i64 (Go.bits .andNot .i64 x4_1 (ji22))] (by rfl) rfl rfl (by (try simp only [List.map_toArray, List.map_cons, List.map_nil]); first | done | (simp only [hji22]; rfl) | rfl | (simp only [List.length_drop, List.length_take]; rfl)) ?_
                 with_reducible refine (width_town_degree.calls (hGL := (Qlg)) k2 _ _ l0 (rd t556 x25_2) (Go.bits .andNot .i64 x4_1 (ji22)) t562 _ ?side1 ?side2 A26.out).mono ?_
                 (case side1 => exact Qsc (Kd.C_below HR0.out HB.out))
                 (case side2 => exact HC0.out)
                 rintro e w31 ⟨rfl, hb⟩
                 have HS0_ := (hb.cell (World.block_lt_of_cell? _ _ (hHeld.1))).trans (hHeld.1)
                 have HS1_ := (hb.cell (World.block_lt_of_cell? _ _ (hHeld.2))).trans (hHeld.2)
                 refine ⟨_, rfl, ?_⟩
                 have n0_ := Aside0.mk (Kd.R_below (Qro HO_3.out) hb)
                 have n1_ := Aside0.mk (Kd.R_below (Qro HO_23.out) hb)
                 have n2_ := Aside0.mk (below_step (Qaw) hb)
                 clear HO_3
                 clear HO_23
                 clear HB
                 have HO_3 := n0_
                 have HO_23 := n1_
                 have HB := n2_
                 clear n0_ n1_ n2_
                 (try clear hb)
                 (try clear hb2)
                 (try clear hk)
                 (try clear hi)
                 have p29 : 0 ≤ (x4_1 : Int) := of_decide_eq_true (by first | (with_reducible assumption) | assumption)
                 have q29 : (x4_1 : Int) < ((x3_2.length : Int) : Int) := of_decide_eq_true (by first | (with_reducible assumption) | assumption)
                 obtain ⟨hx29_0, hf29_0⟩ := Kd.R_celln 0 HO_3.out (x4_1 : Int) p29 q29
                 replace p29 := eq_true p29
                 replace q29 := eq_true q29
                 have HP32 := Kd.R_putn HO_3.out (x4_1 : Int) ji28
                 rw [← Ny563.out] at HP32
                 have HQ32 := Aside0.mk HP32
                 clear HP32
                 refine hK.out _ _ ⟨HS0_, HS1_⟩ (fun hHeld => ?_)
                 clear hK K
                 refine norm_ (a' := ?_) ?_ ?_
                 rotate_left
                 ·show Act.put _ (some 48) _ = _
                  simp only [Act.put, Qp1, Qp2, Qp3, i64_w, i32_w]
                  rfl
                 refine pure_ (i := 20) (N := some 49) (v := ?_) (a' := ?_) (Qbz 24 2097151) rfl rfl (any_of HT_.out (by kernel_rfl)) (fun _ _ _ h => h) (Or.inl ⟨by rfl, ?_⟩) ?_ ?_
                 rotate_left
                 ·intro w'
                  go_simp
                  with_reducible rfl
                 rotate_left
                 ·simp only [Act.put, Qp1, Qp2, Qp3, i64_w, i32_w]
                  rfl
                 refine pure_ (i := 21) (N := some 50) (v := ?_) (a' := ?_) (Qbz 24 4194303) rfl rfl (any_of HT_.out (by kernel_rfl)) (fun _ _ _ h => h) (Or.inl ⟨by rfl, ?_⟩) ?_ ?_
                 rotate_left
                 ·intro w'
                  go_simp
                  with_reducible rfl
                 rotate_left
                 ·simp only [Act.put, Qp1, Qp2, Qp3, i64_w, i32_w]
                  rfl
                 refine pure_ (i := 22) (N := some 51) (v := ?_) (a' := ?_) (Qbz 24 8388607) rfl rfl (any_of HT_.out (by kernel_rfl)) (fun _ _ _ h => h) (Or.inl ⟨by rfl, ?_⟩) ?_ ?_
                 rotate_left
                 ·intro w'
                  go_simp
                  with_reducible rfl
                 rotate_left
                 ·simp only [Act.put, Qp1, Qp2, Qp3, i64_w, i32_w]
                  rfl
                 refine last_ (i := 23) (N := none) (Qbz 24 16777215) rfl rfl (one_of HT_.out (by kernel_rfl)) (by decide) (fun K hK => ?_)
                 refine skip_ (w1 := ?_) (by rfl) rfl ?_ ?_
                 rotate_left
                 ·go_simp
                  rfl
                 refine hK.out _ _ ?_
                 clear hK K
                 refine done_ (done_of HT_.out (by kernel_rfl)) ?_
                 try go_wp2
                 (try simp only [← hl3_2])
                 go_roundg k2
                 case measure => have := HK1.out; have := HK2.out; omega
                 case rel => exact ⟨(y563), (wrap64 (x25_2 + 1)), (by first | rfl | (simp; done) | (simp [*]; done)), H', ⟨by have := HK1.out; have := HK2.out; omega⟩, ⟨by (try simp only [hl3_2]); (with_reducible repeat (first | apply Kd.R_alloc | apply Kd.R_drewN | apply Kd.R_drew)); exact HQ32.out⟩, ⟨by (try simp only [hl3_2]); (with_reducible repeat (first | apply Kd.R_alloc | apply Kd.R_drewN | apply Kd.R_drew)); exact Kd.R_mono (Kd.R_far (p := ⟨go9, (x4_1 : Int).toNat, none⟩) (Kd.R_mono HO_23.out (fun k_ hk => (⟨hk, fun e_ => hk (by rw [e_]; rfl)⟩ : _ ∧ k_ ≠ go9))) (fun _ hk => hk.2) (.int .i64 ji28)) (fun _ hk => hk.1)⟩, ⟨by repeat (first | (with_reducible first | exact HB.out | apply below_alloc | apply pw_below_drewN | apply below_drew1 | refine below_set ?_ GB9.out) | exact HB.out)⟩⟩
                ·rw [if_neg c24] at H
                 exact absurd H (by simp)
               ·rw [if_neg c23] at H
                exact absurd H (by simp)
              ·rw [if_neg c21] at H
               exact absurd H (by simp)
             ·rw [if_neg c20] at H
              exact absurd H (by simp)
            ·rw [if_neg c19] at H
             exact absurd H (by simp)
           ·rw [if_neg c18] at H
            exact absurd H (by simp)
          ·rw [if_neg c17] at H
           exact absurd H (by simp)
         ·rw [if_neg c16] at H
          have c16b0 : decide (x25_2 < (t556.length : Int)) = false := decide_eq_false c16
          clear c16
          have H' := Aside0.mk H
          clear H
          go_wp2
          (try simp only [← hl3_2])
          go_roundg k2
          case measure => have := HK1.out; have := HK2.out; omega
          case rel => exact ⟨(x3_2), (wrap64 (x4_1 + 1)), (by first | rfl | (simp; done) | (simp [*]; done)), H', ⟨by have := HK1.out; have := HK2.out; omega⟩, ⟨by (try simp only [hl3_2]); (with_reducible repeat (first | apply Kd.R_alloc | apply Kd.R_drewN | apply Kd.R_drew)); exact Kd.R_mono HO_3.out (fun _ hk => trivial)⟩, ⟨by repeat (first | (with_reducible first | exact HB.out | apply below_alloc | apply pw_below_drewN | apply below_drew1) | exact HB.out)⟩⟩
      ·rw [if_neg c8] at H
       exact absurd H (by simp)
     ·rw [if_neg c7] at H
      have c7b0 : decide (x4_1 < (x3_1.length : Int)) = false := decide_eq_false c7
      clear c7
      obtain rfl := Option.some.inj H
      obtain ⟨Ao33, co33, eo33⟩ := Kd.R_slice HO_3.out
      subst eo33
      go_wp2
      go_ret
      exact ⟨_, by first | rfl | (simp [errW_none, errW_some] <;> rfl) | (simp only [← hji2]; first | rfl | (simp [errW_none, errW_some] <;> rfl)) | (simp [*, errW_none, errW_some] <;> rfl), by (with_reducible repeat (first | apply Kd.R_alloc | apply Kd.R_drewN | apply Kd.R_drew)); exact HO_3.out, by repeat (first | (with_reducible first | exact HB.out | apply below_alloc | apply pw_below_drewN | apply below_drew1) | exact HB.out)⟩
  ·rw [if_neg c4] at H
   exact absurd H (by simp)
 ·rw [if_neg c3] at H
  exact absurd H (by simp)
end Go.Proofs.YtjloppfdagfpmaaDoor.X
end
section
namespace Go.Proofs.YtjloppfdagfpmaaDoor.X
open Go.RowKit YtjloppfdagfpmaaDoorW.PrintWords YtjloppfdagfpmaaDoorW.PrintLast YtjloppfdagfpmaaDoorW.PrintMore
attribute [local go_sem] max2_int min2_int max_two min_two max_three min_three max_four min_four
/-! ### width_town_width: function 87 -/
def width_town_width.f (k : Nat) (l0 : List Int) : Option (Int) := (width_town_widths.f k l0).bind fun t564 => ((width_town_all.f l0).bind fun t567 => (if 0 ≤ t567 then (if t567 < (t564.length : Int) then (some (rd t564 t567)) else (none)) else (none)))
set_option maxHeartbeats 8000000 in
set_option maxRecDepth 100000 in
theorem width_town_width.calls (k : Nat) (A0 : Option Addr) (c0 : Nat) (l0 : List Int) (r : Int) (w : World) (hGL : GL w) (hr0 : Kd.C (Kd.int .i64) w A0 l0.length l0) (hc0 : l0.length ≤ c0) (h : width_town_width.f k l0 = some r) :
  Calls Tryd.prog 87 #[.slice A0 l0.length c0] w fun e w' => e = .returned (.int .i64 r) ∧ Below w.heap.size w w' := by
 have HGL := Aside0.mk hGL
 clear hGL
 have HR0 := Aside0.mk hr0
 have HC0 := Aside0.mk hc0
 clear hr0 hc0
 have HB := Aside0.mk (Below.refl w.heap.size w)
 have H : ((width_town_widths.f k l0).bind fun t564 => ((width_town_all.f l0).bind fun t567 => (if 0 ≤ t567 then (if t567 < (t564.length : Int) then (some (rd t564 t567)) else (none)) else (none)))) = some r := h
 clear h
 replace H := Option.bind_eq_some_iff.mp H
 obtain ⟨t564, A20, H⟩ := H
 replace H : ((width_town_all.f l0).bind fun t567 => (if 0 ≤ t567 then (if t567 < (t564.length : Int) then (some (rd t564 t567)) else (none)) else (none))) = some r := H
 have A2 := Aside0.mk A20
 clear A20
 replace H := Option.bind_eq_some_iff.mp H
 obtain ⟨t567, A30, H⟩ := H
 replace H : (if 0 ≤ t567 then (if t567 < (t564.length : Int) then (some (rd t564 t567)) else (none)) else (none)) = some r := H
 have A3 := Aside0.mk A30
 clear A30
 by_cases c4 : 0 ≤ t567
 ·rw [if_pos c4] at H
  have c4b0 : decide (0 ≤ t567) = true := decide_eq_true c4
  clear c4
  by_cases c5 : t567 < (t564.length : Int)
  ·rw [if_pos c5] at H
   have c5b0 : decide (t567 < (t564.length : Int)) = true := decide_eq_true c5
   clear c5
   obtain rfl := Option.some.inj H
   go_enter Tryd.func87, Tryd.ntmps87
   go_wp2_with (first | ((with_reducible refine gate_callee (f := 97) rfl ?_); refine goesL_ (some 4) rfl rfl Tryd.func97 (by kernel_rfl) rfl #[.slice A0 l0.length c0] rfl (Qls) ?_; (with_reducible refine (width_town_widths.calls (hGL := (Qlg)) k _ _ l0 t564 _ ?side1 ?side2 A2.out).mono ?_); (case side1 => exact Qsc HR0.out); (case side2 => exact HC0.out); rintro e w6 ⟨v565, rfl, ho0, hb⟩; refine ⟨_, rfl, ?_⟩; have n0_ := Aside0.mk (Kd.R_lower ho0 (below_size (Qaw))); have n1_ := Aside0.mk (below_step (Qaw) hb); clear HB; have HO566 := n0_; have HB := n1_; clear n0_ n1_; (try clear hb); (try clear hb2); (try clear hk); (try clear hi); (try clear ho0)) | ((with_reducible refine gate_callee (f := 98) rfl ?_); refine goesL_ (some 6) rfl rfl Tryd.func98 (by kernel_rfl) rfl #[.slice A0 l0.length c0] rfl (Qls) ?_; (with_reducible refine (width_town_all.calls _ _ l0 t567 _ ?side1 ?side2 A3.out).mono ?_); (case side1 => exact Qsc (Kd.C_below HR0.out HB.out)); (case side2 => exact HC0.out); rintro e w' ⟨rfl, ⟨nd, rfl⟩⟩; refine ⟨_, rfl, ?_⟩; obtain ⟨Ao7, co7, eo7⟩ := Kd.R_slice HO566.out; subst eo7; have p568 : 0 ≤ (t567 : Int) := of_decide_eq_true (by first | (with_reducible assumption) | assumption); have q568 : t567 < (t564.length : Int) := of_decide_eq_true (by first | (with_reducible assumption) | assumption); obtain ⟨ad568, e568, hx568_0⟩ := Kd.at_int (Kd.R_reads' HO566.out).2.2 t567 p568 q568; cases e568; replace p568 := eq_true p568; replace q568 := eq_true q568))
   go_ret
   exact ⟨by first | rfl | (simp [errW_none, errW_some] <;> rfl) | (simp [*, errW_none, errW_some] <;> rfl), by repeat (first | (with_reducible first | exact HB.out | apply below_alloc | apply pw_below_drewN | apply below_drew1) | exact HB.out)⟩
  ·rw [if_neg c5] at H
   exact absurd H (by simp)
 ·rw [if_neg c4] at H
  exact absurd H (by simp)
end Go.Proofs.YtjloppfdagfpmaaDoor.X
end
section
namespace Go.Proofs.YtjloppfdagfpmaaDoor.X
open Go.RowKit YtjloppfdagfpmaaDoorW.PrintWords YtjloppfdagfpmaaDoorW.PrintLast YtjloppfdagfpmaaDoorW.PrintMore
attribute [local go_sem] max2_int min2_int max_two min_two max_three min_three max_four min_four
/-! ### width_Width: function 51 -/
def width_Width.f (k : Nat) (l0 : List Int) : Option (Int × Int) := (width_read.f k l0).bind fun bt569 => (if bt569.2 = true then ((width_town_width.f k bt569.1).bind fun t573 => (some (t573, 0))) else (some (0, 2)))
set_option maxHeartbeats 8000000 in
set_option maxRecDepth 100000 in
theorem width_Width.calls (k : Nat) (A0 : Option Addr) (c0 : Nat) (l0 : List Int) (r1 : Int) (r2 : Int) (w : World) (hGL : GL w) (hr0 : Kd.C (Kd.int .i64) w A0 l0.length l0) (hc0 : l0.length ≤ c0) (h : width_Width.f k l0 = some (r1, r2)) :
  Calls Tryd.prog 51 #[.slice A0 l0.length c0] w fun e w' => e = .returned (.tuple #[.int .i64 r1, .int .i64 r2]) ∧ Below w.heap.size w w' := by
 have HGL := Aside0.mk hGL
 clear hGL
 have HR0 := Aside0.mk hr0
 have HC0 := Aside0.mk hc0
 clear hr0 hc0
 have HB := Aside0.mk (Below.refl w.heap.size w)
 have H : ((width_read.f k l0).bind fun bt569 => (if bt569.2 = true then ((width_town_width.f k bt569.1).bind fun t573 => (some (t573, 0))) else (some (0, 2)))) = some (r1, r2) := h
 clear h
 replace H := Option.bind_eq_some_iff.mp H
 obtain ⟨⟨t569, t572⟩, A20, H⟩ := H
 replace H : (if t572 = true then ((width_town_width.f k t569).bind fun t573 => (some (t573, 0))) else (some (0, 2))) = some (r1, r2) := H
 have A2 := Aside0.mk A20
 clear A20
 by_cases c3 : t572 = true
 ·subst c3
  have H1 : ((width_town_width.f k t569).bind fun t573 => (some (t573, 0))) = some (r1, r2) := by rw [if_pos rfl] at H; exact H
  clear H
  have H := H1
  clear H1
  replace H := Option.bind_eq_some_iff.mp H
  obtain ⟨t573, A40, H⟩ := H
  replace H : (some (t573, 0)) = some (r1, r2) := H
  have A4 := Aside0.mk A40
  clear A40
  simp only [Option.some.injEq, Prod.mk.injEq] at H
  obtain ⟨rfl, rfl⟩ := H
  go_enter Tryd.func51, Tryd.ntmps51
  go_wp2_with (first | ((with_reducible refine gate_callee (f := 86) rfl ?_); refine goesL_ (some 8) rfl rfl Tryd.func86 (by kernel_rfl) rfl #[.slice A0 l0.length c0] rfl (Qls) ?_; (with_reducible refine (width_read.calls k (fun k_ => k_ < w.heap.size) _ _ l0 t569 true _ ?side1 A2.out).mono ?_); (case side1 => exact Kd.V_mk HC0.out (Kd.F_below (Kd.C_F (Kd.heap_int .i64) HR0.out) (Qaw))); rintro e w5 ⟨v570, rfl, ho0, hb⟩; refine ⟨_, rfl, ?_⟩; have n0_ := Aside0.mk (Kd.V_lower (Kd.V_mono (ok' := fun k_ => True) ho0 (fun k_ hk_ => trivial)) (below_size (Qaw))); have n1_ := Aside0.mk (below_step (Qaw) hb); clear HB; have HO571 := n0_; have HB := n1_; clear n0_ n1_; (try clear hb); (try clear hb2); (try clear hk); (try clear hi); (try clear ho0); obtain ⟨Ao6, co6, eo6⟩ := Kd.V_slice HO571.out; subst eo6) | ((with_reducible refine gate_callee (f := 87) rfl ?_); refine goesL_ (some 14) rfl rfl Tryd.func87 (by kernel_rfl) rfl #[.slice Ao6 t569.length co6] rfl (Qls) ?_; (with_reducible refine (width_town_width.calls (hGL := (Qlg)) k _ _ t569 t573 _ ?side1 ?side2 A4.out).mono ?_); (case side1 => exact Qsc (Kd.V_reads' HO571.out).2.2); (case side2 => exact (Kd.V_reads' HO571.out).2.1); rintro e w7 ⟨rfl, hb⟩; refine ⟨_, rfl, ?_⟩; have n0_ := Aside0.mk (Kd.V_below (by (with_reducible repeat (first | apply Kd.V_alloc | apply Kd.V_drewN | apply Kd.V_drew)); exact HO571.out) hb); have n1_ := Aside0.mk (below_step (Qaw) hb); clear HO571; clear HB; have HO571 := n0_; have HB := n1_; clear n0_ n1_; (try clear hb); (try clear hb2); (try clear hk); (try clear hi)))
  go_ret2
  exact ⟨by first | rfl | (simp [errW_none, errW_some] <;> rfl) | (simp [*, errW_none, errW_some] <;> rfl), by repeat (first | (with_reducible first | exact HB.out | apply below_alloc | apply pw_below_drewN | apply below_drew1) | exact HB.out)⟩
 ·replace c3 := Bool.eq_false_iff.mpr c3
  subst c3
  have H1 : (some (0, 2)) = some (r1, r2) := by rw [if_neg (show ¬ (false = true) by decide)] at H; exact H
  clear H
  have H := H1
  clear H1
  simp only [Option.some.injEq, Prod.mk.injEq] at H
  obtain ⟨rfl, rfl⟩ := H
  go_enter Tryd.func51, Tryd.ntmps51
  go_wp2_with (first | ((with_reducible refine gate_callee (f := 86) rfl ?_); refine goesL_ (some 8) rfl rfl Tryd.func86 (by kernel_rfl) rfl #[.slice A0 l0.length c0] rfl (Qls) ?_; (with_reducible refine (width_read.calls k (fun k_ => k_ < w.heap.size) _ _ l0 t569 false _ ?side1 A2.out).mono ?_); (case side1 => exact Kd.V_mk HC0.out (Kd.F_below (Kd.C_F (Kd.heap_int .i64) HR0.out) (Qaw))); rintro e w8 ⟨v570, rfl, ho0, hb⟩; refine ⟨_, rfl, ?_⟩; have n0_ := Aside0.mk (Kd.V_lower (Kd.V_mono (ok' := fun k_ => True) ho0 (fun k_ hk_ => trivial)) (below_size (Qaw))); have n1_ := Aside0.mk (below_step (Qaw) hb); clear HB; have HO571 := n0_; have HB := n1_; clear n0_ n1_; (try clear hb); (try clear hb2); (try clear hk); (try clear hi); (try clear ho0)))
  go_ret2
  exact ⟨by first | rfl | (simp [errW_none, errW_some] <;> rfl) | (simp [*, errW_none, errW_some] <;> rfl), by repeat (first | (with_reducible first | exact HB.out | apply below_alloc | apply pw_below_drewN | apply below_drew1) | exact HB.out)⟩
end Go.Proofs.YtjloppfdagfpmaaDoor.X
end
section
namespace Go.Proofs.YtjloppfdagfpmaaDoor.X
open Go.RowKit YtjloppfdagfpmaaDoorW.PrintWords YtjloppfdagfpmaaDoorW.PrintLast YtjloppfdagfpmaaDoorW.PrintMore
attribute [local go_sem] max2_int min2_int max_two min_two max_three min_three max_four min_four
/-! ### lampblacklaw07_MinorWidths: function 12 -/
mutual
def lampblacklaw07_MinorWidths.j0 : Nat → List Int → Int → Bool → Option (Bool)
 | 0, _, _, _ => none
 | k + 1, x0, x3, x45 => if x45 = true then (some false) else ((lampblackref07_K.f k x3).bind fun t621 => ((lampblacklaw07_has.f x0 t621).bind fun bt624 => (if bt624.1 = true then (lampblacklaw07_MinorWidths.j1 k x0 x3 (!bt624.2)) else (lampblacklaw07_MinorWidths.j1 k x0 x3 true))))
def lampblacklaw07_MinorWidths.j1 : Nat → List Int → Int → Bool → Option (Bool)
 | 0, _, _, _ => none
 | k + 1, x0, x3, x58 => if x58 = true then (some false) else (if x3 = 6 then ((lampblacklaw07_awake.f k).bind fun t626 => (some t626)) else ((lampblackref07_K.f k (wrap64 (x3 + 1))).bind fun t627 => ((lampblacklaw07_has.f x0 t627).bind fun bt630 => (if bt630.1 = true then (some false) else (if bt630.2 = true then ((lampblacklaw07_awake.f k).bind fun t632 => (some t632)) else (some false))))))
end
def lampblacklaw07_MinorWidths.f (k : Nat) (l0 : List Int) : Option (Bool) := (lampblacklaw07_Few.f l0).bind fun t610 => ((minor_Greatest.f t610).bind fun bt613 => (if bt613.2 = 0 then ((lampblacklaw07_Few.f l0).bind fun t616 => ((width_Width.f k t616).bind fun bt619 => (if bt619.2 = 0 then (if bt613.1 > (wrap64 (bt619.1 + 1)) then (lampblacklaw07_MinorWidths.j0 k l0 bt613.1 true) else (if bt613.1 < 1 then (lampblacklaw07_MinorWidths.j0 k l0 bt613.1 true) else (lampblacklaw07_MinorWidths.j0 k l0 bt613.1 (decide (bt613.1 > 6))))) else (lampblacklaw07_MinorWidths.j0 k l0 bt613.1 true)))) else (if bt613.2 = 2 then ((lampblacklaw07_awake.f k).bind fun t615 => (some t615)) else (some false))))
set_option maxHeartbeats 8000000 in
set_option maxRecDepth 100000 in
theorem lampblacklaw07_MinorWidths.calls (k : Nat) (A0 : Option Addr) (c0 : Nat) (l0 : List Int) (r : Bool) (w : World) (hGL : GL w) (hr0 : Kd.C (Kd.int .i64) w A0 l0.length l0) (hc0 : l0.length ≤ c0) (h : lampblacklaw07_MinorWidths.f k l0 = some r) :
  Calls Tryd.prog 12 #[.slice A0 l0.length c0] w fun e w' => e = .returned (.bool r) ∧ Below w.heap.size w w' := by
 have HGL := Aside0.mk hGL
 clear hGL
 have HR0 := Aside0.mk hr0
 have HC0 := Aside0.mk hc0
 clear hr0 hc0
 have HB := Aside0.mk (Below.refl w.heap.size w)
 have H : ((lampblacklaw07_Few.f l0).bind fun t610 => ((minor_Greatest.f t610).bind fun bt613 => (if bt613.2 = 0 then ((lampblacklaw07_Few.f l0).bind fun t616 => ((width_Width.f k t616).bind fun bt619 => (if bt619.2 = 0 then (if bt613.1 > (wrap64 (bt619.1 + 1)) then (lampblacklaw07_MinorWidths.j0 k l0 bt613.1 true) else (if bt613.1 < 1 then (lampblacklaw07_MinorWidths.j0 k l0 bt613.1 true) else (lampblacklaw07_MinorWidths.j0 k l0 bt613.1 (decide (bt613.1 > 6))))) else (lampblacklaw07_MinorWidths.j0 k l0 bt613.1 true)))) else (if bt613.2 = 2 then ((lampblacklaw07_awake.f k).bind fun t615 => (some t615)) else (some false))))) = some r := h
 clear h
 replace H := Option.bind_eq_some_iff.mp H
 obtain ⟨t610, A20, H⟩ := H
 replace H : ((minor_Greatest.f t610).bind fun bt613 => (if bt613.2 = 0 then ((lampblacklaw07_Few.f l0).bind fun t616 => ((width_Width.f k t616).bind fun bt619 => (if bt619.2 = 0 then (if bt613.1 > (wrap64 (bt619.1 + 1)) then (lampblacklaw07_MinorWidths.j0 k l0 bt613.1 true) else (if bt613.1 < 1 then (lampblacklaw07_MinorWidths.j0 k l0 bt613.1 true) else (lampblacklaw07_MinorWidths.j0 k l0 bt613.1 (decide (bt613.1 > 6))))) else (lampblacklaw07_MinorWidths.j0 k l0 bt613.1 true)))) else (if bt613.2 = 2 then ((lampblacklaw07_awake.f k).bind fun t615 => (some t615)) else (some false)))) = some r := H
 have A2 := Aside0.mk A20
 clear A20
 replace H := Option.bind_eq_some_iff.mp H
 obtain ⟨⟨t613, t614⟩, A30, H⟩ := H
 replace H : (if t614 = 0 then ((lampblacklaw07_Few.f l0).bind fun t616 => ((width_Width.f k t616).bind fun bt619 => (if bt619.2 = 0 then (if t613 > (wrap64 (bt619.1 + 1)) then (lampblacklaw07_MinorWidths.j0 k l0 t613 true) else (if t613 < 1 then (lampblacklaw07_MinorWidths.j0 k l0 t613 true) else (lampblacklaw07_MinorWidths.j0 k l0 t613 (decide (t613 > 6))))) else (lampblacklaw07_MinorWidths.j0 k l0 t613 true)))) else (if t614 = 2 then ((lampblacklaw07_awake.f k).bind fun t615 => (some t615)) else (some false))) = some r := H
 have A3 := Aside0.mk A30
 clear A30
 by_cases c4 : t614 = 0
 ·rw [if_pos c4] at H
  have c4b0 : (t614 == 0) = true := beq_iff_eq.mpr c4
  have c4b1 : (t614 != 0) = false := bne_eq_false_iff_eq.mpr c4
  clear c4
  replace H := Option.bind_eq_some_iff.mp H
  obtain ⟨t616, A50, H⟩ := H
  replace H : ((width_Width.f k t616).bind fun bt619 => (if bt619.2 = 0 then (if t613 > (wrap64 (bt619.1 + 1)) then (lampblacklaw07_MinorWidths.j0 k l0 t613 true) else (if t613 < 1 then (lampblacklaw07_MinorWidths.j0 k l0 t613 true) else (lampblacklaw07_MinorWidths.j0 k l0 t613 (decide (t613 > 6))))) else (lampblacklaw07_MinorWidths.j0 k l0 t613 true))) = some r := H
  have A5 := Aside0.mk A50
  clear A50
  replace H := Option.bind_eq_some_iff.mp H
  obtain ⟨⟨t619, t620⟩, A60, H⟩ := H
  replace H : (if t620 = 0 then (if t613 > (wrap64 (t619 + 1)) then (lampblacklaw07_MinorWidths.j0 k l0 t613 true) else (if t613 < 1 then (lampblacklaw07_MinorWidths.j0 k l0 t613 true) else (lampblacklaw07_MinorWidths.j0 k l0 t613 (decide (t613 > 6))))) else (lampblacklaw07_MinorWidths.j0 k l0 t613 true)) = some r := H
  have A6 := Aside0.mk A60
  clear A60
  have HC7 := Aside0.mk H
  clear H
  go_enter Tryd.func12, Tryd.ntmps12
  go_upto_region 5 with (first | ((with_reducible refine gate_callee (f := 22) rfl ?_); refine goesL_ (some 13) rfl rfl Tryd.func22 (by kernel_rfl) rfl #[.slice A0 l0.length c0] rfl (Qls) ?_; (with_reducible refine (lampblacklaw07_Few.calls _ _ l0 t610 _ ?side1 ?side2 A2.out).mono ?_); (case side1 => exact Qsc HR0.out); (case side2 => exact HC0.out); rintro e w8 ⟨v611, rfl, ho0, hb⟩; refine ⟨_, rfl, ?_⟩; have n0_ := Aside0.mk (Kd.R_lower ho0 (below_size (Qaw))); have n1_ := Aside0.mk (below_step (Qaw) hb); clear HB; have HO612 := n0_; have HB := n1_; clear n0_ n1_; (try clear hb); (try clear hb2); (try clear hk); (try clear hi); (try clear ho0); obtain ⟨Ao9, co9, eo9⟩ := Kd.R_slice HO612.out; subst eo9) | ((with_reducible refine gate_callee (f := 53) rfl ?_); refine goesL_ (some 14) rfl rfl Tryd.func53 (by kernel_rfl) rfl #[.slice Ao9 t610.length co9] rfl (Qls) ?_; (with_reducible refine (minor_Greatest.calls (hGL := (Qlg)) _ _ t610 t613 t614 _ ?side1 ?side2 A3.out).mono ?_); (case side1 => exact Qsc (Kd.R_reads' HO612.out).2.2); (case side2 => exact (Kd.R_reads' HO612.out).2.1); rintro e w10 ⟨rfl, hb⟩; refine ⟨_, rfl, ?_⟩; have n0_ := Aside0.mk (Kd.R_below (Qro HO612.out) hb); have n1_ := Aside0.mk (below_step (Qaw) hb); clear HO612; clear HB; have HO612 := n0_; have HB := n1_; clear n0_ n1_; (try clear hb); (try clear hb2); (try clear hk); (try clear hi)) | ((with_reducible refine gate_callee (f := 22) rfl ?_); refine goesL_ (some 26) rfl rfl Tryd.func22 (by kernel_rfl) rfl #[.slice A0 l0.length c0] rfl (Qls) ?_; (with_reducible refine (lampblacklaw07_Few.calls _ _ l0 t616 _ ?side1 ?side2 A5.out).mono ?_); (case side1 => exact Qsc (Kd.C_below HR0.out HB.out)); (case side2 => exact HC0.out); rintro e w11 ⟨v617, rfl, ho0, hb⟩; refine ⟨_, rfl, ?_⟩; have n0_ := Aside0.mk (Kd.R_elder' (Qro HO612.out) (Kd.R_base ho0) hb); have n1_ := Aside0.mk (Kd.R_lower (Kd.R_new' ho0 (Kd.R_lt (Qro HO612.out))) (below_size (Qaw))); have n2_ := Aside0.mk (below_step (Qaw) hb); clear HO612; clear HB; have HO612 := n0_; have HO618 := n1_; have HB := n2_; clear n0_ n1_ n2_; (try clear hb); (try clear hb2); (try clear hk); (try clear hi); (try clear ho0); obtain ⟨Ao12, co12, eo12⟩ := Kd.R_slice HO618.out; subst eo12) | ((with_reducible refine gate_callee (f := 51) rfl ?_); refine goesL_ (some 27) rfl rfl Tryd.func51 (by kernel_rfl) rfl #[.slice Ao12 t616.length co12] rfl (Qls) ?_; (with_reducible refine (width_Width.calls (hGL := (Qlg)) k _ _ t616 t619 t620 _ ?side1 ?side2 A6.out).mono ?_); (case side1 => exact Qsc (Kd.R_reads' HO618.out).2.2); (case side2 => exact (Kd.R_reads' HO618.out).2.1); rintro e w13 ⟨rfl, hb⟩; refine ⟨_, rfl, ?_⟩; have n0_ := Aside0.mk (Kd.R_below (Qro HO612.out) hb); have n1_ := Aside0.mk (Kd.R_below (Qro HO618.out) hb); have n2_ := Aside0.mk (below_step (Qaw) hb); clear HO612; clear HO618; clear HB; have HO612 := n0_; have HO618 := n1_; have HB := n2_; clear n0_ n1_ n2_; (try clear hb); (try clear hb2); (try clear hk); (try clear hi)))
  (try simp only [Act.put, List.setIfInBounds_toArray, List.set_cons_zero, List.set_cons_succ])
  go_cut [45] (fun v45 wc => ∃ (kq : Nat) (x45_6 : Bool), v45 = .bool x45_6 ∧ Aside0 (lampblacklaw07_MinorWidths.j0 kq l0 t613 x45_6 = some r) ∧ Aside0 (kq ≤ k) ∧ Aside0 (Below w.heap.size w wc))
  case first =>
   have H := HC7.out
   clear HC7
   by_cases c14 : t620 = 0
   ·rw [if_pos c14] at H
    have c14b0 : (t620 == 0) = true := beq_iff_eq.mpr c14
    have c14b1 : (t620 != 0) = false := bne_eq_false_iff_eq.mpr c14
    clear c14
    (first | rw [c14b0] | (simp only [i64_w, i32_w]; rw [c14b0]) | skip)
    by_cases c15 : t613 > (wrap64 (t619 + 1))
    ·rw [if_pos c15] at H
     have c15b0 : decide ((wrap64 (t619 + 1)) < t613) = true := decide_eq_true c15
     clear c15
     have H' := Aside0.mk H
     clear H
     go_wp2
     go_meet
     case rel => exact ⟨_, (true), (by first | rfl | (simp; done) | (simp [*]; done)), H', ⟨by first | omega | exact Nat.le_refl _⟩, ⟨by repeat (first | (with_reducible first | exact HB.out | apply below_alloc | apply pw_below_drewN | apply below_drew1) | exact HB.out)⟩⟩
    ·rw [if_neg c15] at H
     have c15b0 : decide ((wrap64 (t619 + 1)) < t613) = false := decide_eq_false c15
     clear c15
     by_cases c16 : t613 < 1
     ·rw [if_pos c16] at H
      have c16b0 : decide (t613 < 1) = true := decide_eq_true c16
      clear c16
      have H' := Aside0.mk H
      clear H
      go_wp2
      go_meet
      case rel => exact ⟨_, (true), (by first | rfl | (simp; done) | (simp [*]; done)), H', ⟨by first | omega | exact Nat.le_refl _⟩, ⟨by repeat (first | (with_reducible first | exact HB.out | apply below_alloc | apply pw_below_drewN | apply below_drew1) | exact HB.out)⟩⟩
     ·rw [if_neg c16] at H
      have c16b0 : decide (t613 < 1) = false := decide_eq_false c16
      clear c16
      have H' := Aside0.mk H
      clear H
      go_wp2
      go_meet
      case rel => exact ⟨_, (decide (t613 > 6)), (by first | rfl | (simp; done) | (simp [*]; done)), H', ⟨by first | omega | exact Nat.le_refl _⟩, ⟨by repeat (first | (with_reducible first | exact HB.out | apply below_alloc | apply pw_below_drewN | apply below_drew1) | exact HB.out)⟩⟩
   ·rw [if_neg c14] at H
    have c14b0 : (t620 == 0) = false := beq_eq_false_iff_ne.mpr c14
    have c14b1 : (t620 != 0) = true := bne_iff_ne.mpr c14
    (first | rw [c14b0] | (simp only [i64_w, i32_w]; rw [c14b0]) | skip)
    have H' := Aside0.mk H
    clear H
    go_wp2
    go_meet
    case rel => exact ⟨_, (true), (by first | rfl | (simp; done) | (simp [*]; done)), H', ⟨by first | omega | exact Nat.le_refl _⟩, ⟨by repeat (first | (with_reducible first | exact HB.out | apply below_alloc | apply pw_below_drewN | apply below_drew1) | exact HB.out)⟩⟩
  case rest =>
   clear HC7
   try clear c1
   try clear c2
   try clear p2
   try clear c4
   try clear c4b0
   try clear c4b1
   try clear c5
   try clear p6
   try clear c12
   try clear c14
   try clear c14b0
   try clear c14b1
   try clear c15
   try clear c15b0
   try clear c16
   try clear c16b0
   obtain ⟨kq, x45_6, rfl, HA, HJ6, HB⟩ := hcut
   cases kq with
   | zero => exact absurd HA.out (by simp [lampblacklaw07_MinorWidths.j0])
   | succ kj6 =>
    have H := HA.out
    clear HA
    simp only [lampblacklaw07_MinorWidths.j0] at H
    by_cases c17 : x45_6 = true
    ·subst c17
     have H1 : (some false) = some r := by rw [if_pos rfl] at H; exact H
     clear H
     have H := H1
     clear H1
     obtain rfl := Option.some.inj H
     go_wp2
     go_ret
     exact ⟨by first | rfl | (simp [errW_none, errW_some] <;> rfl) | (simp [*, errW_none, errW_some] <;> rfl), by repeat (first | (with_reducible first | exact HB.out | apply below_alloc | apply pw_below_drewN | apply below_drew1) | exact HB.out)⟩
    ·replace c17 := Bool.eq_false_iff.mpr c17
     subst c17
     have H1 : ((lampblackref07_K.f kj6 t613).bind fun t621 => ((lampblacklaw07_has.f l0 t621).bind fun bt624 => (if bt624.1 = true then (lampblacklaw07_MinorWidths.j1 kj6 l0 t613 (!bt624.2)) else (lampblacklaw07_MinorWidths.j1 kj6 l0 t613 true)))) = some r := by rw [if_neg (show ¬ (false = true) by decide)] at H; exact H
     clear H
     have H := H1
     clear H1
     replace H := Option.bind_eq_some_iff.mp H
     obtain ⟨t621, A180, H⟩ := H
     replace H : ((lampblacklaw07_has.f l0 t621).bind fun bt624 => (if bt624.1 = true then (lampblacklaw07_MinorWidths.j1 kj6 l0 t613 (!bt624.2)) else (lampblacklaw07_MinorWidths.j1 kj6 l0 t613 true))) = some r := H
     have A18 := Aside0.mk A180
     clear A180
     replace H := Option.bind_eq_some_iff.mp H
     obtain ⟨⟨t624, t625⟩, A190, H⟩ := H
     replace H : (if t624 = true then (lampblacklaw07_MinorWidths.j1 kj6 l0 t613 (!t625)) else (lampblacklaw07_MinorWidths.j1 kj6 l0 t613 true)) = some r := H
     have A19 := Aside0.mk A190
     clear A190
     have HC20 := Aside0.mk H
     clear H
     go_upto_region 8 with (first | ((with_reducible refine gate_callee (f := 33) rfl ?_); refine goesL_ (some 49) rfl rfl Tryd.func33 (by kernel_rfl) rfl #[.int .i64 t613] rfl (Qls) ?_; (with_reducible refine (lampblackref07_K.calls kj6 t613 t621 _ A18.out).mono ?_); rintro e w21 ⟨v622, rfl, ho0, hb⟩; refine ⟨_, rfl, ?_⟩; have n0_ := Aside0.mk (Kd.R_lower ho0 (below_size (Qaw))); have n1_ := Aside0.mk (below_step (Qaw) hb); clear HB; have HO623 := n0_; have HB := n1_; clear n0_ n1_; (try clear hb); (try clear hb2); (try clear hk); (try clear hi); (try clear ho0); obtain ⟨Ao22, co22, eo22⟩ := Kd.R_slice HO623.out; subst eo22) | ((with_reducible refine gate_callee (f := 20) rfl ?_); refine goesL_ (some 50) rfl rfl Tryd.func20 (by kernel_rfl) rfl #[.slice A0 l0.length c0, .slice Ao22 t621.length co22] rfl (Qls) ?_; (with_reducible refine (lampblacklaw07_has.calls (hGL := (Qlg)) _ _ l0 _ _ t621 t624 t625 _ ?side1 ?side2 ?side3 ?side4 A19.out).mono ?_); (case side1 => exact Qsc (Kd.C_below HR0.out HB.out)); (case side2 => exact HC0.out); (case side3 => exact Qsc (Kd.R_reads' HO623.out).2.2); (case side4 => exact (Kd.R_reads' HO623.out).2.1); rintro e w23 ⟨rfl, hb⟩; refine ⟨_, rfl, ?_⟩; have n0_ := Aside0.mk (Kd.R_below (Qro HO623.out) hb); have n1_ := Aside0.mk (below_step (Qaw) hb); clear HO623; clear HB; have HO623 := n0_; have HB := n1_; clear n0_ n1_; (try clear hb); (try clear hb2); (try clear hk); (try clear hi)))
     (try simp only [Act.put, List.setIfInBounds_toArray, List.set_cons_zero, List.set_cons_succ])
     go_cut [58] (fun v58 wc => ∃ (kq : Nat) (x58_19 : Bool), v58 = .bool x58_19 ∧ Aside0 (lampblacklaw07_MinorWidths.j1 kq l0 t613 x58_19 = some r) ∧ Aside0 (kq ≤ kj6) ∧ Aside0 (Below w.heap.size w wc))
     case first =>
      have H := HC20.out
      clear HC20
      by_cases c24 : t624 = true
      ·subst c24
       have H1 : (lampblacklaw07_MinorWidths.j1 kj6 l0 t613 (!t625)) = some r := by rw [if_pos rfl] at H; exact H
       clear H
       have H := H1
       clear H1
       have H' := Aside0.mk H
       clear H
       go_wp2
       go_meet
       case rel => exact ⟨_, (!t625), (by first | rfl | (simp; done) | (simp [*]; done)), H', ⟨by have := HJ6.out; first | omega | exact Nat.le_refl _⟩, ⟨by repeat (first | (with_reducible first | exact HB.out | apply below_alloc | apply pw_below_drewN | apply below_drew1) | exact HB.out)⟩⟩
      ·replace c24 := Bool.eq_false_iff.mpr c24
       subst c24
       have H1 : (lampblacklaw07_MinorWidths.j1 kj6 l0 t613 true) = some r := by rw [if_neg (show ¬ (false = true) by decide)] at H; exact H
       clear H
       have H := H1
       clear H1
       have H' := Aside0.mk H
       clear H
       go_wp2
       go_meet
       case rel => exact ⟨_, (true), (by first | rfl | (simp; done) | (simp [*]; done)), H', ⟨by have := HJ6.out; first | omega | exact Nat.le_refl _⟩, ⟨by repeat (first | (with_reducible first | exact HB.out | apply below_alloc | apply pw_below_drewN | apply below_drew1) | exact HB.out)⟩⟩
     case rest =>
      clear HC20
      try clear c1
      try clear c2
      try clear p2
      try clear c3
      try clear c4
      try clear c4b0
      try clear c4b1
      try clear c5
      try clear p6
      try clear c12
      try clear c14
      try clear c14b0
      try clear c14b1
      try clear c15
      try clear c15b0
      try clear c16
      try clear c16b0
      try clear c17
      try clear c20
      try clear c22
      try clear c24
      try clear p2
      try clear p6
      obtain ⟨kq, x58_19, rfl, HA, HJ19, HB⟩ := hcut
      cases kq with
      | zero => exact absurd HA.out (by simp [lampblacklaw07_MinorWidths.j1])
      | succ kj19 =>
       have H := HA.out
       clear HA
       simp only [lampblacklaw07_MinorWidths.j1] at H
       by_cases c25 : x58_19 = true
       ·subst c25
        have H1 : (some false) = some r := by rw [if_pos rfl] at H; exact H
        clear H
        have H := H1
        clear H1
        obtain rfl := Option.some.inj H
        go_wp2
        go_ret
        exact ⟨by first | rfl | (simp [errW_none, errW_some] <;> rfl) | (simp [*, errW_none, errW_some] <;> rfl), by repeat (first | (with_reducible first | exact HB.out | apply below_alloc | apply pw_below_drewN | apply below_drew1) | exact HB.out)⟩
       ·replace c25 := Bool.eq_false_iff.mpr c25
        subst c25
        have H1 : (if t613 = 6 then ((lampblacklaw07_awake.f kj19).bind fun t626 => (some t626)) else ((lampblackref07_K.f kj19 (wrap64 (t613 + 1))).bind fun t627 => ((lampblacklaw07_has.f l0 t627).bind fun bt630 => (if bt630.1 = true then (some false) else (if bt630.2 = true then ((lampblacklaw07_awake.f kj19).bind fun t632 => (some t632)) else (some false)))))) = some r := by rw [if_neg (show ¬ (false = true) by decide)] at H; exact H
        clear H
        have H := H1
        clear H1
        by_cases c26 : t613 = 6
        ·rw [if_pos c26] at H
         have c26b0 : (t613 == 6) = true := beq_iff_eq.mpr c26
         have c26b1 : (t613 != 6) = false := bne_eq_false_iff_eq.mpr c26
         clear c26
         replace H := Option.bind_eq_some_iff.mp H
         obtain ⟨t626, A270, H⟩ := H
         replace H : (some t626) = some r := H
         have A27 := Aside0.mk A270
         clear A270
         obtain rfl := Option.some.inj H
         go_wp2_with (first | ((with_reducible refine gate_callee (f := 17) rfl ?_); refine goesL_ (some 61) rfl rfl Tryd.func17 (by kernel_rfl) rfl #[] rfl (Qls) ?_; (with_reducible refine (lampblacklaw07_awake.calls (hGL := (Qlg)) kj19  t626 _ A27.out).mono ?_); rintro e w28 ⟨rfl, hb⟩; refine ⟨_, rfl, ?_⟩; have n0_ := Aside0.mk (below_step (Qaw) hb); clear HB; have HB := n0_; clear n0_; (try clear hb); (try clear hb2); (try clear hk); (try clear hi)))
         go_ret
         exact ⟨by first | rfl | (simp [errW_none, errW_some] <;> rfl) | (simp [*, errW_none, errW_some] <;> rfl), by repeat (first | (with_reducible first | exact HB.out | apply below_alloc | apply pw_below_drewN | apply below_drew1) | exact HB.out)⟩
        ·rw [if_neg c26] at H
         have c26b0 : (t613 == 6) = false := beq_eq_false_iff_ne.mpr c26
         have c26b1 : (t613 != 6) = true := bne_iff_ne.mpr c26
         replace H := Option.bind_eq_some_iff.mp H
         obtain ⟨t627, A290, H⟩ := H
         replace H : ((lampblacklaw07_has.f l0 t627).bind fun bt630 => (if bt630.1 = true then (some false) else (if bt630.2 = true then ((lampblacklaw07_awake.f kj19).bind fun t632 => (some t632)) else (some false)))) = some r := H
         have A29 := Aside0.mk A290
         clear A290
         replace H := Option.bind_eq_some_iff.mp H
         obtain ⟨⟨t630, t631⟩, A300, H⟩ := H
         replace H : (if t630 = true then (some false) else (if t631 = true then ((lampblacklaw07_awake.f kj19).bind fun t632 => (some t632)) else (some false))) = some r := H
         have A30 := Aside0.mk A300
         clear A300
         by_cases c31 : t630 = true
         ·subst c31
          have H1 : (some false) = some r := by rw [if_pos rfl] at H; exact H
          clear H
          have H := H1
          clear H1
          obtain rfl := Option.some.inj H
          go_wp2_with (first | ((with_reducible refine gate_callee (f := 33) rfl ?_); refine goesL_ (some 66) rfl rfl Tryd.func33 (by kernel_rfl) rfl #[.int .i64 (wrap64 (t613 + 1))] rfl (Qls) ?_; (with_reducible refine (lampblackref07_K.calls kj19 (wrap64 (t613 + 1)) t627 _ A29.out).mono ?_); rintro e w32 ⟨v628, rfl, ho0, hb⟩; refine ⟨_, rfl, ?_⟩; have n0_ := Aside0.mk (Kd.R_lower ho0 (below_size (Qaw))); have n1_ := Aside0.mk (below_step (Qaw) hb); clear HB; have HO629 := n0_; have HB := n1_; clear n0_ n1_; (try clear hb); (try clear hb2); (try clear hk); (try clear hi); (try clear ho0); obtain ⟨Ao33, co33, eo33⟩ := Kd.R_slice HO629.out; subst eo33) | ((with_reducible refine gate_callee (f := 20) rfl ?_); refine goesL_ (some 67) rfl rfl Tryd.func20 (by kernel_rfl) rfl #[.slice A0 l0.length c0, .slice Ao33 t627.length co33] rfl (Qls) ?_; (with_reducible refine (lampblacklaw07_has.calls (hGL := (Qlg)) _ _ l0 _ _ t627 true t631 _ ?side1 ?side2 ?side3 ?side4 A30.out).mono ?_); (case side1 => exact Qsc (Kd.C_below HR0.out HB.out)); (case side2 => exact HC0.out); (case side3 => exact Qsc (Kd.R_reads' HO629.out).2.2); (case side4 => exact (Kd.R_reads' HO629.out).2.1); rintro e w34 ⟨rfl, hb⟩; refine ⟨_, rfl, ?_⟩; have n0_ := Aside0.mk (Kd.R_below (Qro HO629.out) hb); have n1_ := Aside0.mk (below_step (Qaw) hb); clear HO629; clear HB; have HO629 := n0_; have HB := n1_; clear n0_ n1_; (try clear hb); (try clear hb2); (try clear hk); (try clear hi)))
          go_ret
          exact ⟨by first | rfl | (simp [errW_none, errW_some] <;> rfl) | (simp [*, errW_none, errW_some] <;> rfl), by repeat (first | (with_reducible first | exact HB.out | apply below_alloc | apply pw_below_drewN | apply below_drew1) | exact HB.out)⟩
         ·replace c31 := Bool.eq_false_iff.mpr c31
          subst c31
          have H1 : (if t631 = true then ((lampblacklaw07_awake.f kj19).bind fun t632 => (some t632)) else (some false)) = some r := by rw [if_neg (show ¬ (false = true) by decide)] at H; exact H
          clear H
          have H := H1
          clear H1
          by_cases c35 : t631 = true
          ·subst c35
           have H1 : ((lampblacklaw07_awake.f kj19).bind fun t632 => (some t632)) = some r := by rw [if_pos rfl] at H; exact H
           clear H
           have H := H1
           clear H1
           replace H := Option.bind_eq_some_iff.mp H
           obtain ⟨t632, A360, H⟩ := H
           replace H : (some t632) = some r := H
           have A36 := Aside0.mk A360
           clear A360
           obtain rfl := Option.some.inj H
           go_wp2_with (first | ((with_reducible refine gate_callee (f := 33) rfl ?_); refine goesL_ (some 66) rfl rfl Tryd.func33 (by kernel_rfl) rfl #[.int .i64 (wrap64 (t613 + 1))] rfl (Qls) ?_; (with_reducible refine (lampblackref07_K.calls kj19 (wrap64 (t613 + 1)) t627 _ A29.out).mono ?_); rintro e w37 ⟨v628, rfl, ho0, hb⟩; refine ⟨_, rfl, ?_⟩; have n0_ := Aside0.mk (Kd.R_lower ho0 (below_size (Qaw))); have n1_ := Aside0.mk (below_step (Qaw) hb); clear HB; have HO629 := n0_; have HB := n1_; clear n0_ n1_; (try clear hb); (try clear hb2); (try clear hk); (try clear hi); (try clear ho0); obtain ⟨Ao38, co38, eo38⟩ := Kd.R_slice HO629.out; subst eo38) | ((with_reducible refine gate_callee (f := 20) rfl ?_); refine goesL_ (some 67) rfl rfl Tryd.func20 (by kernel_rfl) rfl #[.slice A0 l0.length c0, .slice Ao38 t627.length co38] rfl (Qls) ?_; (with_reducible refine (lampblacklaw07_has.calls (hGL := (Qlg)) _ _ l0 _ _ t627 false true _ ?side1 ?side2 ?side3 ?side4 A30.out).mono ?_); (case side1 => exact Qsc (Kd.C_below HR0.out HB.out)); (case side2 => exact HC0.out); (case side3 => exact Qsc (Kd.R_reads' HO629.out).2.2); (case side4 => exact (Kd.R_reads' HO629.out).2.1); rintro e w39 ⟨rfl, hb⟩; refine ⟨_, rfl, ?_⟩; have n0_ := Aside0.mk (Kd.R_below (Qro HO629.out) hb); have n1_ := Aside0.mk (below_step (Qaw) hb); clear HO629; clear HB; have HO629 := n0_; have HB := n1_; clear n0_ n1_; (try clear hb); (try clear hb2); (try clear hk); (try clear hi)) | (go_at_call 17; (with_reducible refine (lampblacklaw07_awake.calls (hGL := (Qlg)) kj19  t632 _ A36.out).mono ?_); rintro e w40 ⟨rfl, hb⟩; have n0_ := Aside0.mk (Kd.R_below (Qro HO629.out) hb); have n1_ := Aside0.mk (below_step (Qaw) hb); clear HO629; clear HB; have HO629 := n0_; have HB := n1_; clear n0_ n1_; (try clear hb); (try clear hb2); (try clear hk); (try clear hi)))
           go_ret
           exact ⟨by first | rfl | (simp [errW_none, errW_some] <;> rfl) | (simp [*, errW_none, errW_some] <;> rfl), by repeat (first | (with_reducible first | exact HB.out | apply below_alloc | apply pw_below_drewN | apply below_drew1) | exact HB.out)⟩
          ·replace c35 := Bool.eq_false_iff.mpr c35
           subst c35
           have H1 : (some false) = some r := by rw [if_neg (show ¬ (false = true) by decide)] at H; exact H
           clear H
           have H := H1
           clear H1
           obtain rfl := Option.some.inj H
           go_wp2_with (first | ((with_reducible refine gate_callee (f := 33) rfl ?_); refine goesL_ (some 66) rfl rfl Tryd.func33 (by kernel_rfl) rfl #[.int .i64 (wrap64 (t613 + 1))] rfl (Qls) ?_; (with_reducible refine (lampblackref07_K.calls kj19 (wrap64 (t613 + 1)) t627 _ A29.out).mono ?_); rintro e w41 ⟨v628, rfl, ho0, hb⟩; refine ⟨_, rfl, ?_⟩; have n0_ := Aside0.mk (Kd.R_lower ho0 (below_size (Qaw))); have n1_ := Aside0.mk (below_step (Qaw) hb); clear HB; have HO629 := n0_; have HB := n1_; clear n0_ n1_; (try clear hb); (try clear hb2); (try clear hk); (try clear hi); (try clear ho0); obtain ⟨Ao42, co42, eo42⟩ := Kd.R_slice HO629.out; subst eo42) | ((with_reducible refine gate_callee (f := 20) rfl ?_); refine goesL_ (some 67) rfl rfl Tryd.func20 (by kernel_rfl) rfl #[.slice A0 l0.length c0, .slice Ao42 t627.length co42] rfl (Qls) ?_; (with_reducible refine (lampblacklaw07_has.calls (hGL := (Qlg)) _ _ l0 _ _ t627 false false _ ?side1 ?side2 ?side3 ?side4 A30.out).mono ?_); (case side1 => exact Qsc (Kd.C_below HR0.out HB.out)); (case side2 => exact HC0.out); (case side3 => exact Qsc (Kd.R_reads' HO629.out).2.2); (case side4 => exact (Kd.R_reads' HO629.out).2.1); rintro e w43 ⟨rfl, hb⟩; refine ⟨_, rfl, ?_⟩; have n0_ := Aside0.mk (Kd.R_below (Qro HO629.out) hb); have n1_ := Aside0.mk (below_step (Qaw) hb); clear HO629; clear HB; have HO629 := n0_; have HB := n1_; clear n0_ n1_; (try clear hb); (try clear hb2); (try clear hk); (try clear hi)))
           go_ret
           exact ⟨by first | rfl | (simp [errW_none, errW_some] <;> rfl) | (simp [*, errW_none, errW_some] <;> rfl), by repeat (first | (with_reducible first | exact HB.out | apply below_alloc | apply pw_below_drewN | apply below_drew1) | exact HB.out)⟩
 ·rw [if_neg c4] at H
  have c4b0 : (t614 == 0) = false := beq_eq_false_iff_ne.mpr c4
  have c4b1 : (t614 != 0) = true := bne_iff_ne.mpr c4
  by_cases c44 : t614 = 2
  ·rw [if_pos c44] at H
   have c44b0 : (t614 == 2) = true := beq_iff_eq.mpr c44
   have c44b1 : (t614 != 2) = false := bne_eq_false_iff_eq.mpr c44
   clear c44
   replace H := Option.bind_eq_some_iff.mp H
   obtain ⟨t615, A450, H⟩ := H
   replace H : (some t615) = some r := H
   have A45 := Aside0.mk A450
   clear A450
   obtain rfl := Option.some.inj H
   go_enter Tryd.func12, Tryd.ntmps12
   go_wp2_with (first | ((with_reducible refine gate_callee (f := 22) rfl ?_); refine goesL_ (some 13) rfl rfl Tryd.func22 (by kernel_rfl) rfl #[.slice A0 l0.length c0] rfl (Qls) ?_; (with_reducible refine (lampblacklaw07_Few.calls _ _ l0 t610 _ ?side1 ?side2 A2.out).mono ?_); (case side1 => exact Qsc HR0.out); (case side2 => exact HC0.out); rintro e w46 ⟨v611, rfl, ho0, hb⟩; refine ⟨_, rfl, ?_⟩; have n0_ := Aside0.mk (Kd.R_lower ho0 (below_size (Qaw))); have n1_ := Aside0.mk (below_step (Qaw) hb); clear HB; have HO612 := n0_; have HB := n1_; clear n0_ n1_; (try clear hb); (try clear hb2); (try clear hk); (try clear hi); (try clear ho0); obtain ⟨Ao47, co47, eo47⟩ := Kd.R_slice HO612.out; subst eo47) | ((with_reducible refine gate_callee (f := 53) rfl ?_); refine goesL_ (some 14) rfl rfl Tryd.func53 (by kernel_rfl) rfl #[.slice Ao47 t610.length co47] rfl (Qls) ?_; (with_reducible refine (minor_Greatest.calls (hGL := (Qlg)) _ _ t610 t613 t614 _ ?side1 ?side2 A3.out).mono ?_); (case side1 => exact Qsc (Kd.R_reads' HO612.out).2.2); (case side2 => exact (Kd.R_reads' HO612.out).2.1); rintro e w48 ⟨rfl, hb⟩; refine ⟨_, rfl, ?_⟩; have n0_ := Aside0.mk (Kd.R_below (Qro HO612.out) hb); have n1_ := Aside0.mk (below_step (Qaw) hb); clear HO612; clear HB; have HO612 := n0_; have HB := n1_; clear n0_ n1_; (try clear hb); (try clear hb2); (try clear hk); (try clear hi)) | (go_at_call 17; (with_reducible refine (lampblacklaw07_awake.calls (hGL := (Qlg)) k  t615 _ A45.out).mono ?_); rintro e w49 ⟨rfl, hb⟩; have n0_ := Aside0.mk (Kd.R_below (Qro HO612.out) hb); have n1_ := Aside0.mk (below_step (Qaw) hb); clear HO612; clear HB; have HO612 := n0_; have HB := n1_; clear n0_ n1_; (try clear hb); (try clear hb2); (try clear hk); (try clear hi)))
   go_ret
   exact ⟨by first | rfl | (simp [errW_none, errW_some] <;> rfl) | (simp [*, errW_none, errW_some] <;> rfl), by repeat (first | (with_reducible first | exact HB.out | apply below_alloc | apply pw_below_drewN | apply below_drew1) | exact HB.out)⟩
  ·rw [if_neg c44] at H
   have c44b0 : (t614 == 2) = false := beq_eq_false_iff_ne.mpr c44
   have c44b1 : (t614 != 2) = true := bne_iff_ne.mpr c44
   obtain rfl := Option.some.inj H
   go_enter Tryd.func12, Tryd.ntmps12
   go_wp2_with (first | ((with_reducible refine gate_callee (f := 22) rfl ?_); refine goesL_ (some 13) rfl rfl Tryd.func22 (by kernel_rfl) rfl #[.slice A0 l0.length c0] rfl (Qls) ?_; (with_reducible refine (lampblacklaw07_Few.calls _ _ l0 t610 _ ?side1 ?side2 A2.out).mono ?_); (case side1 => exact Qsc HR0.out); (case side2 => exact HC0.out); rintro e w50 ⟨v611, rfl, ho0, hb⟩; refine ⟨_, rfl, ?_⟩; have n0_ := Aside0.mk (Kd.R_lower ho0 (below_size (Qaw))); have n1_ := Aside0.mk (below_step (Qaw) hb); clear HB; have HO612 := n0_; have HB := n1_; clear n0_ n1_; (try clear hb); (try clear hb2); (try clear hk); (try clear hi); (try clear ho0); obtain ⟨Ao51, co51, eo51⟩ := Kd.R_slice HO612.out; subst eo51) | ((with_reducible refine gate_callee (f := 53) rfl ?_); refine goesL_ (some 14) rfl rfl Tryd.func53 (by kernel_rfl) rfl #[.slice Ao51 t610.length co51] rfl (Qls) ?_; (with_reducible refine (minor_Greatest.calls (hGL := (Qlg)) _ _ t610 t613 t614 _ ?side1 ?side2 A3.out).mono ?_); (case side1 => exact Qsc (Kd.R_reads' HO612.out).2.2); (case side2 => exact (Kd.R_reads' HO612.out).2.1); rintro e w52 ⟨rfl, hb⟩; refine ⟨_, rfl, ?_⟩; have n0_ := Aside0.mk (Kd.R_below (Qro HO612.out) hb); have n1_ := Aside0.mk (below_step (Qaw) hb); clear HO612; clear HB; have HO612 := n0_; have HB := n1_; clear n0_ n1_; (try clear hb); (try clear hb2); (try clear hk); (try clear hi)))
   go_ret
   exact ⟨by first | rfl | (simp [errW_none, errW_some] <;> rfl) | (simp [*, errW_none, errW_some] <;> rfl), by repeat (first | (with_reducible first | exact HB.out | apply below_alloc | apply pw_below_drewN | apply below_drew1) | exact HB.out)⟩
end Go.Proofs.YtjloppfdagfpmaaDoor.X
end
section
/- What read tells: a graph that is valid, or nothing. -/
namespace Go.Proofs.YtjloppfdagfpmaaDoor.X
open Go.RowKit YtjloppfdagfpmaaDoorW.PrintWords YtjloppfdagfpmaaDoorW.PrintLast YtjloppfdagfpmaaDoorW.PrintMore YtjloppfdagfpmaaDoor.T
theorem read_l1V (g : List Int) (hn : g.length ≤ 9) (i : Nat) (hi : i < g.length) (r : List Int × Bool)
  (hrest : Ev (fun k => width_read.l0 k g (g.length : Int) g (g.length : Int) ((i + 1 : Nat) : Int)) r) :
  ∀ d j, j + d = g.length → Ev (fun k => width_read.l1 k g (g.length : Int) (i : Int) (rd g (i : Int)) g (g.length : Int) (i : Int) (g.length : Int) (j : Int))
   (cond (allFrom (fun j => decide (ibit (rd g (i : Int)) j = ibit (rd g (j : Int)) i)) g.length d j) r (([] : List Int), false)) := by
 intro d
 induction d with
 | zero =>
  intro j hj
  refine Ev.step (fun k => ?_) hrest
  rw [width_read.l1, if_neg (by omega), wrap_succ i (by omega)]
 | succ d ih =>
  intro j hj
  simp only [allFrom]
  by_cases hb : ibit (rd g (i : Int)) j = ibit (rd g (j : Int)) i
  ·refine Ev.step (f := fun k => width_read.l1 k g (g.length : Int) (i : Int) (rd g (i : Int)) g (g.length : Int) (i : Int) (g.length : Int) ((j + 1 : Nat) : Int)) (fun k => ?_) ?_
   ·rw [width_read.l1, if_pos (by omega), if_pos (by omega), if_pos (by omega), if_pos (by omega), wrap_succ j (by omega)]
    exact if_pos hb
   ·have := ih (j + 1) (by omega)
    simpa [hb] using this
  ·refine Ev.step (f := fun _ => some (([] : List Int), false)) (fun k => ?_) (Ev.some (by simp [hb]))
   rw [width_read.l1, if_pos (by omega), if_pos (by omega), if_pos (by omega), if_pos (by omega)]
   exact if_neg hb
theorem read_l0V (g : List Int) (hn : g.length ≤ 9) :
  ∀ d i, i + d = g.length → Ev (fun k => width_read.l0 k g (g.length : Int) g (g.length : Int) (i : Int)) (cond (allFrom (rowOk g) g.length d i) (g, true) (([] : List Int), false)) := by
 intro d
 induction d with
 | zero =>
  intro i hi
  refine Ev.step (f := fun _ => some (g, true)) (fun k => ?_) (Ev.some (by simp [allFrom]))
  rw [width_read.l0, if_neg (by omega)]
 | succ d ih =>
  intro i hi
  have stop : ∀ k, width_read.j2 (k + 1) g (g.length : Int) (i : Int) (rd g (i : Int)) g (g.length : Int) (i : Int) true = some (([] : List Int), false) := fun k => by
   rw [width_read.j2, if_pos rfl]
  simp only [allFrom, rowOk]
  by_cases h1 : rd g (i : Int) < 0
  ·refine Ev.step (fun k => ?_) (f := fun k => width_read.j2 k g (g.length : Int) (i : Int) (rd g (i : Int)) g (g.length : Int) (i : Int) true) ?_
   ·rw [width_read.l0, if_pos (by omega), if_pos (by omega), if_pos (by omega), if_pos h1]
   ·exact Ev.step stop (Ev.some (by simp [h1]))
  ·by_cases h2 : rd g (i : Int) ≥ shl .i64 1 (g.length : Int)
   ·refine Ev.step (fun k => ?_) (f := fun k => width_read.j2 k g (g.length : Int) (i : Int) (rd g (i : Int)) g (g.length : Int) (i : Int) true) ?_
    ·rw [width_read.l0, if_pos (by omega), if_pos (by omega), if_pos (by omega), if_neg h1, if_pos (by omega), if_pos h2]
    ·exact Ev.step stop (Ev.some (by simp [h2]))
   ·refine Ev.step (fun k => ?_) (f := fun k => width_read.j2 k g (g.length : Int) (i : Int) (rd g (i : Int)) g (g.length : Int) (i : Int) (ibit (rd g (i : Int)) i == 1)) ?_
    ·rw [width_read.l0, if_pos (by omega), if_pos (by omega), if_pos (by omega), if_neg h1, if_pos (by omega), if_neg h2]
     rfl
    ·by_cases h3 : (ibit (rd g (i : Int)) i == 1) = true
     ·simp only [h3]
      exact Ev.step stop (Ev.some (by simp))
     ·refine Ev.step (fun k => by rw [width_read.j2, if_neg h3]) ?_
      have := read_l1V g hn i (by omega) _ (ih (i + 1) (by omega)) g.length 0 (by omega)
      have h3' : (ibit (rd g (i : Int)) i == 1) = false := by simpa using h3
      simp only [h1, h2, h3', decide_false, Bool.not_false, Bool.true_and]
      cases h4 : allFrom (fun j => decide (ibit (rd g (i : Int)) j = ibit (rd g (j : Int)) i)) g.length g.length 0
      ·simpa [h4] using this
      ·simpa [h4] using this
theorem read_evV (g : List Int) (hg : g.length < 2 ^ 60) : Ev (fun k => width_read.f k g) (cond (chk 9 g) (g, true) (([] : List Int), false)) := by
 have stop : ∀ k, width_read.j0 (k + 1) g (g.length : Int) true = some (([] : List Int), false) := fun k => by
  rw [width_read.j0, if_pos rfl]
 by_cases h1 : g.length < 1
 ·refine Ev.congr (f := fun k => width_read.j0 k g (g.length : Int) true) (fun k => ?_) (Ev.step stop (Ev.some ?_))
  ·rw [width_read.f, if_pos (by omega)]
  ·have : ¬ 1 ≤ g.length := by omega
   simp [chk, this]
 ·refine Ev.congr (f := fun k => width_read.j0 k g (g.length : Int) (decide ((g.length : Int) > 9))) (fun k => ?_) ?_
  ·rw [width_read.f, if_neg (by omega)]
  ·by_cases h2 : g.length ≤ 9
   ·have e : decide ((g.length : Int) > 9) = false := decide_eq_false (by omega)
    rw [e]
    refine Ev.step (fun k => by rw [width_read.j0, if_neg (by simp)]) ?_
    have := read_l0V g h2 g.length 0 (by omega)
    have h3 : decide (1 ≤ g.length) = true := decide_eq_true (by omega)
    simpa [chk, h2, h3] using this
   ·have e : decide ((g.length : Int) > 9) = true := decide_eq_true (by omega)
    rw [e]
    refine Ev.step stop (Ev.some ?_)
    simp [chk, h2]
end Go.Proofs.YtjloppfdagfpmaaDoor.X
end
section
/- nodes, count, around, part, degree: what they compute, in plain words. -/
namespace Go.Proofs.YtjloppfdagfpmaaDoor.X
open Go.RowKit YtjloppfdagfpmaaDoorW.PrintWords YtjloppfdagfpmaaDoorW.PrintLast YtjloppfdagfpmaaDoorW.PrintMore YtjloppfdagfpmaaDoor.T
theorem nodes_allV : ∀ x : Fin 512, width_nodes.f 12 (x.val : Int) = some (gi (els x.val 9)) := by decide +kernel
theorem nodes_evV (x : Nat) (hx : x < 512) : Ev (fun k => width_nodes.f k (x : Int)) (gi (els x 9)) :=
 Ev.of (width_nodes.mono _) (nodes_allV ⟨x, hx⟩)
theorem count_allV : ∀ x : Fin 512, width_count.f (x.val : Int) = some (pc x.val 9 : Int) := by decide +kernel
theorem count_eqV (x : Nat) (hx : x < 512) : width_count.f (x : Int) = some (pc x 9 : Int) := count_allV ⟨x, hx⟩
theorem smallV (G : List Nat) (h : G.length ≤ 9) {x : Nat} (hx : x < 2 ^ G.length) : x < 512 := Nat.lt_of_lt_of_le hx (show 2 ^ G.length ≤ 2 ^ 9 from Nat.pow_le_pow_right (by omega) h)
theorem bigV {x : Nat} (h : x < 512) : x < 2 ^ 62 := by omega
theorem around_l0V (G : List Nat) (hG : Gr 9 G) (L : List Nat) (hL : ∀ x ∈ L, x < G.length) (hLl : L.length ≤ 100) : ∀ d i (o : Nat), i + d = L.length → o < 2 ^ G.length →
  ∃ r : Nat, Ev (fun k => width_town_around.l0 k (gi G) (o : Int) (gi L) (L.length : Int) (i : Int)) (r : Int) ∧ r < 2 ^ G.length ∧ ∀ j, bset r j ↔ bset o j ∨ ∃ x, x ∈ L.drop i ∧ Adj G x j := by
 intro d
 induction d with
 | zero =>
  intro i o hi ho
  refine ⟨o, Ev.step (f := fun _ => some (o : Int)) (fun k => ?_) (Ev.some rfl), ho, fun j => ?_⟩
  ·rw [width_town_around.l0, if_neg (by omega)]
  ·rw [List.drop_eq_nil_of_le (by omega)]; simp
 | succ d ih =>
  intro i o hi ho
  have hi' : i < L.length := by omega
  have hm := hL _ (List.getElem_mem hi')
  have hr : rd (gi L) (i : Int) = ((L[i] : Nat) : Int) := by rw [rd_gi, List.getD_eq_getElem?_getD, List.getElem?_eq_getElem hi']; rfl
  have hrow := hG.row L[i]
  have ho2 : o ||| G.getD L[i] 0 < 2 ^ G.length := or_lt ho hrow
  obtain ⟨r, h1, h2, h3⟩ := ih (i + 1) (o ||| G.getD L[i] 0) (by omega) ho2
  refine ⟨r, Ev.step (fun k => ?_) h1, h2, fun j => ?_⟩
  ·rw [width_town_around.l0, if_pos (by omega), if_pos (by omega), if_pos (by rw [gi_length]; omega), hr, if_pos (by omega), if_pos (by rw [gi_length]; omega), rd_gi,
    b_or _ _ (bigV (smallV G hG.most ho)) (bigV (smallV G hG.most hrow)), wrap_succ i (by omega)]
  ·rw [h3, or_bset, List.drop_eq_getElem_cons hi']
   constructor
   ·rintro ((h | h) | ⟨x, hx, ha⟩)
    ·exact .inl h
    ·exact .inr ⟨_, List.mem_cons_self, h⟩
    ·exact .inr ⟨x, List.mem_cons_of_mem _ hx, ha⟩
   ·rintro (h | ⟨x, hx, ha⟩)
    ·exact .inl (.inl h)
    ·rcases List.mem_cons.1 hx with h | h
     ·subst h; exact .inl (.inr ha)
     ·exact .inr ⟨x, h, ha⟩
theorem around_evV (G : List Nat) (hG : Gr 9 G) (s : Nat) (hs : s < 2 ^ G.length) : Ev (fun k => width_town_around.f k (gi G) (s : Int)) ((Around G s : Nat) : Int) := by
 have hs5 := smallV G hG.most hs
 obtain ⟨r, h1, h2, h3⟩ := around_l0V G hG (els s 9) (fun x hx => bit_lt hs (mem_els.1 hx).2) (by rw [els_length]; have := pc_le s 9; omega) (els s 9).length 0 0 (by omega) (Nat.two_pow_pos _)
 have e : r = Around G s := eq_of_bits fun j => by
  have hh := h3 j
  rw [Around_bit hG]
  unfold bset at hh
  rw [hh]
  constructor
  ·rintro (h | ⟨x, hx, ha⟩)
   ·simp at h
   ·exact ⟨x, (mem_els.1 hx).2, ha⟩
  ·rintro ⟨x, hx, ha⟩
   exact .inr ⟨x, mem_els.2 ⟨Nat.lt_of_lt_of_le (bit_lt hs hx) hG.most, hx⟩, ha⟩
 subst e
 refine Ev.bind (nodes_evV s hs5) ?_
 rw [gi_length]
 exact h1
theorem part_l0V (G : List Nat) (hG : Gr 9 G) (s w : Nat) (hs : s < 2 ^ G.length) (hw : w < 2 ^ G.length) : ∀ d x, 2 ^ G.length - x = d → x < 2 ^ G.length → (∀ j, bset s j → bset x j) → (∀ j, bset x j → Con (Adj G) (bset w) (bset s) j) →
  Ev (fun k => width_town_part.l0 k (gi G) (x : Int) (w : Int)) ((conset G s w : Nat) : Int) := by
 intro d
 induction d using Nat.strongRecOn with
 | _ d ih =>
  intro x hd hx h1 h2
  have hA := Around_lt hG x
  have hb : Go.bits .or .i64 (x : Int) (Go.bits .and .i64 ((Around G x : Nat) : Int) (w : Int)) = ((x ||| (Around G x &&& w) : Nat) : Int) := by
   rw [b_and _ _ (bigV (smallV G hG.most hA)) (bigV (smallV G hG.most hw)), b_or _ _ (bigV (smallV G hG.most hx)) (Nat.lt_of_le_of_lt Nat.and_le_left (bigV (smallV G hG.most hA)))]
  have hy : x ||| (Around G x &&& w) < 2 ^ G.length := or_lt hx (Nat.lt_of_le_of_lt Nat.and_le_left hA)
  refine Ev.step (fun k => by rw [width_town_part.l0]) (Ev.bind (around_evV G hG x hx) ?_)
  simp only [hb]
  by_cases e : x ||| (Around G x &&& w) = x
  ·refine Ev.if_pos (by rw [e]) (Ev.some ?_)
   congr 1
   refine conset_eq hG hs hx h1 h2 fun i j hi ha hj => ?_
   rw [← e, or_bset, and_bset]
   exact .inr ⟨(Around_bit hG x j).2 ⟨i, hi, ha⟩, hj⟩
  ·refine Ev.if_neg (by omega) ?_
   have hle : x ≤ x ||| (Around G x &&& w) := Nat.left_le_or
   refine ih (2 ^ G.length - (x ||| (Around G x &&& w))) (by omega) _ rfl hy (fun j hj => (or_bset _ _ _).2 (.inl (h1 j hj))) fun j hj => ?_
   rcases (or_bset _ _ _).1 hj with h | h
   ·exact h2 j h
   ·obtain ⟨ha, hw'⟩ := (and_bset _ _ _).1 h
    obtain ⟨i, hi, hij⟩ := (Around_bit hG x j).1 ha
    exact .step (h2 i hi) hij hw'
theorem part_evV (G : List Nat) (hG : Gr 9 G) (s w : Nat) (hs : s < 2 ^ G.length) (hw : w < 2 ^ G.length) : Ev (fun k => width_town_part.f k (gi G) (s : Int) (w : Int)) ((conset G s w : Nat) : Int) :=
 part_l0V G hG s w hs hw _ s rfl hs (fun _ h => h) (fun _ h => .base h)
theorem degree_evV (G : List Nat) (hG : Gr 9 G) (gone v : Nat) (hg : gone < 2 ^ G.length) (hv : v < G.length) :
  Ev (fun k => width_town_degree.f k (gi G) (v : Int) (gone : Int)) ((pc (nbset G gone v) 9 : Nat) : Int) := by
 have hp : 2 ^ v < 2 ^ G.length := Nat.pow_lt_pow_right (by omega) hv
 have hn := hG.most
 have hc := conset_lt G (2 ^ v) (gone ||| 2 ^ v)
 have hA := Around_lt hG (conset G (2 ^ v) (gone ||| 2 ^ v))
 have hd : diff (Around G (conset G (2 ^ v) (gone ||| 2 ^ v))) gone < 2 ^ G.length := Nat.lt_of_le_of_lt (diff_le _ _) hA
 unfold width_town_degree.f
 refine Ev.if_pos (by omega) ?_
 simp only [s_one v (by omega), b_or gone (2 ^ v) (bigV (smallV G hn hg)) (bigV (smallV G hn hp))]
 refine Ev.bind (part_evV G hG _ _ hp (or_lt hg hp)) ?_
 refine Ev.bind (around_evV G hG _ hc) ?_
 simp only [b_andNot _ gone (bigV (smallV G hn hA)) (bigV (smallV G hn hg)), b_andNot _ (2 ^ v) (bigV (smallV G hn hd)) (bigV (smallV G hn hp))]
 exact Ev.bind1 (count_eqV _ (smallV G hn (nbset_lt hG gone v))) (Ev.some rfl)
theorem all_eqV (G : List Nat) (h : G.length ≤ 9) : width_town_all.f (gi G) = some ((2 ^ G.length - 1 : Nat) : Int) := by
 unfold width_town_all.f
 have h1 : 2 ^ G.length ≤ 2 ^ 9 := Nat.pow_le_pow_right (by omega) h
 have h2 := Nat.two_pow_pos G.length
 rw [gi_length, s_one _ (by omega), w64_small _ (by omega) (by omega)]
 congr 1
 omega
end Go.Proofs.YtjloppfdagfpmaaDoor.X
end
section
/- widths, width, Width: the width of a valid graph. -/
namespace Go.Proofs.YtjloppfdagfpmaaDoor.X
open Go.RowKit YtjloppfdagfpmaaDoorW.PrintWords YtjloppfdagfpmaaDoorW.PrintLast YtjloppfdagfpmaaDoorW.PrintMore YtjloppfdagfpmaaDoor.T
def PSV (G : List Nat) (S x : Nat) : Prop := ∀ k, x ≤ k ↔ ElimG G k S
theorem mx_natV (a b : Nat) : mx (a : Int) (b : Int) = ((max a b : Nat) : Int) := by unfold mx; split <;> omega
theorem mn_natV (a b : Nat) : mn (a : Int) (b : Int) = ((min a b : Nat) : Int) := by unfold mn; split <;> omega
def GoodV (G : List Nat) (r : List Int) : Prop := ∃ W : List Nat, r = gi W ∧ W.length = 2 ^ G.length ∧ ∀ S, S < 2 ^ G.length → PSV G S (W.getD S 0)
theorem getD_setV (W : List Nat) (i j x : Nat) (hi : i < W.length) : (W.set i x).getD j 0 = if j = i then x else W.getD j 0 := by
 simp only [List.getD_eq_getElem?_getD, List.getElem?_set]
 by_cases h : i = j
 ·subst h; simp [hi]
 ·rw [if_neg h, if_neg (fun e => h e.symm)]
theorem widths_l1V (G : List Nat) (hG : Gr 9 G) (S : Nat) (hS : S < 2 ^ G.length) (h0 : S ≠ 0)
  (cont : ∀ W : List Nat, W.length = 2 ^ G.length → (∀ T, T < S + 1 → PSV G T (W.getD T 0)) → ∃ r, Ev (fun k => width_town_widths.l0 k (gi G) (gi W) ((S + 1 : Nat) : Int)) r ∧ GoodV G r) :
  ∀ d i (W : List Nat), i + d = (els S 9).length → W.length = 2 ^ G.length → (∀ T, T < S → PSV G T (W.getD T 0)) →
   (∀ k, W.getD S 0 ≤ k ↔ G.length ≤ k ∨ ∃ v, v ∈ (els S 9).take i ∧ ElimG G k (diff S (2 ^ v)) ∧ pc (nbset G (diff S (2 ^ v)) v) 9 ≤ k) →
   ∃ r, Ev (fun k => width_town_widths.l1 k (gi G) (gi W) (S : Int) (gi (els S 9)) ((els S 9).length : Int) (i : Int)) r ∧ GoodV G r := by
 have hS5 := smallV G hG.most hS
 have h29 : 2 ^ G.length ≤ 2 ^ 9 := Nat.pow_le_pow_right (by omega) hG.most
 have hn := hG.most
 have hlen : (els S 9).length ≤ 9 := by rw [els_length]; exact pc_le _ _
 intro d
 induction d with
 | zero =>
  intro i W hi hW hT hc
  have hPS : PSV G S (W.getD S 0) := by
   intro k
   rw [hc k]
   by_cases hk : G.length ≤ k
   ·exact ⟨fun _ => elimG_big hG hk S hS, fun _ => .inl hk⟩
   ·rw [elimG_step hG hS h0]
    have e : (els S 9).take i = els S 9 := List.take_of_length_le (by omega)
    rw [e]
    constructor
    ·rintro (h | ⟨v, hv, h1, h2⟩)
     ·exact (hk h).elim
     ·exact ⟨v, (mem_els.1 hv).2, h1, by rwa [← pc_nine (nbset_lt hG _ _) hn]⟩
    ·rintro ⟨v, hv, h1, h2⟩
     exact .inr ⟨v, mem_els.2 ⟨Nat.lt_of_lt_of_le (bit_lt hS hv) hn, hv⟩, h1, by rwa [pc_nine (nbset_lt hG _ _) hn]⟩
  obtain ⟨r, h1, h2⟩ := cont W hW (fun T hT' => by
   by_cases e : T = S
   ·subst e; exact hPS
   ·exact hT T (by omega))
  refine ⟨r, Ev.step (fun k => ?_) h1, h2⟩
  rw [width_town_widths.l1, if_neg (by omega), wrap_succ S (by omega)]
 | succ d ih =>
  intro i W hi hW hT hc
  have hi' : i < (els S 9).length := by omega
  have hmem := List.getElem_mem hi'
  have hv := (mem_els.1 hmem).2
  have hvn := bit_lt hS hv
  have hr : rd (gi (els S 9)) (i : Int) = (((els S 9)[i] : Nat) : Int) := by rw [rd_gi, List.getD_eq_getElem?_getD, List.getElem?_eq_getElem hi']; rfl
  generalize hev : (els S 9)[i] = v at hr hv hvn hmem
  have hp : 2 ^ v < 2 ^ G.length := Nat.pow_lt_pow_right (by omega) hvn
  have hd : diff S (2 ^ v) < S := diff_lt hv
  have hdl : diff S (2 ^ v) < 2 ^ G.length := by omega
  have hdeg := degree_evV G hG (diff S (2 ^ v)) v hdl hvn
  obtain ⟨r, h1, h2⟩ := ih (i + 1) (W.set S (min (W.getD S 0) (max (W.getD (diff S (2 ^ v)) 0) (pc (nbset G (diff S (2 ^ v)) v) 9)))) (by omega) (by simpa using hW)
   (fun T hT' => by
    rw [getD_setV W _ _ _ (by omega), if_neg (by omega)]
    exact hT T hT')
   (fun k => by
    rw [getD_setV W _ _ _ (by omega), if_pos rfl]
    have hps := hT _ hd k
    have htake : (els S 9).take (i + 1) = (els S 9).take i ++ [v] := by rw [List.take_succ_eq_append_getElem hi', hev]
    rw [htake]
    constructor
    ·intro h
     by_cases hk : W.getD S 0 ≤ k
     ·rcases (hc k).1 hk with h | ⟨u, hu, h3⟩
      ·exact .inl h
      ·exact .inr ⟨u, List.mem_append_left _ hu, h3⟩
     ·refine .inr ⟨v, List.mem_append_right _ (List.mem_singleton.2 rfl), hps.1 (by omega), by omega⟩
    ·rintro (h | ⟨u, hu, h3, h4⟩)
     ·have := (hc k).2 (.inl h); omega
     ·rcases List.mem_append.1 hu with hu | hu
      ·have := (hc k).2 (.inr ⟨u, hu, h3, h4⟩); omega
      ·obtain rfl := List.mem_singleton.1 hu
       have := hps.2 h3
       omega)
  refine ⟨r, Ev.step (f := fun k => (width_town_degree.f k (gi G) (v : Int) ((diff S (2 ^ v) : Nat) : Int)).bind fun t => width_town_widths.l1 k (gi G) ((gi W).set (S : Int).toNat (mn (rd (gi W) (S : Int)) (mx (rd (gi W) ((diff S (2 ^ v) : Nat) : Int)) t))) (S : Int) (gi (els S 9)) ((els S 9).length : Int) ((i + 1 : Nat) : Int)) (fun k => ?_) (Ev.bind hdeg ?_), h2⟩
  ·rw [width_town_widths.l1, if_pos (by omega), if_pos (by omega), if_pos (by rw [gi_length]; omega), if_pos (by omega), if_pos (by rw [gi_length]; omega), hr, if_pos (by omega), s_one v (by omega),
    b_andNot S (2 ^ v) (bigV hS5) (bigV (smallV G hn hp)), if_pos (by omega), if_pos (by rw [gi_length]; omega), wrap_succ i (by omega)]
  ·simp only [rd_gi, mx_natV, mn_natV, Int.toNat_natCast, gi_set]
   exact h1
theorem widths_l0V (G : List Nat) (hG : Gr 9 G) : ∀ d S (W : List Nat), S + d = 2 ^ G.length → 0 < S → W.length = 2 ^ G.length → (∀ T, T < S → PSV G T (W.getD T 0)) →
  ∃ r, Ev (fun k => width_town_widths.l0 k (gi G) (gi W) (S : Int)) r ∧ GoodV G r := by
 have h29 : 2 ^ G.length ≤ 2 ^ 9 := Nat.pow_le_pow_right (by omega) hG.most
 intro d
 induction d with
 | zero =>
  intro S W hS h0 hW hT
  refine ⟨gi W, Ev.step (f := fun _ => some (gi W)) (fun k => ?_) (Ev.some rfl), W, rfl, hW, fun T h => hT T (by omega)⟩
  rw [width_town_widths.l0, if_neg (by rw [gi_length]; omega)]
 | succ d ih =>
  intro S W hS h0 hW hT
  have hSn : S < 2 ^ G.length := by omega
  have hS5 := smallV G hG.most hSn
  obtain ⟨r, h1, h2⟩ := widths_l1V G hG S hSn (by omega) (fun W' hW' hT' => ih (S + 1) W' (by omega) (by omega) hW' hT') (els S 9).length 0 (W.set S G.length) (by omega) (by simpa using hW)
   (fun T hT' => by
    rw [getD_setV W _ _ _ (by omega), if_neg (by omega)]
    exact hT T hT')
   (fun k => by
    rw [getD_setV W _ _ _ (by omega), if_pos rfl]
    simp)
  refine ⟨r, Ev.step (fun k => by rw [width_town_widths.l0, if_pos (by rw [gi_length]; omega), if_pos (by omega)]) (Ev.bind (nodes_evV S hS5) ?_), h2⟩
  simp only [Int.toNat_natCast, gi_length]
  have e : (gi W).set S (G.length : Int) = gi (W.set S G.length) := gi_set W S G.length
  rw [e]
  exact h1
theorem widths_evV (G : List Nat) (hG : Gr 9 G) : ∃ r, Ev (fun k => width_town_widths.f k (gi G)) r ∧ GoodV G r := by
 have h29 : 2 ^ G.length ≤ 2 ^ 9 := Nat.pow_le_pow_right (by omega) hG.most
 have h2p := Nat.two_pow_pos G.length
 have hn := hG.most
 obtain ⟨r, h1, h2⟩ := widths_l0V G hG (2 ^ G.length - 1) 1 (List.replicate (2 ^ G.length) 0) (by omega) (by omega) (by simp)
  (fun T hT k => by
   have : T = 0 := by omega
   subst this
   have e : (List.replicate (2 ^ G.length) 0).getD 0 0 = 0 := by
    rw [List.getD_eq_getElem?_getD, List.getElem?_replicate]; split <;> rfl
   rw [e]
   exact ⟨fun _ => elimG_zero G k, fun _ => Nat.zero_le k⟩)
 refine ⟨r, Ev.congr (fun k => ?_) h1, h2⟩
 unfold width_town_widths.f
 rw [gi_length, s_one _ (by omega), if_pos (by omega), Int.toNat_natCast, if_pos (by omega)]
 have e : List.replicate (2 ^ G.length) (0 : Int) = gi (List.replicate (2 ^ G.length) 0) := by simp [gi]
 rw [e]
 rfl
theorem width_evV (G : List Nat) (hG : Gr 9 G) : ∃ W : Nat, IsWidth G W ∧ Ev (fun k => width_town_width.f k (gi G)) (W : Int) := by
 have h2p := Nat.two_pow_pos G.length
 obtain ⟨r, h1, W, rfl, hW, hg⟩ := widths_evV G hG
 refine ⟨W.getD (2 ^ G.length - 1) 0, hg _ (by omega), ?_⟩
 unfold width_town_width.f
 refine Ev.bind h1 (Ev.bind1 (all_eqV G hG.most) ?_)
 refine Ev.if_pos (by omega) (Ev.if_pos (by rw [gi_length]; omega) (Ev.some ?_))
 rw [rd_gi]
theorem Width_evV (G : List Nat) (hG : Gr 9 G) : ∃ W : Nat, IsWidth G W ∧ Ev (fun k => width_Width.f k (gi G)) ((W : Int), 0) := by
 obtain ⟨W, h1, h2⟩ := width_evV G hG
 have hc : chk 9 (gi G) = true := (chk_iff 9 (by omega) _).2 ⟨G, rfl, hG⟩
 have hr := read_evV (gi G) (by rw [gi_length]; have := hG.most; omega)
 rw [hc] at hr
 refine ⟨W, h1, ?_⟩
 unfold width_Width.f
 exact Ev.bind hr (Ev.if_pos rfl (Ev.bind h2 (Ev.some rfl)))
end Go.Proofs.YtjloppfdagfpmaaDoor.X
end
section
/- MinorWidths, without Go and memory: Greatest is at most the width and 1, and that complete graph is a minor, but, below 6, no greater one. -/
namespace Go.Proofs.YtjloppfdagfpmaaDoor.Pure
open Go.RowKit YtjloppfdagfpmaaDoorW.PrintWords YtjloppfdagfpmaaDoorW.PrintLast YtjloppfdagfpmaaDoorW.PrintMore YtjloppfdagfpmaaDoor.T YtjloppfdagfpmaaDoor.X
theorem great_spec (G : List Nat) : ∀ z, greatN G z ≤ z ∧ (greatN G z = 0 ∨ (findN G (kN (greatN G z))).isSome = true) ∧ ∀ m, greatN G z < m → m ≤ z → findN G (kN m) = none
 | 0 => ⟨Nat.le_refl _, .inl rfl, fun m h1 h2 => by simp only [greatN] at h1; omega⟩
 | z + 1 => by
  have ih := great_spec G z
  simp only [greatN]
  by_cases h : (findN G (kN (z + 1))).isSome = true
  ·rw [if_pos h]
   exact ⟨Nat.le_refl _, .inr h, fun m h1 h2 => by omega⟩
  ·rw [if_neg h]
   refine ⟨by omega, ih.2.1, fun m h1 h2 => ?_⟩
   by_cases e : m = z + 1
   ·subst e
    simpa using h
   ·exact ih.2.2 m h1 (by omega)
theorem Greatest_eq {G : List Nat} (hG : Gr 8 G) : minor_Greatest.f (gi G) = some ((greatN G (min 6 G.length) : Int), 0) := by
 have h1 := hG.most
 unfold minor_Greatest.f
 rw [gi_length, if_pos (by omega), (chk_iff 8 (by omega) _).2 ⟨G, rfl, hG⟩, gi_toNat]
 rfl
theorem Greatest_bad (g : List Int) (hl : g.length < 1000) (h : chk 8 g = false) : minor_Greatest.f g = some (0, 2) := by
 unfold minor_Greatest.f
 rw [if_pos hl, h]
 rfl
theorem great_is {G : List Nat} (hG : Gr 8 G) : ∃ n, greatN G (min 6 G.length) = n ∧ 1 ≤ n ∧ n ≤ 6 ∧ IsMnr G (kN n) ∧ (n < 6 → ¬ IsMnr G (kN (n + 1))) := by
 obtain ⟨h1, h2, h3⟩ := great_spec G (min 6 G.length)
 have hp := hG.pos
 refine ⟨_, rfl, ?_⟩
 generalize greatN G (min 6 G.length) = n at *
 have hn1 : 1 ≤ n := by
  apply Classical.byContradiction
  intro h
  have := h3 1 (by omega) (by omega)
  have h4 := find_one hG
  rw [this] at h4; cases h4
 refine ⟨hn1, by omega, ?_, fun h6 hm => ?_⟩
 ·rcases h2 with h2 | h2
  ·omega
  ·exact (find_mnr hG (by omega) (kN_gr hn1 (by omega)) (by omega)).1 h2
 ·have hl := mnr_len (mnr_k.1 hm)
  have := h3 (n + 1) (by omega) (by omega)
  have h4 := (find_mnr hG (by omega) (kN_gr (n := n + 1) (by omega) (by omega)) (by omega)).2 hm
  rw [this] at h4; cases h4
theorem widths_law (g : List Int) (hg : g.length < 2 ^ 44) : Ev (fun k => lampblacklaw07_MinorWidths.f k g) true := by
 obtain ⟨h, e, e1, e2, e3⟩ := few_eq g hg
 unfold lampblacklaw07_MinorWidths.f
 refine Ev.bind1 e ?_
 by_cases hc : chk 8 g = true
 ·obtain ⟨G, rfl, hG⟩ := (chk_iff 8 (by omega) _).1 hc
  rw [e1 hc] at e ⊢
  have hG9 := gr_mono hG (show 8 ≤ 9 by omega)
  have hn := hG.most
  obtain ⟨W, hW, hWe⟩ := Width_evV G hG9
  obtain ⟨n, hn0, hn1, hn6, hm, hno⟩ := great_is hG
  have hnW : n ≤ W + 1 := clique_width ((isWidth_iff.1 hW W).1 (Nat.le_refl _)) (mnr_k.1 hm)
  have hWn : W ≤ 9 := by
   obtain ⟨W2, h1, h2⟩ := width_exists hG
   rw [hW.uniq h1]; omega
  rw [← Option.some.injEq] at hn0
  refine Ev.bind1 (Greatest_eq hG) (Ev.if_pos rfl (Ev.bind1 e (Ev.bind hWe (Ev.if_pos rfl ?_))))
  rw [Option.some.injEq] at hn0
  simp only [hn0]
  refine Ev.if_neg (by rw [w64_small _ (by omega) (by omega)]; omega) (Ev.if_neg (by omega) ?_)
  rw [decide_eq_false (by omega : ¬ (n : Int) > 6)]
  refine Ev.step (fun k => by rw [lampblacklaw07_MinorWidths.j0, if_neg (by simp)]) ?_
  obtain ⟨b, hb, hbm⟩ := has_eq hG (kN_gr hn1 hn6)
  have hbt : b = true := hbm.2 hm
  subst hbt
  refine Ev.bind (refK_ev hn1 hn6) (Ev.bind1 hb (Ev.if_pos rfl ?_))
  refine Ev.step (fun k => by rw [lampblacklaw07_MinorWidths.j1, if_neg (by simp)]) ?_
  by_cases h6 : n = 6
  ·exact Ev.if_pos (by omega) (Ev.bind awake_ev (Ev.some rfl))
  ·refine Ev.if_neg (by omega) ?_
   obtain ⟨b2, hb2, hbm2⟩ := has_eq hG (kN_gr (n := n + 1) (by omega) (by omega))
   have hbf : b2 = false := by
    cases h : b2
    ·rfl
    ·exact absurd (hbm2.1 h) (hno (by omega))
   subst hbf
   have hk := refK_ev (n := n + 1) (by omega) (by omega)
   rw [show (((n + 1 : Nat) : Int)) = wrap64 ((n : Int) + 1) by rw [w64_small _ (by omega) (by omega)]; omega] at hk
   exact Ev.bind hk (Ev.bind1 hb2 (Ev.if_neg (by simp) (Ev.if_pos rfl (Ev.bind awake_ev (Ev.some rfl)))))
 ·have hc' : chk 8 g = false := by simpa using hc
  exact Ev.bind1 (Greatest_bad h (by omega) (e2 hc')) (Ev.if_neg (by simp) (Ev.if_pos rfl (Ev.bind awake_ev (Ev.some rfl))))
theorem MinorWidths : ∀ (l0 : List Int), l0.length ≤ maxLen → l0.length * 8 ≤ 140737488351232 → (∀ x ∈ l0, (Lit.int .i64 x).wf = true) → ∃ k, lampblacklaw07_MinorWidths.f k l0 = some true := by
 intro g _ hg _
 exact Ev.rounds (widths_law g (by omega))
end Go.Proofs.YtjloppfdagfpmaaDoor.Pure
end
