/- Part 2 of what SweepLayouts rests on: contracts of the functions that it reaches, and what they compute, in plain words. -/
import Derived.Test.YtijfddobandcdaaDoorZSweepLayouts1
import Derived.Test.YtijfddobandcdaaDoorZSweepLayouts0
section
/- Layouts of a town: the border of a set, what can come behind a set with borders of at most k nodes; a node less, an edge less. -/
set_option linter.unusedVariables false
namespace Go.Proofs.YtijfddobandcdaaDoor.T
open Go.RowKit Go.Proofs.YtijfddobandcdaaDoorW.PrintWords Go.Proofs.YtijfddobandcdaaDoorW.PrintLast Go.Proofs.YtijfddobandcdaaDoorW.PrintMore

/-- The border of a set: those of its nodes that have a neighbour outside. -/
noncomputable def bor (G : List Nat) (S : Nat) : Nat := ofSet (fun j => bset S j ∧ ∃ u, Adj G j u ∧ ¬ bset S u) G.length
theorem bor_bit {m : Nat} {G : List Nat} (hG : Gr m G) (S j : Nat) : bset (bor G S) j ↔ bset S j ∧ ∃ u, Adj G j u ∧ ¬ bset S u := by
  unfold bor
  rw [ofSet_bit]
  exact ⟨fun h => h.2, fun h => ⟨by obtain ⟨_, u, ha, _⟩ := h; exact hG.adj_lt' ha, h⟩⟩
theorem bor_lt (G : List Nat) (S : Nat) : bor G S < 2 ^ G.length := ofSet_lt _ _

/-- All nodes can be laid out behind S with borders of at most k nodes. -/
inductive Lay (G : List Nat) (k : Nat) : Nat → Prop
  | done : Lay G k (2 ^ G.length - 1)
  | step {S v : Nat} : v < G.length → ¬ bset S v → pc (bor G (S ||| 2 ^ v)) 9 ≤ k → Lay G k (S ||| 2 ^ v) → Lay G k S
/-- x is the path width. -/
def IsVs (G : List Nat) (x : Nat) : Prop := ∀ k, x ≤ k ↔ Lay G k 0
theorem IsVs.uniq {G : List Nat} {a b : Nat} (h : IsVs G a) (h' : IsVs G b) : a = b :=
  Nat.le_antisymm ((h b).2 ((h' b).1 (Nat.le_refl _))) ((h' a).2 ((h a).1 (Nat.le_refl _)))

theorem full_bit (n j : Nat) : bset (2 ^ n - 1) j ↔ j < n := by
  unfold bset
  rw [Nat.testBit_two_pow_sub_one, decide_eq_true_eq]
theorem pc_full (x n : Nat) : pc x n ≤ n := pc_le x n
/-- A set whose elements are on a list, or come of another one's elements, has no more. -/
theorem pc_onto {x y n : Nat} (l : List Nat) (g : Nat → Nat) (h : ∀ j, j < n → bset x j → j ∈ l ∨ ∃ i, i < n ∧ bset y i ∧ g i = j) : pc x n ≤ pc y n + l.length := by
  rw [← els_length x n, ← els_length y n]
  have := nodup_le (els_nodup x n) (m := (els y n).map g ++ l) (fun j hj => by
    obtain ⟨h1, h2⟩ := mem_els.1 hj
    rcases h j h1 h2 with h | ⟨i, h3, h4, h5⟩
    · exact List.mem_append_right _ h
    · exact List.mem_append_left _ (List.mem_map.2 ⟨i, mem_els.2 ⟨h3, h4⟩, h5⟩))
  simpa using this

theorem pc_onto0 {x y n : Nat} (g : Nat → Nat) (h : ∀ j, j < n → bset x j → ∃ i, i < n ∧ bset y i ∧ g i = j) : pc x n ≤ pc y n := by
  have := pc_onto (x := x) (y := y) (n := n) [] g (fun j h1 h2 => .inr (h j h1 h2))
  simpa using this
theorem pc_onto1 {x y n : Nat} (a : Nat) (g : Nat → Nat) (h : ∀ j, j < n → bset x j → j = a ∨ ∃ i, i < n ∧ bset y i ∧ g i = j) : pc x n ≤ pc y n + 1 := by
  have := pc_onto (x := x) (y := y) (n := n) [a] g (fun j h1 h2 => (h j h1 h2).imp (fun e => by simp [e]) id)
  simpa using this
/-- What is missing grows less. -/
theorem or_new {S v n : Nat} (hS : S < 2 ^ n) (hv : v < n) : S ||| 2 ^ v < 2 ^ n := or_lt hS (Nat.pow_lt_pow_right (by omega) hv)
theorem or_gt {S v : Nat} (h : ¬ bset S v) : S < S ||| 2 ^ v := by
  have h1 : S ≤ S ||| 2 ^ v := Nat.left_le_or
  rcases Nat.lt_or_ge S (S ||| 2 ^ v) with h2 | h2
  · exact h2
  · have e : S ||| 2 ^ v = S := by omega
    have : bset (S ||| 2 ^ v) v := (or_bset _ _ _).2 (.inr ((two_pow_bit v v).2 rfl))
    rw [e] at this
    exact (h this).elim
theorem missing {S n : Nat} (hS : S < 2 ^ n) (h : S ≠ 2 ^ n - 1) : ∃ v, v < n ∧ ¬ bset S v := by
  apply Classical.byContradiction
  intro hno
  refine h (eq_of_bits fun j => ?_)
  have := full_bit n j
  unfold bset at this
  rw [this]
  refine ⟨fun hj => bit_lt hS hj, fun hj => Classical.byContradiction fun hb => hno ⟨j, hj, hb⟩⟩
theorem lay_big {G : List Nat} {k : Nat} (hk : 9 ≤ k ∨ G.length ≤ k) (hn : G.length ≤ 9) : ∀ d S, 2 ^ G.length - S = d → S < 2 ^ G.length → Lay G k S := by
  intro d
  induction d using Nat.strongRecOn with
  | _ d ih =>
    intro S hd hS
    by_cases h : S = 2 ^ G.length - 1
    · rw [h]; exact .done
    · obtain ⟨v, hv, hb⟩ := missing hS h
      have h1 := or_new hS hv
      have h2 := or_gt hb
      refine .step hv hb ?_ (ih _ (by omega) _ rfl h1)
      have h3 := pc_onto (x := bor G (S ||| 2 ^ v)) (y := 0) (n := 9) (List.range G.length) id (fun j _ hj => .inl (List.mem_range.2 (bit_lt (bor_lt G _) hj)))
      have h4 := pc_le (bor G (S ||| 2 ^ v)) 9
      have h5 : pc 0 9 = 0 := by decide
      rw [List.length_range] at h3
      omega
theorem Lay.mono {G : List Nat} {k k' S : Nat} (h : Lay G k S) (hk : k ≤ k') : Lay G k' S := by
  induction h with
  | done => exact .done
  | step h1 h2 h3 _ ih => exact .step h1 h2 (by omega) ih

/-! A node less. -/
theorem up_of_ne {v j : Nat} (h : j ≠ v) : ∃ i, up v i = j := ⟨down v j, up_onto h⟩
theorem delbits_bset (v s j : Nat) : bset (delbits v s) j ↔ bset s (up v j) := by unfold bset; rw [delbits_bit]
theorem lay_del {m : Nat} {G : List Nat} (hG : Gr m G) (hm : m ≤ 9) {v : Nat} (hv : v < G.length) (hn : 2 ≤ G.length) {k S : Nat} (h : Lay G k S) : Lay (del G v) k (delbits v S) := by
  have hl := del_length hv
  have hD := del_gr hG hv hn
  have hlen := hG.most
  induction h with
  | done =>
    have e : delbits v (2 ^ G.length - 1) = 2 ^ (del G v).length - 1 := eq_of_bits fun j => by
      have h1 := delbits_bset v (2 ^ G.length - 1) j
      have h2 := full_bit (del G v).length j
      have h3 := full_bit G.length (up v j)
      unfold bset at *
      rw [h1, h2, h3, hl]
      exact up_lt hv
    rw [e]
    exact .done
  | @step S u h1 h2 h3 _ ih =>
    by_cases e : u = v
    · have e1 : delbits v (S ||| 2 ^ u) = delbits v S := eq_of_bits fun j => by
        have a := delbits_bset v (S ||| 2 ^ u) j
        have b := delbits_bset v S j
        unfold bset at *
        rw [a, b]
        show bset _ _ ↔ bset _ _
        rw [or_bset, two_pow_bit, e]
        exact ⟨fun h => h.resolve_right (up_ne v j), .inl⟩
      rw [← e1]
      exact ih
    · obtain ⟨x, rfl⟩ := up_of_ne e
      have hx : x < (del G v).length := by rw [hl]; exact (up_lt hv).1 h1
      have e1 : delbits v (S ||| 2 ^ up v x) = delbits v S ||| 2 ^ x := eq_of_bits fun j => by
        show bset _ _ ↔ bset _ _
        rw [delbits_bset, or_bset, or_bset, delbits_bset, two_pow_bit, two_pow_bit]
        exact ⟨fun h => h.imp id (fun h => up_inj v _ _ h), fun h => h.imp id (fun h => by rw [h])⟩
      rw [e1] at ih
      refine .step hx (fun h => h2 ((delbits_bset v S x).1 h)) (Nat.le_trans ?_ h3) ih
      rw [← e1]
      refine pc_onto0 (down v) fun j _ hj => ⟨up v j, ?_, ?_, down_up v j⟩
      · obtain ⟨_, u, hu, _⟩ := (bor_bit hD _ _).1 hj
        have := hG.adj_lt' ((del_adj hv j u).1 hu).2
        omega
      · obtain ⟨h4, u, hu, h5⟩ := (bor_bit hD _ _).1 hj
        exact (bor_bit hG _ _).2 ⟨(delbits_bset _ _ _).1 h4, up v u, ((del_adj hv j u).1 hu).2, fun h => h5 ((delbits_bset _ _ _).2 h)⟩
/-- v put in front of a set of the smaller graph. -/
noncomputable def putv (v n T : Nat) : Nat := ofSet (fun j => j = v ∨ ∃ i, up v i = j ∧ bset T i) n
theorem putv_bit {v n T : Nat} (hv : v < n) (hT : T < 2 ^ (n - 1)) (j : Nat) : bset (putv v n T) j ↔ j = v ∨ ∃ i, up v i = j ∧ bset T i := by
  unfold putv
  rw [ofSet_bit]
  refine ⟨fun h => h.2, fun h => ⟨?_, h⟩⟩
  rcases h with h | ⟨i, rfl, h⟩
  · omega
  · exact (up_lt hv).2 (bit_lt hT h)
theorem lay_lt {G : List Nat} {k S : Nat} (h : Lay G k S) : S < 2 ^ G.length := by
  induction h with
  | done => have := Nat.two_pow_pos G.length; omega
  | step _ _ _ _ ih => exact Nat.lt_of_le_of_lt Nat.left_le_or ih
theorem lay_put {m : Nat} {G : List Nat} (hG : Gr m G) (hm : m ≤ 9) {v : Nat} (hv : v < G.length) (hn : 2 ≤ G.length) {k T : Nat} (h : Lay (del G v) k T) : Lay G (k + 1) (putv v G.length T) := by
  have hl := del_length hv
  have hD := del_gr hG hv hn
  have hlen := hG.most
  induction h with
  | done =>
    have e : putv v G.length (2 ^ (del G v).length - 1) = 2 ^ G.length - 1 := eq_of_bits fun j => by
      show bset _ _ ↔ bset _ _
      rw [putv_bit hv (by rw [hl]; have := Nat.two_pow_pos (G.length - 1); omega), full_bit]
      constructor
      · rintro (h | ⟨i, rfl, h⟩)
        · omega
        · rw [full_bit, hl] at h; exact (up_lt hv).2 h
      · intro h
        by_cases e : j = v
        · exact .inl e
        · obtain ⟨i, rfl⟩ := up_of_ne e
          exact .inr ⟨i, rfl, (full_bit _ _).2 (by rw [hl]; exact (up_lt hv).1 h)⟩
    rw [e]
    exact .done
  | @step T u h1 h2 h3 h4 ih =>
    have hT' : T ||| 2 ^ u < 2 ^ (G.length - 1) := by have := lay_lt h4; rw [hl] at this; exact this
    have hT : T < 2 ^ (G.length - 1) := Nat.lt_of_le_of_lt Nat.left_le_or hT'
    have e1 : putv v G.length (T ||| 2 ^ u) = putv v G.length T ||| 2 ^ up v u := eq_of_bits fun j => by
      show bset _ _ ↔ bset _ _
      rw [putv_bit hv hT', or_bset, putv_bit hv hT, two_pow_bit]
      constructor
      · rintro (h | ⟨i, rfl, h⟩)
        · exact .inl (.inl h)
        · rcases (or_bset _ _ _).1 h with h | h
          · exact .inl (.inr ⟨i, rfl, h⟩)
          · exact .inr (by rw [(two_pow_bit u i).1 h])
      · rintro ((h | ⟨i, rfl, h⟩) | h)
        · exact .inl h
        · exact .inr ⟨i, rfl, (or_bset _ _ _).2 (.inl h)⟩
        · exact .inr ⟨u, h.symm, (or_bset _ _ _).2 (.inr ((two_pow_bit u u).2 rfl))⟩
    rw [e1] at ih
    refine .step ((up_lt hv).2 (by rw [hl] at h1; exact h1)) (fun h => ?_) (Nat.le_trans ?_ (Nat.add_le_add_right h3 1)) ih
    · rcases (putv_bit hv hT _).1 h with h | ⟨i, hi, h⟩
      · exact up_ne v u h
      · rw [up_inj v _ _ hi] at h; exact h2 h
    · rw [← e1]
      refine pc_onto1 v (up v) fun j hj hb => ?_
      obtain ⟨h5, w, hw, h6⟩ := (bor_bit hG _ _).1 hb
      by_cases e : j = v
      · exact .inl e
      · obtain ⟨i, rfl⟩ := up_of_ne e
        have hwv : w ≠ v := fun e => h6 ((putv_bit hv hT' _).2 (.inl e))
        obtain ⟨y, rfl⟩ := up_of_ne hwv
        refine .inr ⟨i, ?_, (bor_bit hD _ _).2 ⟨?_, y, (del_adj hv i y).2 ⟨(up_lt hv).1 (hG.adj_lt' hw), hw⟩, fun h => h6 ((putv_bit hv hT' _).2 (.inr ⟨y, rfl, h⟩))⟩, rfl⟩
        · have := hG.adj_lt' hw
          have := (up_lt hv).1 this
          omega
        · rcases (putv_bit hv hT' _).1 h5 with h | ⟨q, hq, h⟩
          · exact (e h).elim
          · rw [up_inj v _ _ hq] at h; exact h
theorem lay_more {m : Nat} {G : List Nat} (hG : Gr m G) (hm : m ≤ 9) {v : Nat} (hv : v < G.length) (hn : 2 ≤ G.length) {k : Nat} (h : Lay (del G v) k 0) : Lay G (k + 1) 0 := by
  have h0 : (0 : Nat) < 2 ^ (G.length - 1) := Nat.two_pow_pos _
  have e : putv v G.length 0 = 0 ||| 2 ^ v := eq_of_bits fun j => by
    show bset _ _ ↔ bset _ _
    rw [putv_bit hv h0, or_bset, two_pow_bit]
    have z : ∀ i, ¬ bset 0 i := fun i h => by unfold bset at h; simp at h
    exact ⟨fun h => h.elim .inr (fun ⟨i, _, h⟩ => (z i h).elim), fun h => h.elim (fun h => (z j h).elim) .inl⟩
  have h1 := lay_put hG hm hv hn h
  rw [e] at h1
  refine .step hv (fun h => by unfold bset at h; simp at h) ?_ h1
  have := pc_onto (x := bor G (0 ||| 2 ^ v)) (y := 0) (n := 9) [v] id (fun j _ hj => .inl (by
    have h2 := ((bor_bit hG _ _).1 hj).1
    rw [Nat.zero_or] at h2
    simp [(two_pow_bit v j).1 h2]))
  have h5 : pc 0 9 = 0 := by decide
  simp at this
  simp
  omega
theorem delbits_zero (v : Nat) : delbits v 0 = 0 := by unfold delbits; simp

/-! An edge less. -/
theorem lay_cut {m : Nat} {G H : List Nat} (hG : Gr m G) (hH : Gr m H) (hm : m ≤ 9) (hl : H.length = G.length) (hadj : ∀ u w, Adj H u w → Adj G u w) {k S : Nat} (h : Lay G k S) : Lay H k S := by
  induction h with
  | done => rw [← hl]; exact .done
  | @step S u h1 h2 h3 _ ih =>
    refine .step (by rw [hl]; exact h1) h2 (Nat.le_trans ?_ h3) ih
    refine pc_mono 9 fun j hj hb => ?_
    obtain ⟨h4, w, hw, h5⟩ := (bor_bit hH _ _).1 hb
    exact (bor_bit hG _ _).2 ⟨h4, w, hadj _ _ hw, h5⟩
theorem lay_uncut {m : Nat} {G H : List Nat} (hG : Gr m G) (hH : Gr m H) (hm : m ≤ 9) (hl : H.length = G.length) {a b : Nat} (hadj : ∀ u w, Adj G u w → Adj H u w ∨ (u = a ∧ w = b) ∨ (u = b ∧ w = a)) {k S : Nat} (h : Lay H k S) : Lay G (k + 1) S := by
  induction h with
  | done => rw [hl]; exact .done
  | @step S u h1 h2 h3 _ ih =>
    refine .step (by rw [← hl]; exact h1) h2 (Nat.le_trans ?_ (Nat.add_le_add_right h3 1)) ih
    by_cases ha : bset (S ||| 2 ^ u) a
    · refine pc_onto1 a id fun j hj hb => ?_
      obtain ⟨h4, w, hw, h5⟩ := (bor_bit hG _ _).1 hb
      rcases hadj j w hw with h | h | h
      · exact .inr ⟨j, hj, (bor_bit hH _ _).2 ⟨h4, w, h, h5⟩, rfl⟩
      · exact .inl h.1
      · rw [h.2] at h5; exact (h5 ha).elim
    · refine pc_onto1 b id fun j hj hb => ?_
      obtain ⟨h4, w, hw, h5⟩ := (bor_bit hG _ _).1 hb
      rcases hadj j w hw with h | h | h
      · exact .inr ⟨j, hj, (bor_bit hH _ _).2 ⟨h4, w, h, h5⟩, rfl⟩
      · rw [h.1] at h4; exact (ha h4).elim
      · exact .inl h.1
/-- H is a graph whose path width is that of G or one less. -/
def LessV (G H : List Nat) : Prop := Gr 7 H ∧ (∀ k, Lay G k 0 → Lay H k 0) ∧ ∀ k, Lay H k 0 → Lay G (k + 1) 0
theorem lessV_del {G : List Nat} (hG : Gr 7 G) {v : Nat} (hv : v < G.length) (hn : 2 ≤ G.length) : LessV G (del G v) :=
  ⟨del_gr hG hv hn, fun _ h => by have := lay_del hG (by omega) hv hn h; rwa [delbits_zero] at this, fun _ => lay_more hG (by omega) hv hn⟩
theorem lessV_cut {G H : List Nat} (hG : Gr 7 G) (a b : Nat) (hl : H.length = G.length) (hadj : ∀ u w, Adj H u w ↔ Adj G u w ∧ ¬ (u = a ∧ w = b) ∧ ¬ (u = b ∧ w = a)) : LessV G H := by
  have hH : Gr 7 H := gr_of (by have := hG.pos; omega) (by have := hG.most; omega) fun u w h => by
    obtain ⟨h1, h2, h3⟩ := (hadj u w).1 h
    exact ⟨by rw [hl]; exact hG.adj_lt h1, (hadj w u).2 ⟨hG.adj_symm h1, fun e => h3 ⟨e.2, e.1⟩, fun e => h2 ⟨e.2, e.1⟩⟩, fun e => by subst e; exact hG.adj_irr h1⟩
  refine ⟨hH, fun _ => lay_cut hG hH (by omega) hl (fun u w h => ((hadj u w).1 h).1), fun _ => lay_uncut hG hH (by omega) hl (a := a) (b := b) fun u w h => ?_⟩
  by_cases h1 : u = a ∧ w = b
  · exact .inr (.inl h1)
  · by_cases h2 : u = b ∧ w = a
    · exact .inr (.inr h2)
    · exact .inl ((hadj u w).2 ⟨h, h1, h2⟩)
theorem lessV_le {G H : List Nat} {a b : Nat} (hG : IsVs G a) (hH : IsVs H b) (h : LessV G H) : b ≤ a ∧ a ≤ b + 1 :=
  ⟨(hH a).2 (h.2.1 a ((hG a).1 (Nat.le_refl _))), (hG (b + 1)).2 (h.2.2 b ((hH b).1 (Nat.le_refl _)))⟩
end Go.Proofs.YtijfddobandcdaaDoor.T
end
section
/- What read tells: a graph that is valid, or nothing. -/
set_option linter.unusedVariables false
namespace Go.Proofs.YtijfddobandcdaaDoor.X
open Go.RowKit Go.Proofs.YtijfddobandcdaaDoorW.PrintWords Go.Proofs.YtijfddobandcdaaDoorW.PrintLast Go.Proofs.YtijfddobandcdaaDoorW.PrintMore Go.Proofs.YtijfddobandcdaaDoor.T

theorem read_l1 (g : List Int) (hn : g.length ≤ 7) (i : Nat) (hi : i < g.length) (r : List Int × Bool)
    (hrest : Ev (fun k => sweep_read.l0 k g (g.length : Int) g (g.length : Int) ((i + 1 : Nat) : Int)) r) :
    ∀ d j, j + d = g.length → Ev (fun k => sweep_read.l1 k g (g.length : Int) (i : Int) (rd g (i : Int)) g (g.length : Int) (i : Int) (g.length : Int) (j : Int))
      (cond (allFrom (fun j => decide (ibit (rd g (i : Int)) j = ibit (rd g (j : Int)) i)) g.length d j) r (([] : List Int), false)) := by
  intro d
  induction d with
  | zero =>
    intro j hj
    refine Ev.step (fun k => ?_) hrest
    rw [sweep_read.l1, if_neg (by omega), wrap_succ i (by omega)]
  | succ d ih =>
    intro j hj
    simp only [allFrom]
    by_cases hb : ibit (rd g (i : Int)) j = ibit (rd g (j : Int)) i
    · refine Ev.step (f := fun k => sweep_read.l1 k g (g.length : Int) (i : Int) (rd g (i : Int)) g (g.length : Int) (i : Int) (g.length : Int) ((j + 1 : Nat) : Int)) (fun k => ?_) ?_
      · rw [sweep_read.l1, if_pos (by omega), if_pos (by omega), if_pos (by omega), if_pos (by omega), wrap_succ j (by omega)]
        exact if_pos hb
      · have := ih (j + 1) (by omega)
        simpa [hb] using this
    · refine Ev.step (f := fun _ => some (([] : List Int), false)) (fun k => ?_) (Ev.some (by simp [hb]))
      rw [sweep_read.l1, if_pos (by omega), if_pos (by omega), if_pos (by omega), if_pos (by omega)]
      exact if_neg hb

theorem read_l0 (g : List Int) (hn : g.length ≤ 7) :
    ∀ d i, i + d = g.length → Ev (fun k => sweep_read.l0 k g (g.length : Int) g (g.length : Int) (i : Int)) (cond (allFrom (rowOk g) g.length d i) (g, true) (([] : List Int), false)) := by
  intro d
  induction d with
  | zero =>
    intro i hi
    refine Ev.step (f := fun _ => some (g, true)) (fun k => ?_) (Ev.some (by simp [allFrom]))
    rw [sweep_read.l0, if_neg (by omega)]
  | succ d ih =>
    intro i hi
    have stop : ∀ k, sweep_read.j2 (k + 1) g (g.length : Int) (i : Int) (rd g (i : Int)) g (g.length : Int) (i : Int) true = some (([] : List Int), false) := fun k => by
      rw [sweep_read.j2, if_pos rfl]
    simp only [allFrom, rowOk]
    by_cases h1 : rd g (i : Int) < 0
    · refine Ev.step (fun k => ?_) (f := fun k => sweep_read.j2 k g (g.length : Int) (i : Int) (rd g (i : Int)) g (g.length : Int) (i : Int) true) ?_
      · rw [sweep_read.l0, if_pos (by omega), if_pos (by omega), if_pos (by omega), if_pos h1]
      · exact Ev.step stop (Ev.some (by simp [h1]))
    · by_cases h2 : rd g (i : Int) ≥ shl .i64 1 (g.length : Int)
      · refine Ev.step (fun k => ?_) (f := fun k => sweep_read.j2 k g (g.length : Int) (i : Int) (rd g (i : Int)) g (g.length : Int) (i : Int) true) ?_
        · rw [sweep_read.l0, if_pos (by omega), if_pos (by omega), if_pos (by omega), if_neg h1, if_pos (by omega), if_pos h2]
        · exact Ev.step stop (Ev.some (by simp [h2]))
      · refine Ev.step (fun k => ?_) (f := fun k => sweep_read.j2 k g (g.length : Int) (i : Int) (rd g (i : Int)) g (g.length : Int) (i : Int) (ibit (rd g (i : Int)) i == 1)) ?_
        · rw [sweep_read.l0, if_pos (by omega), if_pos (by omega), if_pos (by omega), if_neg h1, if_pos (by omega), if_neg h2]
          rfl
        · by_cases h3 : (ibit (rd g (i : Int)) i == 1) = true
          · simp only [h3]
            exact Ev.step stop (Ev.some (by simp))
          · refine Ev.step (fun k => by rw [sweep_read.j2, if_neg h3]) ?_
            have := read_l1 g hn i (by omega) _ (ih (i + 1) (by omega)) g.length 0 (by omega)
            have h3' : (ibit (rd g (i : Int)) i == 1) = false := by simpa using h3
            simp only [h1, h2, h3', decide_false, Bool.not_false, Bool.true_and]
            cases h4 : allFrom (fun j => decide (ibit (rd g (i : Int)) j = ibit (rd g (j : Int)) i)) g.length g.length 0
            · simpa [h4] using this
            · simpa [h4] using this

theorem read_ev (g : List Int) (hg : g.length < 2 ^ 60) : Ev (fun k => sweep_read.f k g) (cond (chk 7 g) (g, true) (([] : List Int), false)) := by
  have stop : ∀ k, sweep_read.j0 (k + 1) g (g.length : Int) true = some (([] : List Int), false) := fun k => by
    rw [sweep_read.j0, if_pos rfl]
  by_cases h1 : g.length < 1
  · refine Ev.congr (f := fun k => sweep_read.j0 k g (g.length : Int) true) (fun k => ?_) (Ev.step stop (Ev.some ?_))
    · rw [sweep_read.f, if_pos (by omega)]
    · have : ¬ 1 ≤ g.length := by omega
      simp [chk, this]
  · refine Ev.congr (f := fun k => sweep_read.j0 k g (g.length : Int) (decide ((g.length : Int) > 7))) (fun k => ?_) ?_
    · rw [sweep_read.f, if_neg (by omega)]
    · by_cases h2 : g.length ≤ 7
      · have e : decide ((g.length : Int) > 7) = false := decide_eq_false (by omega)
        rw [e]
        refine Ev.step (fun k => by rw [sweep_read.j0, if_neg (by simp)]) ?_
        have := read_l0 g h2 g.length 0 (by omega)
        have h3 : decide (1 ≤ g.length) = true := decide_eq_true (by omega)
        simpa [chk, h2, h3] using this
      · have e : decide ((g.length : Int) > 7) = true := decide_eq_true (by omega)
        rw [e]
        refine Ev.step stop (Ev.some ?_)
        simp [chk, h2]
end Go.Proofs.YtijfddobandcdaaDoor.X
end
section
/- The references' own words: IsGraph. -/
set_option linter.unusedVariables false
namespace Go.Proofs.YtijfddobandcdaaDoor.X
open Go.RowKit Go.Proofs.YtijfddobandcdaaDoorW.PrintWords Go.Proofs.YtijfddobandcdaaDoorW.PrintLast Go.Proofs.YtijfddobandcdaaDoorW.PrintMore Go.Proofs.YtijfddobandcdaaDoor.T

theorem isGraph_l1 (m : Nat) (g : List Int) (hn : g.length ≤ 13) (i : Nat) (hi : i < g.length) (r : Bool)
    (hrest : Ev (fun k => lampblackref01_IsGraph.l0 k g (m : Int) g (g.length : Int) ((i + 1 : Nat) : Int)) r) :
    ∀ d j, j + d = g.length → Ev (fun k => lampblackref01_IsGraph.l1 k g (m : Int) (i : Int) (rd g (i : Int)) g (g.length : Int) (i : Int) (g.length : Int) (j : Int))
      (allFrom (fun j => decide (ibit (rd g (i : Int)) j = ibit (rd g (j : Int)) i)) g.length d j && r) := by
  intro d
  induction d with
  | zero =>
    intro j hj
    refine Ev.step (fun k => ?_) hrest
    rw [lampblackref01_IsGraph.l1, if_neg (by omega), wrap_succ i (by omega)]
  | succ d ih =>
    intro j hj
    simp only [allFrom]
    by_cases hb : ibit (rd g (i : Int)) j = ibit (rd g (j : Int)) i
    · refine Ev.step (f := fun k => lampblackref01_IsGraph.l1 k g (m : Int) (i : Int) (rd g (i : Int)) g (g.length : Int) (i : Int) (g.length : Int) ((j + 1 : Nat) : Int)) (fun k => ?_) ?_
      · rw [lampblackref01_IsGraph.l1, if_pos (by omega), if_pos (by omega), if_pos (by omega), if_pos (by omega), wrap_succ j (by omega)]
        exact if_pos hb
      · have := ih (j + 1) (by omega)
        simpa [hb] using this
    · refine Ev.step (f := fun _ => some false) (fun k => ?_) (Ev.some (by simp [hb]))
      rw [lampblackref01_IsGraph.l1, if_pos (by omega), if_pos (by omega), if_pos (by omega), if_pos (by omega)]
      exact if_neg hb

theorem isGraph_l0 (m : Nat) (hm : m ≤ 13) (g : List Int) (h1 : 1 ≤ g.length) (hn : g.length ≤ m) :
    ∀ d i, i + d = g.length → Ev (fun k => lampblackref01_IsGraph.l0 k g (m : Int) g (g.length : Int) (i : Int)) (allFrom (rowOk g) g.length d i) := by
  intro d
  induction d with
  | zero =>
    intro i hi
    refine Ev.step (f := fun _ => some true) (fun k => ?_) (Ev.some (by simp [allFrom]))
    rw [lampblackref01_IsGraph.l0, if_neg (by omega), if_pos (by omega), decide_eq_true (by omega)]
  | succ d ih =>
    intro i hi
    have stop : ∀ k, lampblackref01_IsGraph.j1 (k + 1) g (m : Int) (i : Int) (rd g (i : Int)) g (g.length : Int) (i : Int) true = some false := fun k => by
      rw [lampblackref01_IsGraph.j1, if_pos rfl]
    simp only [allFrom, rowOk]
    by_cases h1' : rd g (i : Int) < 0
    · refine Ev.step (fun k => ?_) (f := fun k => lampblackref01_IsGraph.j1 k g (m : Int) (i : Int) (rd g (i : Int)) g (g.length : Int) (i : Int) true) ?_
      · rw [lampblackref01_IsGraph.l0, if_pos (by omega), if_pos (by omega), if_pos (by omega), if_neg (by omega), if_pos h1']
      · exact Ev.step stop (Ev.some (by simp [h1']))
    · by_cases h2 : rd g (i : Int) ≥ shl .i64 1 (g.length : Int)
      · refine Ev.step (fun k => ?_) (f := fun k => lampblackref01_IsGraph.j1 k g (m : Int) (i : Int) (rd g (i : Int)) g (g.length : Int) (i : Int) true) ?_
        · rw [lampblackref01_IsGraph.l0, if_pos (by omega), if_pos (by omega), if_pos (by omega), if_neg (by omega), if_neg h1', if_pos h2]
        · exact Ev.step stop (Ev.some (by simp [h2]))
      · refine Ev.step (fun k => ?_) (f := fun k => lampblackref01_IsGraph.j1 k g (m : Int) (i : Int) (rd g (i : Int)) g (g.length : Int) (i : Int) (ibit (rd g (i : Int)) i == 1)) ?_
        · rw [lampblackref01_IsGraph.l0, if_pos (by omega), if_pos (by omega), if_pos (by omega), if_neg (by omega), if_neg h1', if_neg h2]
          rfl
        · by_cases h3 : (ibit (rd g (i : Int)) i == 1) = true
          · simp only [h3]
            exact Ev.step stop (Ev.some (by simp))
          · refine Ev.step (fun k => by rw [lampblackref01_IsGraph.j1, if_neg h3]) ?_
            have := isGraph_l1 m g (by omega) i (by omega) _ (ih (i + 1) (by omega)) g.length 0 (by omega)
            have h3' : (ibit (rd g (i : Int)) i == 1) = false := by simpa using h3
            simp only [h1', h2, h3', decide_false, Bool.not_false, Bool.true_and]
            exact this

theorem isGraph_ev (m : Nat) (hm : m ≤ 13) (g : List Int) (hg : g.length < 2 ^ 60) : Ev (fun k => lampblackref01_IsGraph.f k g (m : Int)) (chk m g) := by
  unfold lampblackref01_IsGraph.f
  by_cases h1 : 1 ≤ g.length
  · by_cases h2 : g.length ≤ m
    · have := isGraph_l0 m hm g h1 h2 g.length 0 (by omega)
      simpa [chk, h1, h2] using this
    · refine Ev.step (f := fun k => lampblackref01_IsGraph.j1 k g (m : Int) 0 (rd g 0) g (g.length : Int) 0 true) (fun k => ?_) (Ev.step (f := fun _ => some false) (fun k => ?_) (Ev.some (by simp [chk, h2])))
      · rw [lampblackref01_IsGraph.l0, if_pos (by omega), if_pos (by omega), if_pos (by omega), if_pos (by omega)]
      · rw [lampblackref01_IsGraph.j1, if_pos rfl]
  · refine Ev.step (f := fun _ => some false) (fun k => ?_) (Ev.some (by simp [chk, h1]))
    rw [lampblackref01_IsGraph.l0, if_neg (by omega), if_neg (by omega)]

end Go.Proofs.YtijfddobandcdaaDoor.X
end
section
/- border, count, layout: what they compute, in plain words; Layout, Least, awake, Few. -/
set_option linter.unusedVariables false
namespace Go.Proofs.YtijfddobandcdaaDoor.X
open Go.RowKit Go.Proofs.YtijfddobandcdaaDoorW.PrintWords Go.Proofs.YtijfddobandcdaaDoorW.PrintLast Go.Proofs.YtijfddobandcdaaDoorW.PrintMore Go.Proofs.YtijfddobandcdaaDoor.T

theorem mx_nat (a b : Nat) : mx (a : Int) (b : Int) = ((max a b : Nat) : Int) := by unfold mx; split <;> omega
theorem mn_nat (a b : Nat) : mn (a : Int) (b : Int) = ((min a b : Nat) : Int) := by unfold mn; split <;> omega
theorem small (G : List Nat) (h : G.length ≤ 9) {x : Nat} (hx : x < 2 ^ G.length) : x < 512 := Nat.lt_of_lt_of_le hx (show 2 ^ G.length ≤ 2 ^ 9 from Nat.pow_le_pow_right (by omega) h)
theorem big {x : Nat} (h : x < 512) : x < 2 ^ 62 := by omega
theorem ctz_all : ∀ z : Fin 512, 0 < z.val → Lib.ctz 64 z.val < 9 ∧ z.val.testBit (Lib.ctz 64 z.val) = true ∧ rest z.val = diff z.val (2 ^ Lib.ctz 64 z.val) ∧ ∀ j : Fin 9, z.val.testBit j.val = true → Lib.ctz 64 z.val ≤ j.val := by decide +kernel
theorem ctz_bit {z : Nat} (hz : z < 512) (h0 : z ≠ 0) : bset z (Lib.ctz 64 z) := (ctz_all ⟨z, hz⟩ (by show 0 < z; omega)).2.1
theorem ctz_low {z : Nat} (hz : z < 512) (h0 : z ≠ 0) {j : Nat} (hj : bset z j) : Lib.ctz 64 z ≤ j := (ctz_all ⟨z, hz⟩ (by show 0 < z; omega)).2.2.2 ⟨j, bit_lt (n := 9) (by omega) hj⟩ hj
theorem rest_diff {z : Nat} (hz : z < 512) (h0 : z ≠ 0) : rest z = diff z (2 ^ Lib.ctz 64 z) := (ctz_all ⟨z, hz⟩ (by show 0 < z; omega)).2.2.1
theorem rest_bset {z : Nat} (hz : z < 512) (h0 : z ≠ 0) (j : Nat) : bset (rest z) j ↔ bset z j ∧ j ≠ Lib.ctz 64 z := by
  rw [rest_diff hz h0, diff_bset, two_pow_bit]
theorem rest_pc {z : Nat} (hz : z < 512) (h0 : z ≠ 0) : pc (rest z) 9 < pc z 9 := by
  have h1 := ctz_bit hz h0
  refine pc_lt (Lib.ctz 64 z) 9 (fun j _ h => ((rest_bset hz h0 j).1 h).1) (bit_lt (n := 9) (by omega) h1) ?_ h1
  have := rest_bset hz h0 (Lib.ctz 64 z)
  cases h : (rest z).testBit (Lib.ctz 64 z)
  · rfl
  · exact ((this.1 h).2 rfl).elim
theorem diff_ne {a b : Nat} : diff a b ≠ 0 ↔ ∃ u, bset a u ∧ ¬ bset b u := by
  constructor
  · intro h
    obtain ⟨i, hi⟩ := Nat.exists_testBit_of_ne_zero h
    exact ⟨i, (diff_bset a b i).1 hi⟩
  · rintro ⟨u, hu⟩ h
    have := (diff_bset a b u).2 hu
    rw [h] at this
    unfold bset at this
    simp at this

theorem count_all : ∀ x : Fin 512, sweep_count.f (x.val : Int) = some (pc x.val 9 : Int) := by decide +kernel
theorem count_eq (x : Nat) (hx : x < 512) : sweep_count.f (x : Int) = some (pc x 9 : Int) := count_all ⟨x, hx⟩

theorem rest_lt' {s n : Nat} (hs5 : s < 512) (h0 : s ≠ 0) (hs : s < 2 ^ n) : rest s < 2 ^ n := lt_of_bits fun j hj => bit_lt hs ((rest_bset hs5 h0 j).1 hj).1
theorem bordTo_eq (G : List Nat) (hG : Gr 7 G) (S : Nat) (hS : S < 2 ^ G.length) : ∀ (k s o : Nat), pc s 9 < k → s < 2 ^ G.length → o < 2 ^ G.length → (∀ j, bset s j → bset S j) →
    ∃ r : Nat, bordTo (gi G) S k s (o : Int) = some (r : Int) ∧ r < 2 ^ G.length ∧ ∀ j, bset r j ↔ bset o j ∨ (bset s j ∧ ∃ u, Adj G j u ∧ ¬ bset S u) := by
  have hn := hG.most
  intro k
  induction k with
  | zero => intro s o h; omega
  | succ k ih =>
    intro s o hk hs ho hsS
    have hs5 := small G (by omega) hs
    by_cases h0 : s = 0
    · subst h0
      refine ⟨o, by rw [bordTo, if_pos rfl], ho, fun j => ⟨.inl, fun h => h.elim id (fun h => ?_)⟩⟩
      have := h.1
      unfold bset at this
      simp at this
    · have hb := ctz_bit hs5 h0
      have hp := rest_pc hs5 h0
      have hr := rest_bset hs5 h0
      have hrl := rest_lt' hs5 h0 hs
      rw [bordTo, if_neg h0]
      generalize Lib.ctz 64 s = v at *
      have hv : v < G.length := bit_lt hs hb
      have hpv : 2 ^ v < 2 ^ G.length := Nat.pow_lt_pow_right (by omega) hv
      have hrow := hG.row v
      rw [if_pos (by rw [gi_length]; omega), rd_gi, b_andNot _ _ (big (small G (by omega) hrow)) (big (small G (by omega) hS)), s_one v (by omega), b_or _ _ (big (small G (by omega) ho)) (big (small G (by omega) hpv))]
      by_cases hd : diff (G.getD v 0) S = 0
      · rw [hd, if_neg (by decide)]
        obtain ⟨r, h1, h2, h3⟩ := ih (rest s) o (by omega) hrl ho (fun j hj => hsS j ((hr j).1 hj).1)
        refine ⟨r, h1, h2, fun j => ?_⟩
        rw [h3, hr]
        constructor
        · rintro (h | ⟨h, h'⟩)
          · exact .inl h
          · exact .inr ⟨h.1, h'⟩
        · rintro (h | ⟨h, u, hu, hu'⟩)
          · exact .inl h
          · refine .inr ⟨⟨h, fun e => ?_⟩, u, hu, hu'⟩
            subst e
            exact (diff_ne.2 ⟨u, hu, hu'⟩ hd).elim
      · have hd' : ((diff (G.getD v 0) S : Nat) : Int) ≠ 0 := by omega
        rw [if_pos (by simpa using hd)]
        obtain ⟨r, h1, h2, h3⟩ := ih (rest s) (o ||| 2 ^ v) (by omega) hrl (or_lt ho hpv) (fun j hj => hsS j ((hr j).1 hj).1)
        refine ⟨r, h1, h2, fun j => ?_⟩
        rw [h3, hr, or_bset, two_pow_bit]
        obtain ⟨u, hu, hu'⟩ := diff_ne.1 hd
        constructor
        · rintro ((h | h) | ⟨h, h'⟩)
          · exact .inl h
          · subst h; exact .inr ⟨hb, u, hu, hu'⟩
          · exact .inr ⟨h.1, h'⟩
        · rintro (h | ⟨h, h'⟩)
          · exact .inl (.inl h)
          · by_cases e : j = v
            · exact .inl (.inr e)
            · exact .inr ⟨⟨h, e⟩, h'⟩
theorem border_eq (G : List Nat) (hG : Gr 7 G) (S : Nat) (hS : S < 2 ^ G.length) : sweep_town_border.f (gi G) (S : Int) = some ((bor G S : Nat) : Int) := by
  have hn := hG.most
  have hS5 := small G (by omega) hS
  unfold sweep_town_border.f
  rw [if_pos (by omega), if_pos (by have := big hS5; omega), Int.toNat_natCast]
  obtain ⟨r, h1, h2, h3⟩ := bordTo_eq G hG S hS 64 S 0 (by have := pc_le S 9; omega) hS (Nat.two_pow_pos _) (fun _ h => h)
  have e : r = bor G S := eq_of_bits fun j => by
    have a := h3 j
    have b := bor_bit hG S j
    unfold bset at *
    rw [a, b]
    simp
  subst e
  exact h1
/-- How many nodes a set's border has. -/
noncomputable def bc (G : List Nat) (S : Nat) : Nat := pc (bor G S) 9
theorem cost_eq (G : List Nat) (hG : Gr 7 G) (S : Nat) (hS : S < 2 ^ G.length) : cost (gi G) (S : Int) = some ((bc G S : Nat) : Int) := by
  unfold cost bc
  rw [border_eq G hG S hS, Option.bind_some]
  exact count_eq _ (small G (by have := hG.most; omega) (bor_lt G S))

/-- x is the least breadth of what can come behind S. -/
def PV (G : List Nat) (S x : Nat) : Prop := ∀ q, x ≤ q ↔ Lay G q S
theorem getD_set (W : List Nat) (i j x : Nat) (hi : i < W.length) : (W.set i x).getD j 0 = if j = i then x else W.getD j 0 := by
  simp only [List.getD_eq_getElem?_getD, List.getElem?_set]
  by_cases h : i = j
  · subst h; simp [hi]
  · rw [if_neg h, if_neg (fun e => h e.symm)]
theorem bestIn_eq (G : List Nat) (hG : Gr 7 G) (S : Nat) (hS : S < 2 ^ G.length) : ∀ (k s : Nat) (W : List Nat), pc s 9 < k → s < 2 ^ G.length → (∀ j, bset s j → ¬ bset S j) → W.length = 2 ^ G.length →
    ∃ x, bestIn (gi G) S k s (gi W) = some (gi (W.set S x)) ∧ ∀ q, x ≤ q ↔ W.getD S 0 ≤ q ∨ ∃ v, bset s v ∧ W.getD (S ||| 2 ^ v) 0 ≤ q ∧ bc G (S ||| 2 ^ v) ≤ q := by
  have hn := hG.most
  intro k
  induction k with
  | zero => intro s W h; omega
  | succ k ih =>
    intro s W hk hs hsS hW
    have hs5 := small G (by omega) hs
    by_cases h0 : s = 0
    · subst h0
      refine ⟨W.getD S 0, ?_, fun q => ⟨.inl, fun h => h.elim id (fun ⟨v, h, _⟩ => by unfold bset at h; simp at h)⟩⟩
      rw [bestIn, if_pos rfl]
      congr 2
      apply List.ext_getElem?
      intro i
      rw [List.getElem?_set]
      by_cases e : S = i
      · subst e
        rw [if_pos rfl, if_pos (by omega), List.getD_eq_getElem?_getD, List.getElem?_eq_getElem (by omega)]
        rfl
      · rw [if_neg e]
    · have hb := ctz_bit hs5 h0
      have hp := rest_pc hs5 h0
      have hr := rest_bset hs5 h0
      have hrl := rest_lt' hs5 h0 hs
      rw [bestIn, if_neg h0]
      unfold nxt
      generalize Lib.ctz 64 s = v at *
      have hv : v < G.length := bit_lt hs hb
      have hX := or_new hS hv
      have hgt := or_gt (hsS v hb)
      have hSW : S < W.length := by rw [hW]; exact hS
      have hXW : S ||| 2 ^ v < W.length := by rw [hW]; exact hX
      rw [if_pos (by rw [gi_length]; exact ⟨hSW, hXW⟩), cost_eq G hG _ hX, Option.bind_some, rd_gi, rd_gi, mx_nat, mn_nat, gi_set]
      obtain ⟨x, h1, h2⟩ := ih (rest s) (W.set S (min (W.getD S 0) (max (W.getD (S ||| 2 ^ v) 0) (bc G (S ||| 2 ^ v))))) (Nat.lt_of_lt_of_le hp (Nat.le_of_lt_succ hk)) hrl (fun j hj => hsS j ((hr j).1 hj).1) (by rw [List.length_set]; exact hW)
      refine ⟨x, by rw [h1, List.set_set], fun q => ?_⟩
      rw [h2, getD_set _ _ _ _ hSW, if_pos rfl]
      have hoth : ∀ u, bset (rest s) u → (W.set S (min (W.getD S 0) (max (W.getD (S ||| 2 ^ v) 0) (bc G (S ||| 2 ^ v))))).getD (S ||| 2 ^ u) 0 = W.getD (S ||| 2 ^ u) 0 := fun u hu => by
        have := or_gt (hsS u ((hr u).1 hu).1)
        rw [getD_set _ _ _ _ hSW, if_neg (Nat.ne_of_gt this)]
      clear hX hgt hSW hXW hs hrl hW hs5 hv hp hk ih h1 h2 h0
      constructor
      · rintro (h | ⟨u, hu, h3, h4⟩)
        · rcases Nat.le_total (W.getD S 0) (max (W.getD (S ||| 2 ^ v) 0) (bc G (S ||| 2 ^ v))) with h5 | h5
          · rw [Nat.min_eq_left h5] at h
            exact .inl h
          · rw [Nat.min_eq_right h5] at h
            exact .inr ⟨v, hb, Nat.le_trans (Nat.le_max_left _ _) h, Nat.le_trans (Nat.le_max_right _ _) h⟩
        · rw [hoth u hu] at h3
          exact .inr ⟨u, ((hr u).1 hu).1, h3, h4⟩
      · rintro (h | ⟨u, hu, h3, h4⟩)
        · exact .inl (Nat.le_trans (Nat.min_le_left _ _) h)
        · by_cases e : u = v
          · subst e; exact .inl (Nat.le_trans (Nat.min_le_right _ _) (Nat.max_le.2 ⟨h3, h4⟩))
          · have hu' := (hr u).2 ⟨hu, e⟩
            exact .inr ⟨u, hu', by rw [hoth u hu']; exact h3, h4⟩
theorem bestTo_eq (G : List Nat) (hG : Gr 7 G) : ∀ (d : Nat) (W : List Nat), d < 2 ^ G.length → W.length = 2 ^ G.length → (∀ T, d ≤ T → T < 2 ^ G.length → PV G T (W.getD T 0)) →
    ∃ W2 : List Nat, bestTo (gi G) d (gi W) = some (gi W2) ∧ W2.length = 2 ^ G.length ∧ ∀ T, T < 2 ^ G.length → PV G T (W2.getD T 0) := by
  have hn := hG.most
  intro d
  induction d with
  | zero => intro W _ hW h; exact ⟨W, rfl, hW, fun T hT => h T (by omega) hT⟩
  | succ d ih =>
    intro W hd hW h
    have hd' : d < 2 ^ G.length := by omega
    have hS5 := small G (by omega) hd'
    have h2 := Nat.two_pow_pos G.length
    have hc : ∀ j, bset (diff (2 ^ G.length - 1) d) j ↔ j < G.length ∧ ¬ bset d j := fun j => by rw [diff_bset, full_bit]
    rw [bestTo]
    simp only [gi_length]
    have e1 : (gi W).set d (G.length : Int) = gi (W.set d G.length) := gi_set W d G.length
    rw [e1]
    obtain ⟨x, h3, h4⟩ := bestIn_eq G hG d hd' 64 (diff (2 ^ G.length - 1) d) (W.set d G.length) (by have := pc_le (diff (2 ^ G.length - 1) d) 9; omega) (Nat.lt_of_le_of_lt (diff_le _ _) (by omega)) (fun j hj => ((hc j).1 hj).2) (by rw [List.length_set]; exact hW)
    rw [h3, Option.bind_some, List.set_set]
    refine ih _ hd' (by rw [List.length_set]; exact hW) fun T h5 h6 => ?_
    rw [getD_set _ _ _ _ (by omega)]
    by_cases e : T = d
    · subst e
      rw [if_pos rfl]
      intro q
      rw [h4, getD_set _ _ _ _ (by omega), if_pos rfl]
      have hoth : ∀ v, v < G.length → ¬ bset T v → (W.set T G.length).getD (T ||| 2 ^ v) 0 = W.getD (T ||| 2 ^ v) 0 ∧ PV G (T ||| 2 ^ v) (W.getD (T ||| 2 ^ v) 0) := fun v hv hb => by
        have h7 := or_gt hb
        have h8 := or_new hd' hv
        rw [getD_set _ _ _ _ (by omega), if_neg (by omega)]
        exact ⟨rfl, h _ (by omega) h8⟩
      constructor
      · rintro (h7 | ⟨v, hv, h7, h8⟩)
        · exact lay_big (.inr h7) (by omega) _ _ rfl hd'
        · obtain ⟨h9, h10⟩ := (hc v).1 hv
          obtain ⟨h11, h12⟩ := hoth v h9 h10
          rw [h11] at h7
          exact .step h9 h10 h8 ((h12 q).1 h7)
      · intro h7
        cases h7 with
        | done => omega
        | step h9 h10 h8 h13 =>
          obtain ⟨h11, h12⟩ := hoth _ h9 h10
          exact .inr ⟨_, (hc _).2 ⟨h9, h10⟩, by rw [h11]; exact (h12 q).2 h13, h8⟩
    · rw [if_neg e]
      exact h T (by omega) h6

/-- Node v can come behind S, if all is to be laid out with borders of at most m nodes. -/
def Can (G : List Nat) (m S v : Nat) : Prop := Lay G m (S ||| 2 ^ v) ∧ bc G (S ||| 2 ^ v) ≤ m
/-- Node by node the first one that can come. -/
inductive Greedy (G : List Nat) (m : Nat) : Nat → List Nat → Prop
  | nil : Greedy G m (2 ^ G.length - 1) []
  | cons {S v : Nat} {L : List Nat} : v < G.length → ¬ bset S v → Can G m S v → (∀ u, u < v → ¬ bset S u → ¬ Can G m S u) → Greedy G m (S ||| 2 ^ v) L → Greedy G m S (v :: L)
theorem goOn_eq (G : List Nat) (hG : Gr 7 G) (W : List Nat) (m : Nat) (hW : W.length = 2 ^ G.length) (hP : ∀ T, T < 2 ^ G.length → PV G T (W.getD T 0)) (hm : W.getD 0 0 = m) (S : Nat) (hS : S < 2 ^ G.length) :
    ∀ (k s : Nat), pc s 9 < k → s < 2 ^ G.length → (∀ j, bset s j → ¬ bset S j) → (∃ v, bset s v ∧ Can G m S v) →
      ∃ v : Nat, goOn (gi G) (gi W) S k s = some (some ((v : Int), S ||| 2 ^ v)) ∧ bset s v ∧ Can G m S v ∧ ∀ u, u < v → bset s u → ¬ Can G m S u := by
  have hn := hG.most
  intro k
  induction k with
  | zero => intro s h; omega
  | succ k ih =>
    intro s hk hs hsS hex
    have hs5 := small G (by omega) hs
    have h0 : s ≠ 0 := fun e => by obtain ⟨v, h, _⟩ := hex; subst e; unfold bset at h; simp at h
    have hb := ctz_bit hs5 h0
    have hlow : ∀ j, bset s j → Lib.ctz 64 s ≤ j := fun j hj => ctz_low hs5 h0 hj
    have hp := rest_pc hs5 h0
    have hr := rest_bset hs5 h0
    have hrl := rest_lt' hs5 h0 hs
    rw [goOn, if_neg h0]
    unfold nxt
    generalize Lib.ctz 64 s = v at *
    have hv : v < G.length := bit_lt hs hb
    have hX := or_new hS hv
    have hXW : S ||| 2 ^ v < W.length := by rw [hW]; exact hX
    have hp' := Nat.lt_of_lt_of_le hp (Nat.le_of_lt_succ hk)
    rw [if_pos (by rw [gi_length]; exact hXW), cost_eq G hG _ hX, Option.bind_some, rd_gi, show rd (gi W) 0 = ((W.getD 0 0 : Nat) : Int) from rd_gi W 0, mx_nat, hm]
    have hPX := hP _ hX
    clear hX hs hW hs5 hv hp hk h0 hS hXW
    by_cases hc : max (W.getD (S ||| 2 ^ v) 0) (bc G (S ||| 2 ^ v)) ≤ m
    · rw [if_pos (by omega)]
      exact ⟨v, rfl, hb, ⟨(hPX m).1 (by omega), by omega⟩, fun u hu hsu => by have := hlow u hsu; omega⟩
    · rw [if_neg (by omega)]
      have hno : ¬ Can G m S v := fun h => hc (by have := (hPX m).2 h.1; have := h.2; omega)
      obtain ⟨u, h1, h2, h3, h4⟩ := ih (rest s) hp' hrl (fun j hj => hsS j ((hr j).1 hj).1) (by
        obtain ⟨u, hu, hcu⟩ := hex
        exact ⟨u, (hr u).2 ⟨hu, fun e => hno (e ▸ hcu)⟩, hcu⟩)
      refine ⟨u, h1, ((hr u).1 h2).1, h3, fun x hx hsx => ?_⟩
      by_cases e : x = v
      · subst e; exact hno
      · exact h4 x hx ((hr x).2 ⟨hsx, e⟩)
theorem layTo_eq (G : List Nat) (hG : Gr 7 G) (W : List Nat) (m : Nat) (hW : W.length = 2 ^ G.length) (hP : ∀ T, T < 2 ^ G.length → PV G T (W.getD T 0)) (hm : W.getD 0 0 = m) :
    ∀ (k S : Nat) (pre : List Int), pc (diff (2 ^ G.length - 1) S) 9 < k → S < 2 ^ G.length → Lay G m S → ∃ L, layTo (gi G) (gi W) k S pre = some (pre ++ gi L) ∧ Greedy G m S L := by
  have hn := hG.most
  intro k
  induction k with
  | zero => intro S pre h; omega
  | succ k ih =>
    intro S pre hk hS hL
    have h2 := Nat.two_pow_pos G.length
    rw [layTo]
    simp only [gi_length]
    by_cases e : S = 2 ^ G.length - 1
    · rw [if_pos e, e]
      exact ⟨[], by simp [gi], .nil⟩
    · rw [if_neg e]
      have hc : ∀ j, bset (diff (2 ^ G.length - 1) S) j ↔ j < G.length ∧ ¬ bset S j := fun j => by rw [diff_bset, full_bit]
      obtain ⟨v, h3, h4, h5, h6⟩ := goOn_eq G hG W m hW hP hm S hS 64 (diff (2 ^ G.length - 1) S) (by have := pc_le (diff (2 ^ G.length - 1) S) 9; omega) (Nat.lt_of_le_of_lt (diff_le _ _) (by omega)) (fun j hj => ((hc j).1 hj).2) (by
        cases hL with
        | done => exact (e rfl).elim
        | step h7 h8 h9 h10 => exact ⟨_, (hc _).2 ⟨h7, h8⟩, h10, h9⟩)
      rw [h3, Option.bind_some]
      obtain ⟨h7, h8⟩ := (hc v).1 h4
      have hX := or_new hS h7
      obtain ⟨L, h9, h10⟩ := ih (S ||| 2 ^ v) (pre ++ [(v : Int)]) (by
        refine Nat.lt_of_lt_of_le (pc_lt v 9 (fun j _ hj => ?_) (by omega) ?_ ((hc v).2 ⟨h7, h8⟩)) (show pc (diff (2 ^ G.length - 1) S) 9 ≤ k by omega)
        · have a := (diff_bset (2 ^ G.length - 1) (S ||| 2 ^ v) j).1 hj
          exact (diff_bset _ _ _).2 ⟨a.1, fun h => a.2 ((or_bset _ _ _).2 (.inl h))⟩
        · have a := diff_bset (2 ^ G.length - 1) (S ||| 2 ^ v) v
          cases hh : (diff (2 ^ G.length - 1) (S ||| 2 ^ v)).testBit v
          · rfl
          · exact ((a.1 hh).2 ((or_bset _ _ _).2 (.inr ((two_pow_bit v v).2 rfl)))).elim) hX h5.1
      refine ⟨v :: L, ?_, .cons h7 h8 h5 (fun u hu hSu => h6 u hu ((hc u).2 ⟨by omega, hSu⟩)) h10⟩
      show layTo (gi G) (gi W) k (S ||| 2 ^ v) (pre ++ [(v : Int)]) = _
      rw [h9]
      simp [gi]
theorem layout_eq (G : List Nat) (hG : Gr 7 G) : ∃ (L : List Nat) (m : Nat), sweep_town_layout.f (gi G) = some (gi L, (m : Int)) ∧ IsVs G m ∧ Greedy G m 0 L := by
  have hn := hG.most
  have h2 := Nat.two_pow_pos G.length
  have e : List.replicate (2 ^ G.length) (0 : Int) = gi (List.replicate (2 ^ G.length) 0) := by simp [gi]
  obtain ⟨W, h3, h4, h5⟩ := bestTo_eq G hG (2 ^ G.length - 1) (List.replicate (2 ^ G.length) 0) (by omega) (by simp) (fun T hT hT2 q => by
    have e : T = 2 ^ G.length - 1 := by omega
    subst e
    have : (List.replicate (2 ^ G.length) 0).getD (2 ^ G.length - 1) 0 = 0 := by simp [List.getD_eq_getElem?_getD, List.getElem?_replicate]; rw [if_pos (by omega)]; rfl
    rw [this]
    exact ⟨fun _ => .done, fun _ => by omega⟩)
  obtain ⟨L, h6, h7⟩ := layTo_eq G hG W (W.getD 0 0) h4 h5 rfl 11 0 [] (by have := pc_le (diff (2 ^ G.length - 1) 0) 9; omega) h2 ((h5 0 h2 _).1 (Nat.le_refl _))
  refine ⟨L, W.getD 0 0, ?_, h5 0 h2, h7⟩
  unfold sweep_town_layout.f
  simp only [gi_length]
  rw [if_pos ⟨hG.pos, by omega⟩, e, h3, Option.bind_some, h6]
  simp only [List.nil_append, Option.bind_some]
  rw [show rd (gi W) 0 = ((W.getD 0 0 : Nat) : Int) from rd_gi W 0]

theorem Layout_ev (G : List Nat) (hG : Gr 7 G) : ∃ (L : List Nat) (m : Nat), Ev (fun k => sweep_Layout.f k (gi G)) (gi L, (m : Int), 0) ∧ IsVs G m ∧ Greedy G m 0 L := by
  obtain ⟨L, m, h1, h2, h3⟩ := layout_eq G hG
  refine ⟨L, m, ?_, h2, h3⟩
  have hr := read_ev (gi G) (by rw [gi_length]; have := hG.most; omega)
  rw [(chk_iff 7 (by omega) _).2 ⟨G, rfl, hG⟩] at hr
  unfold sweep_Layout.f
  exact Ev.bind hr (Ev.if_pos rfl (Ev.bind1 h1 (Ev.some rfl)))
theorem Layout_bad (g : List Int) (hl : g.length < 2 ^ 60) (h : chk 7 g = false) : Ev (fun k => sweep_Layout.f k g) (([] : List Int), 0, 2) := by
  have hr := read_ev g hl
  rw [h] at hr
  unfold sweep_Layout.f
  exact Ev.bind hr (Ev.if_neg (by simp) (Ev.some rfl))
theorem awake_ev : Ev (fun k => lampblacklaw03_awake.f k) true := by
  exact Ev.of (lampblacklaw03_awake.mono) (k := 40) (by decide +kernel)
theorem vs_exists {G : List Nat} (hG : Gr 7 G) : ∃ m, IsVs G m ∧ m ≤ 7 := by
  obtain ⟨L, m, _, h, _⟩ := layout_eq G hG
  exact ⟨m, h, Nat.le_trans ((h G.length).2 (lay_big (.inr (Nat.le_refl _)) (by have := hG.most; omega) _ _ rfl (Nat.two_pow_pos _))) hG.most⟩
theorem valid_ev (g : List Int) (hg : g.length < 2 ^ 60) : Ev (fun k => lampblackref03_Valid.f k g) (chk 7 g) := by
  unfold lampblackref03_Valid.f
  exact Ev.bind (isGraph_ev 7 (by omega) g hg) (Ev.some rfl)
/-- Few hands on a beginning; what is valid it hands on whole, and what isn't stays so. -/
theorem few_eq (g : List Int) (hg : g.length < 2 ^ 44) : ∃ h, lampblacklaw03_Few.f g = some h ∧ (chk 7 g = true → h = g) ∧ (chk 7 g = false → chk 7 h = false) ∧ h.length ≤ 11 := by
  have hm : mn (g.length : Int) 11 = ((min g.length 11 : Nat) : Int) := mn_nat g.length 11
  refine ⟨g.take (min g.length 11), ?_, ?_, ?_, ?_⟩
  · unfold lampblacklaw03_Few.f slices_Clone_Graph.f
    simp only [hm, Int.toNat_natCast]
    rw [if_pos (by omega), if_pos (by omega)]
    simp only [Option.bind_some, List.length_nil, List.nil_append]
    rw [if_pos (by rw [List.length_take]; omega)]
    rfl
  · intro h
    simp only [chk, Bool.and_eq_true, decide_eq_true_eq] at h
    exact List.take_of_length_le (by omega)
  · intro h
    by_cases hl : g.length ≤ 11
    · rw [List.take_of_length_le (by omega)]; exact h
    · unfold chk
      have : ¬ (List.take (min g.length 11) g).length ≤ 7 := by rw [List.length_take]; omega
      rw [decide_eq_false this, Bool.and_false, Bool.false_and]
  · rw [List.length_take]; omega
end Go.Proofs.YtijfddobandcdaaDoor.X
end
section
/- Lists that have the numbers below n, each once. -/
set_option linter.unusedVariables false
namespace Go.Proofs.YtijfddobandcdaaDoor.T
open Go.RowKit Go.Proofs.YtijfddobandcdaaDoorW.PrintWords Go.Proofs.YtijfddobandcdaaDoorW.PrintLast Go.Proofs.YtijfddobandcdaaDoorW.PrintMore

/-- l has the numbers below n, each once. -/
def IsOrd (n : Nat) (l : List Int) : Prop := ∃ P : List Nat, l = gi P ∧ P.Nodup ∧ (∀ v ∈ P, v < n) ∧ P.length = n
theorem gi_inj {a b : List Nat} (h : gi a = gi b) : a = b := by
  induction a generalizing b with
  | nil => cases b with
    | nil => rfl
    | cons => simp [gi] at h
  | cons x a ih => cases b with
    | nil => simp [gi] at h
    | cons y b =>
      simp only [gi, List.map_cons, List.cons.injEq] at h
      rw [ih (show gi a = gi b from h.2)]
      congr 1
      omega
theorem gi_take (P : List Nat) (i : Nat) : (gi P).take i = gi (P.take i) := by simp [gi, List.map_take]
theorem gi_snoc (P : List Nat) (v : Nat) : gi P ++ [(v : Int)] = gi (P ++ [v]) := by simp [gi]
theorem gi_mem {P : List Nat} {v : Nat} : (v : Int) ∈ gi P ↔ v ∈ P := by
  unfold gi
  rw [List.mem_map]
  exact ⟨fun ⟨a, h1, h2⟩ => by have : a = v := by omega
                               exact this ▸ h1, fun h => ⟨v, h, rfl⟩⟩
theorem split_dup {P : List Nat} (h : ¬ P.Nodup) : ∃ L x R, P = L ++ x :: R ∧ x ∈ R := by
  induction P with
  | nil => exact (h List.nodup_nil).elim
  | cons a P ih =>
    by_cases ha : a ∈ P
    · exact ⟨[], a, P, rfl, ha⟩
    · obtain ⟨L, x, R, h1, h2⟩ := ih fun hn => h (List.nodup_cons.2 ⟨ha, hn⟩)
      exact ⟨a :: L, x, R, by rw [h1]; rfl, h2⟩
theorem nodup_of_covers {P : List Nat} {n : Nat} (hl : P.length ≤ n) (h : ∀ j, j < n → j ∈ P) : P.Nodup := by
  apply Classical.byContradiction
  intro hn
  obtain ⟨L, x, R, e, hx⟩ := split_dup hn
  have := nodup_le (List.nodup_range (n := n)) (m := L ++ R) fun j hj => by
    have h1 := h j (List.mem_range.1 hj)
    rw [e] at h1
    rcases List.mem_append.1 h1 with h2 | h2
    · exact List.mem_append_left _ h2
    · rcases List.mem_cons.1 h2 with h3 | h3
      · subst h3; exact List.mem_append_right _ hx
      · exact List.mem_append_right _ h3
  rw [e] at hl
  simp at this hl
  omega
theorem covers_of_nodup {P : List Nat} {n : Nat} (hl : P.length = n) (hn : P.Nodup) (h : ∀ v ∈ P, v < n) (j : Nat) (hj : j < n) : j ∈ P := by
  apply Classical.byContradiction
  intro hno
  have := nodup_le (List.nodup_cons.2 ⟨hno, hn⟩) (m := List.range n) fun x hx => by
    rcases List.mem_cons.1 hx with e | e
    · subst e; exact List.mem_range.2 hj
    · exact List.mem_range.2 (h x e)
  simp at this
  omega
/-- The set of a list's numbers. -/
def lset : List Nat → Nat
  | [] => 0
  | v :: P => lset P ||| 2 ^ v
theorem lset_bit (P : List Nat) (j : Nat) : bset (lset P) j ↔ j ∈ P := by
  induction P with
  | nil => simp [lset, bset]
  | cons v P ih => rw [lset, or_bset, ih, two_pow_bit, List.mem_cons]; exact Or.comm
theorem lset_lt {P : List Nat} {n : Nat} (h : ∀ v ∈ P, v < n) : lset P < 2 ^ n := lt_of_bits fun j hj => h j ((lset_bit P j).1 hj)
theorem lset_snoc (P : List Nat) (v : Nat) : lset (P ++ [v]) = lset P ||| 2 ^ v := eq_of_bits fun j => by
  show bset _ _ ↔ bset _ _
  rw [lset_bit, or_bset, lset_bit, two_pow_bit, List.mem_append, List.mem_singleton]
theorem take_snoc {l : List Int} {i : Nat} {P : List Nat} (h : l.take i = gi P) (hi : i < l.length) (v : Nat) (hv : rd l (i : Int) = (v : Int)) : l.take (i + 1) = gi (P ++ [v]) := by
  rw [List.take_add_one, h, ← gi_snoc]
  congr 1
  unfold rd at hv
  rw [Int.toNat_natCast, List.getD_eq_getElem?_getD, List.getElem?_eq_getElem hi] at hv
  rw [List.getElem?_eq_getElem hi]
  simp at hv ⊢
  exact hv
theorem IsOrd.get {n : Nat} {l : List Int} (h : IsOrd n l) (i : Nat) (hi : i < l.length) : ∃ v : Nat, rd l (i : Int) = (v : Int) ∧ v < n := by
  obtain ⟨P, rfl, _, h3, _⟩ := h
  rw [gi_length] at hi
  refine ⟨P.getD i 0, rd_gi P i, h3 _ ?_⟩
  rw [List.getD_eq_getElem?_getD, List.getElem?_eq_getElem hi]
  exact List.getElem_mem hi
theorem IsOrd.fresh {n : Nat} {l : List Int} (h : IsOrd n l) {i : Nat} (hi : i < l.length) {P : List Nat} (hP : l.take i = gi P) {v : Nat} (hv : rd l (i : Int) = (v : Int)) : v ∉ P := by
  obtain ⟨Q, rfl, h2, _, _⟩ := h
  have e : P = Q.take i := gi_inj (by rw [← hP, gi_take])
  rw [gi_length] at hi
  have hv' : Q.getD i 0 = v := by have := rd_gi Q i; rw [hv] at this; omega
  rw [List.getD_eq_getElem?_getD, List.getElem?_eq_getElem hi] at hv'
  have hv2 : Q[i] = v := hv'
  subst e
  intro hm
  rw [← List.take_append_drop i Q, List.nodup_append] at h2
  have hd : v ∈ Q.drop i := by rw [List.drop_eq_getElem_cons hi, hv2]; exact List.mem_cons_self
  exact h2.2.2 v hm v hd rfl
theorem IsOrd.of {n : Nat} {P : List Nat} (h1 : P.Nodup) (h2 : ∀ v ∈ P, v < n) : IsOrd n (gi P) ↔ P.length = n := by
  constructor
  · rintro ⟨Q, e, _, _, h⟩
    rw [gi_inj e]; exact h
  · intro h; exact ⟨P, rfl, h1, h2, h⟩
theorem IsOrd.length {n : Nat} {l : List Int} (h : IsOrd n l) : l.length = n := by
  obtain ⟨P, rfl, _, _, h⟩ := h
  rw [gi_length, h]
end Go.Proofs.YtijfddobandcdaaDoor.T
end
section
/- Path decompositions: bags in a row; the runs of a node; backward. -/
set_option linter.unusedVariables false
namespace Go.Proofs.YtijfddobandcdaaDoor.T
open Go.RowKit Go.Proofs.YtijfddobandcdaaDoorW.PrintWords Go.Proofs.YtijfddobandcdaaDoorW.PrintLast Go.Proofs.YtijfddobandcdaaDoorW.PrintMore

/-- How often a row of marks begins anew; p: the mark ahead of it. -/
def starts (p : Bool) : List Bool → Nat
  | [] => 0
  | b :: L => (if b = true ∧ p = false then 1 else 0) + starts b L
theorem starts_true0 : ∀ L : List Bool, starts true L = 0 ↔ ∃ b c, L = List.replicate b true ++ List.replicate c false
  | [] => ⟨fun _ => ⟨0, 0, rfl⟩, fun _ => rfl⟩
  | true :: L => by
    simp only [starts]
    rw [if_neg (by simp), Nat.zero_add, starts_true0 L]
    constructor
    · rintro ⟨b, c, rfl⟩; exact ⟨b + 1, c, by simp [List.replicate_succ]⟩
    · rintro ⟨b, c, h⟩
      cases b with
      | zero => cases c <;> simp [List.replicate_succ] at h
      | succ b => simp [List.replicate_succ] at h; exact ⟨b, c, h⟩
  | false :: L => by
    simp only [starts]
    rw [if_neg (by simp), Nat.zero_add]
    have h0 : ∀ M : List Bool, starts false M = 0 ↔ ∃ c, M = List.replicate c false := by
      intro M
      induction M with
      | nil => exact ⟨fun _ => ⟨0, rfl⟩, fun _ => rfl⟩
      | cons x M ih =>
        cases x with
        | true => simp only [starts]; constructor
                  · intro h; simp at h
                  · rintro ⟨c, h⟩; cases c <;> simp [List.replicate_succ] at h
        | false => simp only [starts]; rw [if_neg (by simp), Nat.zero_add, ih]; constructor
                   · rintro ⟨c, rfl⟩; exact ⟨c + 1, by simp [List.replicate_succ]⟩
                   · rintro ⟨c, h⟩
                     cases c with
                     | zero => simp at h
                     | succ c => simp [List.replicate_succ] at h; exact ⟨c, h⟩
    rw [h0 L]
    constructor
    · rintro ⟨c, rfl⟩; exact ⟨0, c + 1, by simp [List.replicate_succ]⟩
    · rintro ⟨b, c, h⟩
      cases b with
      | zero => cases c with
        | zero => simp at h
        | succ c => simp [List.replicate_succ] at h; exact ⟨c, h⟩
      | succ b => simp [List.replicate_succ] at h
/-- One run: nothing, marks, nothing. -/
def OneRun (L : List Bool) : Prop := ∃ a b c, L = List.replicate a false ++ (List.replicate (b + 1) true ++ List.replicate c false)
theorem starts_one : ∀ L : List Bool, starts false L = 1 ↔ OneRun L
  | [] => ⟨fun h => by simp [starts] at h, fun ⟨a, b, c, h⟩ => by simp [List.replicate_succ] at h⟩
  | true :: L => by
    simp only [starts]
    rw [if_pos (by simp)]
    have e : 1 + starts true L = 1 ↔ starts true L = 0 := by omega
    rw [e, starts_true0 L]
    constructor
    · rintro ⟨b, c, rfl⟩; exact ⟨0, b, c, by simp [List.replicate_succ]⟩
    · rintro ⟨a, b, c, h⟩
      cases a with
      | zero => simp [List.replicate_succ] at h; exact ⟨b, c, h⟩
      | succ a => simp [List.replicate_succ] at h
  | false :: L => by
    simp only [starts]
    rw [if_neg (by simp), Nat.zero_add, starts_one L]
    constructor
    · rintro ⟨a, b, c, rfl⟩; exact ⟨a + 1, b, c, by simp [List.replicate_succ]⟩
    · rintro ⟨a, b, c, h⟩
      cases a with
      | zero => simp [List.replicate_succ] at h
      | succ a => simp only [List.replicate_succ, List.cons_append, List.cons.injEq, true_and] at h; exact ⟨a, b, c, by rw [h, List.replicate_succ]; rfl⟩
theorem OneRun.reverse {L : List Bool} (h : OneRun L) : OneRun L.reverse := by
  obtain ⟨a, b, c, rfl⟩ := h
  exact ⟨c, b, a, by simp [List.append_assoc]⟩
/-- Node v's marks in a row of bags. -/
def marks (v : Nat) (B : List Nat) : List Bool := B.map fun b => b.testBit v
/-- A path decomposition of at most 30 bags. -/
structure PathDec (G : List Nat) (B : List Nat) : Prop where
  pos : 1 ≤ B.length
  most : B.length ≤ 30
  lt : ∀ b ∈ B, b < 2 ^ G.length
  run : ∀ v, v < G.length → OneRun (marks v B)
  edge : ∀ v u, v < G.length → Adj G v u → ∃ b ∈ B, bset b v ∧ bset b u
theorem PathDec.reverse {G B : List Nat} (h : PathDec G B) : PathDec G B.reverse where
  pos := by rw [List.length_reverse]; exact h.pos
  most := by rw [List.length_reverse]; exact h.most
  lt := fun b hb => h.lt b (List.mem_reverse.1 hb)
  run := fun v hv => by
    have := (h.run v hv).reverse
    unfold marks at *
    rwa [List.map_reverse]
  edge := fun v u hv ha => by
    obtain ⟨b, hb, h1⟩ := h.edge v u hv ha
    exact ⟨b, List.mem_reverse.2 hb, h1⟩
/-- The most nodes that a bag has. -/
def mostOf (B : List Nat) : Nat := B.foldr (fun b m => max (pc b 9) m) 0
theorem mostOf_le {B : List Nat} {q : Nat} : mostOf B ≤ q ↔ ∀ b ∈ B, pc b 9 ≤ q := by
  unfold mostOf
  induction B with
  | nil => simp
  | cons b B ih => simp only [List.foldr_cons, Nat.max_le, ih, List.forall_mem_cons]
theorem mostOf_reverse (B : List Nat) : mostOf B.reverse = mostOf B :=
  Nat.le_antisymm (mostOf_le.2 fun b hb => mostOf_le.1 (Nat.le_refl _) b (List.mem_reverse.1 hb)) (mostOf_le.2 fun b hb => mostOf_le.1 (Nat.le_refl _) b (List.mem_reverse.2 hb))
/-- What is left of a set when the bags with v have been taken away. -/
def left (v : Nat) : Nat → List Nat → Nat
  | s, [] => s
  | s, b :: B => left v (if b.testBit v then diff s b else s) B
theorem left_zero (v : Nat) : ∀ (B : List Nat) (s : Nat), left v s B = 0 ↔ ∀ u, bset s u → ∃ b ∈ B, bset b v ∧ bset b u
  | [], s => by
    simp only [left]
    constructor
    · intro h u hu; rw [h] at hu; unfold bset at hu; simp at hu
    · intro h
      apply Classical.byContradiction
      intro h0
      obtain ⟨i, hi⟩ := Nat.exists_testBit_of_ne_zero h0
      obtain ⟨b, hb, _⟩ := h i hi
      simp at hb
  | b :: B, s => by
    simp only [left]
    rw [left_zero v B]
    by_cases hb : b.testBit v = true
    · rw [if_pos hb]
      constructor
      · intro h u hu
        by_cases hbu : bset b u
        · exact ⟨b, List.mem_cons_self, hb, hbu⟩
        · obtain ⟨x, hx, h2⟩ := h u ((diff_bset _ _ _).2 ⟨hu, hbu⟩)
          exact ⟨x, List.mem_cons_of_mem _ hx, h2⟩
      · intro h u hu
        obtain ⟨hu1, hu2⟩ := (diff_bset _ _ _).1 hu
        obtain ⟨x, hx, h2, h3⟩ := h u hu1
        rcases List.mem_cons.1 hx with e | e
        · subst e; exact (hu2 h3).elim
        · exact ⟨x, e, h2, h3⟩
    · rw [if_neg hb]
      constructor
      · intro h u hu
        obtain ⟨x, hx, h2⟩ := h u hu
        exact ⟨x, List.mem_cons_of_mem _ hx, h2⟩
      · intro h u hu
        obtain ⟨x, hx, h2, h3⟩ := h u hu
        rcases List.mem_cons.1 hx with e | e
        · subst e; exact (hb h2).elim
        · exact ⟨x, e, h2, h3⟩
theorem left_lt (v n : Nat) : ∀ (B : List Nat) (s : Nat), s < 2 ^ n → left v s B < 2 ^ n
  | [], s, h => h
  | b :: B, s, h => by
    simp only [left]
    refine left_lt v n B _ ?_
    split
    · exact Nat.lt_of_le_of_lt (diff_le _ _) h
    · exact h
end Go.Proofs.YtijfddobandcdaaDoor.T
end
section
-- by ownprint.py (wip/tool), over the kit's print
namespace Go.Proofs.YtijfddobandcdaaDoor.X
open Go.RowKit Go.Proofs.YtijfddobandcdaaDoorW.PrintWords Go.Proofs.YtijfddobandcdaaDoorW.PrintLast Go.Proofs.YtijfddobandcdaaDoorW.PrintMore
attribute [local go_sem] max2_int min2_int max_two min_two max_three min_three max_four min_four
set_option linter.unusedVariables false
set_option linter.unusedSimpArgs false

/-! ### slices_Max_int_int: function 76 -/
def slices_Max_int_int.l0 : Nat → List Int → Int → Int → Option (Int)
  | 0, _, _, _ => none
  | k + 1, x0, x3, x4 => if x4 < (x0.length : Int) then (if 0 ≤ x4 then (slices_Max_int_int.l0 k x0 (mx x3 (rd x0 x4)) (wrap64 (x4 + 1))) else (none)) else (some x3)
def slices_Max_int_int.f (k : Nat) (l0 : List Int) : Option (Int) := if (l0.length : Int) < 1 then (none) else (if 0 < (l0.length : Int) then (slices_Max_int_int.l0 k l0 (rd l0 0) 1) else (none))
theorem slices_Max_int_int.mono_l : ∀ k, (∀ y0 y1 y2, LeO (slices_Max_int_int.l0 k y0 y1 y2) (slices_Max_int_int.l0 (k + 1) y0 y1 y2))
  | 0 => fun _ _ _ r h => by simp [slices_Max_int_int.l0] at h
  | k + 1 => by
    have ih0 := slices_Max_int_int.mono_l k
    · intro y0 y1 y2
      unfold slices_Max_int_int.l0
      repeat' first
      | (with_reducible exact ih0 _ _ _)
      | (with_reducible exact LeO.refl _)
      | (with_reducible exact LeO.none _)
      | (with_reducible refine LeO.ite ?_ ?_)
      | (with_reducible refine LeO.bind ?_ (fun _ => ?_))
      | exact ih0 _ _ _
      | exact LeO.none _
      | refine LeO.ite ?_ ?_
      | refine LeO.bind ?_ (fun _ => ?_)
theorem slices_Max_int_int.mono : ∀ a0 k, LeO (slices_Max_int_int.f k a0) (slices_Max_int_int.f (k + 1) a0) := by
  intro a0 k
  have ih0 := slices_Max_int_int.mono_l k
  unfold slices_Max_int_int.f
  repeat' first
      | (with_reducible exact ih0 _ _ _)
      | (with_reducible exact LeO.refl _)
      | (with_reducible exact LeO.none _)
      | (with_reducible refine LeO.ite ?_ ?_)
      | (with_reducible refine LeO.bind ?_ (fun _ => ?_))
      | exact ih0 _ _ _
      | exact LeO.none _
      | refine LeO.ite ?_ ?_
      | refine LeO.bind ?_ (fun _ => ?_)
set_option maxHeartbeats 8000000 in
set_option maxRecDepth 100000 in
theorem slices_Max_int_int.calls (k : Nat) (A0 : Option Addr) (c0 : Nat) (l0 : List Int) (r : Int) (w : World) (hr0 : Kd.C (Kd.int .i64) w A0 l0.length l0) (hc0 : l0.length ≤ c0) (h : slices_Max_int_int.f k l0 = some r) :
    Calls Tryd.prog 76 #[.slice A0 l0.length c0] w fun e w' => e = .returned (.int .i64 r) ∧ Below w.heap.size w w' := by
  have HR0 := Aside0.mk hr0
  have HC0 := Aside0.mk hc0
  clear hr0 hc0
  have HB := Aside0.mk (Below.refl w.heap.size w)
  have H : (if (l0.length : Int) < 1 then (none) else (if 0 < (l0.length : Int) then (slices_Max_int_int.l0 k l0 (rd l0 0) 1) else (none))) = some r := h
  clear h
  by_cases c2 : (l0.length : Int) < 1
  · rw [if_pos c2] at H
    exact absurd H (by simp)
  · rw [if_neg c2] at H
    have c2b0 : decide ((l0.length : Int) < 1) = false := decide_eq_false c2
    have c2b1 : decide (l0.length < 1) = false := decide_eq_false (by omega)
    clear c2
    by_cases c3 : 0 < (l0.length : Int)
    · rw [if_pos c3] at H
      have c3b0 : decide (0 < (l0.length : Int)) = true := decide_eq_true c3
      have c3b1 : decide (0 < l0.length) = true := decide_eq_true (by omega)
      clear c3
      have H' := Aside0.mk H
      clear H
      have p332 : 0 ≤ (0 : Int) := (by omega)
      have q332 : 0 < (l0.length : Int) := of_decide_eq_true (by first | (with_reducible assumption) | assumption)
      obtain ⟨ad332, e332, hx332_0⟩ := Kd.at_int HR0.out 0 p332 q332
      cases e332
      have qi332 : (0 < l0.length) = True := eq_true (by omega)
      (try rw [show ((0 : Int)).toNat = 0 from rfl] at hx332_0)
      (try rw [Addr.add_zero'] at hx332_0)
      replace p332 := eq_true p332
      replace q332 := eq_true q332
      go_enter Tryd.func76, Tryd.ntmps76
      go_wp2
      go_loopg [3, 4] k (fun kq v3 v4 w' => ∃ (x3_1 : Int) (x4_1 : Int), v3 = .int .i64 x3_1 ∧ v4 = .int .i64 x4_1 ∧ Aside0 (slices_Max_int_int.l0 kq l0 x3_1 x4_1 = some r) ∧ Aside0 (kq ≤ k) ∧ Aside0 (Below w.heap.size w w'))
      case atStart => exact ⟨(rd l0 0), (1), (by first | rfl | (simp; done) | (simp [*]; done)), (by first | rfl | (simp; done) | (simp [*]; done)), H', ⟨Nat.le_refl _⟩, ⟨by repeat (first | (with_reducible first | exact HB.out | apply below_alloc | apply pw_below_drewN | apply below_drew1) | exact HB.out)⟩⟩
      case round =>
        clear H'
        try clear c2
        try clear c2b0
        try clear c2b1
        try clear p2
        try clear c3
        try clear c3b0
        try clear c3b1
        try clear p3
        try clear q3
        try clear hx3
        try clear qi3
        try clear hx332_0
        try clear p332
        try clear q332
        obtain ⟨x3_1, x4_1, rfl, rfl, HA, HK1, HB⟩ := hrel
        cases gk with
        | zero => exact absurd HA.out (by simp [slices_Max_int_int.l0])
        | succ k1 =>
          have H := HA.out
          clear HA
          simp only [slices_Max_int_int.l0] at H
          by_cases c4 : x4_1 < (l0.length : Int)
          · rw [if_pos c4] at H
            have c4b0 : decide (x4_1 < (l0.length : Int)) = true := decide_eq_true c4
            clear c4
            by_cases c5 : 0 ≤ x4_1
            · rw [if_pos c5] at H
              have c5b0 : decide (0 ≤ x4_1) = true := decide_eq_true c5
              clear c5
              obtain ⟨ji6, hji6⟩ : ∃ j_ : Int, (mx x3_1 (rd l0 x4_1)) = j_ := ⟨_, rfl⟩
              replace H : (slices_Max_int_int.l0 k1 l0 ji6 (wrap64 (x4_1 + 1))) = some r := by first | (rw [hji6] at H; exact H) | (simp only [hji6] at H ⊢; exact H)
              have hji6_ : (if x3_1 < (rd l0 x4_1) then (rd l0 x4_1) else x3_1) = ji6 := hji6
              have H' := Aside0.mk H
              clear H
              have p333 : 0 ≤ (x4_1 : Int) := of_decide_eq_true (by first | (with_reducible assumption) | assumption)
              have q333 : x4_1 < (l0.length : Int) := of_decide_eq_true (by first | (with_reducible assumption) | assumption)
              obtain ⟨ad333, e333, hx333_0⟩ := Kd.at_int HR0.out x4_1 p333 q333
              obtain rfl : ad332 = ad333 := (by injection e333)
              replace hx333_0 := (HB.out.cell (World.block_lt_of_cell? w _ hx333_0)).trans hx333_0
              replace p333 := eq_true p333
              replace q333 := eq_true q333
              go_wp2
              go_roundg k1
              case measure => have := HK1.out; omega
              case rel => exact ⟨(ji6), (wrap64 (x4_1 + 1)), (by first | rfl | (simp; done) | (simp only [← hji6] <;> (first | rfl | simp)) | (simp [*]; done)), (by first | rfl | (simp; done) | (simp [*]; done)), H', ⟨by have := HK1.out; omega⟩, ⟨by repeat (first | (with_reducible first | exact HB.out | apply below_alloc | apply pw_below_drewN | apply below_drew1) | exact HB.out)⟩⟩
            · rw [if_neg c5] at H
              exact absurd H (by simp)
          · rw [if_neg c4] at H
            have c4b0 : decide (x4_1 < (l0.length : Int)) = false := decide_eq_false c4
            clear c4
            obtain rfl := Option.some.inj H
            go_wp2
            go_ret
            exact ⟨by first | rfl | (simp [errW_none, errW_some] <;> rfl) | (simp [*, errW_none, errW_some] <;> rfl), by repeat (first | (with_reducible first | exact HB.out | apply below_alloc | apply pw_below_drewN | apply below_drew1) | exact HB.out)⟩
    · rw [if_neg c3] at H
      exact absurd H (by simp)

end Go.Proofs.YtijfddobandcdaaDoor.X
end
section
-- by ownprint.py (wip/tool), over the kit's print
namespace Go.Proofs.YtijfddobandcdaaDoor.X
open Go.RowKit Go.Proofs.YtijfddobandcdaaDoorW.PrintWords Go.Proofs.YtijfddobandcdaaDoorW.PrintLast Go.Proofs.YtijfddobandcdaaDoorW.PrintMore
attribute [local go_sem] max2_int min2_int max_two min_two max_three min_three max_four min_four
set_option linter.unusedVariables false
set_option linter.unusedSimpArgs false

/-! ### slices_Min_int_int: function 75 -/
def slices_Min_int_int.l0 : Nat → List Int → Int → Int → Option (Int)
  | 0, _, _, _ => none
  | k + 1, x0, x3, x4 => if x4 < (x0.length : Int) then (if 0 ≤ x4 then (slices_Min_int_int.l0 k x0 (mn x3 (rd x0 x4)) (wrap64 (x4 + 1))) else (none)) else (some x3)
def slices_Min_int_int.f (k : Nat) (l0 : List Int) : Option (Int) := if (l0.length : Int) < 1 then (none) else (if 0 < (l0.length : Int) then (slices_Min_int_int.l0 k l0 (rd l0 0) 1) else (none))
theorem slices_Min_int_int.mono_l : ∀ k, (∀ y0 y1 y2, LeO (slices_Min_int_int.l0 k y0 y1 y2) (slices_Min_int_int.l0 (k + 1) y0 y1 y2))
  | 0 => fun _ _ _ r h => by simp [slices_Min_int_int.l0] at h
  | k + 1 => by
    have ih0 := slices_Min_int_int.mono_l k
    · intro y0 y1 y2
      unfold slices_Min_int_int.l0
      repeat' first
      | (with_reducible exact ih0 _ _ _)
      | (with_reducible exact LeO.refl _)
      | (with_reducible exact LeO.none _)
      | (with_reducible refine LeO.ite ?_ ?_)
      | (with_reducible refine LeO.bind ?_ (fun _ => ?_))
      | exact ih0 _ _ _
      | exact LeO.none _
      | refine LeO.ite ?_ ?_
      | refine LeO.bind ?_ (fun _ => ?_)
theorem slices_Min_int_int.mono : ∀ a0 k, LeO (slices_Min_int_int.f k a0) (slices_Min_int_int.f (k + 1) a0) := by
  intro a0 k
  have ih0 := slices_Min_int_int.mono_l k
  unfold slices_Min_int_int.f
  repeat' first
      | (with_reducible exact ih0 _ _ _)
      | (with_reducible exact LeO.refl _)
      | (with_reducible exact LeO.none _)
      | (with_reducible refine LeO.ite ?_ ?_)
      | (with_reducible refine LeO.bind ?_ (fun _ => ?_))
      | exact ih0 _ _ _
      | exact LeO.none _
      | refine LeO.ite ?_ ?_
      | refine LeO.bind ?_ (fun _ => ?_)
set_option maxHeartbeats 8000000 in
set_option maxRecDepth 100000 in
theorem slices_Min_int_int.calls (k : Nat) (A0 : Option Addr) (c0 : Nat) (l0 : List Int) (r : Int) (w : World) (hr0 : Kd.C (Kd.int .i64) w A0 l0.length l0) (hc0 : l0.length ≤ c0) (h : slices_Min_int_int.f k l0 = some r) :
    Calls Tryd.prog 75 #[.slice A0 l0.length c0] w fun e w' => e = .returned (.int .i64 r) ∧ Below w.heap.size w w' := by
  have HR0 := Aside0.mk hr0
  have HC0 := Aside0.mk hc0
  clear hr0 hc0
  have HB := Aside0.mk (Below.refl w.heap.size w)
  have H : (if (l0.length : Int) < 1 then (none) else (if 0 < (l0.length : Int) then (slices_Min_int_int.l0 k l0 (rd l0 0) 1) else (none))) = some r := h
  clear h
  by_cases c2 : (l0.length : Int) < 1
  · rw [if_pos c2] at H
    exact absurd H (by simp)
  · rw [if_neg c2] at H
    have c2b0 : decide ((l0.length : Int) < 1) = false := decide_eq_false c2
    have c2b1 : decide (l0.length < 1) = false := decide_eq_false (by omega)
    clear c2
    by_cases c3 : 0 < (l0.length : Int)
    · rw [if_pos c3] at H
      have c3b0 : decide (0 < (l0.length : Int)) = true := decide_eq_true c3
      have c3b1 : decide (0 < l0.length) = true := decide_eq_true (by omega)
      clear c3
      have H' := Aside0.mk H
      clear H
      have p330 : 0 ≤ (0 : Int) := (by omega)
      have q330 : 0 < (l0.length : Int) := of_decide_eq_true (by first | (with_reducible assumption) | assumption)
      obtain ⟨ad330, e330, hx330_0⟩ := Kd.at_int HR0.out 0 p330 q330
      cases e330
      have qi330 : (0 < l0.length) = True := eq_true (by omega)
      (try rw [show ((0 : Int)).toNat = 0 from rfl] at hx330_0)
      (try rw [Addr.add_zero'] at hx330_0)
      replace p330 := eq_true p330
      replace q330 := eq_true q330
      go_enter Tryd.func75, Tryd.ntmps75
      go_wp2
      go_loopg [3, 4] k (fun kq v3 v4 w' => ∃ (x3_1 : Int) (x4_1 : Int), v3 = .int .i64 x3_1 ∧ v4 = .int .i64 x4_1 ∧ Aside0 (slices_Min_int_int.l0 kq l0 x3_1 x4_1 = some r) ∧ Aside0 (kq ≤ k) ∧ Aside0 (Below w.heap.size w w'))
      case atStart => exact ⟨(rd l0 0), (1), (by first | rfl | (simp; done) | (simp [*]; done)), (by first | rfl | (simp; done) | (simp [*]; done)), H', ⟨Nat.le_refl _⟩, ⟨by repeat (first | (with_reducible first | exact HB.out | apply below_alloc | apply pw_below_drewN | apply below_drew1) | exact HB.out)⟩⟩
      case round =>
        clear H'
        try clear c2
        try clear c2b0
        try clear c2b1
        try clear p2
        try clear c3
        try clear c3b0
        try clear c3b1
        try clear p3
        try clear q3
        try clear hx3
        try clear qi3
        try clear hx330_0
        try clear p330
        try clear q330
        obtain ⟨x3_1, x4_1, rfl, rfl, HA, HK1, HB⟩ := hrel
        cases gk with
        | zero => exact absurd HA.out (by simp [slices_Min_int_int.l0])
        | succ k1 =>
          have H := HA.out
          clear HA
          simp only [slices_Min_int_int.l0] at H
          by_cases c4 : x4_1 < (l0.length : Int)
          · rw [if_pos c4] at H
            have c4b0 : decide (x4_1 < (l0.length : Int)) = true := decide_eq_true c4
            clear c4
            by_cases c5 : 0 ≤ x4_1
            · rw [if_pos c5] at H
              have c5b0 : decide (0 ≤ x4_1) = true := decide_eq_true c5
              clear c5
              obtain ⟨ji6, hji6⟩ : ∃ j_ : Int, (mn x3_1 (rd l0 x4_1)) = j_ := ⟨_, rfl⟩
              replace H : (slices_Min_int_int.l0 k1 l0 ji6 (wrap64 (x4_1 + 1))) = some r := by first | (rw [hji6] at H; exact H) | (simp only [hji6] at H ⊢; exact H)
              have hji6_ : (if (rd l0 x4_1) < x3_1 then (rd l0 x4_1) else x3_1) = ji6 := hji6
              have H' := Aside0.mk H
              clear H
              have p331 : 0 ≤ (x4_1 : Int) := of_decide_eq_true (by first | (with_reducible assumption) | assumption)
              have q331 : x4_1 < (l0.length : Int) := of_decide_eq_true (by first | (with_reducible assumption) | assumption)
              obtain ⟨ad331, e331, hx331_0⟩ := Kd.at_int HR0.out x4_1 p331 q331
              obtain rfl : ad330 = ad331 := (by injection e331)
              replace hx331_0 := (HB.out.cell (World.block_lt_of_cell? w _ hx331_0)).trans hx331_0
              replace p331 := eq_true p331
              replace q331 := eq_true q331
              go_wp2
              go_roundg k1
              case measure => have := HK1.out; omega
              case rel => exact ⟨(ji6), (wrap64 (x4_1 + 1)), (by first | rfl | (simp; done) | (simp only [← hji6] <;> (first | rfl | simp)) | (simp [*]; done)), (by first | rfl | (simp; done) | (simp [*]; done)), H', ⟨by have := HK1.out; omega⟩, ⟨by repeat (first | (with_reducible first | exact HB.out | apply below_alloc | apply pw_below_drewN | apply below_drew1) | exact HB.out)⟩⟩
            · rw [if_neg c5] at H
              exact absurd H (by simp)
          · rw [if_neg c4] at H
            have c4b0 : decide (x4_1 < (l0.length : Int)) = false := decide_eq_false c4
            clear c4
            obtain rfl := Option.some.inj H
            go_wp2
            go_ret
            exact ⟨by first | rfl | (simp [errW_none, errW_some] <;> rfl) | (simp [*, errW_none, errW_some] <;> rfl), by repeat (first | (with_reducible first | exact HB.out | apply below_alloc | apply pw_below_drewN | apply below_drew1) | exact HB.out)⟩
    · rw [if_neg c3] at H
      exact absurd H (by simp)

end Go.Proofs.YtijfddobandcdaaDoor.X
end
section
-- by ownprint.py (wip/tool), over the kit's print
namespace Go.Proofs.YtijfddobandcdaaDoor.X
open Go.RowKit Go.Proofs.YtijfddobandcdaaDoorW.PrintWords Go.Proofs.YtijfddobandcdaaDoorW.PrintLast Go.Proofs.YtijfddobandcdaaDoorW.PrintMore
attribute [local go_sem] max2_int min2_int max_two min_two max_three min_three max_four min_four
set_option linter.unusedVariables false
set_option linter.unusedSimpArgs false

/-! ### sweep_town_isPath: function 62 -/
mutual
def sweep_town_isPath.j0 : Nat → List Int → List Int → Bool → Option (Bool)
  | 0, _, _, _ => none
  | k + 1, x0, x1, x29 => if x29 = true then (some false) else (sweep_town_isPath.l0 k x1 x0 (x0.length : Int) 0)
def sweep_town_isPath.l0 : Nat → List Int → List Int → Int → Int → Option (Bool)
  | 0, _, _, _, _ => none
  | k + 1, x1, x30, x31, x32 => if x32 < x31 then (if 0 ≤ x32 then (if x32 < (x30.length : Int) then (sweep_town_isPath.l1 k x1 x32 (rd x30 x32) 0 x30 x31 x32 x1 (x1.length : Int) 0) else (none)) else (none)) else (some true)
def sweep_town_isPath.l1 : Nat → List Int → Int → Int → Int → List Int → Int → Int → List Int → Int → Int → Option (Bool)
  | 0, _, _, _, _, _, _, _, _, _, _ => none
  | k + 1, x1, x5, x6, x7, x30, x31, x32, x37, x38, x39 => if x39 < x38 then (if 0 ≤ x39 then (if x39 < (x37.length : Int) then (if 0 ≤ x5 then (if (Go.bits .and .i64 (shr .i64 (rd x37 x39) x5) 1) = 1 then (if x39 = 0 then (sweep_town_isPath.j3 k x1 x5 x6 x7 (rd x37 x39) x30 x31 x32 x37 x38 x39 true) else (if 0 ≤ (wrap64 (x39 - 1)) then (if (wrap64 (x39 - 1)) < (x1.length : Int) then (sweep_town_isPath.j3 k x1 x5 x6 x7 (rd x37 x39) x30 x31 x32 x37 x38 x39 ((Go.bits .and .i64 (shr .i64 (rd x1 (wrap64 (x39 - 1))) x5) 1) == 0)) else (none)) else (none))) else (sweep_town_isPath.j3 k x1 x5 x6 x7 (rd x37 x39) x30 x31 x32 x37 x38 x39 false)) else (none)) else (none)) else (none)) else (if x7 = 1 then (if x6 = 0 then (sweep_town_isPath.l0 k x1 x30 x31 (wrap64 (x32 + 1))) else (some false)) else (some false))
def sweep_town_isPath.j3 : Nat → List Int → Int → Int → Int → Int → List Int → Int → Int → List Int → Int → Int → Bool → Option (Bool)
  | 0, _, _, _, _, _, _, _, _, _, _, _, _ => none
  | k + 1, x1, x5, x6, x7, x9, x30, x31, x32, x37, x38, x39, x63 => if x63 = true then (if 0 ≤ x5 then (if (Go.bits .and .i64 (shr .i64 x9 x5) 1) = 1 then (sweep_town_isPath.l1 k x1 x5 (Go.bits .andNot .i64 x6 x9) (wrap64 (x7 + 1)) x30 x31 x32 x37 x38 (wrap64 (x39 + 1))) else (sweep_town_isPath.l1 k x1 x5 x6 (wrap64 (x7 + 1)) x30 x31 x32 x37 x38 (wrap64 (x39 + 1)))) else (none)) else (if 0 ≤ x5 then (if (Go.bits .and .i64 (shr .i64 x9 x5) 1) = 1 then (sweep_town_isPath.l1 k x1 x5 (Go.bits .andNot .i64 x6 x9) x7 x30 x31 x32 x37 x38 (wrap64 (x39 + 1))) else (sweep_town_isPath.l1 k x1 x5 x6 x7 x30 x31 x32 x37 x38 (wrap64 (x39 + 1)))) else (none))
end
def sweep_town_isPath.f (k : Nat) (l0 : List Int) (l1 : List Int) : Option (Bool) := if (l1.length : Int) < 1 then (sweep_town_isPath.j0 k l0 l1 true) else (if (l1.length : Int) > 30 then (sweep_town_isPath.j0 k l0 l1 true) else ((slices_Min_int_int.f k l1).bind fun t334 => (if t334 < 0 then (sweep_town_isPath.j0 k l0 l1 true) else ((slices_Max_int_int.f k l1).bind fun t335 => ((sweep_town_all.f l0).bind fun t336 => (sweep_town_isPath.j0 k l0 l1 (decide (t335 > t336))))))))
theorem sweep_town_isPath.mono_l : ∀ k, (∀ y0 y1 y2, LeO (sweep_town_isPath.j0 k y0 y1 y2) (sweep_town_isPath.j0 (k + 1) y0 y1 y2)) ∧ (∀ y0 y1 y2 y3, LeO (sweep_town_isPath.l0 k y0 y1 y2 y3) (sweep_town_isPath.l0 (k + 1) y0 y1 y2 y3)) ∧ (∀ y0 y1 y2 y3 y4 y5 y6 y7 y8 y9, LeO (sweep_town_isPath.l1 k y0 y1 y2 y3 y4 y5 y6 y7 y8 y9) (sweep_town_isPath.l1 (k + 1) y0 y1 y2 y3 y4 y5 y6 y7 y8 y9)) ∧ (∀ y0 y1 y2 y3 y4 y5 y6 y7 y8 y9 y10 y11, LeO (sweep_town_isPath.j3 k y0 y1 y2 y3 y4 y5 y6 y7 y8 y9 y10 y11) (sweep_town_isPath.j3 (k + 1) y0 y1 y2 y3 y4 y5 y6 y7 y8 y9 y10 y11))
  | 0 => ⟨fun _ _ _ r h => by simp [sweep_town_isPath.j0] at h, fun _ _ _ _ r h => by simp [sweep_town_isPath.l0] at h, fun _ _ _ _ _ _ _ _ _ _ r h => by simp [sweep_town_isPath.l1] at h, fun _ _ _ _ _ _ _ _ _ _ _ _ r h => by simp [sweep_town_isPath.j3] at h⟩
  | k + 1 => by
    obtain ⟨ih0, ih1, ih2, ih3⟩ := sweep_town_isPath.mono_l k
    refine ⟨?_, ?_, ?_, ?_⟩
    · intro y0 y1 y2
      unfold sweep_town_isPath.j0
      repeat' first
      | (with_reducible exact ih0 _ _ _)
      | (with_reducible exact ih1 _ _ _ _)
      | (with_reducible exact ih2 _ _ _ _ _ _ _ _ _ _)
      | (with_reducible exact ih3 _ _ _ _ _ _ _ _ _ _ _ _)
      | (with_reducible exact slices_Max_int_int.mono _ _)
      | (with_reducible exact slices_Min_int_int.mono _ _)
      | (with_reducible exact LeO.refl _)
      | (with_reducible exact LeO.none _)
      | (with_reducible refine LeO.ite ?_ ?_)
      | (with_reducible refine LeO.bind ?_ (fun _ => ?_))
      | exact ih0 _ _ _
      | exact ih1 _ _ _ _
      | exact ih2 _ _ _ _ _ _ _ _ _ _
      | exact ih3 _ _ _ _ _ _ _ _ _ _ _ _
      | exact slices_Max_int_int.mono _ _
      | exact slices_Min_int_int.mono _ _
      | exact LeO.none _
      | refine LeO.ite ?_ ?_
      | refine LeO.bind ?_ (fun _ => ?_)
    · intro y0 y1 y2 y3
      unfold sweep_town_isPath.l0
      repeat' first
      | (with_reducible exact ih0 _ _ _)
      | (with_reducible exact ih1 _ _ _ _)
      | (with_reducible exact ih2 _ _ _ _ _ _ _ _ _ _)
      | (with_reducible exact ih3 _ _ _ _ _ _ _ _ _ _ _ _)
      | (with_reducible exact slices_Max_int_int.mono _ _)
      | (with_reducible exact slices_Min_int_int.mono _ _)
      | (with_reducible exact LeO.refl _)
      | (with_reducible exact LeO.none _)
      | (with_reducible refine LeO.ite ?_ ?_)
      | (with_reducible refine LeO.bind ?_ (fun _ => ?_))
      | exact ih0 _ _ _
      | exact ih1 _ _ _ _
      | exact ih2 _ _ _ _ _ _ _ _ _ _
      | exact ih3 _ _ _ _ _ _ _ _ _ _ _ _
      | exact slices_Max_int_int.mono _ _
      | exact slices_Min_int_int.mono _ _
      | exact LeO.none _
      | refine LeO.ite ?_ ?_
      | refine LeO.bind ?_ (fun _ => ?_)
    · intro y0 y1 y2 y3 y4 y5 y6 y7 y8 y9
      unfold sweep_town_isPath.l1
      repeat' first
      | (with_reducible exact ih0 _ _ _)
      | (with_reducible exact ih1 _ _ _ _)
      | (with_reducible exact ih2 _ _ _ _ _ _ _ _ _ _)
      | (with_reducible exact ih3 _ _ _ _ _ _ _ _ _ _ _ _)
      | (with_reducible exact slices_Max_int_int.mono _ _)
      | (with_reducible exact slices_Min_int_int.mono _ _)
      | (with_reducible exact LeO.refl _)
      | (with_reducible exact LeO.none _)
      | (with_reducible refine LeO.ite ?_ ?_)
      | (with_reducible refine LeO.bind ?_ (fun _ => ?_))
      | exact ih0 _ _ _
      | exact ih1 _ _ _ _
      | exact ih2 _ _ _ _ _ _ _ _ _ _
      | exact ih3 _ _ _ _ _ _ _ _ _ _ _ _
      | exact slices_Max_int_int.mono _ _
      | exact slices_Min_int_int.mono _ _
      | exact LeO.none _
      | refine LeO.ite ?_ ?_
      | refine LeO.bind ?_ (fun _ => ?_)
    · intro y0 y1 y2 y3 y4 y5 y6 y7 y8 y9 y10 y11
      unfold sweep_town_isPath.j3
      repeat' first
      | (with_reducible exact ih0 _ _ _)
      | (with_reducible exact ih1 _ _ _ _)
      | (with_reducible exact ih2 _ _ _ _ _ _ _ _ _ _)
      | (with_reducible exact ih3 _ _ _ _ _ _ _ _ _ _ _ _)
      | (with_reducible exact slices_Max_int_int.mono _ _)
      | (with_reducible exact slices_Min_int_int.mono _ _)
      | (with_reducible exact LeO.refl _)
      | (with_reducible exact LeO.none _)
      | (with_reducible refine LeO.ite ?_ ?_)
      | (with_reducible refine LeO.bind ?_ (fun _ => ?_))
      | exact ih0 _ _ _
      | exact ih1 _ _ _ _
      | exact ih2 _ _ _ _ _ _ _ _ _ _
      | exact ih3 _ _ _ _ _ _ _ _ _ _ _ _
      | exact slices_Max_int_int.mono _ _
      | exact slices_Min_int_int.mono _ _
      | exact LeO.none _
      | refine LeO.ite ?_ ?_
      | refine LeO.bind ?_ (fun _ => ?_)
theorem sweep_town_isPath.mono : ∀ a0 a1 k, LeO (sweep_town_isPath.f k a0 a1) (sweep_town_isPath.f (k + 1) a0 a1) := by
  intro a0 a1 k
  obtain ⟨ih0, ih1, ih2, ih3⟩ := sweep_town_isPath.mono_l k
  unfold sweep_town_isPath.f
  repeat' first
      | (with_reducible exact ih0 _ _ _)
      | (with_reducible exact ih1 _ _ _ _)
      | (with_reducible exact ih2 _ _ _ _ _ _ _ _ _ _)
      | (with_reducible exact ih3 _ _ _ _ _ _ _ _ _ _ _ _)
      | (with_reducible exact slices_Max_int_int.mono _ _)
      | (with_reducible exact slices_Min_int_int.mono _ _)
      | (with_reducible exact LeO.refl _)
      | (with_reducible exact LeO.none _)
      | (with_reducible refine LeO.ite ?_ ?_)
      | (with_reducible refine LeO.bind ?_ (fun _ => ?_))
      | exact ih0 _ _ _
      | exact ih1 _ _ _ _
      | exact ih2 _ _ _ _ _ _ _ _ _ _
      | exact ih3 _ _ _ _ _ _ _ _ _ _ _ _
      | exact slices_Max_int_int.mono _ _
      | exact slices_Min_int_int.mono _ _
      | exact LeO.none _
      | refine LeO.ite ?_ ?_
      | refine LeO.bind ?_ (fun _ => ?_)
set_option maxHeartbeats 8000000 in
set_option maxRecDepth 100000 in
theorem sweep_town_isPath.calls (k : Nat) (A0 : Option Addr) (c0 : Nat) (l0 : List Int) (A1 : Option Addr) (c1 : Nat) (l1 : List Int) (r : Bool) (w : World) (hr0 : Kd.C (Kd.int .i64) w A0 l0.length l0) (hc0 : l0.length ≤ c0) (hr1 : Kd.C (Kd.int .i64) w A1 l1.length l1) (hc1 : l1.length ≤ c1) (h : sweep_town_isPath.f k l0 l1 = some r) :
    Calls Tryd.prog 62 #[.slice A0 l0.length c0, .slice A1 l1.length c1] w fun e w' => e = .returned (.bool r) ∧ Below w.heap.size w w' := by
  have HR0 := Aside0.mk hr0
  have HC0 := Aside0.mk hc0
  clear hr0 hc0
  have HR1 := Aside0.mk hr1
  have HC1 := Aside0.mk hc1
  clear hr1 hc1
  have HB := Aside0.mk (Below.refl w.heap.size w)
  have H : (if (l1.length : Int) < 1 then (sweep_town_isPath.j0 k l0 l1 true) else (if (l1.length : Int) > 30 then (sweep_town_isPath.j0 k l0 l1 true) else ((slices_Min_int_int.f k l1).bind fun t334 => (if t334 < 0 then (sweep_town_isPath.j0 k l0 l1 true) else ((slices_Max_int_int.f k l1).bind fun t335 => ((sweep_town_all.f l0).bind fun t336 => (sweep_town_isPath.j0 k l0 l1 (decide (t335 > t336))))))))) = some r := h
  clear h
  have HC3 := Aside0.mk H
  clear H
  go_enter Tryd.func62, Tryd.ntmps62
  go_upto_region 1 with (fail)
  go_cut [29] (fun v29 wc => ∃ (kq : Nat) (x29_2 : Bool), v29 = .bool x29_2 ∧ Aside0 (sweep_town_isPath.j0 kq l0 l1 x29_2 = some r) ∧ Aside0 (kq ≤ k) ∧ Aside0 (Below w.heap.size w wc))
  case first =>
    have H := HC3.out
    clear HC3
    by_cases c4 : (l1.length : Int) < 1
    · rw [if_pos c4] at H
      have c4b0 : decide ((l1.length : Int) < 1) = true := decide_eq_true c4
      have c4b1 : decide (l1.length < 1) = true := decide_eq_true (by omega)
      clear c4
      (first | rw [c4b0] | (simp only [i64_w, i32_w]; rw [c4b0]) | skip)
      have H' := Aside0.mk H
      clear H
      go_wp2
      go_meet
      case rel => exact ⟨_, (true), (by first | rfl | (simp; done) | (simp [*]; done)), H', ⟨by first | omega | exact Nat.le_refl _⟩, ⟨by repeat (first | (with_reducible first | exact HB.out | apply below_alloc | apply pw_below_drewN | apply below_drew1) | exact HB.out)⟩⟩
    · rw [if_neg c4] at H
      have c4b0 : decide ((l1.length : Int) < 1) = false := decide_eq_false c4
      have c4b1 : decide (l1.length < 1) = false := decide_eq_false (by omega)
      clear c4
      (first | rw [c4b0] | (simp only [i64_w, i32_w]; rw [c4b0]) | skip)
      by_cases c5 : (l1.length : Int) > 30
      · rw [if_pos c5] at H
        have c5b0 : decide (30 < (l1.length : Int)) = true := decide_eq_true c5
        have c5b1 : decide (30 < l1.length) = true := decide_eq_true (by omega)
        clear c5
        have H' := Aside0.mk H
        clear H
        go_wp2
        go_meet
        case rel => exact ⟨_, (true), (by first | rfl | (simp; done) | (simp [*]; done)), H', ⟨by first | omega | exact Nat.le_refl _⟩, ⟨by repeat (first | (with_reducible first | exact HB.out | apply below_alloc | apply pw_below_drewN | apply below_drew1) | exact HB.out)⟩⟩
      · rw [if_neg c5] at H
        have c5b0 : decide (30 < (l1.length : Int)) = false := decide_eq_false c5
        have c5b1 : decide (30 < l1.length) = false := decide_eq_false (by omega)
        clear c5
        replace H := Option.bind_eq_some_iff.mp H
        obtain ⟨t334, A60, H⟩ := H
        replace H : (if t334 < 0 then (sweep_town_isPath.j0 k l0 l1 true) else ((slices_Max_int_int.f k l1).bind fun t335 => ((sweep_town_all.f l0).bind fun t336 => (sweep_town_isPath.j0 k l0 l1 (decide (t335 > t336)))))) = some r := H
        have A6 := Aside0.mk A60
        clear A60
        by_cases c7 : t334 < 0
        · rw [if_pos c7] at H
          have c7b0 : decide (t334 < 0) = true := decide_eq_true c7
          clear c7
          have H' := Aside0.mk H
          clear H
          go_wp2_with (first | (go_at_call 75; (with_reducible refine (slices_Min_int_int.calls k _ _ l1 t334 _ ?side1 ?side2 A6.out).mono ?_); (case side1 => repeat (first | exact (Kd.C_below HR1.out HB.out) | (with_reducible refine Kd.C_alloc ?_ _) | (with_reducible refine Kd.C_drewN ?_ _) | (with_reducible refine Kd.C_drew ?_))); (case side2 => exact HC1.out); rintro e w8 ⟨rfl, hb⟩; have n0_ := Aside0.mk (below_step (by repeat (first | (with_reducible first | exact HB.out | apply below_alloc | apply pw_below_drewN | apply below_drew1) | exact HB.out)) hb); clear HB; have HB := n0_; clear n0_; (try clear hb); (try clear hb2); (try clear hk); (try clear hi)))
          go_meet
          case rel => exact ⟨_, (true), (by first | rfl | (simp; done) | (simp [*]; done)), H', ⟨by first | omega | exact Nat.le_refl _⟩, ⟨by repeat (first | (with_reducible first | exact HB.out | apply below_alloc | apply pw_below_drewN | apply below_drew1) | exact HB.out)⟩⟩
        · rw [if_neg c7] at H
          have c7b0 : decide (t334 < 0) = false := decide_eq_false c7
          clear c7
          replace H := Option.bind_eq_some_iff.mp H
          obtain ⟨t335, A90, H⟩ := H
          replace H : ((sweep_town_all.f l0).bind fun t336 => (sweep_town_isPath.j0 k l0 l1 (decide (t335 > t336)))) = some r := H
          have A9 := Aside0.mk A90
          clear A90
          replace H := Option.bind_eq_some_iff.mp H
          obtain ⟨t336, A100, H⟩ := H
          replace H : (sweep_town_isPath.j0 k l0 l1 (decide (t335 > t336))) = some r := H
          have A10 := Aside0.mk A100
          clear A100
          have H' := Aside0.mk H
          clear H
          go_wp2_with (first | (go_at_call 75; (with_reducible refine (slices_Min_int_int.calls k _ _ l1 t334 _ ?side1 ?side2 A6.out).mono ?_); (case side1 => repeat (first | exact (Kd.C_below HR1.out HB.out) | (with_reducible refine Kd.C_alloc ?_ _) | (with_reducible refine Kd.C_drewN ?_ _) | (with_reducible refine Kd.C_drew ?_))); (case side2 => exact HC1.out); rintro e w11 ⟨rfl, hb⟩; have n0_ := Aside0.mk (below_step (by repeat (first | (with_reducible first | exact HB.out | apply below_alloc | apply pw_below_drewN | apply below_drew1) | exact HB.out)) hb); clear HB; have HB := n0_; clear n0_; (try clear hb); (try clear hb2); (try clear hk); (try clear hi)) | (go_at_call 76; (with_reducible refine (slices_Max_int_int.calls k _ _ l1 t335 _ ?side1 ?side2 A9.out).mono ?_); (case side1 => repeat (first | exact (Kd.C_below HR1.out HB.out) | (with_reducible refine Kd.C_alloc ?_ _) | (with_reducible refine Kd.C_drewN ?_ _) | (with_reducible refine Kd.C_drew ?_))); (case side2 => exact HC1.out); rintro e w12 ⟨rfl, hb⟩; have n0_ := Aside0.mk (below_step (by repeat (first | (with_reducible first | exact HB.out | apply below_alloc | apply pw_below_drewN | apply below_drew1) | exact HB.out)) hb); clear HB; have HB := n0_; clear n0_; (try clear hb); (try clear hb2); (try clear hk); (try clear hi)) | (go_at_call 61; (with_reducible refine (sweep_town_all.calls _ _ l0 t336 _ ?side1 ?side2 A10.out).mono ?_); (case side1 => repeat (first | exact (Kd.C_below HR0.out HB.out) | (with_reducible refine Kd.C_alloc ?_ _) | (with_reducible refine Kd.C_drewN ?_ _) | (with_reducible refine Kd.C_drew ?_))); (case side2 => exact HC0.out); rintro e w' ⟨rfl, ⟨nd, rfl⟩⟩))
          go_meet
          case rel => exact ⟨_, (decide (t335 > t336)), (by first | rfl | (simp; done) | (simp [*]; done)), H', ⟨by first | omega | exact Nat.le_refl _⟩, ⟨by repeat (first | (with_reducible first | exact HB.out | apply below_alloc | apply pw_below_drewN | apply below_drew1) | exact HB.out)⟩⟩
  case rest =>
    clear HC3
    try clear c1
    try clear p2
    try clear c4
    try clear c4b0
    try clear c4b1
    try clear c5
    try clear c5b0
    try clear c5b1
    try clear c6
    try clear c7
    try clear c7b0
    obtain ⟨kq, x29_2, rfl, HA, HJ2, HB⟩ := hcut
    cases kq with
    | zero => exact absurd HA.out (by simp [sweep_town_isPath.j0])
    | succ kj2 =>
      have H := HA.out
      clear HA
      simp only [sweep_town_isPath.j0] at H
      by_cases c13 : x29_2 = true
      · subst c13
        have H1 : (some false) = some r := by rw [if_pos rfl] at H; exact H
        clear H
        have H := H1
        clear H1
        obtain rfl := Option.some.inj H
        go_wp2
        go_ret
        exact ⟨by first | rfl | (simp [errW_none, errW_some] <;> rfl) | (simp [*, errW_none, errW_some] <;> rfl), by repeat (first | (with_reducible first | exact HB.out | apply below_alloc | apply pw_below_drewN | apply below_drew1) | exact HB.out)⟩
      · replace c13 := Bool.eq_false_iff.mpr c13
        subst c13
        have H1 : (sweep_town_isPath.l0 kj2 l1 l0 (l0.length : Int) 0) = some r := by rw [if_neg (show ¬ (false = true) by decide)] at H; exact H
        clear H
        have H := H1
        clear H1
        have H' := Aside0.mk H
        clear H
        go_wp2
        go_loopg [32] kj2 (fun kq v32 w' => ∃ (x32_2 : Int), v32 = .int .i64 x32_2 ∧ Aside0 (sweep_town_isPath.l0 kq l1 l0 (l0.length : Int) x32_2 = some r) ∧ Aside0 (kq ≤ kj2) ∧ Aside0 (Below w.heap.size w w'))
        case atStart => exact ⟨(0), (by first | rfl | (simp; done) | (simp [*]; done)), H', ⟨Nat.le_refl _⟩, ⟨by repeat (first | (with_reducible first | exact HB.out | apply below_alloc | apply pw_below_drewN | apply below_drew1) | exact HB.out)⟩⟩
        case round =>
          clear H'
          try clear c1
          try clear p2
          try clear c4
          try clear c4b0
          try clear c4b1
          try clear c5
          try clear c5b0
          try clear c5b1
          try clear c6
          try clear c7
          try clear c7b0
          try clear c13
          try clear p2
          obtain ⟨x32_2, rfl, HA, HK2, HB⟩ := hrel
          cases gk with
          | zero => exact absurd HA.out (by simp [sweep_town_isPath.l0])
          | succ k2 =>
            have H := HA.out
            clear HA
            simp only [sweep_town_isPath.l0] at H
            by_cases c14 : x32_2 < (l0.length : Int)
            · rw [if_pos c14] at H
              have c14b0 : decide (x32_2 < (l0.length : Int)) = true := decide_eq_true c14
              clear c14
              by_cases c15 : 0 ≤ x32_2
              · rw [if_pos c15] at H
                have c15b0 : decide (0 ≤ x32_2) = true := decide_eq_true c15
                clear c15
                by_cases c16 : x32_2 < (l0.length : Int)
                · rw [if_pos c16] at H
                  have c16b0 : decide (x32_2 < (l0.length : Int)) = true := decide_eq_true c16
                  clear c16
                  have H' := Aside0.mk H
                  clear H
                  have p337 : 0 ≤ (x32_2 : Int) := of_decide_eq_true (by first | (with_reducible assumption) | assumption)
                  have q337 : x32_2 < (l0.length : Int) := of_decide_eq_true (by first | (with_reducible assumption) | assumption)
                  obtain ⟨ad337, e337, hx337_0⟩ := Kd.at_int HR0.out x32_2 p337 q337
                  cases e337
                  replace hx337_0 := (HB.out.cell (World.block_lt_of_cell? w _ hx337_0)).trans hx337_0
                  replace p337 := eq_true p337
                  replace q337 := eq_true q337
                  go_wp2
                  go_loopg [6, 7, 39] k2 (fun kq v6 v7 v39 w' => ∃ (x6_3 : Int) (x7_3 : Int) (x39_3 : Int), v6 = .int .i64 x6_3 ∧ v7 = .int .i64 x7_3 ∧ v39 = .int .i64 x39_3 ∧ Aside0 (sweep_town_isPath.l1 kq l1 x32_2 x6_3 x7_3 l0 (l0.length : Int) x32_2 l1 (l1.length : Int) x39_3 = some r) ∧ Aside0 (kq ≤ k2) ∧ Aside0 (Below w.heap.size w w'))
                  case atStart => exact ⟨(rd l0 x32_2), (0), (0), (by first | rfl | (simp; done) | (simp [*]; done)), (by first | rfl | (simp; done) | (simp [*]; done)), (by first | rfl | (simp; done) | (simp [*]; done)), H', ⟨Nat.le_refl _⟩, ⟨by repeat (first | (with_reducible first | exact HB.out | apply below_alloc | apply pw_below_drewN | apply below_drew1) | exact HB.out)⟩⟩
                  case round =>
                    clear H'
                    try clear c1
                    try clear p2
                    try clear p3
                    try clear q3
                    try clear hx3
                    try clear c4
                    try clear c4b0
                    try clear c4b1
                    try clear c5
                    try clear c5b0
                    try clear c5b1
                    try clear c6
                    try clear c7
                    try clear c7b0
                    try clear c13
                    try clear c14
                    try clear c14b0
                    try clear c15
                    try clear c15b0
                    try clear c16
                    try clear c16b0
                    try clear hx337_0
                    try clear p2
                    try clear p337
                    try clear q337
                    obtain ⟨x6_3, x7_3, x39_3, rfl, rfl, rfl, HA, HK3, HB⟩ := hrel
                    cases gk with
                    | zero => exact absurd HA.out (by simp [sweep_town_isPath.l1])
                    | succ k3 =>
                      have H := HA.out
                      clear HA
                      simp only [sweep_town_isPath.l1] at H
                      by_cases c17 : x39_3 < (l1.length : Int)
                      · rw [if_pos c17] at H
                        have c17b0 : decide (x39_3 < (l1.length : Int)) = true := decide_eq_true c17
                        clear c17
                        by_cases c18 : 0 ≤ x39_3
                        · rw [if_pos c18] at H
                          have c18b0 : decide (0 ≤ x39_3) = true := decide_eq_true c18
                          clear c18
                          by_cases c19 : x39_3 < (l1.length : Int)
                          · rw [if_pos c19] at H
                            have c19b0 : decide (x39_3 < (l1.length : Int)) = true := decide_eq_true c19
                            clear c19
                            have HC20 := Aside0.mk H
                            clear H
                            have p338 : 0 ≤ (x39_3 : Int) := of_decide_eq_true (by first | (with_reducible assumption) | assumption)
                            have q338 : x39_3 < (l1.length : Int) := of_decide_eq_true (by first | (with_reducible assumption) | assumption)
                            obtain ⟨ad338, e338, hx338_0⟩ := Kd.at_int HR1.out x39_3 p338 q338
                            cases e338
                            replace hx338_0 := (HB.out.cell (World.block_lt_of_cell? w _ hx338_0)).trans hx338_0
                            replace p338 := eq_true p338
                            replace q338 := eq_true q338
                            go_upto_region 10 with (fail)
                            go_cut [63] (fun v63 wc => ∃ (kq : Nat) (x63_19 : Bool), v63 = .bool x63_19 ∧ Aside0 (sweep_town_isPath.j3 kq l1 x32_2 x6_3 x7_3 (rd l1 x39_3) l0 (l0.length : Int) x32_2 l1 (l1.length : Int) x39_3 x63_19 = some r) ∧ Aside0 (kq ≤ k3) ∧ Aside0 (Below w.heap.size w wc))
                            case first =>
                              have H := HC20.out
                              clear HC20
                              by_cases c21 : 0 ≤ x32_2
                              · rw [if_pos c21] at H
                                have c21b0 := eq_true c21
                                have c21b1 : decide (0 ≤ x32_2) = true := decide_eq_true c21
                                clear c21
                                obtain ⟨ji22, hji22⟩ : ∃ j_ : Int, (shr .i64 (rd l1 x39_3) x32_2) = j_ := ⟨_, rfl⟩
                                replace H : (if (Go.bits .and .i64 (ji22) 1) = 1 then (if x39_3 = 0 then (sweep_town_isPath.j3 k3 l1 x32_2 x6_3 x7_3 (rd l1 x39_3) l0 (l0.length : Int) x32_2 l1 (l1.length : Int) x39_3 true) else (if 0 ≤ (wrap64 (x39_3 - 1)) then (if (wrap64 (x39_3 - 1)) < (l1.length : Int) then (sweep_town_isPath.j3 k3 l1 x32_2 x6_3 x7_3 (rd l1 x39_3) l0 (l0.length : Int) x32_2 l1 (l1.length : Int) x39_3 ((Go.bits .and .i64 (shr .i64 (rd l1 (wrap64 (x39_3 - 1))) x32_2) 1) == 0)) else (none)) else (none))) else (sweep_town_isPath.j3 k3 l1 x32_2 x6_3 x7_3 (rd l1 x39_3) l0 (l0.length : Int) x32_2 l1 (l1.length : Int) x39_3 false)) = some r := by first | (rw [hji22] at H; exact H) | (simp only [hji22] at H ⊢; exact H)
                                have hji22_ : ((rd l1 x39_3) / 2 ^ min x32_2.toNat 64) = ji22 := hji22
                                have hji22z : x32_2 ≤ 64 → ((rd l1 x39_3) / 2 ^ x32_2.toNat) = ji22 := shr_small hji22
                                by_cases c23 : (Go.bits .and .i64 (ji22) 1) = 1
                                · rw [if_pos c23] at H
                                  have c23b0 : ((Go.bits .and .i64 (ji22) 1) == 1) = true := beq_iff_eq.mpr c23
                                  have c23b1 : ((Go.bits .and .i64 (ji22) 1) != 1) = false := bne_eq_false_iff_eq.mpr c23
                                  clear c23
                                  (first | rw [c23b0] | (simp only [i64_w, i32_w]; rw [c23b0]) | skip)
                                  by_cases c24 : x39_3 = 0
                                  · rw [if_pos c24] at H
                                    have c24b0 : (x39_3 == 0) = true := beq_iff_eq.mpr c24
                                    have c24b1 : (x39_3 != 0) = false := bne_eq_false_iff_eq.mpr c24
                                    clear c24
                                    have H' := Aside0.mk H
                                    clear H
                                    go_wp2
                                    go_meet
                                    case rel => exact ⟨_, (true), (by first | rfl | (simp; done) | (simp [*]; done)), H', ⟨by have := HJ2.out; have := HK2.out; have := HK3.out; first | omega | exact Nat.le_refl _⟩, ⟨by repeat (first | (with_reducible first | exact HB.out | apply below_alloc | apply pw_below_drewN | apply below_drew1) | exact HB.out)⟩⟩
                                  · rw [if_neg c24] at H
                                    have c24b0 : (x39_3 == 0) = false := beq_eq_false_iff_ne.mpr c24
                                    have c24b1 : (x39_3 != 0) = true := bne_iff_ne.mpr c24
                                    obtain ⟨ji25, hji25⟩ : ∃ j_ : Int, (wrap64 (x39_3 - 1)) = j_ := ⟨_, rfl⟩
                                    replace H : (if 0 ≤ (ji25) then (if (ji25) < (l1.length : Int) then (sweep_town_isPath.j3 k3 l1 x32_2 x6_3 x7_3 (rd l1 x39_3) l0 (l0.length : Int) x32_2 l1 (l1.length : Int) x39_3 ((Go.bits .and .i64 (shr .i64 (rd l1 (ji25)) x32_2) 1) == 0)) else (none)) else (none)) = some r := by first | (rw [hji25] at H; exact H) | (simp only [hji25] at H ⊢; exact H)
                                    have hji25w : (IntKind.i64.wrap (x39_3 - 1)) = ji25 := (i64_w _).trans hji25
                                    by_cases c26 : 0 ≤ (ji25)
                                    · rw [if_pos c26] at H
                                      have c26b0 : decide (0 ≤ (ji25)) = true := decide_eq_true c26
                                      clear c26
                                      by_cases c27 : (ji25) < (l1.length : Int)
                                      · rw [if_pos c27] at H
                                        have c27b0 : decide ((ji25) < (l1.length : Int)) = true := decide_eq_true c27
                                        clear c27
                                        have c28b0 := eq_true (of_decide_eq_true (by first | (with_reducible assumption) | assumption) : 0 ≤ x32_2)
                                        obtain ⟨ji29, hji29⟩ : ∃ j_ : Int, (shr .i64 (rd l1 (ji25)) x32_2) = j_ := ⟨_, rfl⟩
                                        replace H : (sweep_town_isPath.j3 k3 l1 x32_2 x6_3 x7_3 (rd l1 x39_3) l0 (l0.length : Int) x32_2 l1 (l1.length : Int) x39_3 ((Go.bits .and .i64 (ji29) 1) == 0)) = some r := by first | (rw [hji29] at H; exact H) | (simp only [hji29] at H ⊢; exact H)
                                        have hji29_ : ((rd l1 (ji25)) / 2 ^ min x32_2.toNat 64) = ji29 := hji29
                                        have hji29z : x32_2 ≤ 64 → ((rd l1 (ji25)) / 2 ^ x32_2.toNat) = ji29 := shr_small hji29
                                        have H' := Aside0.mk H
                                        clear H
                                        have p339 : 0 ≤ ((ji25) : Int) := of_decide_eq_true (by first | (with_reducible assumption) | assumption)
                                        have q339 : (ji25) < (l1.length : Int) := of_decide_eq_true (by first | (with_reducible assumption) | assumption)
                                        obtain ⟨ad339, e339, hx339_0⟩ := Kd.at_int HR1.out (ji25) p339 q339
                                        obtain rfl : ad338 = ad339 := (by injection e339)
                                        replace hx339_0 := (HB.out.cell (World.block_lt_of_cell? w _ hx339_0)).trans hx339_0
                                        replace p339 := eq_true p339
                                        replace q339 := eq_true q339
                                        go_wp2
                                        go_meet
                                        case rel => exact ⟨_, (((Go.bits .and .i64 (ji29) 1) == 0)), (by first | rfl | (simp; done) | (simp only [← hji29] <;> (first | rfl | simp)) | (simp [*]; done)), H', ⟨by have := HJ2.out; have := HK2.out; have := HK3.out; first | omega | exact Nat.le_refl _⟩, ⟨by repeat (first | (with_reducible first | exact HB.out | apply below_alloc | apply pw_below_drewN | apply below_drew1) | exact HB.out)⟩⟩
                                      · rw [if_neg c27] at H
                                        exact absurd H (by simp)
                                    · rw [if_neg c26] at H
                                      exact absurd H (by simp)
                                · rw [if_neg c23] at H
                                  have c23b0 : ((Go.bits .and .i64 (ji22) 1) == 1) = false := beq_eq_false_iff_ne.mpr c23
                                  have c23b1 : ((Go.bits .and .i64 (ji22) 1) != 1) = true := bne_iff_ne.mpr c23
                                  (first | rw [c23b0] | (simp only [i64_w, i32_w]; rw [c23b0]) | skip)
                                  have H' := Aside0.mk H
                                  clear H
                                  go_wp2
                                  go_meet
                                  case rel => exact ⟨_, (false), (by first | rfl | (simp; done) | (simp [*]; done)), H', ⟨by have := HJ2.out; have := HK2.out; have := HK3.out; first | omega | exact Nat.le_refl _⟩, ⟨by repeat (first | (with_reducible first | exact HB.out | apply below_alloc | apply pw_below_drewN | apply below_drew1) | exact HB.out)⟩⟩
                              · rw [if_neg c21] at H
                                exact absurd H (by simp)
                            case rest =>
                              clear HC20
                              try clear c1
                              try clear c2
                              try clear p2
                              try clear p3
                              try clear q3
                              try clear hx3
                              try clear c4
                              try clear c4b0
                              try clear c4b1
                              try clear c5
                              try clear c5b0
                              try clear c5b1
                              try clear c6
                              try clear p6
                              try clear c7
                              try clear c7b0
                              try clear c13
                              try clear c14
                              try clear c14b0
                              try clear c15
                              try clear c15b0
                              try clear c16
                              try clear c16b0
                              try clear c17
                              try clear c17b0
                              try clear c18
                              try clear c18b0
                              try clear c19
                              try clear c19b0
                              try clear c21
                              try clear c21b0
                              try clear c21b1
                              try clear c23
                              try clear c23b0
                              try clear c23b1
                              try clear c24
                              try clear c24b0
                              try clear c24b1
                              try clear c26
                              try clear c26b0
                              try clear c27
                              try clear c27b0
                              try clear c28
                              try clear c28b0
                              try clear hx337_0
                              try clear hx338_0
                              try clear hx339_0
                              try clear p2
                              try clear p3
                              try clear p337
                              try clear p338
                              try clear p339
                              try clear q3
                              try clear q337
                              try clear q338
                              try clear q339
                              obtain ⟨kq, x63_19, rfl, HA, HJ19, HB⟩ := hcut
                              cases kq with
                              | zero => exact absurd HA.out (by simp [sweep_town_isPath.j3])
                              | succ kj19 =>
                                have H := HA.out
                                clear HA
                                simp only [sweep_town_isPath.j3] at H
                                by_cases c30 : x63_19 = true
                                · subst c30
                                  have H1 : (if 0 ≤ x32_2 then (if (Go.bits .and .i64 (shr .i64 (rd l1 x39_3) x32_2) 1) = 1 then (sweep_town_isPath.l1 kj19 l1 x32_2 (Go.bits .andNot .i64 x6_3 (rd l1 x39_3)) (wrap64 (x7_3 + 1)) l0 (l0.length : Int) x32_2 l1 (l1.length : Int) (wrap64 (x39_3 + 1))) else (sweep_town_isPath.l1 kj19 l1 x32_2 x6_3 (wrap64 (x7_3 + 1)) l0 (l0.length : Int) x32_2 l1 (l1.length : Int) (wrap64 (x39_3 + 1)))) else (none)) = some r := by rw [if_pos rfl] at H; exact H
                                  clear H
                                  have H := H1
                                  clear H1
                                  by_cases c31 : 0 ≤ x32_2
                                  · rw [if_pos c31] at H
                                    have c31b0 := eq_true c31
                                    have c31b1 : decide (0 ≤ x32_2) = true := decide_eq_true c31
                                    clear c31
                                    obtain ⟨ji32, hji32⟩ : ∃ j_ : Int, (shr .i64 (rd l1 x39_3) x32_2) = j_ := ⟨_, rfl⟩
                                    replace H : (if (Go.bits .and .i64 (ji32) 1) = 1 then (sweep_town_isPath.l1 kj19 l1 x32_2 (Go.bits .andNot .i64 x6_3 (rd l1 x39_3)) (wrap64 (x7_3 + 1)) l0 (l0.length : Int) x32_2 l1 (l1.length : Int) (wrap64 (x39_3 + 1))) else (sweep_town_isPath.l1 kj19 l1 x32_2 x6_3 (wrap64 (x7_3 + 1)) l0 (l0.length : Int) x32_2 l1 (l1.length : Int) (wrap64 (x39_3 + 1)))) = some r := by first | (rw [hji32] at H; exact H) | (simp only [hji32] at H ⊢; exact H)
                                    have hji32_ : ((rd l1 x39_3) / 2 ^ min x32_2.toNat 64) = ji32 := hji32
                                    have hji32z : x32_2 ≤ 64 → ((rd l1 x39_3) / 2 ^ x32_2.toNat) = ji32 := shr_small hji32
                                    by_cases c33 : (Go.bits .and .i64 (ji32) 1) = 1
                                    · rw [if_pos c33] at H
                                      have c33b0 : ((Go.bits .and .i64 (ji32) 1) == 1) = true := beq_iff_eq.mpr c33
                                      have c33b1 : ((Go.bits .and .i64 (ji32) 1) != 1) = false := bne_eq_false_iff_eq.mpr c33
                                      clear c33
                                      have H' := Aside0.mk H
                                      clear H
                                      go_wp2
                                      go_roundg kj19
                                      case measure => have := HJ2.out; have := HK2.out; have := HK3.out; have := HJ19.out; omega
                                      case rel => exact ⟨(Go.bits .andNot .i64 x6_3 (rd l1 x39_3)), (wrap64 (x7_3 + 1)), (wrap64 (x39_3 + 1)), (by first | rfl | (simp; done) | (simp [*]; done)), (by first | rfl | (simp; done) | (simp [*]; done)), (by first | rfl | (simp; done) | (simp [*]; done)), H', ⟨by have := HJ2.out; have := HK2.out; have := HK3.out; have := HJ19.out; omega⟩, ⟨by repeat (first | (with_reducible first | exact HB.out | apply below_alloc | apply pw_below_drewN | apply below_drew1) | exact HB.out)⟩⟩
                                    · rw [if_neg c33] at H
                                      have c33b0 : ((Go.bits .and .i64 (ji32) 1) == 1) = false := beq_eq_false_iff_ne.mpr c33
                                      have c33b1 : ((Go.bits .and .i64 (ji32) 1) != 1) = true := bne_iff_ne.mpr c33
                                      have H' := Aside0.mk H
                                      clear H
                                      go_wp2
                                      go_roundg kj19
                                      case measure => have := HJ2.out; have := HK2.out; have := HK3.out; have := HJ19.out; omega
                                      case rel => exact ⟨(x6_3), (wrap64 (x7_3 + 1)), (wrap64 (x39_3 + 1)), (by first | rfl | (simp; done) | (simp [*]; done)), (by first | rfl | (simp; done) | (simp [*]; done)), (by first | rfl | (simp; done) | (simp [*]; done)), H', ⟨by have := HJ2.out; have := HK2.out; have := HK3.out; have := HJ19.out; omega⟩, ⟨by repeat (first | (with_reducible first | exact HB.out | apply below_alloc | apply pw_below_drewN | apply below_drew1) | exact HB.out)⟩⟩
                                  · rw [if_neg c31] at H
                                    exact absurd H (by simp)
                                · replace c30 := Bool.eq_false_iff.mpr c30
                                  subst c30
                                  have H1 : (if 0 ≤ x32_2 then (if (Go.bits .and .i64 (shr .i64 (rd l1 x39_3) x32_2) 1) = 1 then (sweep_town_isPath.l1 kj19 l1 x32_2 (Go.bits .andNot .i64 x6_3 (rd l1 x39_3)) x7_3 l0 (l0.length : Int) x32_2 l1 (l1.length : Int) (wrap64 (x39_3 + 1))) else (sweep_town_isPath.l1 kj19 l1 x32_2 x6_3 x7_3 l0 (l0.length : Int) x32_2 l1 (l1.length : Int) (wrap64 (x39_3 + 1)))) else (none)) = some r := by rw [if_neg (show ¬ (false = true) by decide)] at H; exact H
                                  clear H
                                  have H := H1
                                  clear H1
                                  by_cases c34 : 0 ≤ x32_2
                                  · rw [if_pos c34] at H
                                    have c34b0 := eq_true c34
                                    have c34b1 : decide (0 ≤ x32_2) = true := decide_eq_true c34
                                    clear c34
                                    obtain ⟨ji35, hji35⟩ : ∃ j_ : Int, (shr .i64 (rd l1 x39_3) x32_2) = j_ := ⟨_, rfl⟩
                                    replace H : (if (Go.bits .and .i64 (ji35) 1) = 1 then (sweep_town_isPath.l1 kj19 l1 x32_2 (Go.bits .andNot .i64 x6_3 (rd l1 x39_3)) x7_3 l0 (l0.length : Int) x32_2 l1 (l1.length : Int) (wrap64 (x39_3 + 1))) else (sweep_town_isPath.l1 kj19 l1 x32_2 x6_3 x7_3 l0 (l0.length : Int) x32_2 l1 (l1.length : Int) (wrap64 (x39_3 + 1)))) = some r := by first | (rw [hji35] at H; exact H) | (simp only [hji35] at H ⊢; exact H)
                                    have hji35_ : ((rd l1 x39_3) / 2 ^ min x32_2.toNat 64) = ji35 := hji35
                                    have hji35z : x32_2 ≤ 64 → ((rd l1 x39_3) / 2 ^ x32_2.toNat) = ji35 := shr_small hji35
                                    by_cases c36 : (Go.bits .and .i64 (ji35) 1) = 1
                                    · rw [if_pos c36] at H
                                      have c36b0 : ((Go.bits .and .i64 (ji35) 1) == 1) = true := beq_iff_eq.mpr c36
                                      have c36b1 : ((Go.bits .and .i64 (ji35) 1) != 1) = false := bne_eq_false_iff_eq.mpr c36
                                      clear c36
                                      have H' := Aside0.mk H
                                      clear H
                                      go_wp2
                                      go_roundg kj19
                                      case measure => have := HJ2.out; have := HK2.out; have := HK3.out; have := HJ19.out; omega
                                      case rel => exact ⟨(Go.bits .andNot .i64 x6_3 (rd l1 x39_3)), (x7_3), (wrap64 (x39_3 + 1)), (by first | rfl | (simp; done) | (simp [*]; done)), (by first | rfl | (simp; done) | (simp [*]; done)), (by first | rfl | (simp; done) | (simp [*]; done)), H', ⟨by have := HJ2.out; have := HK2.out; have := HK3.out; have := HJ19.out; omega⟩, ⟨by repeat (first | (with_reducible first | exact HB.out | apply below_alloc | apply pw_below_drewN | apply below_drew1) | exact HB.out)⟩⟩
                                    · rw [if_neg c36] at H
                                      have c36b0 : ((Go.bits .and .i64 (ji35) 1) == 1) = false := beq_eq_false_iff_ne.mpr c36
                                      have c36b1 : ((Go.bits .and .i64 (ji35) 1) != 1) = true := bne_iff_ne.mpr c36
                                      have H' := Aside0.mk H
                                      clear H
                                      go_wp2
                                      go_roundg kj19
                                      case measure => have := HJ2.out; have := HK2.out; have := HK3.out; have := HJ19.out; omega
                                      case rel => exact ⟨(x6_3), (x7_3), (wrap64 (x39_3 + 1)), (by first | rfl | (simp; done) | (simp [*]; done)), (by first | rfl | (simp; done) | (simp [*]; done)), (by first | rfl | (simp; done) | (simp [*]; done)), H', ⟨by have := HJ2.out; have := HK2.out; have := HK3.out; have := HJ19.out; omega⟩, ⟨by repeat (first | (with_reducible first | exact HB.out | apply below_alloc | apply pw_below_drewN | apply below_drew1) | exact HB.out)⟩⟩
                                  · rw [if_neg c34] at H
                                    exact absurd H (by simp)
                          · rw [if_neg c19] at H
                            exact absurd H (by simp)
                        · rw [if_neg c18] at H
                          exact absurd H (by simp)
                      · rw [if_neg c17] at H
                        have c17b0 : decide (x39_3 < (l1.length : Int)) = false := decide_eq_false c17
                        clear c17
                        by_cases c37 : x7_3 = 1
                        · rw [if_pos c37] at H
                          have c37b0 : (x7_3 == 1) = true := beq_iff_eq.mpr c37
                          have c37b1 : (x7_3 != 1) = false := bne_eq_false_iff_eq.mpr c37
                          clear c37
                          by_cases c38 : x6_3 = 0
                          · rw [if_pos c38] at H
                            have c38b0 : (x6_3 == 0) = true := beq_iff_eq.mpr c38
                            have c38b1 : (x6_3 != 0) = false := bne_eq_false_iff_eq.mpr c38
                            clear c38
                            have H' := Aside0.mk H
                            clear H
                            go_wp2
                            go_roundg k3
                            case measure => have := HJ2.out; have := HK2.out; have := HK3.out; omega
                            case rel => exact ⟨(wrap64 (x32_2 + 1)), (by first | rfl | (simp; done) | (simp [*]; done)), H', ⟨by have := HJ2.out; have := HK2.out; have := HK3.out; omega⟩, ⟨by repeat (first | (with_reducible first | exact HB.out | apply below_alloc | apply pw_below_drewN | apply below_drew1) | exact HB.out)⟩⟩
                          · rw [if_neg c38] at H
                            have c38b0 : (x6_3 == 0) = false := beq_eq_false_iff_ne.mpr c38
                            have c38b1 : (x6_3 != 0) = true := bne_iff_ne.mpr c38
                            obtain rfl := Option.some.inj H
                            go_wp2
                            go_ret
                            exact ⟨by first | rfl | (simp [errW_none, errW_some] <;> rfl) | (simp [*, errW_none, errW_some] <;> rfl), by repeat (first | (with_reducible first | exact HB.out | apply below_alloc | apply pw_below_drewN | apply below_drew1) | exact HB.out)⟩
                        · rw [if_neg c37] at H
                          have c37b0 : (x7_3 == 1) = false := beq_eq_false_iff_ne.mpr c37
                          have c37b1 : (x7_3 != 1) = true := bne_iff_ne.mpr c37
                          obtain rfl := Option.some.inj H
                          go_wp2
                          go_ret
                          exact ⟨by first | rfl | (simp [errW_none, errW_some] <;> rfl) | (simp [*, errW_none, errW_some] <;> rfl), by repeat (first | (with_reducible first | exact HB.out | apply below_alloc | apply pw_below_drewN | apply below_drew1) | exact HB.out)⟩
                · rw [if_neg c16] at H
                  exact absurd H (by simp)
              · rw [if_neg c15] at H
                exact absurd H (by simp)
            · rw [if_neg c14] at H
              have c14b0 : decide (x32_2 < (l0.length : Int)) = false := decide_eq_false c14
              clear c14
              obtain rfl := Option.some.inj H
              go_wp2
              go_ret
              exact ⟨by first | rfl | (simp [errW_none, errW_some] <;> rfl) | (simp [*, errW_none, errW_some] <;> rfl), by repeat (first | (with_reducible first | exact HB.out | apply below_alloc | apply pw_below_drewN | apply below_drew1) | exact HB.out)⟩

end Go.Proofs.YtijfddobandcdaaDoor.X
end
section
-- by ownprint.py (wip/tool), over the kit's print
namespace Go.Proofs.YtijfddobandcdaaDoor.X
open Go.RowKit Go.Proofs.YtijfddobandcdaaDoorW.PrintWords Go.Proofs.YtijfddobandcdaaDoorW.PrintLast Go.Proofs.YtijfddobandcdaaDoorW.PrintMore
attribute [local go_sem] max2_int min2_int max_two min_two max_three min_three max_four min_four
set_option linter.unusedVariables false
set_option linter.unusedSimpArgs false

/-! ### sweep_Check: function 36 -/
def sweep_Check.l0 : Nat → Int → List Int → Int → Int → Option (Int × Bool × Int)
  | 0, _, _, _, _ => none
  | k + 1, x9, x23, x24, x25 => if x25 < x24 then (if 0 ≤ x25 then (if x25 < (x23.length : Int) then ((sweep_count.f (rd x23 x25)).bind fun t346 => (sweep_Check.l0 k (mx x9 t346) x23 x24 (wrap64 (x25 + 1)))) else (none)) else (none)) else (some (wrap64 (x9 - 1), true, 0))
def sweep_Check.f (k : Nat) (l0 : List Int) (l1 : List Int) : Option (Int × Bool × Int) := (sweep_read.f k l0).bind fun bt340 => (if bt340.2 = true then ((sweep_town_isPath.f k bt340.1 l1).bind fun t344 => (if t344 = true then (sweep_Check.l0 k 0 l1 (l1.length : Int) 0) else (some (0, false, 0)))) else (some (0, false, 2)))
theorem sweep_Check.mono_l : ∀ k, (∀ y0 y1 y2 y3, LeO (sweep_Check.l0 k y0 y1 y2 y3) (sweep_Check.l0 (k + 1) y0 y1 y2 y3))
  | 0 => fun _ _ _ _ r h => by simp [sweep_Check.l0] at h
  | k + 1 => by
    have ih0 := sweep_Check.mono_l k
    · intro y0 y1 y2 y3
      unfold sweep_Check.l0
      repeat' first
      | (with_reducible exact ih0 _ _ _ _)
      | (with_reducible exact sweep_read.mono _ _)
      | (with_reducible exact sweep_town_isPath.mono _ _ _)
      | (with_reducible exact LeO.refl _)
      | (with_reducible exact LeO.none _)
      | (with_reducible refine LeO.ite ?_ ?_)
      | (with_reducible refine LeO.bind ?_ (fun _ => ?_))
      | exact ih0 _ _ _ _
      | exact sweep_read.mono _ _
      | exact sweep_town_isPath.mono _ _ _
      | exact LeO.none _
      | refine LeO.ite ?_ ?_
      | refine LeO.bind ?_ (fun _ => ?_)
theorem sweep_Check.mono : ∀ a0 a1 k, LeO (sweep_Check.f k a0 a1) (sweep_Check.f (k + 1) a0 a1) := by
  intro a0 a1 k
  have ih0 := sweep_Check.mono_l k
  unfold sweep_Check.f
  repeat' first
      | (with_reducible exact ih0 _ _ _ _)
      | (with_reducible exact sweep_read.mono _ _)
      | (with_reducible exact sweep_town_isPath.mono _ _ _)
      | (with_reducible exact LeO.refl _)
      | (with_reducible exact LeO.none _)
      | (with_reducible refine LeO.ite ?_ ?_)
      | (with_reducible refine LeO.bind ?_ (fun _ => ?_))
      | exact ih0 _ _ _ _
      | exact sweep_read.mono _ _
      | exact sweep_town_isPath.mono _ _ _
      | exact LeO.none _
      | refine LeO.ite ?_ ?_
      | refine LeO.bind ?_ (fun _ => ?_)
set_option maxHeartbeats 8000000 in
set_option maxRecDepth 100000 in
theorem sweep_Check.calls (k : Nat) (A0 : Option Addr) (c0 : Nat) (l0 : List Int) (A1 : Option Addr) (c1 : Nat) (l1 : List Int) (r1 : Int) (r2 : Bool) (r3 : Int) (w : World) (hr0 : Kd.C (Kd.int .i64) w A0 l0.length l0) (hc0 : l0.length ≤ c0) (hr1 : Kd.C (Kd.int .i64) w A1 l1.length l1) (hc1 : l1.length ≤ c1) (h : sweep_Check.f k l0 l1 = some (r1, r2, r3)) :
    Calls Tryd.prog 36 #[.slice A0 l0.length c0, .slice A1 l1.length c1] w fun e w' => e = .returned (.tuple #[.int .i64 r1, .bool r2, .int .i64 r3]) ∧ Below w.heap.size w w' := by
  have HR0 := Aside0.mk hr0
  have HC0 := Aside0.mk hc0
  clear hr0 hc0
  have HR1 := Aside0.mk hr1
  have HC1 := Aside0.mk hc1
  clear hr1 hc1
  have HB := Aside0.mk (Below.refl w.heap.size w)
  have H : ((sweep_read.f k l0).bind fun bt340 => (if bt340.2 = true then ((sweep_town_isPath.f k bt340.1 l1).bind fun t344 => (if t344 = true then (sweep_Check.l0 k 0 l1 (l1.length : Int) 0) else (some (0, false, 0)))) else (some (0, false, 2)))) = some (r1, r2, r3) := h
  clear h
  replace H := Option.bind_eq_some_iff.mp H
  obtain ⟨⟨t340, t343⟩, A30, H⟩ := H
  replace H : (if t343 = true then ((sweep_town_isPath.f k t340 l1).bind fun t344 => (if t344 = true then (sweep_Check.l0 k 0 l1 (l1.length : Int) 0) else (some (0, false, 0)))) else (some (0, false, 2))) = some (r1, r2, r3) := H
  have A3 := Aside0.mk A30
  clear A30
  by_cases c4 : t343 = true
  · subst c4
    have H1 : ((sweep_town_isPath.f k t340 l1).bind fun t344 => (if t344 = true then (sweep_Check.l0 k 0 l1 (l1.length : Int) 0) else (some (0, false, 0)))) = some (r1, r2, r3) := by rw [if_pos rfl] at H; exact H
    clear H
    have H := H1
    clear H1
    replace H := Option.bind_eq_some_iff.mp H
    obtain ⟨t344, A50, H⟩ := H
    replace H : (if t344 = true then (sweep_Check.l0 k 0 l1 (l1.length : Int) 0) else (some (0, false, 0))) = some (r1, r2, r3) := H
    have A5 := Aside0.mk A50
    clear A50
    by_cases c6 : t344 = true
    · subst c6
      have H1 : (sweep_Check.l0 k 0 l1 (l1.length : Int) 0) = some (r1, r2, r3) := by rw [if_pos rfl] at H; exact H
      clear H
      have H := H1
      clear H1
      have H' := Aside0.mk H
      clear H
      go_enter Tryd.func36, Tryd.ntmps36
      go_wp2_with (first | ((with_reducible refine gate_callee (f := 49) rfl ?_); refine goesL_ (some 14) rfl rfl Tryd.func49 (by kernel_rfl) rfl #[.slice A0 l0.length c0] rfl (by (try simp only [List.map_toArray, List.map_cons, List.map_nil]); first | done | rfl | (simp only [List.length_drop, List.length_take]; rfl)) ?_; (with_reducible refine (sweep_read.calls k (fun k_ => k_ < w.heap.size) _ _ l0 t340 true _ ?side1 A3.out).mono ?_); (case side1 => exact Kd.V_mk HC0.out (Kd.F_below (Kd.C_F (Kd.heap_int .i64) HR0.out) (by repeat (first | (with_reducible first | exact HB.out | apply below_alloc | apply pw_below_drewN | apply below_drew1) | exact HB.out)))); rintro e w7 ⟨v341, rfl, ho0, hb⟩; refine ⟨_, rfl, ?_⟩; have n0_ := Aside0.mk (Kd.V_lower (Kd.V_mono (ok' := fun k_ => True) ho0 (fun k_ hk_ => trivial)) (below_size (by repeat (first | (with_reducible first | exact HB.out | apply below_alloc | apply pw_below_drewN | apply below_drew1) | exact HB.out)))); have n1_ := Aside0.mk (below_step (by repeat (first | (with_reducible first | exact HB.out | apply below_alloc | apply pw_below_drewN | apply below_drew1) | exact HB.out)) hb); clear HB; have HO342 := n0_; have HB := n1_; clear n0_ n1_; (try clear hb); (try clear hb2); (try clear hk); (try clear hi); (try clear ho0); obtain ⟨Ao8, co8, eo8⟩ := Kd.V_slice HO342.out; subst eo8) | ((with_reducible refine gate_callee (f := 62) rfl ?_); refine goesL_ (some 21) rfl rfl Tryd.func62 (by kernel_rfl) rfl #[.slice Ao8 t340.length co8, .slice A1 l1.length c1] rfl (by (try simp only [List.map_toArray, List.map_cons, List.map_nil]); first | done | rfl | (simp only [List.length_drop, List.length_take]; rfl)) ?_; (with_reducible refine (sweep_town_isPath.calls k _ _ t340 _ _ l1 true _ ?side1 ?side2 ?side3 ?side4 A5.out).mono ?_); (case side1 => repeat (first | exact (Kd.V_reads' HO342.out).2.2 | (with_reducible refine Kd.C_alloc ?_ _) | (with_reducible refine Kd.C_drewN ?_ _) | (with_reducible refine Kd.C_drew ?_))); (case side2 => exact (Kd.V_reads' HO342.out).2.1); (case side3 => repeat (first | exact (Kd.C_below HR1.out HB.out) | (with_reducible refine Kd.C_alloc ?_ _) | (with_reducible refine Kd.C_drewN ?_ _) | (with_reducible refine Kd.C_drew ?_))); (case side4 => exact HC1.out); rintro e w9 ⟨rfl, hb⟩; refine ⟨_, rfl, ?_⟩; have n0_ := Aside0.mk (Kd.V_below (by (with_reducible repeat (first | apply Kd.V_alloc | apply Kd.V_drewN | apply Kd.V_drew)); exact HO342.out) hb); have n1_ := Aside0.mk (below_step (by repeat (first | (with_reducible first | exact HB.out | apply below_alloc | apply pw_below_drewN | apply below_drew1) | exact HB.out)) hb); clear HO342; clear HB; have HO342 := n0_; have HB := n1_; clear n0_ n1_; (try clear hb); (try clear hb2); (try clear hk); (try clear hi)))
      go_loopg [9, 25] k (fun kq v9 v25 w' => ∃ (x9_1 : Int) (x25_1 : Int), v9 = .int .i64 x9_1 ∧ v25 = .int .i64 x25_1 ∧ Aside0 (sweep_Check.l0 kq x9_1 l1 (l1.length : Int) x25_1 = some (r1, r2, r3)) ∧ Aside0 (kq ≤ k) ∧ Aside0 (Below w.heap.size w w'))
      case atStart => exact ⟨(0), (0), (by first | rfl | (simp; done) | (simp [*]; done)), (by first | rfl | (simp; done) | (simp [*]; done)), H', ⟨Nat.le_refl _⟩, ⟨by repeat (first | (with_reducible first | exact HB.out | apply below_alloc | apply pw_below_drewN | apply below_drew1) | exact HB.out)⟩⟩
      case round =>
        clear H'
        try clear c1
        try clear p2
        try clear c3
        try clear c4
        try clear c6
        obtain ⟨x9_1, x25_1, rfl, rfl, HA, HK1, HB⟩ := hrel
        cases gk with
        | zero => exact absurd HA.out (by simp [sweep_Check.l0])
        | succ k1 =>
          have H := HA.out
          clear HA
          simp only [sweep_Check.l0] at H
          by_cases c10 : x25_1 < (l1.length : Int)
          · rw [if_pos c10] at H
            have c10b0 : decide (x25_1 < (l1.length : Int)) = true := decide_eq_true c10
            clear c10
            by_cases c11 : 0 ≤ x25_1
            · rw [if_pos c11] at H
              have c11b0 : decide (0 ≤ x25_1) = true := decide_eq_true c11
              clear c11
              by_cases c12 : x25_1 < (l1.length : Int)
              · rw [if_pos c12] at H
                have c12b0 : decide (x25_1 < (l1.length : Int)) = true := decide_eq_true c12
                clear c12
                replace H := Option.bind_eq_some_iff.mp H
                obtain ⟨t346, A130, H⟩ := H
                replace H : (sweep_Check.l0 k1 (mx x9_1 t346) l1 (l1.length : Int) (wrap64 (x25_1 + 1))) = some (r1, r2, r3) := H
                have A13 := Aside0.mk A130
                clear A130
                obtain ⟨ji14, hji14⟩ : ∃ j_ : Int, (mx x9_1 t346) = j_ := ⟨_, rfl⟩
                replace H : (sweep_Check.l0 k1 ji14 l1 (l1.length : Int) (wrap64 (x25_1 + 1))) = some (r1, r2, r3) := by first | (rw [hji14] at H; exact H) | (simp only [hji14] at H ⊢; exact H)
                (try rw [hji14] at A13)
                have hji14_ : (if x9_1 < t346 then t346 else x9_1) = ji14 := hji14
                have H' := Aside0.mk H
                clear H
                have p345 : 0 ≤ (x25_1 : Int) := of_decide_eq_true (by first | (with_reducible assumption) | assumption)
                have q345 : x25_1 < (l1.length : Int) := of_decide_eq_true (by first | (with_reducible assumption) | assumption)
                obtain ⟨ad345, e345, hx345_0⟩ := Kd.at_int HR1.out x25_1 p345 q345
                cases e345
                replace hx345_0 := (HB.out.cell (World.block_lt_of_cell? w _ hx345_0)).trans hx345_0
                replace p345 := eq_true p345
                replace q345 := eq_true q345
                go_wp2_with (first | ((with_reducible refine gate_callee (f := 63) rfl ?_); refine goesL_ (some 31) rfl rfl Tryd.func63 (by kernel_rfl) rfl #[.int .i64 (rd l1 x25_1)] rfl (by (try simp only [List.map_toArray, List.map_cons, List.map_nil]); first | done | rfl | (simp only [List.length_drop, List.length_take]; rfl)) ?_; (with_reducible refine (sweep_count.calls (rd l1 x25_1) t346 _ A13.out).mono ?_); rintro e w' ⟨rfl, ⟨nd, rfl⟩⟩; refine ⟨_, rfl, ?_⟩))
                go_roundg k1
                case measure => have := HK1.out; omega
                case rel => exact ⟨(ji14), (wrap64 (x25_1 + 1)), (by first | rfl | (simp; done) | (simp only [← hji14] <;> (first | rfl | simp)) | (simp [*]; done)), (by first | rfl | (simp; done) | (simp [*]; done)), H', ⟨by have := HK1.out; omega⟩, ⟨by repeat (first | (with_reducible first | exact HB.out | apply below_alloc | apply pw_below_drewN | apply below_drew1) | exact HB.out)⟩⟩
              · rw [if_neg c12] at H
                exact absurd H (by simp)
            · rw [if_neg c11] at H
              exact absurd H (by simp)
          · rw [if_neg c10] at H
            have c10b0 : decide (x25_1 < (l1.length : Int)) = false := decide_eq_false c10
            clear c10
            simp only [Option.some.injEq, Prod.mk.injEq] at H
            obtain ⟨rfl, rfl, rfl⟩ := H
            go_wp2
            go_ret3
            exact ⟨by first | rfl | (simp [errW_none, errW_some] <;> rfl) | (simp [*, errW_none, errW_some] <;> rfl), by repeat (first | (with_reducible first | exact HB.out | apply below_alloc | apply pw_below_drewN | apply below_drew1) | exact HB.out)⟩
    · replace c6 := Bool.eq_false_iff.mpr c6
      subst c6
      have H1 : (some (0, false, 0)) = some (r1, r2, r3) := by rw [if_neg (show ¬ (false = true) by decide)] at H; exact H
      clear H
      have H := H1
      clear H1
      simp only [Option.some.injEq, Prod.mk.injEq] at H
      obtain ⟨rfl, rfl, rfl⟩ := H
      go_enter Tryd.func36, Tryd.ntmps36
      go_wp2_with (first | ((with_reducible refine gate_callee (f := 49) rfl ?_); refine goesL_ (some 14) rfl rfl Tryd.func49 (by kernel_rfl) rfl #[.slice A0 l0.length c0] rfl (by (try simp only [List.map_toArray, List.map_cons, List.map_nil]); first | done | rfl | (simp only [List.length_drop, List.length_take]; rfl)) ?_; (with_reducible refine (sweep_read.calls k (fun k_ => k_ < w.heap.size) _ _ l0 t340 true _ ?side1 A3.out).mono ?_); (case side1 => exact Kd.V_mk HC0.out (Kd.F_below (Kd.C_F (Kd.heap_int .i64) HR0.out) (by repeat (first | (with_reducible first | exact HB.out | apply below_alloc | apply pw_below_drewN | apply below_drew1) | exact HB.out)))); rintro e w15 ⟨v341, rfl, ho0, hb⟩; refine ⟨_, rfl, ?_⟩; have n0_ := Aside0.mk (Kd.V_lower (Kd.V_mono (ok' := fun k_ => True) ho0 (fun k_ hk_ => trivial)) (below_size (by repeat (first | (with_reducible first | exact HB.out | apply below_alloc | apply pw_below_drewN | apply below_drew1) | exact HB.out)))); have n1_ := Aside0.mk (below_step (by repeat (first | (with_reducible first | exact HB.out | apply below_alloc | apply pw_below_drewN | apply below_drew1) | exact HB.out)) hb); clear HB; have HO342 := n0_; have HB := n1_; clear n0_ n1_; (try clear hb); (try clear hb2); (try clear hk); (try clear hi); (try clear ho0); obtain ⟨Ao16, co16, eo16⟩ := Kd.V_slice HO342.out; subst eo16) | ((with_reducible refine gate_callee (f := 62) rfl ?_); refine goesL_ (some 21) rfl rfl Tryd.func62 (by kernel_rfl) rfl #[.slice Ao16 t340.length co16, .slice A1 l1.length c1] rfl (by (try simp only [List.map_toArray, List.map_cons, List.map_nil]); first | done | rfl | (simp only [List.length_drop, List.length_take]; rfl)) ?_; (with_reducible refine (sweep_town_isPath.calls k _ _ t340 _ _ l1 false _ ?side1 ?side2 ?side3 ?side4 A5.out).mono ?_); (case side1 => repeat (first | exact (Kd.V_reads' HO342.out).2.2 | (with_reducible refine Kd.C_alloc ?_ _) | (with_reducible refine Kd.C_drewN ?_ _) | (with_reducible refine Kd.C_drew ?_))); (case side2 => exact (Kd.V_reads' HO342.out).2.1); (case side3 => repeat (first | exact (Kd.C_below HR1.out HB.out) | (with_reducible refine Kd.C_alloc ?_ _) | (with_reducible refine Kd.C_drewN ?_ _) | (with_reducible refine Kd.C_drew ?_))); (case side4 => exact HC1.out); rintro e w17 ⟨rfl, hb⟩; refine ⟨_, rfl, ?_⟩; have n0_ := Aside0.mk (Kd.V_below (by (with_reducible repeat (first | apply Kd.V_alloc | apply Kd.V_drewN | apply Kd.V_drew)); exact HO342.out) hb); have n1_ := Aside0.mk (below_step (by repeat (first | (with_reducible first | exact HB.out | apply below_alloc | apply pw_below_drewN | apply below_drew1) | exact HB.out)) hb); clear HO342; clear HB; have HO342 := n0_; have HB := n1_; clear n0_ n1_; (try clear hb); (try clear hb2); (try clear hk); (try clear hi)))
      go_ret3
      exact ⟨by first | rfl | (simp [errW_none, errW_some] <;> rfl) | (simp [*, errW_none, errW_some] <;> rfl), by repeat (first | (with_reducible first | exact HB.out | apply below_alloc | apply pw_below_drewN | apply below_drew1) | exact HB.out)⟩
  · replace c4 := Bool.eq_false_iff.mpr c4
    subst c4
    have H1 : (some (0, false, 2)) = some (r1, r2, r3) := by rw [if_neg (show ¬ (false = true) by decide)] at H; exact H
    clear H
    have H := H1
    clear H1
    simp only [Option.some.injEq, Prod.mk.injEq] at H
    obtain ⟨rfl, rfl, rfl⟩ := H
    go_enter Tryd.func36, Tryd.ntmps36
    go_wp2_with (first | ((with_reducible refine gate_callee (f := 49) rfl ?_); refine goesL_ (some 14) rfl rfl Tryd.func49 (by kernel_rfl) rfl #[.slice A0 l0.length c0] rfl (by (try simp only [List.map_toArray, List.map_cons, List.map_nil]); first | done | rfl | (simp only [List.length_drop, List.length_take]; rfl)) ?_; (with_reducible refine (sweep_read.calls k (fun k_ => k_ < w.heap.size) _ _ l0 t340 false _ ?side1 A3.out).mono ?_); (case side1 => exact Kd.V_mk HC0.out (Kd.F_below (Kd.C_F (Kd.heap_int .i64) HR0.out) (by repeat (first | (with_reducible first | exact HB.out | apply below_alloc | apply pw_below_drewN | apply below_drew1) | exact HB.out)))); rintro e w18 ⟨v341, rfl, ho0, hb⟩; refine ⟨_, rfl, ?_⟩; have n0_ := Aside0.mk (Kd.V_lower (Kd.V_mono (ok' := fun k_ => True) ho0 (fun k_ hk_ => trivial)) (below_size (by repeat (first | (with_reducible first | exact HB.out | apply below_alloc | apply pw_below_drewN | apply below_drew1) | exact HB.out)))); have n1_ := Aside0.mk (below_step (by repeat (first | (with_reducible first | exact HB.out | apply below_alloc | apply pw_below_drewN | apply below_drew1) | exact HB.out)) hb); clear HB; have HO342 := n0_; have HB := n1_; clear n0_ n1_; (try clear hb); (try clear hb2); (try clear hk); (try clear hi); (try clear ho0)))
    go_ret3
    exact ⟨by first | rfl | (simp [errW_none, errW_some] <;> rfl) | (simp [*, errW_none, errW_some] <;> rfl), by repeat (first | (with_reducible first | exact HB.out | apply below_alloc | apply pw_below_drewN | apply below_drew1) | exact HB.out)⟩

end Go.Proofs.YtijfddobandcdaaDoor.X
end
section
/- isPath, Check: path decompositions and their width. -/
set_option linter.unusedVariables false
namespace Go.Proofs.YtijfddobandcdaaDoor.X
open Go.RowKit Go.Proofs.YtijfddobandcdaaDoorW.PrintWords Go.Proofs.YtijfddobandcdaaDoorW.PrintLast Go.Proofs.YtijfddobandcdaaDoorW.PrintMore Go.Proofs.YtijfddobandcdaaDoor.T

theorem rd_mem {l : List Int} {i : Nat} (h : i < l.length) : rd l (i : Int) = l[i] := by unfold rd; rw [Int.toNat_natCast, List.getD_eq_getElem?_getD, List.getElem?_eq_getElem h]; rfl
theorem min_l0 (l : List Int) (hl : l.length < 2 ^ 60) : ∀ (d i : Nat) (m : Int), i + d = l.length → ∃ r, Ev (fun k => slices_Min_int_int.l0 k l m (i : Int)) r ∧ (r = m ∨ r ∈ l) ∧ r ≤ m ∧ ∀ x ∈ l.drop i, r ≤ x := by
  intro d
  induction d with
  | zero =>
    intro i m hi
    refine ⟨m, Ev.step (f := fun _ => some m) (fun k => by rw [slices_Min_int_int.l0, if_neg (by omega)]) (Ev.some rfl), .inl rfl, Int.le_refl _, ?_⟩
    rw [List.drop_eq_nil_of_le (by omega)]
    simp
  | succ d ih =>
    intro i m hi
    have hi' : i < l.length := by omega
    obtain ⟨r, h1, h2, h3, h4⟩ := ih (i + 1) (mn m l[i]) (by omega)
    have hmn : mn m l[i] ≤ m ∧ mn m l[i] ≤ l[i] ∧ (mn m l[i] = m ∨ mn m l[i] = l[i]) := by unfold mn; split <;> omega
    refine ⟨r, Ev.step (fun k => by rw [slices_Min_int_int.l0, if_pos (by omega), if_pos (by omega), rd_mem hi', wrap_succ i (by omega)]) h1, ?_, by omega, ?_⟩
    · rcases h2 with h | h
      · rcases hmn.2.2 with e | e
        · exact .inl (by omega)
        · exact .inr (by rw [h, e]; exact List.getElem_mem hi')
      · exact .inr h
    · rw [List.drop_eq_getElem_cons hi']
      intro x hx
      rcases List.mem_cons.1 hx with e | e
      · rw [e]; omega
      · exact h4 x e
theorem max_l0 (l : List Int) (hl : l.length < 2 ^ 60) : ∀ (d i : Nat) (m : Int), i + d = l.length → ∃ r, Ev (fun k => slices_Max_int_int.l0 k l m (i : Int)) r ∧ (r = m ∨ r ∈ l) ∧ m ≤ r ∧ ∀ x ∈ l.drop i, x ≤ r := by
  intro d
  induction d with
  | zero =>
    intro i m hi
    refine ⟨m, Ev.step (f := fun _ => some m) (fun k => by rw [slices_Max_int_int.l0, if_neg (by omega)]) (Ev.some rfl), .inl rfl, Int.le_refl _, ?_⟩
    rw [List.drop_eq_nil_of_le (by omega)]
    simp
  | succ d ih =>
    intro i m hi
    have hi' : i < l.length := by omega
    obtain ⟨r, h1, h2, h3, h4⟩ := ih (i + 1) (mx m l[i]) (by omega)
    have hmn : m ≤ mx m l[i] ∧ l[i] ≤ mx m l[i] ∧ (mx m l[i] = m ∨ mx m l[i] = l[i]) := by unfold mx; split <;> omega
    refine ⟨r, Ev.step (fun k => by rw [slices_Max_int_int.l0, if_pos (by omega), if_pos (by omega), rd_mem hi', wrap_succ i (by omega)]) h1, ?_, by omega, ?_⟩
    · rcases h2 with h | h
      · rcases hmn.2.2 with e | e
        · exact .inl (by omega)
        · exact .inr (by rw [h, e]; exact List.getElem_mem hi')
      · exact .inr h
    · rw [List.drop_eq_getElem_cons hi']
      intro x hx
      rcases List.mem_cons.1 hx with e | e
      · rw [e]; omega
      · exact h4 x e
theorem min_ev (l : List Int) (h1 : 1 ≤ l.length) (hl : l.length < 2 ^ 60) : ∃ r, Ev (fun k => slices_Min_int_int.f k l) r ∧ r ∈ l ∧ ∀ x ∈ l, r ≤ x := by
  obtain ⟨r, h2, h3, h4, h5⟩ := min_l0 l hl (l.length - 1) 1 (rd l 0) (by omega)
  have e : rd l 0 = l[0] := rd_mem (i := 0) (by omega)
  refine ⟨r, ?_, ?_, ?_⟩
  · unfold slices_Min_int_int.f
    exact Ev.if_neg (by omega) (Ev.if_pos (by omega) h2)
  · rcases h3 with h | h
    · rw [h, e]; exact List.getElem_mem _
    · exact h
  · intro x hx
    rw [← List.drop_zero (l := l), List.drop_eq_getElem_cons (show 0 < l.length by omega)] at hx
    rcases List.mem_cons.1 hx with h | h
    · rw [h, ← e]; exact h4
    · exact h5 x h
theorem max_ev (l : List Int) (h1 : 1 ≤ l.length) (hl : l.length < 2 ^ 60) : ∃ r, Ev (fun k => slices_Max_int_int.f k l) r ∧ r ∈ l ∧ ∀ x ∈ l, x ≤ r := by
  obtain ⟨r, h2, h3, h4, h5⟩ := max_l0 l hl (l.length - 1) 1 (rd l 0) (by omega)
  have e : rd l 0 = l[0] := rd_mem (i := 0) (by omega)
  refine ⟨r, ?_, ?_, ?_⟩
  · unfold slices_Max_int_int.f
    exact Ev.if_neg (by omega) (Ev.if_pos (by omega) h2)
  · rcases h3 with h | h
    · rw [h, e]; exact List.getElem_mem _
    · exact h
  · intro x hx
    rw [← List.drop_zero (l := l), List.drop_eq_getElem_cons (show 0 < l.length by omega)] at hx
    rcases List.mem_cons.1 hx with h | h
    · rw [h, ← e]; exact h4
    · exact h5 x h

/-- The mark ahead of place i. -/
def ahead (v : Nat) (B : List Nat) (i : Nat) : Bool := if i = 0 then false else (B.getD (i - 1) 0).testBit v
theorem toNat_one {b : Bool} : ((b.toNat : Nat) : Int) = 1 ↔ b = true := by cases b <;> simp
theorem isPath_l1 (G : List Nat) (hG : Gr 7 G) (B : List Nat) (hB : ∀ b ∈ B, b < 2 ^ G.length) (h30 : B.length ≤ 30) (v : Nat) (hv : v < G.length) (r : Bool)
    (cont : Ev (fun k => sweep_town_isPath.l0 k (gi B) (gi G) (G.length : Int) ((v + 1 : Nat) : Int)) r) : ∀ (d i s c : Nat), i + d = B.length → s < 2 ^ G.length → c ≤ i →
    Ev (fun k => sweep_town_isPath.l1 k (gi B) (v : Int) (s : Int) (c : Int) (gi G) (G.length : Int) (v : Int) (gi B) (B.length : Int) (i : Int)) (decide (c + starts (ahead v B i) (marks v (B.drop i)) = 1 ∧ T.left v s (B.drop i) = 0) && r) := by
  have hn := hG.most
  intro d
  induction d with
  | zero =>
    intro i s c hi hs hc
    rw [List.drop_eq_nil_of_le (by omega)]
    simp only [marks, List.map_nil, starts, T.left, Nat.add_zero]
    by_cases h1 : c = 1
    · by_cases h2 : s = 0
      · refine Ev.step (fun k => by rw [sweep_town_isPath.l1, if_neg (by omega), if_pos (by omega), if_pos (by omega), wrap_succ v (by omega)]) ?_
        rw [decide_eq_true ⟨h1, h2⟩, Bool.true_and]
        exact cont
      · refine Ev.step (f := fun _ => some false) (fun k => by rw [sweep_town_isPath.l1, if_neg (by omega), if_pos (by omega), if_neg (by omega)]) (Ev.some ?_)
        rw [decide_eq_false (fun h => h2 h.2), Bool.false_and]
    · refine Ev.step (f := fun _ => some false) (fun k => by rw [sweep_town_isPath.l1, if_neg (by omega), if_neg (by omega)]) (Ev.some ?_)
      rw [decide_eq_false (fun h => h1 h.1), Bool.false_and]
  | succ d ih =>
    intro i s c hi hs hc
    have HS := Aside0.mk hs
    clear hs
    have hi' : i < B.length := by omega
    have hwi := wrap_succ i (by omega)
    have hwc := wrap_succ c (by omega)
    have hb2 := hB _ (List.getElem_mem hi')
    have hr : rd (gi B) (i : Int) = ((B[i] : Nat) : Int) := by rw [rd_gi, List.getD_eq_getElem?_getD, List.getElem?_eq_getElem hi']; rfl
    have hb62 := big (small G (by omega) hb2)
    have hs62 := big (small G (by omega) HS.out)
    have hget : B.getD i 0 = B[i] := by rw [List.getD_eq_getElem?_getD, List.getElem?_eq_getElem hi']; rfl
    have hah : ahead v B (i + 1) = B[i].testBit v := by unfold ahead; rw [if_neg (by omega), Nat.add_sub_cancel, hget]
    rw [List.drop_eq_getElem_cons hi']
    simp only [marks, List.map_cons, starts, T.left]
    have hd := Aside0.mk (show diff s B[i] < 2 ^ G.length from Nat.lt_of_le_of_lt (diff_le _ _) HS.out)
    clear hb2
    by_cases hb : B[i].testBit v = true
    · have hbit : Go.bits .and .i64 (shr .i64 ((B[i] : Nat) : Int) (v : Int)) 1 = 1 := (bit_one _ v hb62 (by omega)).2 hb
      rw [if_pos hb]
      have next : ∀ c' : Nat, c' ≤ i + 1 → Ev (fun k => sweep_town_isPath.l1 k (gi B) (v : Int) ((diff s B[i] : Nat) : Int) (c' : Int) (gi G) (G.length : Int) (v : Int) (gi B) (B.length : Int) ((i + 1 : Nat) : Int)) (decide (c' + starts (B[i].testBit v) ((B.drop (i + 1)).map fun b => b.testBit v) = 1 ∧ T.left v (diff s B[i]) (B.drop (i + 1)) = 0) && r) := fun c' h' => by
        have := ih (i + 1) (diff s B[i]) c' (by omega) hd.out h'
        rw [hah] at this
        exact this
      by_cases hp : ahead v B i = true
      · have hi0 : i ≠ 0 := fun e => by rw [e] at hp; simp [ahead] at hp
        have hpr : (B.getD (i - 1) 0).testBit v = true := by unfold ahead at hp; rw [if_neg hi0] at hp; exact hp
        have hp2 : B.getD (i - 1) 0 < 2 ^ 62 := by
          rw [List.getD_eq_getElem?_getD, List.getElem?_eq_getElem (by omega)]
          exact big (small G (by omega) (hB _ (List.getElem_mem _)))
        refine Ev.step (f := fun k => sweep_town_isPath.j3 k (gi B) (v : Int) (s : Int) (c : Int) ((B[i] : Nat) : Int) (gi G) (G.length : Int) (v : Int) (gi B) (B.length : Int) (i : Int) false) (fun k => ?_) ?_
        · rw [sweep_town_isPath.l1, if_pos (by omega), if_pos (by omega), if_pos (by rw [gi_length]; omega), if_pos (by omega), hr, if_pos hbit, if_neg (by omega), wrap_pred i (by omega) (by omega), if_pos (by omega), if_pos (by rw [gi_length]; omega), rd_gi, bit_at _ v hp2 (by omega), hpr]
          rfl
        · refine Ev.step (fun k => by rw [sweep_town_isPath.j3, if_neg (by simp), if_pos (by omega), if_pos hbit, b_andNot _ _ hs62 hb62, hwi]) ?_
          have := next c (by omega)
          simpa [hp] using this
      · have hp' : ahead v B i = false := by simpa using hp
        refine Ev.step (f := fun k => sweep_town_isPath.j3 k (gi B) (v : Int) (s : Int) (c : Int) ((B[i] : Nat) : Int) (gi G) (G.length : Int) (v : Int) (gi B) (B.length : Int) (i : Int) true) (fun k => ?_) ?_
        · rw [sweep_town_isPath.l1, if_pos (by omega), if_pos (by omega), if_pos (by rw [gi_length]; omega), if_pos (by omega), hr, if_pos hbit]
          by_cases hi0 : i = 0
          · rw [if_pos (by omega)]
          · have hpr : (B.getD (i - 1) 0).testBit v = false := by unfold ahead at hp'; rw [if_neg hi0] at hp'; exact hp'
            have hp2 : B.getD (i - 1) 0 < 2 ^ 62 := by
              rw [List.getD_eq_getElem?_getD, List.getElem?_eq_getElem (by omega)]
              exact big (small G (by omega) (hB _ (List.getElem_mem _)))
            rw [if_neg (by omega), wrap_pred i (by omega) (by omega), if_pos (by omega), if_pos (by rw [gi_length]; omega), rd_gi, bit_at _ v hp2 (by omega), hpr]
            rfl
        · refine Ev.step (fun k => by rw [sweep_town_isPath.j3, if_pos rfl, if_pos (by omega), if_pos hbit, b_andNot _ _ hs62 hb62, hwi, hwc]) ?_
          have := next (c + 1) (by omega)
          rw [hb] at this
          rw [hp', hb, if_pos ⟨rfl, rfl⟩, ← Nat.add_assoc]
          exact this
    · have hb' : B[i].testBit v = false := by simpa using hb
      have hbit : ¬ Go.bits .and .i64 (shr .i64 ((B[i] : Nat) : Int) (v : Int)) 1 = 1 := fun h => hb ((bit_one _ v hb62 (by omega)).1 h)
      rw [if_neg hb]
      refine Ev.step (f := fun k => sweep_town_isPath.j3 k (gi B) (v : Int) (s : Int) (c : Int) ((B[i] : Nat) : Int) (gi G) (G.length : Int) (v : Int) (gi B) (B.length : Int) (i : Int) false) (fun k => ?_) ?_
      · rw [sweep_town_isPath.l1, if_pos (by omega), if_pos (by omega), if_pos (by rw [gi_length]; omega), if_pos (by omega), hr, if_neg hbit]
      · refine Ev.step (fun k => by rw [sweep_town_isPath.j3, if_neg (by simp), if_pos (by omega), if_neg hbit, hwi]) ?_
        have := ih (i + 1) s c (by omega) HS.out (by omega)
        rw [hah, hb'] at this
        rw [hb', if_neg (by simp), Nat.zero_add]
        exact this
/-- What node v asks of the bags. -/
def fits (G B : List Nat) (v : Nat) : Bool := decide (starts false (marks v B) = 1 ∧ T.left v (G.getD v 0) B = 0)
theorem isPath_l0 (G : List Nat) (hG : Gr 7 G) (B : List Nat) (hB : ∀ b ∈ B, b < 2 ^ G.length) (h30 : B.length ≤ 30) : ∀ (d v : Nat), v + d = G.length →
    Ev (fun k => sweep_town_isPath.l0 k (gi B) (gi G) (G.length : Int) (v : Int)) (allFrom (fits G B) G.length d v) := by
  have hn := hG.most
  intro d
  induction d with
  | zero => intro v hv; exact Ev.step (f := fun _ => some true) (fun k => by rw [sweep_town_isPath.l0, if_neg (by omega)]) (Ev.some rfl)
  | succ d ih =>
    intro v hv
    have := isPath_l1 G hG B hB h30 v (by omega) _ (ih (v + 1) (by omega)) B.length 0 (G.getD v 0) 0 (by omega) (hG.row v) (Nat.le_refl _)
    refine Ev.step (fun k => by rw [sweep_town_isPath.l0, if_pos (by omega), if_pos (by omega), if_pos (by rw [gi_length]; omega), rd_gi, gi_length]) ?_
    simp only [allFrom, fits]
    rw [Nat.zero_add, List.drop_zero] at this
    exact this
theorem fits_iff (G B : List Nat) (h1 : 1 ≤ B.length) (h30 : B.length ≤ 30) (hB : ∀ b ∈ B, b < 2 ^ G.length) : allFrom (fits G B) G.length G.length 0 = true ↔ PathDec G B := by
  rw [allFrom_iff]
  simp only [fits, decide_eq_true_eq, starts_one, left_zero]
  constructor
  · intro h
    exact ⟨h1, h30, hB, fun v hv => (h v (by omega) (by omega)).1, fun v u hv ha => (h v (by omega) (by omega)).2 u ha⟩
  · intro h v _ hv
    exact ⟨h.run v (by omega), fun u ha => h.edge v u (by omega) ha⟩
/-- l is a path decomposition. -/
def IsPathL (G : List Nat) (l : List Int) : Prop := ∃ B, l = gi B ∧ PathDec G B
theorem isPath_ev (G : List Nat) (hG : Gr 7 G) (l : List Int) (hl : l.length < 2 ^ 60) : ∃ r, Ev (fun k => sweep_town_isPath.f k (gi G) l) r ∧ (r = true ↔ IsPathL G l) := by
  have hn := hG.most
  have bad : ¬ IsPathL G l → Ev (fun k => sweep_town_isPath.f k (gi G) l) false → ∃ r, Ev (fun k => sweep_town_isPath.f k (gi G) l) r ∧ (r = true ↔ IsPathL G l) := fun h1 h2 => ⟨false, h2, by simp [h1]⟩
  have stop : Ev (fun k => sweep_town_isPath.j0 k (gi G) l true) false := Ev.step (f := fun _ => some false) (fun k => by rw [sweep_town_isPath.j0, if_pos rfl]) (Ev.some rfl)
  have h29 : 2 ^ G.length ≤ 2 ^ 9 := Nat.pow_le_pow_right (by omega) (by omega)
  have h2p := Nat.two_pow_pos G.length
  have hall : sweep_town_all.f (gi G) = some ((2 ^ G.length - 1 : Nat) : Int) := by
    unfold sweep_town_all.f
    rw [gi_length, s_one _ (by omega), w64_small _ (by omega) (by omega)]
    congr 1
    omega
  by_cases h1 : 1 ≤ l.length
  · by_cases h30 : l.length ≤ 30
    · obtain ⟨mi, hmi, hmi2, hmi3⟩ := min_ev l h1 (by omega)
      obtain ⟨ma, hma, hma2, hma3⟩ := max_ev l h1 (by omega)
      by_cases h0 : mi < 0
      · refine bad ?_ ?_
        · rintro ⟨B, rfl, _⟩
          unfold gi at hmi2
          obtain ⟨x, _, hx⟩ := List.mem_map.1 hmi2
          omega
        · unfold sweep_town_isPath.f
          exact Ev.if_neg (by omega) (Ev.if_neg (by omega) (Ev.bind hmi (Ev.if_pos h0 stop)))
      · obtain ⟨B, rfl⟩ := gi_nonneg l (fun x hx => by have := hmi3 x hx; omega)
        rw [gi_length] at h1 h30
        by_cases h2 : ma > ((2 ^ G.length - 1 : Nat) : Int)
        · refine bad ?_ ?_
          · rintro ⟨B', e, h⟩
            rw [← gi_inj e] at h
            obtain ⟨x, hx, rfl⟩ := List.mem_map.1 hma2
            have := h.lt x hx
            omega
          · unfold sweep_town_isPath.f
            refine Ev.if_neg (by rw [gi_length]; omega) (Ev.if_neg (by rw [gi_length]; omega) (Ev.bind hmi (Ev.if_neg h0 (Ev.bind hma (Ev.bind1 hall ?_)))))
            rw [decide_eq_true h2]
            exact stop
        · have hB : ∀ b ∈ B, b < 2 ^ G.length := fun b hb => by have := hma3 b (gi_mem.2 hb); omega
          refine ⟨allFrom (fits G B) G.length G.length 0, ?_, ?_⟩
          · unfold sweep_town_isPath.f
            refine Ev.if_neg (by rw [gi_length]; omega) (Ev.if_neg (by rw [gi_length]; omega) (Ev.bind hmi (Ev.if_neg h0 (Ev.bind hma (Ev.bind1 hall ?_)))))
            rw [decide_eq_false h2]
            refine Ev.step (fun k => by rw [sweep_town_isPath.j0, if_neg (by simp)]) ?_
            rw [gi_length]
            exact isPath_l0 G hG B hB h30 G.length 0 (by omega)
          · rw [fits_iff G B h1 h30 hB]
            exact ⟨fun h => ⟨B, rfl, h⟩, fun ⟨B', e, h⟩ => by rw [gi_inj e]; exact h⟩
    · refine bad ?_ ?_
      · rintro ⟨B, rfl, h⟩
        have := h.most
        rw [gi_length] at h30
        omega
      · unfold sweep_town_isPath.f
        exact Ev.if_neg (by omega) (Ev.if_pos (by omega) stop)
  · refine bad ?_ ?_
    · rintro ⟨B, rfl, h⟩
      have := h.pos
      rw [gi_length] at h1
      omega
    · unfold sweep_town_isPath.f
      exact Ev.if_pos (by omega) stop

theorem check_l0 (G : List Nat) (hG : Gr 7 G) (B : List Nat) (hB : ∀ b ∈ B, b < 2 ^ G.length) (h30 : B.length ≤ 30) : ∀ (d i m : Nat), i + d = B.length → m ≤ 9 →
    Ev (fun k => sweep_Check.l0 k (m : Int) (gi B) (B.length : Int) (i : Int)) (((max m (mostOf (B.drop i)) : Nat) : Int) - 1, true, 0) := by
  have hn := hG.most
  intro d
  induction d with
  | zero =>
    intro i m hi hm
    refine Ev.step (f := fun _ => some ((m : Int) - 1, true, 0)) (fun k => by rw [sweep_Check.l0, if_neg (by omega), w64_small _ (by omega) (by omega)]) (Ev.some ?_)
    rw [List.drop_eq_nil_of_le (by omega)]
    simp [mostOf]
  | succ d ih =>
    intro i m hi hm
    have hi' : i < B.length := by omega
    have hb2 := hB _ (List.getElem_mem hi')
    have hr : rd (gi B) (i : Int) = ((B[i] : Nat) : Int) := by rw [rd_gi, List.getD_eq_getElem?_getD, List.getElem?_eq_getElem hi']; rfl
    have hp := pc_le B[i] 9
    refine Ev.step (f := fun k => (sweep_count.f ((B[i] : Nat) : Int)).bind fun t => sweep_Check.l0 k (mx (m : Int) t) (gi B) (B.length : Int) ((i + 1 : Nat) : Int)) (fun k => ?_) ?_
    · rw [sweep_Check.l0, if_pos (by omega), if_pos (by omega), if_pos (by rw [gi_length]; omega), hr, wrap_succ i (by omega)]
    · refine Ev.bind1 (count_eq _ (small G (by omega) hb2)) ?_
      rw [mx_nat]
      have := ih (i + 1) (max m (pc B[i] 9)) (by omega) (by omega)
      rw [List.drop_eq_getElem_cons hi']
      have e : max m (mostOf (B[i] :: B.drop (i + 1))) = max (max m (pc B[i] 9)) (mostOf (B.drop (i + 1))) := by
        simp only [mostOf, List.foldr_cons]
        omega
      rw [e]
      exact this
theorem Check_yes (G : List Nat) (hG : Gr 7 G) (B : List Nat) (h : PathDec G B) : Ev (fun k => sweep_Check.f k (gi G) (gi B)) (((mostOf B : Nat) : Int) - 1, true, 0) := by
  have hr := read_ev (gi G) (by rw [gi_length]; have := hG.most; omega)
  rw [(chk_iff 7 (by omega) _).2 ⟨G, rfl, hG⟩] at hr
  have h30 := h.most
  obtain ⟨r, h1, h2⟩ := isPath_ev G hG (gi B) (by rw [gi_length]; omega)
  rw [h2.2 ⟨B, rfl, h⟩] at h1
  have := check_l0 G hG B h.lt h.most B.length 0 0 (by omega) (by omega)
  rw [List.drop_zero, Nat.zero_max] at this
  unfold sweep_Check.f
  refine Ev.bind hr (Ev.if_pos rfl (Ev.bind h1 (Ev.if_pos rfl ?_)))
  rw [gi_length]
  exact this
theorem Check_no (G : List Nat) (hG : Gr 7 G) (l : List Int) (hl : l.length < 2 ^ 60) (h : ¬ IsPathL G l) : Ev (fun k => sweep_Check.f k (gi G) l) (0, false, 0) := by
  have hr := read_ev (gi G) (by rw [gi_length]; have := hG.most; omega)
  rw [(chk_iff 7 (by omega) _).2 ⟨G, rfl, hG⟩] at hr
  obtain ⟨r, h1, h2⟩ := isPath_ev G hG l hl
  have hr2 : r = false := by cases r <;> simp_all
  rw [hr2] at h1
  unfold sweep_Check.f
  exact Ev.bind hr (Ev.if_pos rfl (Ev.bind h1 (Ev.if_neg (by simp) (Ev.some rfl))))
theorem Check_bad (g l : List Int) (hl : g.length < 2 ^ 60) (h : chk 7 g = false) : Ev (fun k => sweep_Check.f k g l) (0, false, 2) := by
  have hr := read_ev g hl
  rw [h] at hr
  unfold sweep_Check.f
  exact Ev.bind hr (Ev.if_neg (by simp) (Ev.some rfl))
end Go.Proofs.YtijfddobandcdaaDoor.X
end
section
-- by ownprint.py (wip/tool), over the kit's print
namespace Go.Proofs.YtijfddobandcdaaDoor.X
open Go.RowKit Go.Proofs.YtijfddobandcdaaDoorW.PrintWords Go.Proofs.YtijfddobandcdaaDoorW.PrintLast Go.Proofs.YtijfddobandcdaaDoorW.PrintMore
attribute [local go_sem] max2_int min2_int max_two min_two max_three min_three max_four min_four
set_option linter.unusedVariables false
set_option linter.unusedSimpArgs false

/-! ### sweep_town_bags: function 52 -/
def sweep_town_bags.l0 : Nat → List Int → List Int → Int → List Int → Int → Int → Option (List Int)
  | 0, _, _, _, _, _, _ => none
  | k + 1, x0, x5, x6, x9, x10, x11 => if x11 < x10 then (if 0 ≤ x11 then (if x11 < (x9.length : Int) then ((sweep_town_border.f x0 x6).bind fun t194 => (if 0 ≤ (rd x9 x11) then (if x5.length < 17592186044416 then (sweep_town_bags.l0 k x0 (x5 ++ [Go.bits .or .i64 t194 (shl .i64 1 (rd x9 x11))]) (Go.bits .or .i64 x6 (shl .i64 1 (rd x9 x11))) x9 x10 (wrap64 (x11 + 1))) else (none)) else (none))) else (none)) else (none)) else (some x5)
def sweep_town_bags.f (k : Nat) (l0 : List Int) (l1 : List Int) : Option (List Int) := sweep_town_bags.l0 k l0 ([] : List Int) 0 l1 (l1.length : Int) 0
theorem sweep_town_bags.mono_l : ∀ k, (∀ y0 y1 y2 y3 y4 y5, LeO (sweep_town_bags.l0 k y0 y1 y2 y3 y4 y5) (sweep_town_bags.l0 (k + 1) y0 y1 y2 y3 y4 y5))
  | 0 => fun _ _ _ _ _ _ r h => by simp [sweep_town_bags.l0] at h
  | k + 1 => by
    have ih0 := sweep_town_bags.mono_l k
    · intro y0 y1 y2 y3 y4 y5
      unfold sweep_town_bags.l0
      repeat' first
      | (with_reducible exact ih0 _ _ _ _ _ _)
      | (with_reducible exact LeO.refl _)
      | (with_reducible exact LeO.none _)
      | (with_reducible refine LeO.ite ?_ ?_)
      | (with_reducible refine LeO.bind ?_ (fun _ => ?_))
      | exact ih0 _ _ _ _ _ _
      | exact LeO.none _
      | refine LeO.ite ?_ ?_
      | refine LeO.bind ?_ (fun _ => ?_)
theorem sweep_town_bags.mono : ∀ a0 a1 k, LeO (sweep_town_bags.f k a0 a1) (sweep_town_bags.f (k + 1) a0 a1) := by
  intro a0 a1 k
  have ih0 := sweep_town_bags.mono_l k
  unfold sweep_town_bags.f
  repeat' first
      | (with_reducible exact ih0 _ _ _ _ _ _)
      | (with_reducible exact LeO.refl _)
      | (with_reducible exact LeO.none _)
      | (with_reducible refine LeO.ite ?_ ?_)
      | (with_reducible refine LeO.bind ?_ (fun _ => ?_))
      | exact ih0 _ _ _ _ _ _
      | exact LeO.none _
      | refine LeO.ite ?_ ?_
      | refine LeO.bind ?_ (fun _ => ?_)
def sweep_town_bags.T6 : Bool × List (List Nat × List Nat) := (true, [([], []), ([], []), ([], []), ([1, 2], [1, 2]), ([], []), ([4], [4]), ([3, 5], [3, 5]), ([6], [6]), ([0, 7, 3], [0, 7]), ([8, 8, 0, 1, 2, 3, 4, 5, 6, 7, 8], [0, 8])])
def sweep_town_bags.B6 : List Nat := [0, 0, 0, 6, 0, 16, 62, 126, 255, 511]
theorem sweep_town_bags.tab6 : rtab .any (opsOf Tryd.f52 6) = sweep_town_bags.T6 := by kernel_rfl
theorem sweep_town_bags.bits6 : waitsOk sweep_town_bags.T6.2 sweep_town_bags.B6 = true := by kernel_rfl
set_option maxHeartbeats 8000000 in
set_option maxRecDepth 100000 in
theorem sweep_town_bags.calls (k : Nat) (A0 : Option Addr) (c0 : Nat) (l0 : List Int) (A1 : Option Addr) (c1 : Nat) (l1 : List Int) (r : List Int) (w : World) (hGL : GL w) (hr0 : Kd.C (Kd.int .i64) w A0 l0.length l0) (hc0 : l0.length ≤ c0) (hr1 : Kd.C (Kd.int .i64) w A1 l1.length l1) (hc1 : l1.length ≤ c1) (h : sweep_town_bags.f k l0 l1 = some r) :
    Calls Tryd.prog 52 #[.slice A0 l0.length c0, .slice A1 l1.length c1] w fun e w' => ∃ v0_ : Value, e = .returned (v0_) ∧ Kd.R (Kd.int .i64) 3 w' w.heap.size (fun _ => True) v0_ r ∧ Below w.heap.size w w' := by
  have HGL := Aside0.mk hGL
  clear hGL
  have HR0 := Aside0.mk hr0
  have HC0 := Aside0.mk hc0
  clear hr0 hc0
  have HR1 := Aside0.mk hr1
  have HC1 := Aside0.mk hc1
  clear hr1 hc1
  have HB := Aside0.mk (Below.refl w.heap.size w)
  have H : (sweep_town_bags.l0 k l0 ([] : List Int) 0 l1 (l1.length : Int) 0) = some r := h
  clear h
  have H' := Aside0.mk H
  clear H
  go_enter Tryd.func52, Tryd.ntmps52
  go_wp2
  go_loopg [5, 6, 11] k (fun kq v5 v6 v11 w' => ∃ (x5_1 : List Int) (x6_1 : Int) (x11_1 : Int), v6 = .int .i64 x6_1 ∧ v11 = .int .i64 x11_1 ∧ Aside0 (sweep_town_bags.l0 kq l0 x5_1 x6_1 l1 (l1.length : Int) x11_1 = some r) ∧ Aside0 (kq ≤ k) ∧ Aside0 (Kd.R (Kd.int .i64) 3 w' w.heap.size (fun _ => True) v5 x5_1) ∧ Aside0 (Below w.heap.size w w'))
  case atStart => exact ⟨(([] : List Int)), (0), (0), (by first | rfl | (simp; done) | (simp [*]; done)), (by first | rfl | (simp; done) | (simp [*]; done)), H', ⟨Nat.le_refl _⟩, ⟨by first | exact Kd.R_nil _ _ _ _ _ | exact Kd.N_nil _ _ _ _ _ | exact Kd.V_nil _ _ _ _ _ | exact Kd.Q_nil _ _ _ _ _ | exact Kd.S_nil _ _ _ _ _⟩, ⟨by repeat (first | (with_reducible first | exact HB.out | apply below_alloc | apply pw_below_drewN | apply below_drew1) | exact HB.out)⟩⟩
  case round =>
    clear H'
    try clear c1
    try clear p2
    obtain ⟨x5_1, x6_1, x11_1, rfl, rfl, HA, HK1, HO_5, HB⟩ := hrel
    cases gk with
    | zero => exact absurd HA.out (by simp [sweep_town_bags.l0])
    | succ k1 =>
      have H := HA.out
      clear HA
      simp only [sweep_town_bags.l0] at H
      by_cases c3 : x11_1 < (l1.length : Int)
      · rw [if_pos c3] at H
        have c3b0 : decide (x11_1 < (l1.length : Int)) = true := decide_eq_true c3
        clear c3
        by_cases c4 : 0 ≤ x11_1
        · rw [if_pos c4] at H
          have c4b0 : decide (0 ≤ x11_1) = true := decide_eq_true c4
          clear c4
          by_cases c5 : x11_1 < (l1.length : Int)
          · rw [if_pos c5] at H
            have c5b0 : decide (x11_1 < (l1.length : Int)) = true := decide_eq_true c5
            clear c5
            replace H := Option.bind_eq_some_iff.mp H
            obtain ⟨t194, A60, H⟩ := H
            replace H : (if 0 ≤ (rd l1 x11_1) then (if x5_1.length < 17592186044416 then (sweep_town_bags.l0 k1 l0 (x5_1 ++ [Go.bits .or .i64 t194 (shl .i64 1 (rd l1 x11_1))]) (Go.bits .or .i64 x6_1 (shl .i64 1 (rd l1 x11_1))) l1 (l1.length : Int) (wrap64 (x11_1 + 1))) else (none)) else (none)) = some r := H
            have A6 := Aside0.mk A60
            clear A60
            by_cases c7 : 0 ≤ (rd l1 x11_1)
            · rw [if_pos c7] at H
              have c7b0 := eq_true c7
              have c7b1 : decide (0 ≤ (rd l1 x11_1)) = true := decide_eq_true c7
              clear c7
              obtain ⟨ji8, hji8⟩ : ∃ j_ : Int, (shl .i64 1 (rd l1 x11_1)) = j_ := ⟨_, rfl⟩
              replace H : (if x5_1.length < 17592186044416 then (sweep_town_bags.l0 k1 l0 (x5_1 ++ [Go.bits .or .i64 t194 (ji8)]) (Go.bits .or .i64 x6_1 (ji8)) l1 (l1.length : Int) (wrap64 (x11_1 + 1))) else (none)) = some r := by first | (rw [hji8] at H; exact H) | (simp only [hji8] at H ⊢; exact H)
              (try rw [hji8] at A6)
              have hji8_ : (IntKind.i64.wrap (1 * 2 ^ min (rd l1 x11_1).toNat 64)) = ji8 := hji8
              have hji8z : (rd l1 x11_1) ≤ 64 → (IntKind.i64.wrap (1 * 2 ^ (rd l1 x11_1).toNat)) = ji8 := shl_small hji8
              have hji8u : (IntKind.i64.wrap (2 ^ min (rd l1 x11_1).toNat 64)) = ji8 := by have h_ := hji8_; rw [Int.one_mul] at h_; exact h_
              have hji8v : (rd l1 x11_1) ≤ 64 → (IntKind.i64.wrap (2 ^ (rd l1 x11_1).toNat)) = ji8 := fun hle_ => by have h_ := hji8z hle_; rw [Int.one_mul] at h_; exact h_
              have hji8y : (wrap64 (1 * 2 ^ min (rd l1 x11_1).toNat 64)) = ji8 := (i64_w _).symm.trans hji8_
              have hji8x : (rd l1 x11_1) ≤ 64 → (wrap64 (1 * 2 ^ (rd l1 x11_1).toNat)) = ji8 := fun h_ => (i64_w _).symm.trans (hji8z h_)
              by_cases c9 : x5_1.length < 17592186044416
              · rw [if_pos c9] at H
                have LMc9 := Aside0.mk c9
                clear c9
                obtain ⟨y195, hy195⟩ : ∃ y_ : List Int, y_ = (x5_1 ++ [Go.bits .or .i64 t194 (ji8)]) := ⟨_, rfl⟩
                replace H : (sweep_town_bags.l0 k1 l0 y195 (Go.bits .or .i64 x6_1 (ji8)) l1 (l1.length : Int) (wrap64 (x11_1 + 1))) = some r := by first | (rw [hy195]; with_reducible exact H) | (have H2_ := (Option.bind_some _ _).symm.trans H; rw [hy195]; with_reducible exact H2_) | (have H2_ := (Option.bind_some _ _).symm.trans H; with_reducible exact H2_) | with_reducible exact H | (rw [hy195]; exact H) | exact H
                have Ny195 := Aside0.mk hy195
                clear hy195
                have c10b0 := eq_true (of_decide_eq_true (by first | (with_reducible assumption) | assumption) : 0 ≤ (rd l1 x11_1))
                have H' := Aside0.mk H
                clear H
                have p193 : 0 ≤ (x11_1 : Int) := of_decide_eq_true (by first | (with_reducible assumption) | assumption)
                have q193 : x11_1 < (l1.length : Int) := of_decide_eq_true (by first | (with_reducible assumption) | assumption)
                obtain ⟨ad193, e193, hx193_0⟩ := Kd.at_int HR1.out x11_1 p193 q193
                cases e193
                replace hx193_0 := (HB.out.cell (World.block_lt_of_cell? w _ hx193_0)).trans hx193_0
                replace p193 := eq_true p193
                replace q193 := eq_true q193
                try go_wp2
                have n0_ := Aside0.mk (Kd.R_drew HO_5.out)
                have n1_ := Aside0.mk (below_drew1 HB.out)
                clear HO_5
                clear HB
                have HO_5 := n0_
                have HB := n1_
                clear n0_ n1_
                refine start_ (n := 10) (S := fun w' => True) (ds := []) #[false, false, false, false, false, false, false, false, false, false] (by kernel_rfl) rfl rfl trivial (fun hHeld => ?_); refine with_tabW sweep_town_bags.tab6 sweep_town_bags.bits6 (fun HT_ HW_ => ?_)
                generalize wr.drew = w11 at HO_5 HB hHeld ⊢
                refine pure_ (i := 0) (N := some 15) (v := ?_) (a' := ?_) #[true, false, false, false, false, false, false, false, false, false] rfl rfl (any_of HT_.out (by kernel_rfl)) (fun _ _ _ h => h) (Or.inl ⟨by rfl, ?_⟩) ?_ ?_
                rotate_left
                · intro w'
                  go_simp
                  with_reducible rfl
                rotate_left
                · simp only [Act.put, List.setIfInBounds_toArray, List.set_cons_zero, List.set_cons_succ, i64_w, i32_w]
                  rfl
                refine pure_ (i := 1) (N := some 16) (v := ?_) (a' := ?_) #[true, true, false, false, false, false, false, false, false, false] rfl rfl (any_of HT_.out (by kernel_rfl)) (fun _ _ _ h => h) (Or.inl ⟨by rfl, ?_⟩) ?_ ?_
                rotate_left
                · intro w'
                  go_simp
                  with_reducible rfl
                rotate_left
                · simp only [Act.put, List.setIfInBounds_toArray, List.set_cons_zero, List.set_cons_succ, i64_w, i32_w]
                  rfl
                refine pure_ (i := 2) (N := some 17) (v := ?_) (a' := ?_) #[true, true, true, false, false, false, false, false, false, false] rfl rfl (any_of HT_.out (by kernel_rfl)) (fun _ _ _ h => h) (Or.inl ⟨by rfl, ?_⟩) ?_ ?_
                rotate_left
                · intro w'
                  go_simp
                  with_reducible rfl
                rotate_left
                · simp only [Act.put, List.setIfInBounds_toArray, List.set_cons_zero, List.set_cons_succ, i64_w, i32_w]
                  rfl
                refine pure_ (i := 4) (N := some 19) (v := ?_) (a' := ?_) #[true, true, true, false, true, false, false, false, false, false] rfl rfl (any_of HT_.out (by kernel_rfl)) (fun _ _ _ h => h) (Or.inl ⟨by rfl, ?_⟩) ?_ ?_
                rotate_left
                · intro w'
                  go_simp
                  with_reducible rfl
                rotate_left
                · simp only [Act.put, List.setIfInBounds_toArray, List.set_cons_zero, List.set_cons_succ, i64_w, i32_w]
                  rfl
                refine pure_ (i := 5) (N := some 20) (v := ?_) (a' := ?_) #[true, true, true, false, true, true, false, false, false, false] rfl rfl (any_of HT_.out (by kernel_rfl)) (fun _ _ _ h => h) (Or.inl ⟨by rfl, ?_⟩) ?_ ?_
                rotate_left
                · intro w'
                  go_simp
                  with_reducible rfl
                rotate_left
                · simp only [Act.put, List.setIfInBounds_toArray, List.set_cons_zero, List.set_cons_succ, i64_w, i32_w]
                  rfl
                refine one_ (i := 3) (N := some 18) #[true, true, true, true, true, true, false, false, false, false] rfl rfl (one_of HT_.out (by kernel_rfl)) (by decide) (fun K hK => ?_)
                refine goes_ Tryd.func73 (by kernel_rfl) rfl #[.slice A0 l0.length c0, .int .i64 x6_1] (by rfl) rfl rfl (by (try simp only [List.map_toArray, List.map_cons, List.map_nil]); first | done | rfl | (simp only [List.length_drop, List.length_take]; rfl)) ?_
                with_reducible refine (sweep_town_border.calls (hGL := (by repeat (first | (with_reducible exact HGL.out) | (with_reducible exact GL_below HGL.out HB.out) | (with_reducible refine GL_alloc ?_ _) | (with_reducible refine GL_drewN ?_ _) | (with_reducible refine GL_drew ?_)))) _ _ l0 x6_1 t194 _ ?side1 ?side2 A6.out).mono ?_
                (case side1 => repeat (first | exact (Kd.C_below HR0.out HB.out) | (with_reducible refine Kd.C_alloc ?_ _) | (with_reducible refine Kd.C_drewN ?_ _) | (with_reducible refine Kd.C_drew ?_)))
                (case side2 => exact HC0.out)
                rintro e w12 ⟨rfl, hb⟩
                refine ⟨_, rfl, ?_⟩
                have n0_ := Aside0.mk (Kd.R_below (by (with_reducible repeat (first | apply Kd.R_alloc | apply Kd.R_drewN | apply Kd.R_drew)); exact HO_5.out) hb)
                have n1_ := Aside0.mk (below_step (by repeat (first | (with_reducible first | exact HB.out | apply below_alloc | apply pw_below_drewN | apply below_drew1) | exact HB.out)) hb)
                clear HO_5
                clear HB
                have HO_5 := n0_
                have HB := n1_
                clear n0_ n1_
                (try clear hb)
                (try clear hb2)
                (try clear hk)
                (try clear hi)
                refine hK.out _ _ trivial (fun hHeld => ?_)
                clear hK K
                refine norm_ (a' := ?_) ?_ ?_
                rotate_left
                · show Act.put _ (some 18) _ = _
                  simp only [Act.put, List.setIfInBounds_toArray, List.set_cons_zero, List.set_cons_succ, i64_w, i32_w]
                  rfl
                refine pure_ (i := 6) (N := some 21) (v := ?_) (a' := ?_) #[true, true, true, true, true, true, true, false, false, false] rfl rfl (any_of HT_.out (by kernel_rfl)) (fun _ _ _ h => h) (Or.inl ⟨by rfl, ?_⟩) ?_ ?_
                rotate_left
                · intro w'
                  go_simp
                  with_reducible rfl
                rotate_left
                · simp only [Act.put, List.setIfInBounds_toArray, List.set_cons_zero, List.set_cons_succ, i64_w, i32_w]
                  rfl
                refine one_ (i := 7) (N := some 22) #[true, true, true, true, true, true, true, true, false, false] rfl rfl (one_of HT_.out (by kernel_rfl)) (by decide) (fun K hK => ?_)
                refine value_ (w1 := ?_) (v := ?_) (by rfl) rfl ?_ ?_
                rotate_left 2
                · go_simp
                  constructor
                  · rfl
                  · rfl
                refine hK.out _ _ trivial (fun hHeld => ?_)
                clear hK K
                refine norm_ (a' := ?_) ?_ ?_
                rotate_left
                · show Act.put _ (some 22) _ = _
                  simp only [Act.put, List.setIfInBounds_toArray, List.set_cons_zero, List.set_cons_succ, i64_w, i32_w]
                  rfl
                refine one_ (i := 8) (N := some 23) #[true, true, true, true, true, true, true, true, true, false] rfl rfl (one_of HT_.out (by kernel_rfl)) (by decide) (fun K hK => ?_)
                refine Kd.R_append_step (Kd.int .i64) (w0 := w) w.heap.size (by rfl) (.tmp 15) (.tmp 22) 22 3 (.int .i64 0) 8 rfl Tryd.underlying22 info3 rfl (by decide) (by omega) u5 x5_1 (Go.bits .or .i64 t194 (ji8)) [.int .i64 (Go.bits .or .i64 t194 (ji8))] (fun _ => True) (fun _ => False) rfl rfl ?aP (fun _ hk => hk.elim) ?aF ?aO ?aB ?aS ?aL ?_
                (case aP => exact rfl)
                (case aB => exact (by repeat (first | (with_reducible first | exact HB.out | apply below_alloc | apply pw_below_drewN | apply below_drew1) | exact HB.out)))
                (case aF => exact (fun _ _ => trivial))
                (case aO => exact (by (with_reducible repeat (first | apply Kd.R_alloc | apply Kd.R_drewN | apply Kd.R_drew)); exact HO_5.out))
                (case aS => exact (below_size (by repeat (first | (with_reducible first | exact HB.out | apply below_alloc | apply pw_below_drewN | apply below_drew1) | exact HB.out))))
                (case aL => have := LMc9.out; omega)
                intro v196 w13 ho hb hg hat
                rw [← Ny195.out] at ho
                have n0_ := Aside0.mk (hb)
                have n1_ := Aside0.mk (ho)
                clear HB
                clear HO_5
                have HB := n0_
                have HO197 := n1_
                clear n0_ n1_
                clear ho hb hg hat
                refine hK.out _ _ trivial (fun hHeld => ?_)
                clear hK K
                refine norm_ (a' := ?_) ?_ ?_
                rotate_left
                · show Act.put _ (some 23) _ = _
                  simp only [Act.put, List.setIfInBounds_toArray, List.set_cons_zero, List.set_cons_succ, i64_w, i32_w]
                  rfl
                refine pure_ (i := 9) (N := some 5) (v := ?_) (a' := ?_) #[true, true, true, true, true, true, true, true, true, true] rfl rfl (any_of HT_.out (by kernel_rfl)) (fun _ _ _ h => h) (Or.inl ⟨by rfl, ?_⟩) ?_ ?_
                rotate_left
                · intro w'
                  go_simp
                  with_reducible rfl
                rotate_left
                · simp only [Act.put, List.setIfInBounds_toArray, List.set_cons_zero, List.set_cons_succ, i64_w, i32_w]
                  rfl
                refine done_ (done_of HT_.out (by kernel_rfl)) ?_
                try go_wp2
                go_roundg k1
                case measure => have := HK1.out; omega
                case rel => exact ⟨(y195), (Go.bits .or .i64 x6_1 (ji8)), (wrap64 (x11_1 + 1)), (by first | rfl | (simp; done) | (simp only [← hji8] <;> (first | rfl | simp)) | (simp [*]; done)), (by first | rfl | (simp; done) | (simp [*]; done)), H', ⟨by have := HK1.out; omega⟩, ⟨by (with_reducible repeat (first | apply Kd.R_alloc | apply Kd.R_drewN | apply Kd.R_drew)); exact HO197.out⟩, ⟨by repeat (first | (with_reducible first | exact HB.out | apply below_alloc | apply pw_below_drewN | apply below_drew1) | exact HB.out)⟩⟩
              · rw [if_neg c9] at H
                exact absurd H (by simp)
            · rw [if_neg c7] at H
              exact absurd H (by simp)
          · rw [if_neg c5] at H
            exact absurd H (by simp)
        · rw [if_neg c4] at H
          exact absurd H (by simp)
      · rw [if_neg c3] at H
        have c3b0 : decide (x11_1 < (l1.length : Int)) = false := decide_eq_false c3
        clear c3
        obtain rfl := Option.some.inj H
        go_wp2
        go_ret
        exact ⟨_, by first | rfl | (simp [errW_none, errW_some] <;> rfl) | (simp [*, errW_none, errW_some] <;> rfl), by (with_reducible repeat (first | apply Kd.R_alloc | apply Kd.R_drewN | apply Kd.R_drew)); exact HO_5.out, by repeat (first | (with_reducible first | exact HB.out | apply below_alloc | apply pw_below_drewN | apply below_drew1) | exact HB.out)⟩

end Go.Proofs.YtijfddobandcdaaDoor.X
end
section
-- by ownprint.py (wip/tool), over the kit's print
namespace Go.Proofs.YtijfddobandcdaaDoor.X
open Go.RowKit Go.Proofs.YtijfddobandcdaaDoorW.PrintWords Go.Proofs.YtijfddobandcdaaDoorW.PrintLast Go.Proofs.YtijfddobandcdaaDoorW.PrintMore
attribute [local go_sem] max2_int min2_int max_two min_two max_three min_three max_four min_four
set_option linter.unusedVariables false
set_option linter.unusedSimpArgs false

/-! ### lampblackref03_Bags: function 33 -/
def lampblackref03_Bags.l0 : Nat → List Int → List Int → Int → List Int → Int → Int → Option (List Int)
  | 0, _, _, _, _, _, _ => none
  | k + 1, x0, x5, x6, x9, x10, x11 => if x11 < x10 then (if 0 ≤ x11 then (if x11 < (x9.length : Int) then ((lampblackref03_Border.f k x0 x6).bind fun t270 => (if 0 ≤ (rd x9 x11) then (if x5.length < 17592186044416 then (lampblackref03_Bags.l0 k x0 (x5 ++ [Go.bits .or .i64 t270 (shl .i64 1 (rd x9 x11))]) (Go.bits .or .i64 x6 (shl .i64 1 (rd x9 x11))) x9 x10 (wrap64 (x11 + 1))) else (none)) else (none))) else (none)) else (none)) else (some x5)
def lampblackref03_Bags.f (k : Nat) (l0 : List Int) (l1 : List Int) : Option (List Int) := lampblackref03_Bags.l0 k l0 ([] : List Int) 0 l1 (l1.length : Int) 0
theorem lampblackref03_Bags.mono_l : ∀ k, (∀ y0 y1 y2 y3 y4 y5, LeO (lampblackref03_Bags.l0 k y0 y1 y2 y3 y4 y5) (lampblackref03_Bags.l0 (k + 1) y0 y1 y2 y3 y4 y5))
  | 0 => fun _ _ _ _ _ _ r h => by simp [lampblackref03_Bags.l0] at h
  | k + 1 => by
    have ih0 := lampblackref03_Bags.mono_l k
    · intro y0 y1 y2 y3 y4 y5
      unfold lampblackref03_Bags.l0
      repeat' first
      | (with_reducible exact ih0 _ _ _ _ _ _)
      | (with_reducible exact lampblackref03_Border.mono _ _ _)
      | (with_reducible exact LeO.refl _)
      | (with_reducible exact LeO.none _)
      | (with_reducible refine LeO.ite ?_ ?_)
      | (with_reducible refine LeO.bind ?_ (fun _ => ?_))
      | exact ih0 _ _ _ _ _ _
      | exact lampblackref03_Border.mono _ _ _
      | exact LeO.none _
      | refine LeO.ite ?_ ?_
      | refine LeO.bind ?_ (fun _ => ?_)
theorem lampblackref03_Bags.mono : ∀ a0 a1 k, LeO (lampblackref03_Bags.f k a0 a1) (lampblackref03_Bags.f (k + 1) a0 a1) := by
  intro a0 a1 k
  have ih0 := lampblackref03_Bags.mono_l k
  unfold lampblackref03_Bags.f
  repeat' first
      | (with_reducible exact ih0 _ _ _ _ _ _)
      | (with_reducible exact lampblackref03_Border.mono _ _ _)
      | (with_reducible exact LeO.refl _)
      | (with_reducible exact LeO.none _)
      | (with_reducible refine LeO.ite ?_ ?_)
      | (with_reducible refine LeO.bind ?_ (fun _ => ?_))
      | exact ih0 _ _ _ _ _ _
      | exact lampblackref03_Border.mono _ _ _
      | exact LeO.none _
      | refine LeO.ite ?_ ?_
      | refine LeO.bind ?_ (fun _ => ?_)
def lampblackref03_Bags.T6 : Bool × List (List Nat × List Nat) := (true, [([], []), ([], []), ([], []), ([1, 2], [1, 2]), ([], []), ([4], [4]), ([3, 5], [3, 5]), ([6], [6]), ([0, 7, 3], [0, 7]), ([8, 8, 0, 1, 2, 3, 4, 5, 6, 7, 8], [0, 8])])
def lampblackref03_Bags.B6 : List Nat := [0, 0, 0, 6, 0, 16, 62, 126, 255, 511]
theorem lampblackref03_Bags.tab6 : rtab .any (opsOf Tryd.f33 6) = lampblackref03_Bags.T6 := by kernel_rfl
theorem lampblackref03_Bags.bits6 : waitsOk lampblackref03_Bags.T6.2 lampblackref03_Bags.B6 = true := by kernel_rfl
set_option maxHeartbeats 8000000 in
set_option maxRecDepth 100000 in
theorem lampblackref03_Bags.calls (k : Nat) (A0 : Option Addr) (c0 : Nat) (l0 : List Int) (A1 : Option Addr) (c1 : Nat) (l1 : List Int) (r : List Int) (w : World) (hr0 : Kd.C (Kd.int .i64) w A0 l0.length l0) (hc0 : l0.length ≤ c0) (hr1 : Kd.C (Kd.int .i64) w A1 l1.length l1) (hc1 : l1.length ≤ c1) (h : lampblackref03_Bags.f k l0 l1 = some r) :
    Calls Tryd.prog 33 #[.slice A0 l0.length c0, .slice A1 l1.length c1] w fun e w' => ∃ v0_ : Value, e = .returned (v0_) ∧ Kd.R (Kd.int .i64) 3 w' w.heap.size (fun _ => True) v0_ r ∧ Below w.heap.size w w' := by
  have HR0 := Aside0.mk hr0
  have HC0 := Aside0.mk hc0
  clear hr0 hc0
  have HR1 := Aside0.mk hr1
  have HC1 := Aside0.mk hc1
  clear hr1 hc1
  have HB := Aside0.mk (Below.refl w.heap.size w)
  have H : (lampblackref03_Bags.l0 k l0 ([] : List Int) 0 l1 (l1.length : Int) 0) = some r := h
  clear h
  have H' := Aside0.mk H
  clear H
  go_enter Tryd.func33, Tryd.ntmps33
  go_wp2
  go_loopg [5, 6, 11] k (fun kq v5 v6 v11 w' => ∃ (x5_1 : List Int) (x6_1 : Int) (x11_1 : Int), v6 = .int .i64 x6_1 ∧ v11 = .int .i64 x11_1 ∧ Aside0 (lampblackref03_Bags.l0 kq l0 x5_1 x6_1 l1 (l1.length : Int) x11_1 = some r) ∧ Aside0 (kq ≤ k) ∧ Aside0 (Kd.R (Kd.int .i64) 3 w' w.heap.size (fun _ => True) v5 x5_1) ∧ Aside0 (Below w.heap.size w w'))
  case atStart => exact ⟨(([] : List Int)), (0), (0), (by first | rfl | (simp; done) | (simp [*]; done)), (by first | rfl | (simp; done) | (simp [*]; done)), H', ⟨Nat.le_refl _⟩, ⟨by first | exact Kd.R_nil _ _ _ _ _ | exact Kd.N_nil _ _ _ _ _ | exact Kd.V_nil _ _ _ _ _ | exact Kd.Q_nil _ _ _ _ _ | exact Kd.S_nil _ _ _ _ _⟩, ⟨by repeat (first | (with_reducible first | exact HB.out | apply below_alloc | apply pw_below_drewN | apply below_drew1) | exact HB.out)⟩⟩
  case round =>
    clear H'
    try clear c1
    try clear p2
    obtain ⟨x5_1, x6_1, x11_1, rfl, rfl, HA, HK1, HO_5, HB⟩ := hrel
    cases gk with
    | zero => exact absurd HA.out (by simp [lampblackref03_Bags.l0])
    | succ k1 =>
      have H := HA.out
      clear HA
      simp only [lampblackref03_Bags.l0] at H
      by_cases c3 : x11_1 < (l1.length : Int)
      · rw [if_pos c3] at H
        have c3b0 : decide (x11_1 < (l1.length : Int)) = true := decide_eq_true c3
        clear c3
        by_cases c4 : 0 ≤ x11_1
        · rw [if_pos c4] at H
          have c4b0 : decide (0 ≤ x11_1) = true := decide_eq_true c4
          clear c4
          by_cases c5 : x11_1 < (l1.length : Int)
          · rw [if_pos c5] at H
            have c5b0 : decide (x11_1 < (l1.length : Int)) = true := decide_eq_true c5
            clear c5
            replace H := Option.bind_eq_some_iff.mp H
            obtain ⟨t270, A60, H⟩ := H
            replace H : (if 0 ≤ (rd l1 x11_1) then (if x5_1.length < 17592186044416 then (lampblackref03_Bags.l0 k1 l0 (x5_1 ++ [Go.bits .or .i64 t270 (shl .i64 1 (rd l1 x11_1))]) (Go.bits .or .i64 x6_1 (shl .i64 1 (rd l1 x11_1))) l1 (l1.length : Int) (wrap64 (x11_1 + 1))) else (none)) else (none)) = some r := H
            have A6 := Aside0.mk A60
            clear A60
            by_cases c7 : 0 ≤ (rd l1 x11_1)
            · rw [if_pos c7] at H
              have c7b0 := eq_true c7
              have c7b1 : decide (0 ≤ (rd l1 x11_1)) = true := decide_eq_true c7
              clear c7
              obtain ⟨ji8, hji8⟩ : ∃ j_ : Int, (shl .i64 1 (rd l1 x11_1)) = j_ := ⟨_, rfl⟩
              replace H : (if x5_1.length < 17592186044416 then (lampblackref03_Bags.l0 k1 l0 (x5_1 ++ [Go.bits .or .i64 t270 (ji8)]) (Go.bits .or .i64 x6_1 (ji8)) l1 (l1.length : Int) (wrap64 (x11_1 + 1))) else (none)) = some r := by first | (rw [hji8] at H; exact H) | (simp only [hji8] at H ⊢; exact H)
              (try rw [hji8] at A6)
              have hji8_ : (IntKind.i64.wrap (1 * 2 ^ min (rd l1 x11_1).toNat 64)) = ji8 := hji8
              have hji8z : (rd l1 x11_1) ≤ 64 → (IntKind.i64.wrap (1 * 2 ^ (rd l1 x11_1).toNat)) = ji8 := shl_small hji8
              have hji8u : (IntKind.i64.wrap (2 ^ min (rd l1 x11_1).toNat 64)) = ji8 := by have h_ := hji8_; rw [Int.one_mul] at h_; exact h_
              have hji8v : (rd l1 x11_1) ≤ 64 → (IntKind.i64.wrap (2 ^ (rd l1 x11_1).toNat)) = ji8 := fun hle_ => by have h_ := hji8z hle_; rw [Int.one_mul] at h_; exact h_
              have hji8y : (wrap64 (1 * 2 ^ min (rd l1 x11_1).toNat 64)) = ji8 := (i64_w _).symm.trans hji8_
              have hji8x : (rd l1 x11_1) ≤ 64 → (wrap64 (1 * 2 ^ (rd l1 x11_1).toNat)) = ji8 := fun h_ => (i64_w _).symm.trans (hji8z h_)
              by_cases c9 : x5_1.length < 17592186044416
              · rw [if_pos c9] at H
                have LMc9 := Aside0.mk c9
                clear c9
                obtain ⟨y271, hy271⟩ : ∃ y_ : List Int, y_ = (x5_1 ++ [Go.bits .or .i64 t270 (ji8)]) := ⟨_, rfl⟩
                replace H : (lampblackref03_Bags.l0 k1 l0 y271 (Go.bits .or .i64 x6_1 (ji8)) l1 (l1.length : Int) (wrap64 (x11_1 + 1))) = some r := by first | (rw [hy271]; with_reducible exact H) | (have H2_ := (Option.bind_some _ _).symm.trans H; rw [hy271]; with_reducible exact H2_) | (have H2_ := (Option.bind_some _ _).symm.trans H; with_reducible exact H2_) | with_reducible exact H | (rw [hy271]; exact H) | exact H
                have Ny271 := Aside0.mk hy271
                clear hy271
                have c10b0 := eq_true (of_decide_eq_true (by first | (with_reducible assumption) | assumption) : 0 ≤ (rd l1 x11_1))
                have H' := Aside0.mk H
                clear H
                have p269 : 0 ≤ (x11_1 : Int) := of_decide_eq_true (by first | (with_reducible assumption) | assumption)
                have q269 : x11_1 < (l1.length : Int) := of_decide_eq_true (by first | (with_reducible assumption) | assumption)
                obtain ⟨ad269, e269, hx269_0⟩ := Kd.at_int HR1.out x11_1 p269 q269
                cases e269
                replace hx269_0 := (HB.out.cell (World.block_lt_of_cell? w _ hx269_0)).trans hx269_0
                replace p269 := eq_true p269
                replace q269 := eq_true q269
                try go_wp2
                have n0_ := Aside0.mk (Kd.R_drew HO_5.out)
                have n1_ := Aside0.mk (below_drew1 HB.out)
                clear HO_5
                clear HB
                have HO_5 := n0_
                have HB := n1_
                clear n0_ n1_
                refine start_ (n := 10) (S := fun w' => True) (ds := []) #[false, false, false, false, false, false, false, false, false, false] (by kernel_rfl) rfl rfl trivial (fun hHeld => ?_); refine with_tabW lampblackref03_Bags.tab6 lampblackref03_Bags.bits6 (fun HT_ HW_ => ?_)
                generalize wr.drew = w11 at HO_5 HB hHeld ⊢
                refine pure_ (i := 0) (N := some 15) (v := ?_) (a' := ?_) #[true, false, false, false, false, false, false, false, false, false] rfl rfl (any_of HT_.out (by kernel_rfl)) (fun _ _ _ h => h) (Or.inl ⟨by rfl, ?_⟩) ?_ ?_
                rotate_left
                · intro w'
                  go_simp
                  with_reducible rfl
                rotate_left
                · simp only [Act.put, List.setIfInBounds_toArray, List.set_cons_zero, List.set_cons_succ, i64_w, i32_w]
                  rfl
                refine pure_ (i := 1) (N := some 16) (v := ?_) (a' := ?_) #[true, true, false, false, false, false, false, false, false, false] rfl rfl (any_of HT_.out (by kernel_rfl)) (fun _ _ _ h => h) (Or.inl ⟨by rfl, ?_⟩) ?_ ?_
                rotate_left
                · intro w'
                  go_simp
                  with_reducible rfl
                rotate_left
                · simp only [Act.put, List.setIfInBounds_toArray, List.set_cons_zero, List.set_cons_succ, i64_w, i32_w]
                  rfl
                refine pure_ (i := 2) (N := some 17) (v := ?_) (a' := ?_) #[true, true, true, false, false, false, false, false, false, false] rfl rfl (any_of HT_.out (by kernel_rfl)) (fun _ _ _ h => h) (Or.inl ⟨by rfl, ?_⟩) ?_ ?_
                rotate_left
                · intro w'
                  go_simp
                  with_reducible rfl
                rotate_left
                · simp only [Act.put, List.setIfInBounds_toArray, List.set_cons_zero, List.set_cons_succ, i64_w, i32_w]
                  rfl
                refine pure_ (i := 4) (N := some 19) (v := ?_) (a' := ?_) #[true, true, true, false, true, false, false, false, false, false] rfl rfl (any_of HT_.out (by kernel_rfl)) (fun _ _ _ h => h) (Or.inl ⟨by rfl, ?_⟩) ?_ ?_
                rotate_left
                · intro w'
                  go_simp
                  with_reducible rfl
                rotate_left
                · simp only [Act.put, List.setIfInBounds_toArray, List.set_cons_zero, List.set_cons_succ, i64_w, i32_w]
                  rfl
                refine pure_ (i := 5) (N := some 20) (v := ?_) (a' := ?_) #[true, true, true, false, true, true, false, false, false, false] rfl rfl (any_of HT_.out (by kernel_rfl)) (fun _ _ _ h => h) (Or.inl ⟨by rfl, ?_⟩) ?_ ?_
                rotate_left
                · intro w'
                  go_simp
                  with_reducible rfl
                rotate_left
                · simp only [Act.put, List.setIfInBounds_toArray, List.set_cons_zero, List.set_cons_succ, i64_w, i32_w]
                  rfl
                refine one_ (i := 3) (N := some 18) #[true, true, true, true, true, true, false, false, false, false] rfl rfl (one_of HT_.out (by kernel_rfl)) (by decide) (fun K hK => ?_)
                refine goes_ Tryd.func59 (by kernel_rfl) rfl #[.slice A0 l0.length c0, .int .i64 x6_1] (by rfl) rfl rfl (by (try simp only [List.map_toArray, List.map_cons, List.map_nil]); first | done | rfl | (simp only [List.length_drop, List.length_take]; rfl)) ?_
                with_reducible refine (lampblackref03_Border.calls k1 _ _ l0 x6_1 t270 _ ?side1 ?side2 A6.out).mono ?_
                (case side1 => repeat (first | exact (Kd.C_below HR0.out HB.out) | (with_reducible refine Kd.C_alloc ?_ _) | (with_reducible refine Kd.C_drewN ?_ _) | (with_reducible refine Kd.C_drew ?_)))
                (case side2 => exact HC0.out)
                rintro e w' ⟨rfl, ⟨nd, rfl⟩⟩
                refine ⟨_, rfl, ?_⟩
                refine hK.out _ _ trivial (fun hHeld => ?_)
                clear hK K
                refine norm_ (a' := ?_) ?_ ?_
                rotate_left
                · show Act.put _ (some 18) _ = _
                  simp only [Act.put, List.setIfInBounds_toArray, List.set_cons_zero, List.set_cons_succ, i64_w, i32_w]
                  rfl
                refine pure_ (i := 6) (N := some 21) (v := ?_) (a' := ?_) #[true, true, true, true, true, true, true, false, false, false] rfl rfl (any_of HT_.out (by kernel_rfl)) (fun _ _ _ h => h) (Or.inl ⟨by rfl, ?_⟩) ?_ ?_
                rotate_left
                · intro w'
                  go_simp
                  with_reducible rfl
                rotate_left
                · simp only [Act.put, List.setIfInBounds_toArray, List.set_cons_zero, List.set_cons_succ, i64_w, i32_w]
                  rfl
                refine one_ (i := 7) (N := some 22) #[true, true, true, true, true, true, true, true, false, false] rfl rfl (one_of HT_.out (by kernel_rfl)) (by decide) (fun K hK => ?_)
                refine value_ (w1 := ?_) (v := ?_) (by rfl) rfl ?_ ?_
                rotate_left 2
                · go_simp
                  constructor
                  · rfl
                  · rfl
                refine hK.out _ _ trivial (fun hHeld => ?_)
                clear hK K
                refine norm_ (a' := ?_) ?_ ?_
                rotate_left
                · show Act.put _ (some 22) _ = _
                  simp only [Act.put, List.setIfInBounds_toArray, List.set_cons_zero, List.set_cons_succ, i64_w, i32_w]
                  rfl
                refine one_ (i := 8) (N := some 23) #[true, true, true, true, true, true, true, true, true, false] rfl rfl (one_of HT_.out (by kernel_rfl)) (by decide) (fun K hK => ?_)
                refine Kd.R_append_step (Kd.int .i64) (w0 := w) w.heap.size (by rfl) (.tmp 15) (.tmp 22) 22 3 (.int .i64 0) 8 rfl Tryd.underlying22 info3 rfl (by decide) (by omega) u5 x5_1 (Go.bits .or .i64 t270 (ji8)) [.int .i64 (Go.bits .or .i64 t270 (ji8))] (fun _ => True) (fun _ => False) rfl rfl ?aP (fun _ hk => hk.elim) ?aF ?aO ?aB ?aS ?aL ?_
                (case aP => exact rfl)
                (case aB => exact (by repeat (first | (with_reducible first | exact HB.out | apply below_alloc | apply pw_below_drewN | apply below_drew1) | exact HB.out)))
                (case aF => exact (fun _ _ => trivial))
                (case aO => exact (by (with_reducible repeat (first | apply Kd.R_alloc | apply Kd.R_drewN | apply Kd.R_drew)); exact HO_5.out))
                (case aS => exact (below_size (by repeat (first | (with_reducible first | exact HB.out | apply below_alloc | apply pw_below_drewN | apply below_drew1) | exact HB.out))))
                (case aL => have := LMc9.out; omega)
                intro v272 w12 ho hb hg hat
                rw [← Ny271.out] at ho
                have n0_ := Aside0.mk (hb)
                have n1_ := Aside0.mk (ho)
                clear HB
                clear HO_5
                have HB := n0_
                have HO273 := n1_
                clear n0_ n1_
                clear ho hb hg hat
                refine hK.out _ _ trivial (fun hHeld => ?_)
                clear hK K
                refine norm_ (a' := ?_) ?_ ?_
                rotate_left
                · show Act.put _ (some 23) _ = _
                  simp only [Act.put, List.setIfInBounds_toArray, List.set_cons_zero, List.set_cons_succ, i64_w, i32_w]
                  rfl
                refine pure_ (i := 9) (N := some 5) (v := ?_) (a' := ?_) #[true, true, true, true, true, true, true, true, true, true] rfl rfl (any_of HT_.out (by kernel_rfl)) (fun _ _ _ h => h) (Or.inl ⟨by rfl, ?_⟩) ?_ ?_
                rotate_left
                · intro w'
                  go_simp
                  with_reducible rfl
                rotate_left
                · simp only [Act.put, List.setIfInBounds_toArray, List.set_cons_zero, List.set_cons_succ, i64_w, i32_w]
                  rfl
                refine done_ (done_of HT_.out (by kernel_rfl)) ?_
                try go_wp2
                go_roundg k1
                case measure => have := HK1.out; omega
                case rel => exact ⟨(y271), (Go.bits .or .i64 x6_1 (ji8)), (wrap64 (x11_1 + 1)), (by first | rfl | (simp; done) | (simp only [← hji8] <;> (first | rfl | simp)) | (simp [*]; done)), (by first | rfl | (simp; done) | (simp [*]; done)), H', ⟨by have := HK1.out; omega⟩, ⟨by (with_reducible repeat (first | apply Kd.R_alloc | apply Kd.R_drewN | apply Kd.R_drew)); exact HO273.out⟩, ⟨by repeat (first | (with_reducible first | exact HB.out | apply below_alloc | apply pw_below_drewN | apply below_drew1) | exact HB.out)⟩⟩
              · rw [if_neg c9] at H
                exact absurd H (by simp)
            · rw [if_neg c7] at H
              exact absurd H (by simp)
          · rw [if_neg c5] at H
            exact absurd H (by simp)
        · rw [if_neg c4] at H
          exact absurd H (by simp)
      · rw [if_neg c3] at H
        have c3b0 : decide (x11_1 < (l1.length : Int)) = false := decide_eq_false c3
        clear c3
        obtain rfl := Option.some.inj H
        go_wp2
        go_ret
        exact ⟨_, by first | rfl | (simp [errW_none, errW_some] <;> rfl) | (simp [*, errW_none, errW_some] <;> rfl), by (with_reducible repeat (first | apply Kd.R_alloc | apply Kd.R_drewN | apply Kd.R_drew)); exact HO_5.out, by repeat (first | (with_reducible first | exact HB.out | apply below_alloc | apply pw_below_drewN | apply below_drew1) | exact HB.out)⟩

end Go.Proofs.YtijfddobandcdaaDoor.X
end
section
/- IsOrder, isLayout, Border, bags, Equal: what they compute. -/
set_option linter.unusedVariables false
namespace Go.Proofs.YtijfddobandcdaaDoor.X
open Go.RowKit Go.Proofs.YtijfddobandcdaaDoorW.PrintWords Go.Proofs.YtijfddobandcdaaDoorW.PrintLast Go.Proofs.YtijfddobandcdaaDoorW.PrintMore Go.Proofs.YtijfddobandcdaaDoor.T

theorem bit_bset (a i : Nat) (ha : a < 2 ^ 62) (hi : i < 62) : Go.bits .and .i64 (shr .i64 (a : Int) (i : Int)) 1 = 1 ↔ bset a i := bit_one a i ha hi
theorem isOrder_l0 (l : List Int) (n : Nat) (hn : n ≤ 9) (hl : l.length < 2 ^ 60) : ∀ (d i : Nat) (P : List Nat), i + d = l.length → l.take i = gi P → P.Nodup → (∀ v ∈ P, v < n) →
    ∃ r, Ev (fun k => lampblackref02_IsOrder.l0 k l (n : Int) ((lset P : Nat) : Int) l (l.length : Int) (i : Int)) r ∧ (r = true ↔ IsOrd n l) := by
  intro d
  induction d with
  | zero =>
    intro i P hi hP h1 h2
    have e : l = gi P := by rw [← hP, List.take_of_length_le (by omega)]
    refine ⟨((l.length : Int) == (n : Int)), Ev.step (f := fun _ => some ((l.length : Int) == (n : Int))) (fun k => by rw [lampblackref02_IsOrder.l0, if_neg (by omega)]) (Ev.some rfl), ?_⟩
    rw [e, IsOrd.of h1 h2, gi_length, beq_iff_eq]
    omega
  | succ d ih =>
    intro i P hi hP h1 h2
    have hil : i < l.length := by omega
    have hP62 : lset P < 2 ^ 62 := Nat.lt_of_lt_of_le (lset_lt h2) (Nat.pow_le_pow_right (by omega) (by omega))
    by_cases h3 : rd l (i : Int) < 0
    · refine ⟨false, Ev.step (f := fun _ => some false) (fun k => by rw [lampblackref02_IsOrder.l0, if_pos (by omega), if_pos (by omega), if_pos (by omega), if_pos h3]) (Ev.some rfl), ?_⟩
      simp only [Bool.false_eq_true, false_iff]
      intro h
      obtain ⟨v, hv, _⟩ := h.get i hil
      omega
    · by_cases h4 : rd l (i : Int) ≥ (n : Int)
      · refine ⟨false, Ev.step (f := fun _ => some false) (fun k => by rw [lampblackref02_IsOrder.l0, if_pos (by omega), if_pos (by omega), if_pos (by omega), if_neg h3, if_pos h4]) (Ev.some rfl), ?_⟩
        simp only [Bool.false_eq_true, false_iff]
        intro h
        obtain ⟨v, hv, hv2⟩ := h.get i hil
        omega
      · obtain ⟨v, hv⟩ : ∃ v : Nat, rd l (i : Int) = (v : Int) := ⟨(rd l (i : Int)).toNat, by omega⟩
        have hvn : v < n := by omega
        by_cases h5 : v ∈ P
        · refine ⟨false, Ev.step (f := fun _ => some false) (fun k => ?_) (Ev.some rfl), ?_⟩
          · rw [lampblackref02_IsOrder.l0, if_pos (by omega), if_pos (by omega), if_pos (by omega), if_neg h3, if_neg h4, if_pos (by omega), hv, if_pos ((bit_bset _ _ hP62 (by omega)).2 ((lset_bit P v).2 h5))]
          · simp only [Bool.false_eq_true, false_iff]
            intro h
            exact h.fresh hil hP hv h5
        · have hb : ¬ Go.bits .and .i64 (shr .i64 ((lset P : Nat) : Int) (v : Int)) 1 = 1 := fun h => h5 ((lset_bit P v).1 ((bit_bset _ _ hP62 (by omega)).1 h))
          obtain ⟨r, h6, h7⟩ := ih (i + 1) (P ++ [v]) (by omega) (take_snoc hP hil v hv) (List.nodup_append.2 ⟨h1, by simp, by simp; intro a ha; exact fun e => h5 (e ▸ ha)⟩) (by
            intro x hx
            rcases List.mem_append.1 hx with h | h
            · exact h2 x h
            · rw [List.mem_singleton.1 h]; exact hvn)
          refine ⟨r, Ev.step (fun k => ?_) h6, h7⟩
          have e2 : 2 ^ v < 2 ^ 62 := Nat.pow_lt_pow_right (by omega) (by omega)
          rw [lampblackref02_IsOrder.l0, if_pos (by omega), if_pos (by omega), if_pos (by omega), if_neg h3, if_neg h4, if_pos (by omega), hv, if_neg hb, s_one v (by omega), b_or _ _ hP62 e2, wrap_succ i (by omega), lset_snoc]
theorem isOrder_ev (l : List Int) (n : Nat) (hn : n ≤ 9) (hl : l.length < 2 ^ 60) : ∃ r, Ev (fun k => lampblackref02_IsOrder.f k l (n : Int)) r ∧ (r = true ↔ IsOrd n l) :=
  isOrder_l0 l n hn hl l.length 0 [] (by omega) (by simp [gi]) List.nodup_nil (by simp)
theorem isLayout_l0 (G : List Nat) (hG : Gr 7 G) (l : List Int) (hl : l.length < 2 ^ 60) : ∀ (d i : Nat) (P : List Nat), i + d = l.length → l.take i = gi P → (∀ v ∈ P, v < G.length) →
    ∃ r, Ev (fun k => sweep_town_isLayout.l0 k (gi G) l ((lset P : Nat) : Int) l (l.length : Int) (i : Int)) r ∧ (r = true ↔ IsOrd G.length l) := by
  have hn := hG.most
  intro d
  induction d with
  | zero =>
    intro i P hi hP h2
    have e : l = gi P := by rw [← hP, List.take_of_length_le (by omega)]
    have hall : sweep_town_all.f (gi G) = some ((2 ^ G.length - 1 : Nat) : Int) := by
      unfold sweep_town_all.f
      have h1 : 2 ^ G.length ≤ 2 ^ 9 := Nat.pow_le_pow_right (by omega) (by omega)
      have h2 := Nat.two_pow_pos G.length
      rw [gi_length, s_one _ (by omega), w64_small _ (by omega) (by omega)]
      congr 1
      omega
    by_cases hlen : l.length = G.length
    · refine ⟨(((lset P : Nat) : Int) == ((2 ^ G.length - 1 : Nat) : Int)), Ev.step (fun k => by rw [sweep_town_isLayout.l0, if_neg (by omega), if_pos (by rw [gi_length]; omega)]) (Ev.bind1 hall (Ev.some rfl)), ?_⟩
      have hPl : P.length = G.length := by rw [e, gi_length] at hlen; exact hlen
      constructor
      · intro h
        have h3 : lset P = 2 ^ G.length - 1 := Int.ofNat.inj (beq_iff_eq.1 h)
        have h4 := nodup_of_covers (P := P) (n := G.length) (by omega) fun j hj => by rw [← lset_bit, h3, full_bit]; exact hj
        exact e ▸ (IsOrd.of h4 h2).2 hPl
      · intro h
        rw [e] at h
        obtain ⟨Q, e2, h3, h4, h5⟩ := h
        obtain rfl := gi_inj e2
        have h6 : lset P = 2 ^ G.length - 1 := eq_of_bits fun j => by
          show bset _ _ ↔ bset _ _
          rw [lset_bit, full_bit]
          exact ⟨fun h => h4 j h, covers_of_nodup h5 h3 h4 j⟩
        simp [h6]
    · refine ⟨false, Ev.step (f := fun _ => some false) (fun k => by rw [sweep_town_isLayout.l0, if_neg (by omega), if_neg (by rw [gi_length]; omega)]) (Ev.some rfl), ?_⟩
      simp only [Bool.false_eq_true, false_iff]
      rintro ⟨Q, e2, _, _, h5⟩
      rw [e2, gi_length] at hlen
      exact hlen h5
  | succ d ih =>
    intro i P hi hP h2
    have hil : i < l.length := by omega
    have hP62 : lset P < 2 ^ 62 := Nat.lt_of_lt_of_le (lset_lt h2) (Nat.pow_le_pow_right (by omega) (by omega))
    by_cases h3 : rd l (i : Int) < 0
    · refine ⟨false, Ev.step (f := fun _ => some false) (fun k => by rw [sweep_town_isLayout.l0, if_pos (by omega), if_pos (by omega), if_pos (by omega), if_pos h3]) (Ev.some rfl), ?_⟩
      simp only [Bool.false_eq_true, false_iff]
      intro h
      obtain ⟨v, hv, _⟩ := h.get i hil
      omega
    · by_cases h4 : rd l (i : Int) ≥ (G.length : Int)
      · refine ⟨false, Ev.step (f := fun _ => some false) (fun k => by rw [sweep_town_isLayout.l0, if_pos (by omega), if_pos (by omega), if_pos (by omega), if_neg h3, if_pos (by rw [gi_length]; exact h4)]) (Ev.some rfl), ?_⟩
        simp only [Bool.false_eq_true, false_iff]
        intro h
        obtain ⟨v, hv, hv2⟩ := h.get i hil
        omega
      · obtain ⟨v, hv⟩ : ∃ v : Nat, rd l (i : Int) = (v : Int) := ⟨(rd l (i : Int)).toNat, by omega⟩
        have hvn : v < G.length := by omega
        obtain ⟨r, h6, h7⟩ := ih (i + 1) (P ++ [v]) (by omega) (take_snoc hP hil v hv) (by
          intro x hx
          rcases List.mem_append.1 hx with h | h
          · exact h2 x h
          · rw [List.mem_singleton.1 h]; exact hvn)
        refine ⟨r, Ev.step (fun k => ?_) h6, h7⟩
        have e2 : 2 ^ v < 2 ^ 62 := Nat.pow_lt_pow_right (by omega) (by omega)
        rw [sweep_town_isLayout.l0, if_pos (by omega), if_pos (by omega), if_pos (by omega), if_neg h3, if_neg (by rw [gi_length]; exact h4), if_pos (by omega), hv, s_one v (by omega), b_or _ _ hP62 e2, wrap_succ i (by omega), lset_snoc]
theorem isLayout_ev (G : List Nat) (hG : Gr 7 G) (l : List Int) (hl : l.length < 2 ^ 60) : ∃ r, Ev (fun k => sweep_town_isLayout.f k (gi G) l) r ∧ (r = true ↔ IsOrd G.length l) :=
  isLayout_l0 G hG l hl l.length 0 [] (by omega) (by simp [gi]) (by simp)
/-- list hands on a beginning of at least 140. -/
theorem list_eq (l : List Int) (hl : l.length < 2 ^ 44) : ∃ m, lampblacklaw03_list.f l = some m ∧ (l.length ≤ 140 → m = l) ∧ (140 < l.length → m.length = 140) ∧ m.length ≤ 140 := by
  have hm : mn (l.length : Int) 140 = ((min l.length 140 : Nat) : Int) := mn_nat l.length 140
  refine ⟨l.take (min l.length 140), ?_, fun h => List.take_of_length_le (by omega), fun h => by rw [List.length_take]; omega, by rw [List.length_take]; omega⟩
  unfold lampblacklaw03_list.f slices_Clone_int_int.f
  simp only [hm, Int.toNat_natCast]
  rw [if_pos (by omega), if_pos (by omega)]
  simp only [Option.bind_some, List.length_nil, List.nil_append]
  rw [if_pos (by rw [List.length_take]; omega)]
  rfl
theorem list_ord {l m : List Int} {n : Nat} (hn : n ≤ 9) (h1 : l.length ≤ 140 → m = l) (h2 : 140 < l.length → m.length = 140) : IsOrd n m ↔ IsOrd n l := by
  by_cases h : l.length ≤ 140
  · rw [h1 h]
  · have := h2 (by omega)
    exact ⟨fun h' => by have := h'.length; omega, fun h' => by have := h'.length; omega⟩

theorem refBorder_l0 (G : List Nat) (hG : Gr 7 G) (S : Nat) (hS : S < 2 ^ G.length) : ∀ (d i o : Nat), i + d = G.length → o < 2 ^ G.length → (∀ j, bset o j ↔ j < i ∧ bset (bor G S) j) →
    Ev (fun k => lampblackref03_Border.l0 k (gi G) (S : Int) (o : Int) (G.length : Int) (i : Int)) ((bor G S : Nat) : Int) := by
  have hn := hG.most
  intro d
  induction d with
  | zero =>
    intro i o hi ho h
    have e : o = bor G S := eq_of_bits fun j => by
      show bset _ _ ↔ bset _ _
      rw [h]
      exact ⟨fun h => h.2, fun h => ⟨by have := bit_lt (bor_lt G S) h; omega, h⟩⟩
    subst e
    exact Ev.step (f := fun _ => some ((bor G S : Nat) : Int)) (fun k => by rw [lampblackref03_Border.l0, if_neg (by omega)]) (Ev.some rfl)
  | succ d ih =>
    intro i o hi ho h
    have hi' : i < G.length := by omega
    have hS62 := big (small G (by omega) hS)
    have hr62 := big (small G (by omega) (hG.row i))
    have ho62 := big (small G (by omega) ho)
    have e2 : 2 ^ i < 2 ^ G.length := Nat.pow_lt_pow_right (by omega) hi'
    have e62 := big (small G (by omega) e2)
    have hE2 := Aside0.mk e2
    clear e2
    have step : ∀ o2 : Nat, o2 < 2 ^ G.length → (∀ j, bset o2 j ↔ bset o j ∨ (j = i ∧ bset (bor G S) i)) → Ev (fun k => lampblackref03_Border.l0 k (gi G) (S : Int) (o2 : Int) (G.length : Int) ((i + 1 : Nat) : Int)) ((bor G S : Nat) : Int) := fun o2 h1 h2 => by
      refine ih (i + 1) o2 (by omega) h1 fun j => ?_
      rw [h2, h]
      constructor
      · rintro (h | ⟨rfl, h⟩)
        · exact ⟨by omega, h.2⟩
        · exact ⟨by omega, h⟩
      · rintro ⟨h3, h4⟩
        by_cases e : j = i
        · subst e; exact .inr ⟨rfl, h4⟩
        · exact .inl ⟨by omega, h4⟩
    have hwi := wrap_succ i (by omega)
    by_cases hb : bset S i
    · by_cases hd : diff (G.getD i 0) S = 0
      · refine Ev.step (fun k => ?_) (step o ho fun j => ⟨.inl, fun h => h.elim id fun h => ?_⟩)
        · rw [lampblackref03_Border.l0, if_pos (by omega), if_pos (by omega), if_pos ((bit_bset _ _ hS62 (by omega)).2 hb), if_pos (by rw [gi_length]; omega), rd_gi, b_andNot _ _ hr62 hS62, hd, if_pos (show ((0 : Nat) : Int) = 0 from rfl), hwi]
        · obtain ⟨_, u, hu, hu'⟩ := (bor_bit hG S i).1 h.2
          exact (diff_ne.2 ⟨u, hu, hu'⟩ hd).elim
      · refine Ev.step (fun k => ?_) (step (o ||| 2 ^ i) (or_lt ho hE2.out) fun j => ?_)
        · rw [lampblackref03_Border.l0, if_pos (by omega), if_pos (by omega), if_pos ((bit_bset _ _ hS62 (by omega)).2 hb), if_pos (by rw [gi_length]; omega), rd_gi, b_andNot _ _ hr62 hS62, if_neg (by omega), s_one i (by omega), b_or _ _ ho62 e62, hwi]
        · rw [or_bset, two_pow_bit]
          refine ⟨fun h => h.imp id fun h => ⟨h, ?_⟩, fun h => h.imp id fun h => h.1⟩
          obtain ⟨u, hu⟩ := diff_ne.1 hd
          exact (bor_bit hG S i).2 ⟨hb, u, hu⟩
    · refine Ev.step (fun k => ?_) (step o ho fun j => ⟨.inl, fun h => h.elim id fun h => (hb ((bor_bit hG S i).1 h.2).1).elim⟩)
      rw [lampblackref03_Border.l0, if_pos (by omega), if_pos (by omega), if_neg (fun h => hb ((bit_bset _ _ hS62 (by omega)).1 h)), hwi]
theorem refBorder_ev (G : List Nat) (hG : Gr 7 G) (S : Nat) (hS : S < 2 ^ G.length) : Ev (fun k => lampblackref03_Border.f k (gi G) (S : Int)) ((bor G S : Nat) : Int) := by
  unfold lampblackref03_Border.f
  rw [gi_length]
  exact refBorder_l0 G hG S hS G.length 0 0 (by omega) (Nat.two_pow_pos _) fun j => ⟨fun h => by unfold bset at h; simp at h, fun h => by omega⟩

/-- The bags of a layout that goes on behind S. -/
noncomputable def bagsOf (G : List Nat) : Nat → List Nat → List Nat
  | _, [] => []
  | S, v :: P => (bor G S ||| 2 ^ v) :: bagsOf G (S ||| 2 ^ v) P
theorem bagsOf_length (G : List Nat) : ∀ (P : List Nat) (S : Nat), (bagsOf G S P).length = P.length
  | [], _ => rfl
  | v :: P, S => by simp [bagsOf, bagsOf_length G P]
theorem refBags_l0 (G : List Nat) (hG : Gr 7 G) (P : List Nat) (hP : ∀ v ∈ P, v < G.length) (hl : P.length < 2 ^ 40) : ∀ (d i S : Nat) (out : List Nat), i + d = P.length → S < 2 ^ G.length → out.length = i →
    Ev (fun k => lampblackref03_Bags.l0 k (gi G) (gi out) (S : Int) (gi P) (P.length : Int) (i : Int)) (gi (out ++ bagsOf G S (P.drop i))) := by
  have hn := hG.most
  intro d
  induction d with
  | zero =>
    intro i S out hi hS ho
    refine Ev.step (f := fun _ => some (gi out)) (fun k => by rw [lampblackref03_Bags.l0, if_neg (by omega)]) (Ev.some ?_)
    rw [List.drop_eq_nil_of_le (by omega)]
    simp [bagsOf]
  | succ d ih =>
    intro i S out hi hS ho
    have hi' : i < P.length := by omega
    have hm := hP _ (List.getElem_mem hi')
    have hr : rd (gi P) (i : Int) = ((P[i] : Nat) : Int) := by rw [rd_gi, List.getD_eq_getElem?_getD, List.getElem?_eq_getElem hi']; rfl
    have hS62 := big (small G (by omega) hS)
    have hb62 := big (small G (by omega) (bor_lt G S))
    have e2 : 2 ^ P[i] < 2 ^ G.length := Nat.pow_lt_pow_right (by omega) hm
    have e62 := big (small G (by omega) e2)
    have hS2 := or_lt hS e2
    clear e2
    have h := ih (i + 1) (S ||| 2 ^ P[i]) (out ++ [bor G S ||| 2 ^ P[i]]) (by omega) hS2 (by simp; omega)
    refine Ev.step (f := fun k => (lampblackref03_Border.f k (gi G) (S : Int)).bind fun t259 => if 0 ≤ ((P[i] : Nat) : Int) then (if (gi out).length < 17592186044416 then lampblackref03_Bags.l0 k (gi G) (gi out ++ [Go.bits .or .i64 t259 (shl .i64 1 ((P[i] : Nat) : Int))]) (Go.bits .or .i64 (S : Int) (shl .i64 1 ((P[i] : Nat) : Int))) (gi P) (P.length : Int) (wrap64 ((i : Int) + 1)) else none) else none) (fun k => ?_) ?_
    · rw [lampblackref03_Bags.l0, if_pos (by omega), if_pos (by omega), if_pos (by rw [gi_length]; omega), hr]
    · refine Ev.bind (refBorder_ev G hG S hS) (Ev.if_pos (by omega) (Ev.if_pos (by rw [gi_length]; omega) ?_))
      rw [s_one _ (by omega), b_or _ _ hb62 e62, b_or _ _ hS62 e62, wrap_succ i (by omega), gi_snoc]
      rw [List.drop_eq_getElem_cons hi', bagsOf]
      simpa using h
theorem bags_l0 (G : List Nat) (hG : Gr 7 G) (P : List Nat) (hP : ∀ v ∈ P, v < G.length) (hl : P.length < 2 ^ 40) : ∀ (d i S : Nat) (out : List Nat), i + d = P.length → S < 2 ^ G.length → out.length = i →
    Ev (fun k => sweep_town_bags.l0 k (gi G) (gi out) (S : Int) (gi P) (P.length : Int) (i : Int)) (gi (out ++ bagsOf G S (P.drop i))) := by
  have hn := hG.most
  intro d
  induction d with
  | zero =>
    intro i S out hi hS ho
    refine Ev.step (f := fun _ => some (gi out)) (fun k => by rw [sweep_town_bags.l0, if_neg (by omega)]) (Ev.some ?_)
    rw [List.drop_eq_nil_of_le (by omega)]
    simp [bagsOf]
  | succ d ih =>
    intro i S out hi hS ho
    have hi' : i < P.length := by omega
    have hm := hP _ (List.getElem_mem hi')
    have hr : rd (gi P) (i : Int) = ((P[i] : Nat) : Int) := by rw [rd_gi, List.getD_eq_getElem?_getD, List.getElem?_eq_getElem hi']; rfl
    have hS62 := big (small G (by omega) hS)
    have hb62 := big (small G (by omega) (bor_lt G S))
    have e2 : 2 ^ P[i] < 2 ^ G.length := Nat.pow_lt_pow_right (by omega) hm
    have e62 := big (small G (by omega) e2)
    have hS2 := or_lt hS e2
    clear e2
    have h := ih (i + 1) (S ||| 2 ^ P[i]) (out ++ [bor G S ||| 2 ^ P[i]]) (by omega) hS2 (by simp; omega)
    refine Ev.step (f := fun k => (sweep_town_border.f (gi G) (S : Int)).bind fun t259 => if 0 ≤ ((P[i] : Nat) : Int) then (if (gi out).length < 17592186044416 then sweep_town_bags.l0 k (gi G) (gi out ++ [Go.bits .or .i64 t259 (shl .i64 1 ((P[i] : Nat) : Int))]) (Go.bits .or .i64 (S : Int) (shl .i64 1 ((P[i] : Nat) : Int))) (gi P) (P.length : Int) (wrap64 ((i : Int) + 1)) else none) else none) (fun k => ?_) ?_
    · rw [sweep_town_bags.l0, if_pos (by omega), if_pos (by omega), if_pos (by rw [gi_length]; omega), hr]
    · refine Ev.bind1 (border_eq G hG S hS) (Ev.if_pos (by omega) (Ev.if_pos (by rw [gi_length]; omega) ?_))
      rw [s_one _ (by omega), b_or _ _ hb62 e62, b_or _ _ hS62 e62, wrap_succ i (by omega), gi_snoc]
      rw [List.drop_eq_getElem_cons hi', bagsOf]
      simpa using h
theorem bags_ev (G : List Nat) (hG : Gr 7 G) (P : List Nat) (hP : ∀ v ∈ P, v < G.length) (hl : P.length < 2 ^ 40) : Ev (fun k => sweep_town_bags.f k (gi G) (gi P)) (gi (bagsOf G 0 P)) := by
  unfold sweep_town_bags.f
  rw [gi_length]
  exact bags_l0 G hG P hP hl P.length 0 0 [] (by omega) (Nat.two_pow_pos _) rfl
theorem refBags_ev (G : List Nat) (hG : Gr 7 G) (P : List Nat) (hP : ∀ v ∈ P, v < G.length) (hl : P.length < 2 ^ 40) : Ev (fun k => lampblackref03_Bags.f k (gi G) (gi P)) (gi (bagsOf G 0 P)) := by
  unfold lampblackref03_Bags.f
  rw [gi_length]
  exact refBags_l0 G hG P hP hl P.length 0 0 [] (by omega) (Nat.two_pow_pos _) rfl

theorem equal_l0 (a b : List Int) (hl : a.length = b.length) (h40 : a.length < 2 ^ 40) : ∀ d i, i + d = a.length → Ev (fun k => slices_Equal_int_int.l0 k a b (a.length : Int) (i : Int)) (decide (a.drop i = b.drop i)) := by
  intro d
  induction d with
  | zero =>
    intro i hi
    refine Ev.step (f := fun _ => some true) (fun k => by rw [slices_Equal_int_int.l0, if_neg (by omega)]) (Ev.some ?_)
    rw [List.drop_eq_nil_of_le (by omega), List.drop_eq_nil_of_le (by omega)]
    rfl
  | succ d ih =>
    intro i hi
    have h1 : i < a.length := by omega
    have h2 : i < b.length := by omega
    have r1 : rd a (i : Int) = a[i] := by unfold rd; rw [Int.toNat_natCast, List.getD_eq_getElem?_getD, List.getElem?_eq_getElem h1]; rfl
    have r2 : rd b (i : Int) = b[i] := by unfold rd; rw [Int.toNat_natCast, List.getD_eq_getElem?_getD, List.getElem?_eq_getElem h2]; rfl
    rw [List.drop_eq_getElem_cons h1, List.drop_eq_getElem_cons h2]
    by_cases e : a[i] = b[i]
    · refine Ev.step (f := fun k => slices_Equal_int_int.l0 k a b (a.length : Int) ((i + 1 : Nat) : Int)) (fun k => ?_) ?_
      · rw [slices_Equal_int_int.l0, if_pos (by omega), if_pos (by omega), if_pos (by omega), if_pos (by omega), r1, r2, if_pos e, wrap_succ i (by omega)]
      · rw [show (decide (a[i] :: a.drop (i + 1) = b[i] :: b.drop (i + 1))) = decide (a.drop (i + 1) = b.drop (i + 1)) from decide_eq_decide.2 ⟨fun h => (List.cons.inj h).2, fun h => by rw [e, h]⟩]
        exact ih (i + 1) (by omega)
    · refine Ev.step (f := fun _ => some false) (fun k => ?_) (Ev.some (decide_eq_false fun h => e (List.cons.inj h).1).symm)
      rw [slices_Equal_int_int.l0, if_pos (by omega), if_pos (by omega), if_pos (by omega), if_pos (by omega), r1, r2, if_neg e]
theorem equal_ev (a b : List Int) (h40 : a.length < 2 ^ 40) : Ev (fun k => slices_Equal_int_int.f k a b) (decide (a = b)) := by
  unfold slices_Equal_int_int.f
  by_cases hl : a.length = b.length
  · refine Ev.if_pos (by omega) ?_
    have := equal_l0 a b hl h40 a.length 0 (by omega)
    simpa using this
  · exact Ev.if_neg (by omega) (Ev.some (by symm; rw [decide_eq_false_iff_not]; exact fun e => hl (by rw [e])))
theorem equal_same (a : List Int) (h40 : a.length < 2 ^ 40) : Ev (fun k => slices_Equal_int_int.f k a a) true := by
  have := equal_ev a a h40
  simpa using this
end Go.Proofs.YtijfddobandcdaaDoor.X
end
section
-- by ownprint.py (wip/tool), over the kit's print
namespace Go.Proofs.YtijfddobandcdaaDoor.X
open Go.RowKit Go.Proofs.YtijfddobandcdaaDoorW.PrintWords Go.Proofs.YtijfddobandcdaaDoorW.PrintLast Go.Proofs.YtijfddobandcdaaDoorW.PrintMore
attribute [local go_sem] max2_int min2_int max_two min_two max_three min_three max_four min_four
set_option linter.unusedVariables false
set_option linter.unusedSimpArgs false

/-! ### sweep_Bags: function 32 -/
def sweep_Bags.f (k : Nat) (l0 : List Int) (l1 : List Int) : Option (List Int × Int) := (sweep_read.f k l0).bind fun bt261 => (if bt261.2 = true then ((sweep_town_isLayout.f k bt261.1 l1).bind fun t265 => (if t265 = true then ((sweep_town_bags.f k bt261.1 l1).bind fun t266 => (some (t266, 0))) else (some (([] : List Int), 2)))) else (some (([] : List Int), 2)))
theorem sweep_Bags.mono : ∀ a0 a1 k, LeO (sweep_Bags.f k a0 a1) (sweep_Bags.f (k + 1) a0 a1) := by
  intro a0 a1 k
  unfold sweep_Bags.f
  repeat' first
      | (with_reducible exact sweep_read.mono _ _)
      | (with_reducible exact sweep_town_bags.mono _ _ _)
      | (with_reducible exact sweep_town_isLayout.mono _ _ _)
      | (with_reducible exact LeO.refl _)
      | (with_reducible exact LeO.none _)
      | (with_reducible refine LeO.ite ?_ ?_)
      | (with_reducible refine LeO.bind ?_ (fun _ => ?_))
      | exact sweep_read.mono _ _
      | exact sweep_town_bags.mono _ _ _
      | exact sweep_town_isLayout.mono _ _ _
      | exact LeO.none _
      | refine LeO.ite ?_ ?_
      | refine LeO.bind ?_ (fun _ => ?_)
set_option maxHeartbeats 8000000 in
set_option maxRecDepth 100000 in
theorem sweep_Bags.calls (k : Nat) (A0 : Option Addr) (c0 : Nat) (l0 : List Int) (A1 : Option Addr) (c1 : Nat) (l1 : List Int) (r1 : List Int) (r2 : Int) (w : World) (hGL : GL w) (hr0 : Kd.C (Kd.int .i64) w A0 l0.length l0) (hc0 : l0.length ≤ c0) (hr1 : Kd.C (Kd.int .i64) w A1 l1.length l1) (hc1 : l1.length ≤ c1) (h : sweep_Bags.f k l0 l1 = some (r1, r2)) :
    Calls Tryd.prog 32 #[.slice A0 l0.length c0, .slice A1 l1.length c1] w fun e w' => ∃ v0_ : Value, e = .returned (.tuple #[v0_, .int .i64 r2]) ∧ Kd.R (Kd.int .i64) 3 w' w.heap.size (fun _ => True) v0_ r1 ∧ Below w.heap.size w w' := by
  have HGL := Aside0.mk hGL
  clear hGL
  have HR0 := Aside0.mk hr0
  have HC0 := Aside0.mk hc0
  clear hr0 hc0
  have HR1 := Aside0.mk hr1
  have HC1 := Aside0.mk hc1
  clear hr1 hc1
  have HB := Aside0.mk (Below.refl w.heap.size w)
  have H : ((sweep_read.f k l0).bind fun bt261 => (if bt261.2 = true then ((sweep_town_isLayout.f k bt261.1 l1).bind fun t265 => (if t265 = true then ((sweep_town_bags.f k bt261.1 l1).bind fun t266 => (some (t266, 0))) else (some (([] : List Int), 2)))) else (some (([] : List Int), 2)))) = some (r1, r2) := h
  clear h
  replace H := Option.bind_eq_some_iff.mp H
  obtain ⟨⟨t261, t264⟩, A30, H⟩ := H
  replace H : (if t264 = true then ((sweep_town_isLayout.f k t261 l1).bind fun t265 => (if t265 = true then ((sweep_town_bags.f k t261 l1).bind fun t266 => (some (t266, 0))) else (some (([] : List Int), 2)))) else (some (([] : List Int), 2))) = some (r1, r2) := H
  have A3 := Aside0.mk A30
  clear A30
  by_cases c4 : t264 = true
  · subst c4
    have H1 : ((sweep_town_isLayout.f k t261 l1).bind fun t265 => (if t265 = true then ((sweep_town_bags.f k t261 l1).bind fun t266 => (some (t266, 0))) else (some (([] : List Int), 2)))) = some (r1, r2) := by rw [if_pos rfl] at H; exact H
    clear H
    have H := H1
    clear H1
    replace H := Option.bind_eq_some_iff.mp H
    obtain ⟨t265, A50, H⟩ := H
    replace H : (if t265 = true then ((sweep_town_bags.f k t261 l1).bind fun t266 => (some (t266, 0))) else (some (([] : List Int), 2))) = some (r1, r2) := H
    have A5 := Aside0.mk A50
    clear A50
    by_cases c6 : t265 = true
    · subst c6
      have H1 : ((sweep_town_bags.f k t261 l1).bind fun t266 => (some (t266, 0))) = some (r1, r2) := by rw [if_pos rfl] at H; exact H
      clear H
      have H := H1
      clear H1
      replace H := Option.bind_eq_some_iff.mp H
      obtain ⟨t266, A70, H⟩ := H
      replace H : (some (t266, 0)) = some (r1, r2) := H
      have A7 := Aside0.mk A70
      clear A70
      simp only [Option.some.injEq, Prod.mk.injEq] at H
      obtain ⟨rfl, rfl⟩ := H
      go_enter Tryd.func32, Tryd.ntmps32
      go_wp2_with (first | ((with_reducible refine gate_callee (f := 49) rfl ?_); refine goesL_ (some 10) rfl rfl Tryd.func49 (by kernel_rfl) rfl #[.slice A0 l0.length c0] rfl (by (try simp only [List.map_toArray, List.map_cons, List.map_nil]); first | done | rfl | (simp only [List.length_drop, List.length_take]; rfl)) ?_; (with_reducible refine (sweep_read.calls k (fun k_ => k_ < w.heap.size) _ _ l0 t261 true _ ?side1 A3.out).mono ?_); (case side1 => exact Kd.V_mk HC0.out (Kd.F_below (Kd.C_F (Kd.heap_int .i64) HR0.out) (by repeat (first | (with_reducible first | exact HB.out | apply below_alloc | apply pw_below_drewN | apply below_drew1) | exact HB.out)))); rintro e w8 ⟨v262, rfl, ho0, hb⟩; refine ⟨_, rfl, ?_⟩; have n0_ := Aside0.mk (Kd.V_lower (Kd.V_mono (ok' := fun k_ => True) ho0 (fun k_ hk_ => trivial)) (below_size (by repeat (first | (with_reducible first | exact HB.out | apply below_alloc | apply pw_below_drewN | apply below_drew1) | exact HB.out)))); have n1_ := Aside0.mk (below_step (by repeat (first | (with_reducible first | exact HB.out | apply below_alloc | apply pw_below_drewN | apply below_drew1) | exact HB.out)) hb); clear HB; have HO263 := n0_; have HB := n1_; clear n0_ n1_; (try clear hb); (try clear hb2); (try clear hk); (try clear hi); (try clear ho0); obtain ⟨Ao9, co9, eo9⟩ := Kd.V_slice HO263.out; subst eo9) | (go_at_call 55; (with_reducible refine (sweep_town_isLayout.calls k _ _ t261 _ _ l1 true _ ?side1 ?side2 ?side3 ?side4 A5.out).mono ?_); (case side1 => repeat (first | exact (Kd.V_reads' HO263.out).2.2 | (with_reducible refine Kd.C_alloc ?_ _) | (with_reducible refine Kd.C_drewN ?_ _) | (with_reducible refine Kd.C_drew ?_))); (case side2 => exact (Kd.V_reads' HO263.out).2.1); (case side3 => repeat (first | exact (Kd.C_below HR1.out HB.out) | (with_reducible refine Kd.C_alloc ?_ _) | (with_reducible refine Kd.C_drewN ?_ _) | (with_reducible refine Kd.C_drew ?_))); (case side4 => exact HC1.out); rintro e w' ⟨rfl, ⟨nd, rfl⟩⟩) | ((with_reducible refine gate_callee (f := 52) rfl ?_); refine goesL_ (some 23) rfl rfl Tryd.func52 (by kernel_rfl) rfl #[.slice Ao9 t261.length co9, .slice A1 l1.length c1] rfl (by (try simp only [List.map_toArray, List.map_cons, List.map_nil]); first | done | rfl | (simp only [List.length_drop, List.length_take]; rfl)) ?_; (with_reducible refine (sweep_town_bags.calls (hGL := (by repeat (first | (with_reducible exact HGL.out) | (with_reducible exact GL_below HGL.out HB.out) | (with_reducible refine GL_alloc ?_ _) | (with_reducible refine GL_drewN ?_ _) | (with_reducible refine GL_drew ?_)))) k _ _ t261 _ _ l1 t266 _ ?side1 ?side2 ?side3 ?side4 A7.out).mono ?_); (case side1 => repeat (first | exact (Kd.V_reads' HO263.out).2.2 | (with_reducible refine Kd.C_alloc ?_ _) | (with_reducible refine Kd.C_drewN ?_ _) | (with_reducible refine Kd.C_drew ?_))); (case side2 => exact (Kd.V_reads' HO263.out).2.1); (case side3 => repeat (first | exact (Kd.C_below HR1.out (by repeat (first | (with_reducible first | exact HB.out | apply below_alloc | apply pw_below_drewN | apply below_drew1) | exact HB.out))) | (with_reducible refine Kd.C_alloc ?_ _) | (with_reducible refine Kd.C_drewN ?_ _) | (with_reducible refine Kd.C_drew ?_))); (case side4 => exact HC1.out); rintro e w10 ⟨v267, rfl, ho0, hb⟩; refine ⟨_, rfl, ?_⟩; have n0_ := Aside0.mk (Kd.V_elder' (by (with_reducible repeat (first | apply Kd.V_alloc | apply Kd.V_drewN | apply Kd.V_drew)); exact HO263.out) (Kd.R_base ho0) hb); have n1_ := Aside0.mk (Kd.R_lower ho0 (below_size (by repeat (first | (with_reducible first | exact HB.out | apply below_alloc | apply pw_below_drewN | apply below_drew1) | exact HB.out)))); have n2_ := Aside0.mk (below_step (by repeat (first | (with_reducible first | exact HB.out | apply below_alloc | apply pw_below_drewN | apply below_drew1) | exact HB.out)) hb); clear HO263; clear HB; have HO263 := n0_; have HO268 := n1_; have HB := n2_; clear n0_ n1_ n2_; (try clear hb); (try clear hb2); (try clear hk); (try clear hi); (try clear ho0)))
      go_ret2
      exact ⟨_, by first | rfl | (simp [errW_none, errW_some] <;> rfl) | (simp [*, errW_none, errW_some] <;> rfl), by (with_reducible repeat (first | apply Kd.R_alloc | apply Kd.R_drewN | apply Kd.R_drew)); exact HO268.out, by repeat (first | (with_reducible first | exact HB.out | apply below_alloc | apply pw_below_drewN | apply below_drew1) | exact HB.out)⟩
    · replace c6 := Bool.eq_false_iff.mpr c6
      subst c6
      have H1 : (some (([] : List Int), 2)) = some (r1, r2) := by rw [if_neg (show ¬ (false = true) by decide)] at H; exact H
      clear H
      have H := H1
      clear H1
      simp only [Option.some.injEq, Prod.mk.injEq] at H
      obtain ⟨rfl, rfl⟩ := H
      go_enter Tryd.func32, Tryd.ntmps32
      go_wp2_with (first | ((with_reducible refine gate_callee (f := 49) rfl ?_); refine goesL_ (some 10) rfl rfl Tryd.func49 (by kernel_rfl) rfl #[.slice A0 l0.length c0] rfl (by (try simp only [List.map_toArray, List.map_cons, List.map_nil]); first | done | rfl | (simp only [List.length_drop, List.length_take]; rfl)) ?_; (with_reducible refine (sweep_read.calls k (fun k_ => k_ < w.heap.size) _ _ l0 t261 true _ ?side1 A3.out).mono ?_); (case side1 => exact Kd.V_mk HC0.out (Kd.F_below (Kd.C_F (Kd.heap_int .i64) HR0.out) (by repeat (first | (with_reducible first | exact HB.out | apply below_alloc | apply pw_below_drewN | apply below_drew1) | exact HB.out)))); rintro e w11 ⟨v262, rfl, ho0, hb⟩; refine ⟨_, rfl, ?_⟩; have n0_ := Aside0.mk (Kd.V_lower (Kd.V_mono (ok' := fun k_ => True) ho0 (fun k_ hk_ => trivial)) (below_size (by repeat (first | (with_reducible first | exact HB.out | apply below_alloc | apply pw_below_drewN | apply below_drew1) | exact HB.out)))); have n1_ := Aside0.mk (below_step (by repeat (first | (with_reducible first | exact HB.out | apply below_alloc | apply pw_below_drewN | apply below_drew1) | exact HB.out)) hb); clear HB; have HO263 := n0_; have HB := n1_; clear n0_ n1_; (try clear hb); (try clear hb2); (try clear hk); (try clear hi); (try clear ho0); obtain ⟨Ao12, co12, eo12⟩ := Kd.V_slice HO263.out; subst eo12) | (go_at_call 55; (with_reducible refine (sweep_town_isLayout.calls k _ _ t261 _ _ l1 false _ ?side1 ?side2 ?side3 ?side4 A5.out).mono ?_); (case side1 => repeat (first | exact (Kd.V_reads' HO263.out).2.2 | (with_reducible refine Kd.C_alloc ?_ _) | (with_reducible refine Kd.C_drewN ?_ _) | (with_reducible refine Kd.C_drew ?_))); (case side2 => exact (Kd.V_reads' HO263.out).2.1); (case side3 => repeat (first | exact (Kd.C_below HR1.out HB.out) | (with_reducible refine Kd.C_alloc ?_ _) | (with_reducible refine Kd.C_drewN ?_ _) | (with_reducible refine Kd.C_drew ?_))); (case side4 => exact HC1.out); rintro e w' ⟨rfl, ⟨nd, rfl⟩⟩))
      go_ret2
      exact ⟨_, by first | rfl | (simp [errW_none, errW_some] <;> rfl) | (simp [*, errW_none, errW_some] <;> rfl), by first | exact Kd.R_nil _ _ _ _ _ | exact Kd.N_nil _ _ _ _ _ | exact Kd.V_nil _ _ _ _ _ | exact Kd.Q_nil _ _ _ _ _ | exact Kd.S_nil _ _ _ _ _, by repeat (first | (with_reducible first | exact HB.out | apply below_alloc | apply pw_below_drewN | apply below_drew1) | exact HB.out)⟩
  · replace c4 := Bool.eq_false_iff.mpr c4
    subst c4
    have H1 : (some (([] : List Int), 2)) = some (r1, r2) := by rw [if_neg (show ¬ (false = true) by decide)] at H; exact H
    clear H
    have H := H1
    clear H1
    simp only [Option.some.injEq, Prod.mk.injEq] at H
    obtain ⟨rfl, rfl⟩ := H
    go_enter Tryd.func32, Tryd.ntmps32
    go_wp2_with (first | ((with_reducible refine gate_callee (f := 49) rfl ?_); refine goesL_ (some 10) rfl rfl Tryd.func49 (by kernel_rfl) rfl #[.slice A0 l0.length c0] rfl (by (try simp only [List.map_toArray, List.map_cons, List.map_nil]); first | done | rfl | (simp only [List.length_drop, List.length_take]; rfl)) ?_; (with_reducible refine (sweep_read.calls k (fun k_ => k_ < w.heap.size) _ _ l0 t261 false _ ?side1 A3.out).mono ?_); (case side1 => exact Kd.V_mk HC0.out (Kd.F_below (Kd.C_F (Kd.heap_int .i64) HR0.out) (by repeat (first | (with_reducible first | exact HB.out | apply below_alloc | apply pw_below_drewN | apply below_drew1) | exact HB.out)))); rintro e w13 ⟨v262, rfl, ho0, hb⟩; refine ⟨_, rfl, ?_⟩; have n0_ := Aside0.mk (Kd.V_lower (Kd.V_mono (ok' := fun k_ => True) ho0 (fun k_ hk_ => trivial)) (below_size (by repeat (first | (with_reducible first | exact HB.out | apply below_alloc | apply pw_below_drewN | apply below_drew1) | exact HB.out)))); have n1_ := Aside0.mk (below_step (by repeat (first | (with_reducible first | exact HB.out | apply below_alloc | apply pw_below_drewN | apply below_drew1) | exact HB.out)) hb); clear HB; have HO263 := n0_; have HB := n1_; clear n0_ n1_; (try clear hb); (try clear hb2); (try clear hk); (try clear hi); (try clear ho0)))
    go_ret2
    exact ⟨_, by first | rfl | (simp [errW_none, errW_some] <;> rfl) | (simp [*, errW_none, errW_some] <;> rfl), by first | exact Kd.R_nil _ _ _ _ _ | exact Kd.N_nil _ _ _ _ _ | exact Kd.V_nil _ _ _ _ _ | exact Kd.Q_nil _ _ _ _ _ | exact Kd.S_nil _ _ _ _ _, by repeat (first | (with_reducible first | exact HB.out | apply below_alloc | apply pw_below_drewN | apply below_drew1) | exact HB.out)⟩

end Go.Proofs.YtijfddobandcdaaDoor.X
end
section
/- The bags of a layout are a path decomposition, whose width is the breadth; Breadth. -/
set_option linter.unusedVariables false
namespace Go.Proofs.YtijfddobandcdaaDoor.X
open Go.RowKit Go.Proofs.YtijfddobandcdaaDoorW.PrintWords Go.Proofs.YtijfddobandcdaaDoorW.PrintLast Go.Proofs.YtijfddobandcdaaDoorW.PrintMore Go.Proofs.YtijfddobandcdaaDoor.T

/-- The breadth of a layout that goes on behind S. -/
noncomputable def brOf (G : List Nat) : Nat → List Nat → Nat
  | _, [] => 0
  | S, v :: P => max (bc G (S ||| 2 ^ v)) (brOf G (S ||| 2 ^ v) P)
theorem bc_le (G : List Nat) (S : Nat) : bc G S ≤ 9 := pc_le _ _
theorem brOf_le (G : List Nat) : ∀ (P : List Nat) (S : Nat), brOf G S P ≤ 9
  | [], _ => by simp [brOf]
  | v :: P, S => by simp only [brOf]; have := bc_le G (S ||| 2 ^ v); have := brOf_le G P (S ||| 2 ^ v); omega
theorem breadth_l0 (G : List Nat) (hG : Gr 7 G) (P : List Nat) (hP : ∀ v ∈ P, v < G.length) (hl : P.length < 2 ^ 40) : ∀ (d i S m : Nat), i + d = P.length → S < 2 ^ G.length →
    Ev (fun k => sweep_town_breadth.l0 k (gi G) (S : Int) (m : Int) (gi P) (P.length : Int) (i : Int)) ((max m (brOf G S (P.drop i)) : Nat) : Int) := by
  have hn := hG.most
  intro d
  induction d with
  | zero =>
    intro i S m hi hS
    refine Ev.step (f := fun _ => some (m : Int)) (fun k => by rw [sweep_town_breadth.l0, if_neg (by omega)]) (Ev.some ?_)
    rw [List.drop_eq_nil_of_le (by omega)]
    simp [brOf]
  | succ d ih =>
    intro i S m hi hS
    have hi' : i < P.length := by omega
    have hm := hP _ (List.getElem_mem hi')
    have hwi := wrap_succ i (by omega)
    have hr : rd (gi P) (i : Int) = ((P[i] : Nat) : Int) := by rw [rd_gi, List.getD_eq_getElem?_getD, List.getElem?_eq_getElem hi']; rfl
    have hS62 := big (small G (by omega) hS)
    have h7 : P[i] < 62 := by omega
    have HS2 := Aside0.mk (or_new hS hm)
    have e62 : 2 ^ P[i] < 2 ^ 62 := Nat.pow_lt_pow_right (by omega) h7
    have hor : Go.bits .or .i64 (S : Int) (shl .i64 1 ((P[i] : Nat) : Int)) = ((S ||| 2 ^ P[i] : Nat) : Int) := by rw [s_one _ h7, b_or _ _ hS62 e62]
    clear hS e62
    refine Ev.step (f := fun k => (sweep_town_border.f (gi G) ((S ||| 2 ^ P[i] : Nat) : Int)).bind fun t217 => (sweep_count.f t217).bind fun t218 => sweep_town_breadth.l0 k (gi G) ((S ||| 2 ^ P[i] : Nat) : Int) (mx (m : Int) t218) (gi P) (P.length : Int) ((i + 1 : Nat) : Int)) (fun k => ?_) ?_
    · rw [sweep_town_breadth.l0, if_pos (by omega), if_pos (by omega), if_pos (by rw [gi_length]; omega), hr, if_pos (by omega), hor, hwi]
    · refine Ev.bind1 (border_eq G hG _ HS2.out) (Ev.bind1 (count_eq _ (small G (by omega) (bor_lt G _))) ?_)
      rw [mx_nat, List.drop_eq_getElem_cons hi', brOf]
      have := ih (i + 1) (S ||| 2 ^ P[i]) (max m (bc G (S ||| 2 ^ P[i]))) (by omega) HS2.out
      rw [show max m (max (bc G (S ||| 2 ^ P[i])) (brOf G (S ||| 2 ^ P[i]) (P.drop (i + 1)))) = max (max m (bc G (S ||| 2 ^ P[i]))) (brOf G (S ||| 2 ^ P[i]) (P.drop (i + 1))) by omega]
      exact this
theorem breadth_ev (G : List Nat) (hG : Gr 7 G) (P : List Nat) (hP : ∀ v ∈ P, v < G.length) (hl : P.length < 2 ^ 40) : Ev (fun k => sweep_town_breadth.f k (gi G) (gi P)) ((brOf G 0 P : Nat) : Int) := by
  unfold sweep_town_breadth.f
  rw [gi_length]
  have := breadth_l0 G hG P hP hl P.length 0 0 0 (by omega) (Nat.two_pow_pos _)
  rwa [List.drop_zero, Nat.zero_max] at this
theorem Breadth_yes (G : List Nat) (hG : Gr 7 G) (P : List Nat) (h : IsOrd G.length (gi P)) : Ev (fun k => sweep_Breadth.f k (gi G) (gi P)) (((brOf G 0 P : Nat) : Int), 0) := by
  have hr := read_ev (gi G) (by rw [gi_length]; have := hG.most; omega)
  rw [(chk_iff 7 (by omega) _).2 ⟨G, rfl, hG⟩] at hr
  have hl := h.length
  rw [gi_length] at hl
  obtain ⟨r, h1, h2⟩ := isLayout_ev G hG (gi P) (by rw [gi_length]; have := hG.most; omega)
  rw [h2.2 h] at h1
  have hP : ∀ v ∈ P, v < G.length := by
    obtain ⟨Q, e, _, h3, _⟩ := h
    rw [gi_inj e]; exact h3
  unfold sweep_Breadth.f
  exact Ev.bind hr (Ev.if_pos rfl (Ev.bind h1 (Ev.if_pos rfl (Ev.bind (breadth_ev G hG P hP (by have := hG.most; omega)) (Ev.some rfl)))))
theorem Breadth_no (G : List Nat) (hG : Gr 7 G) (l : List Int) (hl : l.length < 2 ^ 60) (h : ¬ IsOrd G.length l) : Ev (fun k => sweep_Breadth.f k (gi G) l) (0, 2) := by
  have hr := read_ev (gi G) (by rw [gi_length]; have := hG.most; omega)
  rw [(chk_iff 7 (by omega) _).2 ⟨G, rfl, hG⟩] at hr
  obtain ⟨r, h1, h2⟩ := isLayout_ev G hG l hl
  have hr2 : r = false := by cases r <;> simp_all
  rw [hr2] at h1
  unfold sweep_Breadth.f
  exact Ev.bind hr (Ev.if_pos rfl (Ev.bind h1 (Ev.if_neg (by simp) (Ev.some rfl))))
theorem Breadth_bad (g l : List Int) (hl : g.length < 2 ^ 60) (h : chk 7 g = false) : Ev (fun k => sweep_Breadth.f k g l) (0, 2) := by
  have hr := read_ev g hl
  rw [h] at hr
  unfold sweep_Breadth.f
  exact Ev.bind hr (Ev.if_neg (by simp) (Ev.some rfl))
theorem Bags_yes (G : List Nat) (hG : Gr 7 G) (P : List Nat) (h : IsOrd G.length (gi P)) : Ev (fun k => sweep_Bags.f k (gi G) (gi P)) (gi (bagsOf G 0 P), 0) := by
  have hr := read_ev (gi G) (by rw [gi_length]; have := hG.most; omega)
  rw [(chk_iff 7 (by omega) _).2 ⟨G, rfl, hG⟩] at hr
  have hl := h.length
  rw [gi_length] at hl
  obtain ⟨r, h1, h2⟩ := isLayout_ev G hG (gi P) (by rw [gi_length]; have := hG.most; omega)
  rw [h2.2 h] at h1
  have hP : ∀ v ∈ P, v < G.length := by
    obtain ⟨Q, e, _, h3, _⟩ := h
    rw [gi_inj e]; exact h3
  unfold sweep_Bags.f
  exact Ev.bind hr (Ev.if_pos rfl (Ev.bind h1 (Ev.if_pos rfl (Ev.bind (bags_ev G hG P hP (by have := hG.most; omega)) (Ev.some rfl)))))
theorem Bags_no (G : List Nat) (hG : Gr 7 G) (l : List Int) (hl : l.length < 2 ^ 60) (h : ¬ IsOrd G.length l) : Ev (fun k => sweep_Bags.f k (gi G) l) (([] : List Int), 2) := by
  have hr := read_ev (gi G) (by rw [gi_length]; have := hG.most; omega)
  rw [(chk_iff 7 (by omega) _).2 ⟨G, rfl, hG⟩] at hr
  obtain ⟨r, h1, h2⟩ := isLayout_ev G hG l hl
  have hr2 : r = false := by cases r <;> simp_all
  rw [hr2] at h1
  unfold sweep_Bags.f
  exact Ev.bind hr (Ev.if_pos rfl (Ev.bind h1 (Ev.if_neg (by simp) (Ev.some rfl))))
theorem Bags_bad (g l : List Int) (hl : g.length < 2 ^ 60) (h : chk 7 g = false) : Ev (fun k => sweep_Bags.f k g l) (([] : List Int), 2) := by
  have hr := read_ev g hl
  rw [h] at hr
  unfold sweep_Bags.f
  exact Ev.bind hr (Ev.if_neg (by simp) (Ev.some rfl))

/-! A layout's bags, as they go on behind S: S and the nodes of P are all nodes. -/
/-- P can go on behind S: its nodes are new, each once, and none is left out. -/
structure Goes (n S : Nat) (P : List Nat) : Prop where
  nodup : P.Nodup
  new : ∀ v ∈ P, v < n ∧ ¬ bset S v
  all : ∀ j, j < n → bset S j ∨ j ∈ P
theorem Goes.tail {n S v : Nat} {P : List Nat} (h : Goes n S (v :: P)) : Goes n (S ||| 2 ^ v) P where
  nodup := (List.nodup_cons.1 h.nodup).2
  new := fun u hu => ⟨(h.new u (List.mem_cons_of_mem _ hu)).1, fun hb => by
    rcases (or_bset _ _ _).1 hb with h1 | h1
    · exact (h.new u (List.mem_cons_of_mem _ hu)).2 h1
    · rw [(two_pow_bit v u).1 h1] at hu; exact (List.nodup_cons.1 h.nodup).1 hu⟩
  all := fun j hj => by
    rcases h.all j hj with h1 | h1
    · exact .inl ((or_bset _ _ _).2 (.inl h1))
    · rcases List.mem_cons.1 h1 with e | e
      · exact .inl ((or_bset _ _ _).2 (.inr ((two_pow_bit v j).2 e)))
      · exact .inr e
theorem goes_of {n : Nat} {P : List Nat} (h : IsOrd n (gi P)) : Goes n 0 P := by
  obtain ⟨Q, e, h1, h2, h3⟩ := h
  obtain rfl := gi_inj e
  exact ⟨h1, fun v hv => ⟨h2 v hv, fun hb => by unfold bset at hb; simp at hb⟩, fun j hj => .inr (covers_of_nodup h3 h1 h2 j hj)⟩
theorem starts_false0 : ∀ {L : List Bool}, (∀ x ∈ L, x = false) → starts false L = 0
  | [], _ => rfl
  | x :: L, h => by
    have := h x List.mem_cons_self
    subst this
    simp only [starts]
    rw [starts_false0 fun x hx => h x (List.mem_cons_of_mem _ hx)]
    simp
/-- Once a node is in S, its marks stop for good when they stop. -/
theorem late_marks {G : List Nat} (hG : Gr 7 G) (v : Nat) : ∀ (P : List Nat) (S : Nat) (p : Bool), bset S v → v ∉ P → (p = false → ¬ ∃ u, Adj G v u ∧ ¬ bset S u) → starts p (marks v (bagsOf G S P)) = 0 := by
  intro P
  induction P with
  | nil => intro S p _ _ _; rfl
  | cons x P ih =>
    intro S p hS hx hp
    have hvx : v ≠ x := fun e => hx (e ▸ List.mem_cons_self)
    simp only [bagsOf, marks, List.map_cons, starts]
    have hb : (bor G S ||| 2 ^ x).testBit v = true ↔ ∃ u, Adj G v u ∧ ¬ bset S u := by
      show bset _ v ↔ _
      rw [or_bset, bor_bit hG, two_pow_bit]
      exact ⟨fun h => h.elim (fun h => h.2) (fun h => (hvx h).elim), fun h => .inl ⟨hS, h⟩⟩
    have key := ih (S ||| 2 ^ x) ((bor G S ||| 2 ^ x).testBit v) ((or_bset _ _ _).2 (.inl hS)) (fun h => hx (List.mem_cons_of_mem _ h)) (fun h => by
      rintro ⟨u, hu, hu2⟩
      rw [hb.2 ⟨u, hu, fun h => hu2 ((or_bset _ _ _).2 (.inl h))⟩] at h
      cases h)
    unfold marks at key
    rw [key]
    by_cases h1 : (bor G S ||| 2 ^ x).testBit v = true
    · cases p with
      | true => rw [if_neg (by simp)]
      | false => exact (hp rfl (hb.1 h1)).elim
    · rw [if_neg (fun h => h1 h.1)]
theorem bags_run {G : List Nat} (hG : Gr 7 G) (v : Nat) : ∀ (P : List Nat) (S : Nat), Goes G.length S P → v ∈ P → starts false (marks v (bagsOf G S P)) = 1 := by
  intro P
  induction P with
  | nil => intro S _ h; simp at h
  | cons x P ih =>
    intro S hg hv
    have hvS := (hg.new v hv).2
    simp only [bagsOf, marks, List.map_cons, starts]
    by_cases e : v = x
    · subst e
      have hb : (bor G S ||| 2 ^ v).testBit v = true := (or_bset _ _ _).2 (.inr ((two_pow_bit v v).2 rfl))
      rw [hb, if_pos (by simp)]
      have := late_marks hG v P (S ||| 2 ^ v) true ((or_bset _ _ _).2 (.inr ((two_pow_bit v v).2 rfl))) (List.nodup_cons.1 hg.nodup).1 (fun h => by cases h)
      unfold marks at this
      rw [this]
    · have hb : (bor G S ||| 2 ^ x).testBit v = false := by
        cases h : (bor G S ||| 2 ^ x).testBit v
        · rfl
        · rcases (or_bset _ _ _).1 h with h1 | h1
          · exact (hvS ((bor_bit hG _ _).1 h1).1).elim
          · exact (e ((two_pow_bit x v).1 h1)).elim
      rw [hb, if_neg (by simp), Nat.zero_add]
      exact ih _ hg.tail ((List.mem_cons.1 hv).resolve_left e)
theorem bags_edge {G : List Nat} (hG : Gr 7 G) (v u : Nat) (ha : Adj G v u) : ∀ (P : List Nat) (S : Nat), Goes G.length S P → (bset S v ∨ v ∈ P) → u ∈ P → (v ∈ P → False) ∨ True → ∃ b ∈ bagsOf G S P, bset b v ∧ bset b u := by
  intro P
  induction P with
  | nil => intro S _ _ h; simp at h
  | cons x P ih =>
    intro S hg hv hu _
    simp only [bagsOf]
    by_cases e : u = x
    · subst e
      rcases hv with h | h
      · exact ⟨_, List.mem_cons_self, (or_bset _ _ _).2 (.inl ((bor_bit hG _ _).2 ⟨h, u, ha, (hg.new u hu).2⟩)), (or_bset _ _ _).2 (.inr ((two_pow_bit u u).2 rfl))⟩
      · rcases List.mem_cons.1 h with e2 | h2
        · subst e2; exact (hG.adj_irr ha).elim
        · -- v comes behind u: the bag of v has both
          have ha' := hG.adj_symm ha
          have : ∀ (P : List Nat) (S : Nat), Goes G.length S P → bset S u → v ∈ P → ∃ b ∈ bagsOf G S P, bset b v ∧ bset b u := by
            intro P
            induction P with
            | nil => intro S _ _ h; simp at h
            | cons y P ih2 =>
              intro S hg hSu hv
              simp only [bagsOf]
              by_cases e3 : v = y
              · subst e3
                exact ⟨_, List.mem_cons_self, (or_bset _ _ _).2 (.inr ((two_pow_bit v v).2 rfl)), (or_bset _ _ _).2 (.inl ((bor_bit hG _ _).2 ⟨hSu, v, ha', (hg.new v hv).2⟩))⟩
              · obtain ⟨b, hb, h3⟩ := ih2 _ hg.tail ((or_bset _ _ _).2 (.inl hSu)) ((List.mem_cons.1 hv).resolve_left e3)
                exact ⟨b, List.mem_cons_of_mem _ hb, h3⟩
          obtain ⟨b, hb, h3⟩ := this P _ hg.tail ((or_bset _ _ _).2 (.inr ((two_pow_bit u u).2 rfl))) h2
          exact ⟨b, List.mem_cons_of_mem _ hb, h3⟩
    · have hu2 := (List.mem_cons.1 hu).resolve_left e
      have hv2 : bset (S ||| 2 ^ x) v ∨ v ∈ P := by
        rcases hv with h | h
        · exact .inl ((or_bset _ _ _).2 (.inl h))
        · rcases List.mem_cons.1 h with e2 | h2
          · exact .inl ((or_bset _ _ _).2 (.inr ((two_pow_bit x v).2 e2)))
          · exact .inr h2
      obtain ⟨b, hb, h3⟩ := ih _ hg.tail hv2 hu2 (.inr trivial)
      exact ⟨b, List.mem_cons_of_mem _ hb, h3⟩
theorem bags_lt {G : List Nat} : ∀ (P : List Nat) (S : Nat), (∀ v ∈ P, v < G.length) → ∀ b ∈ bagsOf G S P, b < 2 ^ G.length
  | [], _, _ => by simp [bagsOf]
  | v :: P, S, h => by
    intro b hb
    rcases List.mem_cons.1 hb with e | e
    · rw [e]; exact or_new (bor_lt G S) (h v List.mem_cons_self)
    · exact bags_lt P _ (fun u hu => h u (List.mem_cons_of_mem _ hu)) b e
theorem bags_path {G : List Nat} (hG : Gr 7 G) {P : List Nat} (h : IsOrd G.length (gi P)) : PathDec G (bagsOf G 0 P) := by
  have hg := goes_of h
  have hl := h.length
  rw [gi_length] at hl
  have hin : ∀ v, v < G.length → v ∈ P := fun v hv => (hg.all v hv).resolve_left (fun hb => by unfold bset at hb; simp at hb)
  exact ⟨by rw [bagsOf_length]; have := hG.pos; omega, by rw [bagsOf_length]; have := hG.most; omega, bags_lt P 0 (fun v hv => (hg.new v hv).1),
    fun v hv => (starts_one _).1 (bags_run hG v P 0 hg (hin v hv)), fun v u hv ha => bags_edge hG v u ha P 0 hg (.inr (hin v hv)) (hin u (hG.adj_lt ha)) (.inr trivial)⟩
/-- A node that is new makes a set greater by one. -/
theorem pc_new {x v n : Nat} (hv : v < n) (h : ¬ bset x v) : pc (x ||| 2 ^ v) n = pc x n + 1 := by
  apply Nat.le_antisymm
  · exact pc_onto1 v id fun j hj hb => by
      rcases (or_bset _ _ _).1 hb with h1 | h1
      · exact .inr ⟨j, hj, h1, rfl⟩
      · exact .inl ((two_pow_bit v j).1 h1)
  · refine pc_lt v n (fun j _ h => (or_bset _ _ _).2 (.inl h)) hv ?_ ((or_bset _ _ _).2 (.inr ((two_pow_bit v v).2 rfl)))
    cases hx : x.testBit v
    · rfl
    · exact (h hx).elim
theorem bags_most {G : List Nat} (hG : Gr 7 G) : ∀ (P : List Nat) (S : Nat), Goes G.length S P → P ≠ [] → mostOf (bagsOf G S P) = max (bc G S) (brOf G S P) + 1 := by
  intro P
  induction P with
  | nil => intro S _ h; exact (h rfl).elim
  | cons v P ih =>
    intro S hg _
    have hn := hG.most
    have hvS := (hg.new v List.mem_cons_self)
    have h1 : pc (bor G S ||| 2 ^ v) 9 = bc G S + 1 := pc_new (by omega) (fun h => hvS.2 ((bor_bit hG _ _).1 h).1)
    simp only [bagsOf, brOf]
    have h2 : mostOf ((bor G S ||| 2 ^ v) :: bagsOf G (S ||| 2 ^ v) P) = max (pc (bor G S ||| 2 ^ v) 9) (mostOf (bagsOf G (S ||| 2 ^ v) P)) := rfl
    rw [h2, h1]
    cases P with
    | nil =>
      have h3 : bc G (S ||| 2 ^ v) = 0 := by
        have h4 := hg.tail.all
        unfold bc
        have := pc_onto (x := bor G (S ||| 2 ^ v)) (y := 0) (n := 9) [] id (fun j hj hb => by
          obtain ⟨_, u, hu, hu2⟩ := (bor_bit hG _ _).1 hb
          rcases h4 u (hG.adj_lt hu) with h | h
          · exact (hu2 h).elim
          · simp at h)
        have h5 : pc 0 9 = 0 := by decide
        simp at this
        omega
      rw [h3]
      simp [bagsOf, brOf, mostOf]
    | cons y P =>
      rw [ih _ hg.tail (by simp)]
      omega
theorem bags_width {G : List Nat} (hG : Gr 7 G) {P : List Nat} (h : IsOrd G.length (gi P)) : mostOf (bagsOf G 0 P) = brOf G 0 P + 1 := by
  have hl := h.length
  rw [gi_length] at hl
  rw [bags_most hG P 0 (goes_of h) (fun e => by rw [e] at hl; have := hG.pos; simp at hl; omega)]
  have h0 : bc G 0 = 0 := by
    unfold bc
    have e : bor G 0 = 0 := eq_of_bits fun j => by
      show bset _ _ ↔ bset _ _
      rw [bor_bit hG]
      exact ⟨fun h => h.1, fun h => by unfold bset at h; simp at h⟩
    rw [e]
    decide
  rw [h0, Nat.zero_max]
end Go.Proofs.YtijfddobandcdaaDoor.X
end
section
/- The reference's Layout: the first of all orders with the least breadth; it is the program's. -/
set_option linter.unusedVariables false
namespace Go.Proofs.YtijfddobandcdaaDoor.X
open Go.RowKit Go.Proofs.YtijfddobandcdaaDoorW.PrintWords Go.Proofs.YtijfddobandcdaaDoorW.PrintLast Go.Proofs.YtijfddobandcdaaDoorW.PrintMore Go.Proofs.YtijfddobandcdaaDoor.T

theorem size_all : ∀ x : Fin 512, lampblackref02_Size.f 12 (x.val : Int) = some (pc x.val 9 : Int) := by decide +kernel
theorem size_ev (x : Nat) (hx : x < 512) : Ev (fun k => lampblackref02_Size.f k (x : Int)) (pc x 9 : Int) := Ev.of (lampblackref02_Size.mono _) (size_all ⟨x, hx⟩)
theorem refBreadth_l0 (G : List Nat) (hG : Gr 7 G) (P : List Nat) (hP : ∀ v ∈ P, v < G.length) (hl : P.length < 2 ^ 40) : ∀ (d i S m : Nat), i + d = P.length → S < 2 ^ G.length →
    Ev (fun k => lampblackref03_Breadth.l0 k (gi G) (m : Int) (S : Int) (gi P) (P.length : Int) (i : Int)) ((max m (brOf G S (P.drop i)) : Nat) : Int) := by
  have hn := hG.most
  intro d
  induction d with
  | zero =>
    intro i S m hi hS
    refine Ev.step (f := fun _ => some (m : Int)) (fun k => by rw [lampblackref03_Breadth.l0, if_neg (by omega)]) (Ev.some ?_)
    rw [List.drop_eq_nil_of_le (by omega)]
    simp [brOf]
  | succ d ih =>
    intro i S m hi hS
    have hi' : i < P.length := by omega
    have hm := hP _ (List.getElem_mem hi')
    have hwi := wrap_succ i (by omega)
    have hr : rd (gi P) (i : Int) = ((P[i] : Nat) : Int) := by rw [rd_gi, List.getD_eq_getElem?_getD, List.getElem?_eq_getElem hi']; rfl
    have hS62 := big (small G (by omega) hS)
    have h7 : P[i] < 62 := by omega
    have HS2 := Aside0.mk (or_new hS hm)
    have e62 : 2 ^ P[i] < 2 ^ 62 := Nat.pow_lt_pow_right (by omega) h7
    have hor : Go.bits .or .i64 (S : Int) (shl .i64 1 ((P[i] : Nat) : Int)) = ((S ||| 2 ^ P[i] : Nat) : Int) := by rw [s_one _ h7, b_or _ _ hS62 e62]
    clear hS e62
    refine Ev.step (f := fun k => (lampblackref03_Border.f k (gi G) ((S ||| 2 ^ P[i] : Nat) : Int)).bind fun t217 => (lampblackref02_Size.f k t217).bind fun t218 => lampblackref03_Breadth.l0 k (gi G) (mx (m : Int) t218) ((S ||| 2 ^ P[i] : Nat) : Int) (gi P) (P.length : Int) ((i + 1 : Nat) : Int)) (fun k => ?_) ?_
    · rw [lampblackref03_Breadth.l0, if_pos (by omega), if_pos (by omega), if_pos (by rw [gi_length]; omega), hr, if_pos (by omega), hor, hwi]
    · refine Ev.bind (refBorder_ev G hG _ HS2.out) (Ev.bind (size_ev _ (small G (by omega) (bor_lt G _))) ?_)
      rw [mx_nat, List.drop_eq_getElem_cons hi', brOf]
      have := ih (i + 1) (S ||| 2 ^ P[i]) (max m (bc G (S ||| 2 ^ P[i]))) (by omega) HS2.out
      rw [show max m (max (bc G (S ||| 2 ^ P[i])) (brOf G (S ||| 2 ^ P[i]) (P.drop (i + 1)))) = max (max m (bc G (S ||| 2 ^ P[i]))) (brOf G (S ||| 2 ^ P[i]) (P.drop (i + 1))) by omega]
      exact this
theorem refBreadth_ev (G : List Nat) (hG : Gr 7 G) (P : List Nat) (hP : ∀ v ∈ P, v < G.length) (hl : P.length < 2 ^ 40) : Ev (fun k => lampblackref03_Breadth.f k (gi G) (gi P)) ((brOf G 0 P : Nat) : Int) := by
  unfold lampblackref03_Breadth.f
  rw [gi_length]
  have := refBreadth_l0 G hG P hP hl P.length 0 0 0 (by omega) (Nat.two_pow_pos _)
  rwa [List.drop_zero, Nat.zero_max] at this

/-- All orders of the numbers below n that begin with P. -/
def layN (n : Nat) : Nat → List Nat → List (List Nat)
  | 0, P => [P]
  | d + 1, P => (List.range n).flatMap fun v => if v ∈ P then [] else layN n d (P ++ [v])
theorem layF_gi (n : Nat) : ∀ (d : Nat) (P : List Nat), layF n d (gi P) = (layN n d P).map gi
  | 0, P => by simp [layF, layN]
  | d + 1, P => by
    simp only [layF, layN, List.map_flatMap]
    congr 1
    funext v
    by_cases h : v ∈ P
    · rw [if_pos h, if_pos (gi_mem.2 h)]; rfl
    · rw [if_neg h, if_neg (fun h' => h (gi_mem.1 h')), gi_snoc, layF_gi n d]
/-- What an order has passed, from S on. -/
def sset : Nat → List Nat → Nat
  | S, [] => S
  | S, v :: P => sset (S ||| 2 ^ v) P
theorem sset_bit : ∀ (P : List Nat) (S j : Nat), bset (sset S P) j ↔ bset S j ∨ j ∈ P
  | [], S, j => by simp [sset]
  | v :: P, S, j => by rw [sset, sset_bit P, or_bset, two_pow_bit, List.mem_cons, or_assoc]
theorem sset_snoc : ∀ (P : List Nat) (S v : Nat), sset S (P ++ [v]) = sset S P ||| 2 ^ v
  | [], S, v => rfl
  | u :: P, S, v => by simp only [List.cons_append, sset]; exact sset_snoc P _ v
theorem brOf_append (G : List Nat) : ∀ (A : List Nat) (S : Nat) (B : List Nat), brOf G S (A ++ B) = max (brOf G S A) (brOf G (sset S A) B)
  | [], S, B => by simp [brOf, sset]
  | v :: A, S, B => by simp only [List.cons_append, brOf, sset]; rw [brOf_append G A]; omega
theorem lay_of_br {G : List Nat} {q : Nat} : ∀ (P : List Nat) (S : Nat), S < 2 ^ G.length → Goes G.length S P → brOf G S P ≤ q → Lay G q S
  | [], S, hS, h, _ => by
    have e : S = 2 ^ G.length - 1 := eq_of_bits fun j => by
      show bset _ _ ↔ bset _ _
      rw [full_bit]
      exact ⟨fun hj => bit_lt hS hj, fun hj => (h.all j hj).resolve_right (by simp)⟩
    rw [e]; exact .done
  | v :: P, S, hS, h, hq => by
    have hv := h.new v List.mem_cons_self
    simp only [brOf] at hq
    exact .step hv.1 hv.2 (show bc G (S ||| 2 ^ v) ≤ q by omega) (lay_of_br P _ (or_new hS hv.1) h.tail (by omega))
theorem layN_ext (n : Nat) : ∀ (d : Nat) (P X : List Nat), P.length + d = n → P.Nodup → (∀ v ∈ P, v < n) → X ∈ layN n d P → ∃ Q, X = P ++ Q ∧ Goes n (sset 0 P) Q
  | 0, P, X, hl, h1, h2, hX => by
    obtain rfl : X = P := by simpa [layN] using hX
    refine ⟨[], by simp, List.nodup_nil, by simp, fun j hj => .inl ((sset_bit X 0 j).2 (.inr (covers_of_nodup (by omega) h1 h2 j hj)))⟩
  | d + 1, P, X, hl, h1, h2, hX => by
    simp only [layN] at hX
    obtain ⟨v, hv, hX⟩ := List.mem_flatMap.1 hX
    have hvn := List.mem_range.1 hv
    by_cases hvP : v ∈ P
    · rw [if_pos hvP] at hX; simp at hX
    · rw [if_neg hvP] at hX
      obtain ⟨Q, e, hg⟩ := layN_ext n d (P ++ [v]) X (by simp; omega) (List.nodup_append.2 ⟨h1, by simp, by simp; intro a ha; exact fun e => hvP (e ▸ ha)⟩) (by
        intro x hx
        rcases List.mem_append.1 hx with h | h
        · exact h2 x h
        · rw [List.mem_singleton.1 h]; exact hvn) hX
      rw [sset_snoc] at hg
      have hvS : ¬ bset (sset 0 P) v := fun h => by
        rcases (sset_bit P 0 v).1 h with h | h
        · unfold bset at h; simp at h
        · exact hvP h
      refine ⟨v :: Q, by rw [e]; simp, List.nodup_cons.2 ⟨fun h => (hg.new v h).2 ((or_bset _ _ _).2 (.inr ((two_pow_bit v v).2 rfl))), hg.nodup⟩, fun u hu => ?_, fun j hj => ?_⟩
      · rcases List.mem_cons.1 hu with h | h
        · rw [h]; exact ⟨hvn, hvS⟩
        · exact ⟨(hg.new u h).1, fun hb => (hg.new u h).2 ((or_bset _ _ _).2 (.inl hb))⟩
      · rcases hg.all j hj with h | h
        · rcases (or_bset _ _ _).1 h with h | h
          · exact .inl h
          · exact .inr (by rw [(two_pow_bit v j).1 h]; exact List.mem_cons_self)
        · exact .inr (List.mem_cons_of_mem _ h)
theorem range_split {n v : Nat} (h : v < n) : ∃ R, List.range n = List.range v ++ v :: R := by
  refine ⟨(List.range n).drop (v + 1), ?_⟩
  have h1 : (List.range n).take v = List.range v := by rw [List.take_range, Nat.min_eq_left (by omega)]
  have h2 : (List.range n).drop v = v :: (List.range n).drop (v + 1) := by
    rw [List.drop_eq_getElem_cons (by simpa using h)]
    simp
  rw [← h2, ← h1, List.take_append_drop]
theorem greedy_goes {G : List Nat} {m : Nat} {S : Nat} {L : List Nat} (h : Greedy G m S L) : brOf G S L ≤ m := by
  induction h with
  | nil => simp [brOf]
  | cons _ _ h3 _ _ ih => simp only [brOf]; have := h3.2; omega
theorem first_best {G : List Nat} (hG : Gr 7 G) {m : Nat} : ∀ (d : Nat) (P L : List Nat), P.length + d = G.length → P.Nodup → (∀ v ∈ P, v < G.length) → sset 0 P < 2 ^ G.length → Greedy G m (sset 0 P) L →
    ∃ A C, layN G.length d P = A ++ (P ++ L) :: C ∧ ∀ X ∈ A, m < brOf G 0 X := by
  intro d
  induction d with
  | zero =>
    intro P L hl h1 h2 hS hg
    have hfull : ∀ j, j < G.length → bset (sset 0 P) j := fun j hj => (sset_bit P 0 j).2 (.inr (covers_of_nodup (by omega) h1 h2 j hj))
    generalize hSe : sset 0 P = S at hg
    cases hg with
    | nil => exact ⟨[], [], by simp [layN], by simp⟩
    | cons h3 h4 => exact (h4 (hSe ▸ hfull _ h3)).elim
  | succ d ih =>
    intro P L hl h1 h2 hS hg
    generalize hSe : sset 0 P = S at hg
    cases hg with
    | nil =>
      obtain ⟨v, hv, hn⟩ := fresh_node G.length (gi P) (by rw [gi_length]; omega)
      have : bset (sset 0 P) v := by rw [hSe]; exact (full_bit _ _).2 hv
      rcases (sset_bit P 0 v).1 this with h | h
      · unfold bset at h; simp at h
      · exact (hn (gi_mem.2 h)).elim
    | @cons _ v L h3 h4 h5 h6 h7 =>
      subst hSe
      have hvP : v ∉ P := fun h => h4 ((sset_bit P 0 v).2 (.inr h))
      have hnd : ∀ u, u ∉ P → (P ++ [u]).Nodup := fun u hu => List.nodup_append.2 ⟨h1, by simp, by simp; intro a ha; exact fun e => hu (e ▸ ha)⟩
      have hlt : ∀ u, u < G.length → ∀ x ∈ P ++ [u], x < G.length := fun u hu x hx => by
        rcases List.mem_append.1 hx with h | h
        · exact h2 x h
        · rw [List.mem_singleton.1 h]; exact hu
      obtain ⟨A, C, e, hA⟩ := ih (P ++ [v]) L (by simp; omega) (hnd v hvP) (hlt v h3) (by rw [sset_snoc]; exact or_new hS h3) (by rw [sset_snoc]; exact h7)
      obtain ⟨R, hR⟩ := range_split h3
      refine ⟨(List.range v).flatMap (fun u => if u ∈ P then [] else layN G.length d (P ++ [u])) ++ A, C ++ R.flatMap (fun u => if u ∈ P then [] else layN G.length d (P ++ [u])), ?_, fun X hX => ?_⟩
      · simp only [layN]
        rw [hR, List.flatMap_append, List.flatMap_cons, if_neg hvP, e]
        simp
      · rcases List.mem_append.1 hX with h | h
        · obtain ⟨u, hu, hX⟩ := List.mem_flatMap.1 h
          have huv := List.mem_range.1 hu
          by_cases huP : u ∈ P
          · rw [if_pos huP] at hX; simp at hX
          · rw [if_neg huP] at hX
            have hun : u < G.length := by omega
            obtain ⟨Q, eX, hg⟩ := layN_ext G.length d (P ++ [u]) X (by simp; omega) (hnd u huP) (hlt u hun) hX
            apply Classical.byContradiction
            intro hno
            have huS : ¬ bset (sset 0 P) u := fun h => by
              rcases (sset_bit P 0 u).1 h with h | h
              · unfold bset at h; simp at h
              · exact huP h
            refine h6 u huv huS ?_
            rw [eX, List.append_assoc, brOf_append] at hno
            simp only [List.singleton_append, brOf] at hno
            rw [sset_snoc] at hg
            exact ⟨lay_of_br Q _ (or_new hS hun) hg (by omega), by omega⟩
        · exact hA X h
/-- The best of some orders, the first one that has the least breadth. -/
noncomputable def bestN (G : List Nat) : List (List Nat) → List Int → Int → List Int × Int
  | [], best, least => (best, least)
  | P :: Ps, best, least => if ((brOf G 0 P : Nat) : Int) < least then bestN G Ps (gi P) ((brOf G 0 P : Nat) : Int) else bestN G Ps best least
theorem bestOf_ev (G : List Nat) (hG : Gr 7 G) : ∀ (Ps : List (List Nat)) (best : List Int) (least : Int), (∀ P ∈ Ps, P.length < 2 ^ 40 ∧ ∀ v ∈ P, v < G.length) → Ev (fun k => bestOf k (gi G) (Ps.map gi) best least) (bestN G Ps best least)
  | [], best, least, _ => Ev.some rfl
  | P :: Ps, best, least, h => by
    have hP := h P List.mem_cons_self
    have hr : ∀ Q ∈ Ps, Q.length < 2 ^ 40 ∧ ∀ v ∈ Q, v < G.length := fun Q hQ => h Q (List.mem_cons_of_mem _ hQ)
    simp only [List.map_cons, bestOf, bestN]
    refine Ev.bind (refBreadth_ev G hG P hP.2 hP.1) ?_
    by_cases hlt : ((brOf G 0 P : Nat) : Int) < least
    · rw [if_pos hlt]; exact Ev.if_pos hlt (bestOf_ev G hG Ps _ _ hr)
    · rw [if_neg hlt]; exact Ev.if_neg hlt (bestOf_ev G hG Ps _ _ hr)
theorem bestN_keep (G : List Nat) (m : Nat) : ∀ (Ps : List (List Nat)) (best : List Int), (∀ P ∈ Ps, m ≤ brOf G 0 P) → bestN G Ps best (m : Int) = (best, (m : Int))
  | [], _, _ => rfl
  | P :: Ps, best, h => by
    have := h P List.mem_cons_self
    simp only [bestN]
    rw [if_neg (by omega)]
    exact bestN_keep G m Ps best fun Q hQ => h Q (List.mem_cons_of_mem _ hQ)
theorem bestN_first (G : List Nat) (m : Nat) (L : List Nat) (hL : brOf G 0 L = m) (C : List (List Nat)) (hC : ∀ P ∈ C, m ≤ brOf G 0 P) : ∀ (A : List (List Nat)) (best : List Int) (least : Int), (m : Int) < least → (∀ X ∈ A, m < brOf G 0 X) → bestN G (A ++ L :: C) best least = (gi L, (m : Int))
  | [], best, least, h, _ => by
    simp only [List.nil_append, bestN]
    rw [if_pos (by omega), hL]
    exact bestN_keep G m C _ hC
  | P :: A, best, least, h, hA => by
    have := hA P List.mem_cons_self
    have hr : ∀ X ∈ A, m < brOf G 0 X := fun X hX => hA X (List.mem_cons_of_mem _ hX)
    simp only [List.cons_append, bestN]
    split
    · exact bestN_first G m L hL C hC A _ _ (by omega) hr
    · exact bestN_first G m L hL C hC A _ _ h hr
theorem refLayout_ev (G : List Nat) (hG : Gr 7 G) {L : List Nat} {m : Nat} (hm : IsVs G m) (hL : Greedy G m 0 L) : Ev (fun k => lampblackref03_Layout.f k (gi G)) (gi L, (m : Int)) := by
  have hn := hG.most
  have h0 := Nat.two_pow_pos G.length
  obtain ⟨A, C, e, hA⟩ := first_best hG G.length [] L (by simp) List.nodup_nil (by simp) h0 hL
  simp only [List.nil_append] at e
  have hall : ∀ X ∈ layN G.length G.length [], Goes G.length 0 X := fun X hX => by
    obtain ⟨Q, e, hg⟩ := layN_ext G.length G.length [] X (by simp) List.nodup_nil (by simp) hX
    rw [List.nil_append] at e
    rw [e]; exact hg
  have hge : ∀ X ∈ layN G.length G.length [], m ≤ brOf G 0 X := fun X hX => (hm _).2 (lay_of_br X 0 h0 (hall X hX) (Nat.le_refl _))
  have hbr : brOf G 0 L = m := Nat.le_antisymm (greedy_goes hL) (hge L (by rw [e]; exact List.mem_append_right _ List.mem_cons_self))
  have hm7 : m ≤ 9 := by rw [← hbr]; exact brOf_le G L 0
  unfold lampblackref03_Layout.f
  refine Ev.if_pos (by rw [gi_length]; omega) ?_
  rw [gi_length, show ([] : List Int) = gi [] from rfl, layF_gi]
  have := bestOf_ev G hG (layN G.length G.length []) (gi []) 99 (fun P hP => by
    have hg := hall P hP
    refine ⟨?_, fun v hv => (hg.new v hv).1⟩
    have := nodup_le hg.nodup (m := List.range G.length) fun x hx => List.mem_range.2 (hg.new x hx).1
    simp at this
    omega)
  rw [e, bestN_first G m L hbr C (fun P hP => hge P (by rw [e]; exact List.mem_append_right _ (List.mem_cons_of_mem _ hP))) A _ 99 (by omega) hA] at this
  rw [e]
  exact this
end Go.Proofs.YtijfddobandcdaaDoor.X
end
section
/- SweepLayouts, without Go and memory: Breadth returns the breadth of a layout, and Layout the first one with the least breadth, or the documented error. -/
set_option linter.unusedVariables false
namespace Go.Proofs.YtijfddobandcdaaDoor.Pure
open Go.RowKit Go.Proofs.YtijfddobandcdaaDoorW.PrintWords Go.Proofs.YtijfddobandcdaaDoorW.PrintLast Go.Proofs.YtijfddobandcdaaDoorW.PrintMore Go.Proofs.YtijfddobandcdaaDoor.T Go.Proofs.YtijfddobandcdaaDoor.X
theorem greedy_length {G : List Nat} (hn : G.length ≤ 7) {m : Nat} {S : Nat} {L : List Nat} (h : Greedy G m S L) : L.length + pc S 9 ≤ 9 := by
  induction h with
  | nil => have := pc_le (2 ^ G.length - 1) 9; simp; omega
  | @cons S v L h1 h2 _ _ _ ih =>
    have := pc_new (n := 9) (by omega) h2
    simp
    omega
theorem SweepLayouts : ∀ (l0 l1 : List Int), l0.length ≤ maxLen → l0.length * 8 ≤ 140737488351232 → (∀ x ∈ l0, (Lit.int .i64 x).wf = true) → l1.length ≤ maxLen → l1.length * 8 ≤ 140737488351232 → (∀ x ∈ l1, (Lit.int .i64 x).wf = true) → ∃ k, lampblacklaw03_SweepLayouts.f k l0 l1 = some true := by
  intro g l _ hg _ _ hl _
  apply Ev.rounds
  obtain ⟨h, e, e1, e2, e3⟩ := few_eq g (by omega)
  obtain ⟨m, f, f1, f2, f3⟩ := list_eq l (by omega)
  have hv := valid_ev g (by omega)
  unfold lampblacklaw03_SweepLayouts.f
  refine Ev.bind1 e (Ev.bind1 f ?_)
  by_cases hc : chk 7 g = true
  · obtain ⟨G, rfl, hG⟩ := (chk_iff 7 (by omega) _).1 hc
    have hn := hG.most
    rw [hc] at hv
    rw [e1 hc] at e ⊢
    obtain ⟨L, w, hL, hw, hgr⟩ := Layout_ev G hG
    have hL9 := greedy_length hn hgr
    have hR := refLayout_ev G hG hw hgr
    have heq := equal_same (gi L) (by rw [gi_length]; omega)
    obtain ⟨r, h1, h2⟩ := isOrder_ev l G.length (by omega) (by omega)
    have hlen : ((gi G).length : Int) = (G.length : Int) := by rw [gi_length]
    have hord := list_ord (n := G.length) (by omega) f1 f2
    have rest : ∀ (n : Int) (c : Int), Ev (fun k => lampblacklaw03_SweepLayouts.j0 k (gi G) l n c false) true → Ev (fun k => sweep_Breadth.f k (gi G) m) (n, c) → Ev (fun n_1 => (sweep_Breadth.f n_1 (gi G) m).bind fun bt241 => (lampblacklaw03_Few.f (gi G)).bind fun t243 => (sweep_Layout.f n_1 t243).bind fun bt246 => (lampblackref03_Valid.f n_1 (gi G)).bind fun t251 => if t251 = true then (lampblackref03_Layout.f n_1 (gi G)).bind fun bt253 => (slices_Equal_int_int.f n_1 bt246.1 bt253.1).bind fun t257 => if t257 = true then if bt246.2.1 = bt253.2 then if bt246.2.2 = 0 then (lampblacklaw03_awake.f n_1).bind fun t258 => lampblacklaw03_SweepLayouts.j0 n_1 (gi G) l bt241.1 bt241.2 (!t258) else lampblacklaw03_SweepLayouts.j0 n_1 (gi G) l bt241.1 bt241.2 true else lampblacklaw03_SweepLayouts.j0 n_1 (gi G) l bt241.1 bt241.2 true else lampblacklaw03_SweepLayouts.j0 n_1 (gi G) l bt241.1 bt241.2 true else if bt241.1 = 0 then if bt246.2.1 = 0 then if (bt246.1.length : Int) = 0 then if bt241.2 = 2 then if bt246.2.2 = 2 then (lampblacklaw03_awake.f n_1).bind fun t252 => some t252 else some false else some false else some false else some false else some false) true := fun n c hj hb =>
      Ev.bind hb (Ev.bind1 e (Ev.bind hL (Ev.bind hv (Ev.if_pos rfl (Ev.bind hR (Ev.bind heq (Ev.if_pos rfl (Ev.if_pos rfl (Ev.if_pos rfl (Ev.bind awake_ev hj))))))))))
    by_cases ho : IsOrd G.length l
    · rw [h2.2 ho] at h1
      have hm : m = l := f1 (by have := ho.length; omega)
      obtain ⟨P, rfl, _, h3, h4⟩ := id ho
      refine rest ((brOf G 0 P : Nat) : Int) 0 ?_ (by rw [hm]; exact Breadth_yes G hG P ho)
      refine Ev.step (fun k => by rw [lampblacklaw03_SweepLayouts.j0, if_neg (by simp)]) ?_
      rw [hlen]
      exact Ev.bind h1 (Ev.if_pos rfl (Ev.bind (refBreadth_ev G hG P h3 (by omega)) (Ev.if_pos rfl (Ev.some rfl))))
    · have hr2 : r = false := by cases r <;> simp_all
      rw [hr2] at h1
      refine rest 0 2 ?_ (Breadth_no G hG m (by omega) (fun h => ho (hord.1 h)))
      refine Ev.step (fun k => by rw [lampblacklaw03_SweepLayouts.j0, if_neg (by simp)]) ?_
      rw [hlen]
      exact Ev.bind h1 (Ev.if_neg (by simp) (Ev.if_pos rfl (Ev.some rfl)))
  · have hc' : chk 7 g = false := by simpa using hc
    rw [hc'] at hv
    exact Ev.bind (Breadth_bad h m (by omega) (e2 hc')) (Ev.bind1 e (Ev.bind (Layout_bad h (by omega) (e2 hc')) (Ev.bind hv (Ev.if_neg (by simp) (Ev.if_pos rfl (Ev.if_pos rfl (Ev.if_pos rfl (Ev.if_pos rfl (Ev.if_pos rfl (Ev.bind awake_ev (Ev.some rfl)))))))))))
end Go.Proofs.YtijfddobandcdaaDoor.Pure
end
