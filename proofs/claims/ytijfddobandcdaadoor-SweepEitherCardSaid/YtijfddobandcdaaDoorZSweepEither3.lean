/- Part 3 of what SweepEither rests on: contracts of the functions that it reaches, and what they compute, in plain words. -/
import Derived.Test.YtijfddobandcdaaDoorZSweepEither2
import Derived.Test.YtijfddobandcdaaDoorZSweepEither1
import Derived.Test.YtijfddobandcdaaDoorZSweepEither0
import Derived.Deep.Slices
import Derived.Deep.Fields
import Derived.ChangeSame
import Derived.ChangeArms
set_option linter.unusedVariables false
set_option linter.unusedSimpArgs false
section
/- The program's Play is the reference's: both let smoke into the same streets. -/
namespace Go.Proofs.YtijfddobandcdaaDoor.X
open Go.RowKit YtijfddobandcdaaDoorW.PrintWords YtijfddobandcdaaDoorW.PrintLast YtijfddobandcdaaDoorW.PrintMore YtijfddobandcdaaDoor.T
structure Red (G : List Nat) (gd : Nat) (s t : List Bool × Bool) : Prop where
 len : t.1.length = 64
 sub : ∀ a b, Adj G a b → X.mk t.1 a b → X.mk s.1 a b
 sym : ∀ a b, Adj G a b → X.mk t.1 a b → X.mk t.1 b a
 great : ∀ D : Nat → Nat → Prop, (∀ a b, D a b → D b a) → (∀ a b z, Adj G a b → D a b → Adj G a z → ¬ bset gd a → D a z) → (∀ a b, Adj G a b → D a b → X.mk s.1 a b) → ∀ a b, Adj G a b → D a b → X.mk t.1 a b
 bk : t.2 = true ↔ s.2 = true ∨ ∃ a b, Adj G a b ∧ X.mk s.1 a b ∧ ¬ X.mk t.1 a b
 cnt : cntT t.1 ≤ cntT s.1
theorem Red.refl (G : List Nat) (gd : Nat) (s : List Bool × Bool) (h1 : s.1.length = 64) (h2 : ∀ a b, Adj G a b → X.mk s.1 a b → X.mk s.1 b a) : Red G gd s s :=
 ⟨h1, fun _ _ _ h => h, h2, fun _ _ _ h => h, ⟨.inl, fun h => h.resolve_right fun ⟨a, b, _, p, q⟩ => q p⟩, Nat.le_refl _⟩
theorem Red.trans {G : List Nat} {gd : Nat} {s t u : List Bool × Bool} (h : Red G gd s t) (h2 : Red G gd t u) : Red G gd s u := by
 refine ⟨h2.len, fun a b p q => h.sub a b p (h2.sub a b p q), h2.sym, fun D d1 d2 d3 => h2.great D d1 d2 (h.great D d1 d2 d3), ?_, Nat.le_trans h2.cnt h.cnt⟩
 rw [h2.bk, h.bk]
 constructor
 ·rintro ((q | ⟨a, b, p, q, r⟩) | ⟨a, b, p, q, r⟩)
  ·exact .inl q
  ·exact .inr ⟨a, b, p, q, fun hu => r (h2.sub a b p hu)⟩
  ·exact .inr ⟨a, b, p, h.sub a b p q, r⟩
 ·rintro (q | ⟨a, b, p, q, r⟩)
  ·exact .inl (.inl q)
  ·by_cases ht : X.mk t.1 a b
   ·exact .inr ⟨a, b, p, ht, r⟩
   ·exact .inl (.inr ⟨a, b, p, q, ht⟩)
def hit (G : List Nat) (gd : Nat) (C : List Bool) (x y : Nat) : Bool := (G.getD x 0).testBit y && C.getD (x * 8 + y) false && (smk G C gd x G.length 0 || smk G C gd y G.length 0)
theorem red_hit {G : List Nat} (hG : Gr 7 G) (gd : Nat) (C : List Bool) (b : Bool) (x y : Nat) (h1 : C.length = 64) (h2 : ∀ a b, Adj G a b → X.mk C a b → X.mk C b a) (hh : hit G gd C x y = true) :
  Red G gd (C, b) ((C.set (x * 8 + y) false).set (y * 8 + x) false, true) ∧ cntT ((C.set (x * 8 + y) false).set (y * 8 + x) false) < cntT C := by
 unfold hit at hh
 simp only [Bool.and_eq_true, Bool.or_eq_true] at hh
 obtain ⟨⟨ha, hm⟩, hs⟩ := hh
 have ha : Adj G x y := ha
 have hn := hG.most
 have hy := hG.adj_lt ha
 have hx := hG.adj_lt' ha
 have hmk : ∀ a b, b < 8 → (X.mk ((C.set (x * 8 + y) false).set (y * 8 + x) false) a b ↔ X.mk C a b ∧ ¬ (a = x ∧ b = y) ∧ ¬ (a = y ∧ b = x)) := fun a b hb => by
  rw [mk_set _ _ _ _ _ _ (by rw [List.length_set]; exact h1) (by omega) (by omega) hb, mk_set _ _ _ _ _ _ h1 (by omega) (by omega) hb]
  by_cases e : a = y ∧ b = x
  ·rw [if_pos e]; simp [e]
  ·rw [if_neg e]
   by_cases e2 : a = x ∧ b = y
   ·rw [if_pos e2]; simp [e2]
   ·rw [if_neg e2]; simp [e, e2]
 have hlt := cntT_lt C _ hm
 refine ⟨⟨by simp [h1], fun a b p q => ?_, fun a b p q => ?_, fun D d1 d2 d3 a b p q => ?_, ⟨fun _ => .inr ⟨x, y, ha, hm, fun q => ?_⟩, fun _ => rfl⟩, Nat.le_of_lt (Nat.lt_of_le_of_lt (cntT_set _ _) hlt)⟩, Nat.lt_of_le_of_lt (cntT_set _ _) hlt⟩
 ·exact ((hmk a b (by have := hG.adj_lt p; omega)).1 q).1
 ·obtain ⟨q1, q2, q3⟩ := (hmk a b (by have := hG.adj_lt p; omega)).1 q
  exact (hmk b a (by have := hG.adj_lt' p; omega)).2 ⟨h2 a b p q1, fun e => q3 ⟨e.2, e.1⟩, fun e => q2 ⟨e.2, e.1⟩⟩
 ·have key : ¬ D x y := fun hD => by
   rcases hs with hs | hs
   ·obtain ⟨g1, z, _, g2, g3⟩ := (smk_iff hG C gd x G.length 0 (by omega)).1 hs
    exact g3 (d3 x z g2 (d2 x y z ha hD g2 g1))
   ·obtain ⟨g1, z, _, g2, g3⟩ := (smk_iff hG C gd y G.length 0 (by omega)).1 hs
    exact g3 (d3 y z g2 (d2 y x z (hG.adj_symm ha) (d1 _ _ hD) g2 g1))
  refine (hmk a b (by have := hG.adj_lt p; omega)).2 ⟨d3 a b p q, ?_, ?_⟩
  ·rintro ⟨rfl, rfl⟩; exact key q
  ·rintro ⟨rfl, rfl⟩; exact key (d1 _ _ q)
 ·exact ((hmk x y (by omega)).1 q).2.1 ⟨rfl, rfl⟩
theorem row2_red {G : List Nat} (hG : Gr 7 G) (gd x : Nat) : ∀ (d y : Nat) (s : List Bool × Bool), s.1.length = 64 → (∀ a b, Adj G a b → X.mk s.1 a b → X.mk s.1 b a) → Red G gd s (row2 G gd x d y s) ∧ (cntT s.1 ≤ cntT (row2 G gd x d y s).1 → row2 G gd x d y s = s ∧ ∀ y', y ≤ y' → y' < y + d → hit G gd s.1 x y' = false)
 | 0, y, s, h1, h2 => ⟨Red.refl G gd s h1 h2, fun _ => ⟨rfl, fun y' _ _ => by omega⟩⟩
 | d + 1, y, s, h1, h2 => by
  obtain ⟨C, b⟩ := s
  rw [row2]
  by_cases hh : hit G gd C x y = true
  ·obtain ⟨r1, r2⟩ := red_hit hG gd C b x y h1 h2 hh
   unfold hit at hh
   rw [if_pos hh]
   obtain ⟨r3, _⟩ := row2_red hG gd x d (y + 1) _ r1.len r1.sym
   exact ⟨r1.trans r3, fun hc => by have := r3.cnt; dsimp only at hc this; omega⟩
  ·have hh' := hh
   unfold hit at hh
   rw [if_neg hh]
   obtain ⟨r3, r4⟩ := row2_red hG gd x d (y + 1) (C, b) h1 h2
   refine ⟨r3, fun hc => ?_⟩
   obtain ⟨q1, q2⟩ := r4 hc
   refine ⟨q1, fun y' h3 h4 => ?_⟩
   by_cases e : y' = y
   ·subst e
    simpa using hh'
   ·exact q2 y' (by omega) (by omega)
theorem all2_red {G : List Nat} (hG : Gr 7 G) (gd : Nat) : ∀ (d x : Nat) (s : List Bool × Bool), s.1.length = 64 → (∀ a b, Adj G a b → X.mk s.1 a b → X.mk s.1 b a) → Red G gd s (all2 G gd d x s) ∧ (cntT s.1 ≤ cntT (all2 G gd d x s).1 → ∀ x', x ≤ x' → x' < x + d → ∀ y', y' < G.length → hit G gd s.1 x' y' = false)
 | 0, x, s, h1, h2 => ⟨Red.refl G gd s h1 h2, fun _ x' _ _ => by omega⟩
 | d + 1, x, s, h1, h2 => by
  rw [all2]
  obtain ⟨r1, r2⟩ := row2_red hG gd x G.length 0 s h1 h2
  obtain ⟨r3, r4⟩ := all2_red hG gd d (x + 1) _ r1.len r1.sym
  refine ⟨r1.trans r3, fun hc x' h3 h4 y' hy => ?_⟩
  have c1 := r3.cnt
  have c2 := r1.cnt
  obtain ⟨q1, q2⟩ := r2 (by omega)
  rw [q1] at r4 hc
  by_cases e : x' = x
  ·subst e
   exact q2 y' (Nat.zero_le _) (by omega)
  ·exact r4 hc x' (by omega) (by omega) y' hy
theorem still_no {G : List Nat} (hG : Gr 7 G) {gd : Nat} {C : List Bool} (h : ∀ x y, x < G.length → y < G.length → hit G gd C x y = false) : Still G C gd := by
 intro x y ha hm
 have := h x y (hG.adj_lt' ha) (hG.adj_lt ha)
 unfold hit at this
 have ha' : (G.getD x 0).testBit y = true := ha
 have hm' : C.getD (x * 8 + y) false = true := hm
 rw [ha', hm'] at this
 simpa using this
theorem iter2_red {G : List Nat} (hG : Gr 7 G) (gd : Nat) : ∀ (n : Nat) (s : List Bool × Bool), s.1.length = 64 → (∀ a b, Adj G a b → X.mk s.1 a b → X.mk s.1 b a) → cntT s.1 ≤ n → Red G gd s (iter2 G gd n s) ∧ Still G (iter2 G gd n s).1 gd
 | 0, s, h1, h2, hc => ⟨Red.refl G gd s h1 h2, fun x y _ hm => by
   have := cntT_zero s.1 (by omega) (x * 8 + y)
   have hm' : s.1.getD (x * 8 + y) false = true := hm
   rw [this] at hm'
   cases hm'⟩
 | n + 1, s, h1, h2, hc => by
  rw [iter2]
  obtain ⟨r1, r2⟩ := all2_red hG gd G.length 0 s h1 h2
  by_cases hl : cntT s.1 ≤ cntT (all2 G gd G.length 0 s).1
  ·have hst := still_no hG fun x y hx hy => r2 hl x (Nat.zero_le _) (by omega) y hy
   have e : all2 G gd G.length 0 s = s := all2_still hst s.2 G.length 0
   rw [e]
   have e2 : iter2 G gd n s = s := iter2_still hst s.2 n
   rw [e2]
   exact ⟨Red.refl G gd s h1 h2, hst⟩
  ·obtain ⟨r3, r4⟩ := iter2_red hG gd n _ r1.len r1.sym (by omega)
   exact ⟨r1.trans r3, r4⟩
/-! The program's. -/
theorem endsOf_bit (E : List (Nat × Nat)) (i j : Nat) : bset (endsOf E i) j ↔ j = (E.getD i (0, 0)).1 ∨ j = (E.getD i (0, 0)).2 := by
 unfold endsOf
 rw [or_bset, two_pow_bit, two_pow_bit]
theorem zero_iff (x : Nat) : x = 0 ↔ ∀ j, ¬ bset x j := by
 constructor
 ·rintro rfl j h; unfold bset at h; simp at h
 ·intro h
  exact eq_of_bits fun j => ⟨fun hb => (h j hb).elim, fun hb => by simp at hb⟩
theorem marksO_get (E : List (Nat × Nat)) (gd : Nat) : ∀ (d i : Nat) (C : List Bool), C.length = E.length → i + d = E.length → ∀ j, j < E.length → ((marksO E gd d i C).getD j false = true ↔ C.getD j false = true ∨ (i ≤ j ∧ bset gd (E.getD j (0, 0)).1 ∧ bset gd (E.getD j (0, 0)).2))
 | 0, i, C, hC, hi, j, hj => by
  simp only [marksO]
  exact ⟨.inl, fun h => h.resolve_right fun h => by omega⟩
 | d + 1, i, C, hC, hi, j, hj => by
  simp only [marksO]
  rw [marksO_get E gd d (i + 1) _ (by rw [List.length_set]; exact hC) (by omega) j hj, getD_setB _ _ _ _ (by omega)]
  by_cases e : j = i
  ·subst e
   rw [if_pos rfl, Bool.or_eq_true, beq_iff_eq, zero_iff]
   refine ⟨fun h => ?_, fun h => ?_⟩
   ·rcases h with (h | h) | h
    ·exact .inl h
    ·refine .inr ⟨Nat.le_refl _, ?_, ?_⟩
     ·exact Classical.byContradiction fun hb => h _ ((diff_bset _ _ _).2 ⟨(endsOf_bit E j _).2 (.inl rfl), hb⟩)
     ·exact Classical.byContradiction fun hb => h _ ((diff_bset _ _ _).2 ⟨(endsOf_bit E j _).2 (.inr rfl), hb⟩)
    ·omega
   ·rcases h with h | ⟨_, h1, h2⟩
    ·exact .inl (.inl h)
    ·refine .inl (.inr fun z hz => ?_)
     obtain ⟨q1, q2⟩ := (diff_bset _ _ _).1 hz
     rcases (endsOf_bit E j z).1 q1 with rfl | rfl
     ·exact q2 h1
     ·exact q2 h2
  ·rw [if_neg e]
   exact or_congr_right ⟨fun h => ⟨by omega, h.2⟩, fun h => ⟨by omega, h.2⟩⟩
theorem comes_iff (E : List (Nat × Nat)) (gd : Nat) (C : List Bool) (i k : Nat) : comes E gd C i k = true ↔ C.getD i false = true ∧ ¬ C.getD k false = true ∧ ∃ j, ¬ bset gd j ∧ (j = (E.getD i (0, 0)).1 ∨ j = (E.getD i (0, 0)).2) ∧ (j = (E.getD k (0, 0)).1 ∨ j = (E.getD k (0, 0)).2) := by
 unfold comes
 simp only [Bool.and_eq_true, Bool.not_eq_true', Bool.not_eq_true, and_assoc]
 refine and_congr_right fun _ => and_congr_right fun _ => ?_
 rw [beq_eq_false_iff_ne, ne_eq, zero_iff]
 constructor
 ·intro h
  obtain ⟨j, hj⟩ := Classical.not_forall.1 h
  have hj := Classical.not_not.1 hj
  obtain ⟨q1, q2⟩ := (diff_bset _ _ _).1 hj
  obtain ⟨q3, q4⟩ := (and_bset _ _ _).1 q1
  exact ⟨j, q2, (endsOf_bit E i j).1 q3, (endsOf_bit E k j).1 q4⟩
 ·rintro ⟨j, q2, q3, q4⟩ h
  exact h j ((diff_bset _ _ _).2 ⟨(and_bset _ _ _).2 ⟨(endsOf_bit E i j).2 q3, (endsOf_bit E k j).2 q4⟩, q2⟩)
theorem spIn_iff (E : List (Nat × Nat)) (gd : Nat) (C : List Bool) (i : Nat) : ∀ d k, spIn E gd C i d k = true ↔ ∃ k', k ≤ k' ∧ k' < k + d ∧ comes E gd C i k' = true
 | 0, k => ⟨fun h => absurd h (by simp [spIn]), fun ⟨k', h1, h2, _⟩ => by omega⟩
 | d + 1, k => by
  simp only [spIn]
  by_cases h : comes E gd C i k = true
  ·rw [if_pos h]
   exact ⟨fun _ => ⟨k, Nat.le_refl _, by omega, h⟩, fun _ => rfl⟩
  ·rw [if_neg h, spIn_iff E gd C i d (k + 1)]
   refine ⟨fun ⟨k', h1, h2, h3⟩ => ⟨k', by omega, by omega, h3⟩, fun ⟨k', h1, h2, h3⟩ => ⟨k', ?_, by omega, h3⟩⟩
   by_cases e : k' = k
   ·subst e; exact (h h3).elim
   ·omega
theorem spOut_none (E : List (Nat × Nat)) (gd : Nat) (C : List Bool) : ∀ d i, spOut E gd C d i = none → ∀ j, i ≤ j → j < i + d → spIn E gd C j E.length 0 = false
 | 0, i, _, j, h1, h2 => by omega
 | d + 1, i, h, j, h1, h2 => by
  simp only [spOut] at h
  split at h
  ·cases h
  ·rename_i hs
   by_cases e : j = i
   ·subst e; simpa using hs
   ·exact spOut_none E gd C d (i + 1) h j (by omega) (by omega)
theorem spOut_some (E : List (Nat × Nat)) (gd : Nat) (C : List Bool) : ∀ d i j, spOut E gd C d i = some j → i ≤ j ∧ j < i + d ∧ spIn E gd C j E.length 0 = true
 | 0, i, j, h => by cases h
 | d + 1, i, j, h => by
  simp only [spOut] at h
  split at h
  ·rename_i hs
   cases h
   exact ⟨Nat.le_refl _, by omega, hs⟩
  ·obtain ⟨h1, h2, h3⟩ := spOut_some E gd C d (i + 1) j h
   exact ⟨by omega, by omega, h3⟩
theorem spAll_spec {E : List (Nat × Nat)} {gd : Nat} : ∀ (n : Nat) (s : List Bool × Bool), s.1.length = E.length → cntT s.1 < n →
  spOut E gd (spAll E gd n s).1 E.length 0 = none ∧ (∀ i, (spAll E gd n s).1.getD i false = true → s.1.getD i false = true) ∧
  (∀ K : Nat → Prop, (∀ i k, i < E.length → k < E.length → K i → ¬ K k → ¬ ∃ j, ¬ bset gd j ∧ (j = (E.getD i (0, 0)).1 ∨ j = (E.getD i (0, 0)).2) ∧ (j = (E.getD k (0, 0)).1 ∨ j = (E.getD k (0, 0)).2)) → (∀ i, i < E.length → K i → s.1.getD i false = true) → ∀ i, i < E.length → K i → (spAll E gd n s).1.getD i false = true) ∧
  ((spAll E gd n s).2 = true ↔ s.2 = true ∨ ∃ i, i < E.length ∧ s.1.getD i false = true ∧ ¬ (spAll E gd n s).1.getD i false = true)
 | 0, s, _, h => by omega
 | n + 1, s, hl, hc => by
  rw [spAll]
  cases hs : spOut E gd s.1 E.length 0 with
  | none => exact ⟨hs, fun _ h => h, fun K _ h => h, ⟨.inl, fun h => h.resolve_right fun ⟨i, _, p, q⟩ => q p⟩⟩
  | some i =>
   obtain ⟨_, hi, hin⟩ := spOut_some E gd s.1 _ _ _ hs
   obtain ⟨k, _, hk, hco⟩ := (spIn_iff E gd s.1 i _ _).1 hin
   obtain ⟨h1, h2, h3⟩ := (comes_iff E gd s.1 i k).1 hco
   have hcl := cntT_lt s.1 i h1
   obtain ⟨r1, r2, r3, r4⟩ := spAll_spec (E := E) (gd := gd) n (s.1.set i false, true) (by rw [List.length_set]; exact hl) (by dsimp only; omega)
   have hset : ∀ j, (s.1.set i false).getD j false = true ↔ s.1.getD j false = true ∧ j ≠ i := fun j => by
    rw [getD_setB _ _ _ _ (by omega)]
    by_cases e : j = i
    ·subst e; rw [if_pos rfl]; simp
    ·rw [if_neg e]; simp [e]
   refine ⟨r1, fun j hj => ((hset j).1 (r2 j hj)).1, fun K k1 k2 => r3 K k1 fun j hj hK => (hset j).2 ⟨k2 j hj hK, ?_⟩, ?_⟩
   ·rintro rfl
    exact k1 j k (by omega) (by omega) hK (fun hk2 => h2 (k2 k (by omega) hk2)) h3
   ·rw [r4]
    constructor
    ·intro _
     exact .inr ⟨i, by omega, h1, fun hj => ((hset i).1 (r2 i hj)).2 rfl⟩
    ·intro _; exact .inl rfl
structure Same (G : List Nat) (s : PS) (o : OS) : Prop where
 gd : o.gd = s.gd
 had : o.had = s.had
 bk : o.bk = s.bk
 len : s.C.length = 64
 olen : o.C.length = (streets G).length
 sym : ∀ a b, Adj G a b → X.mk s.C a b → X.mk s.C b a
 cl : ∀ i, i < (streets G).length → (o.C.getD i false = true ↔ X.mk s.C ((streets G).getD i (0, 0)).1 ((streets G).getD i (0, 0)).2)
theorem edge_of {G : List Nat} (hG : Gr 7 G) {a b : Nat} (h : Adj G a b) : ∃ i, i < (streets G).length ∧ ((streets G).getD i (0, 0) = (a, b) ∨ (streets G).getD i (0, 0) = (b, a)) := by
 by_cases hab : a < b
 ·obtain ⟨i, h1, h2⟩ := streets_of hG h hab
  exact ⟨i, h1, .inl h2⟩
 ·have : a ≠ b := fun e => by subst e; exact hG.adj_irr h
  obtain ⟨i, h1, h2⟩ := streets_of hG (hG.adj_symm h) (by omega)
  exact ⟨i, h1, .inr h2⟩
theorem Same.step {G : List Nat} (hG : Gr 7 G) {s : PS} {o : OS} (h : Same G s o) (v : Nat) : Same G (stepP G s v) (stepO (streets G) o v) := by
 have hn := hG.most
 unfold stepP stepO
 rw [h.gd, h.had, h.bk]
 obtain ⟨g, hg⟩ : ∃ g, s.gd ^^^ 2 ^ v = g := ⟨_, rfl⟩
 rw [hg]
 obtain ⟨C0, hC0⟩ : ∃ C, all1 G g G.length 0 s.C = C := ⟨_, rfl⟩
 obtain ⟨c0, hc0⟩ : ∃ C, marksO (streets G) g (streets G).length 0 o.C = C := ⟨_, rfl⟩
 have h64 : C0.length = 64 := by rw [← hC0, all1_len]; exact h.len
 have hol : c0.length = (streets G).length := by rw [← hc0, marksO_len]; exact h.olen
 have hm0 : ∀ a b, Adj G a b → (X.mk C0 a b ↔ X.mk s.C a b ∨ (bset g a ∧ bset g b)) := fun a b ha => by
  rw [← hC0, all1_mk hG g G.length 0 s.C (by omega) h.len a b (by have := hG.adj_lt ha; omega)]
  exact or_congr_right ⟨fun q => q.2.2, fun q => ⟨Nat.zero_le _, ha, q⟩⟩
 have hsym : ∀ a b, Adj G a b → X.mk C0 a b → X.mk C0 b a := fun a b ha q => by
  rw [hm0 b a (hG.adj_symm ha)]
  exact ((hm0 a b ha).1 q).imp (h.sym a b ha) fun q => ⟨q.2, q.1⟩
 have hcl : ∀ i, i < (streets G).length → (c0.getD i false = true ↔ X.mk C0 ((streets G).getD i (0, 0)).1 ((streets G).getD i (0, 0)).2) := fun i hi => by
  rw [← hc0, marksO_get (streets G) g (streets G).length 0 o.C h.olen (by omega) i hi, h.cl i hi, hm0 _ _ (streets_at hG hi).2]
  exact or_congr_right ⟨fun q => q.2, fun q => ⟨Nat.zero_le _, q⟩⟩
 rw [hC0, hc0]
 obtain ⟨r1, r2⟩ := iter2_red hG g 64 (C0, s.bk) h64 hsym (by have := cntT_le C0; dsimp only; omega)
 obtain ⟨t, ht⟩ : ∃ t, iter2 G g 64 (C0, s.bk) = t := ⟨_, rfl⟩
 rw [ht] at r1 r2 ⊢
 obtain ⟨p1, p2, p3, p4⟩ := spAll_spec (E := streets G) (gd := g) ((streets G).length + 1) (c0, s.bk) hol (by have := cntT_le c0; dsimp only; omega)
 have p5 := spAll_len (streets G) g ((streets G).length + 1) (c0, s.bk)
 obtain ⟨u, hu⟩ : ∃ u, spAll (streets G) g ((streets G).length + 1) (c0, s.bk) = u := ⟨_, rfl⟩
 rw [hu] at p1 p2 p3 p4 p5 ⊢
 have hst : ∀ a b z, Adj G a b → X.mk t.1 a b → Adj G a z → ¬ bset g a → X.mk t.1 a z := fun a b z ha hm hz hga => Classical.byContradiction fun hno => by
  have := (r2 a b ha hm).1
  rw [(smk_iff hG t.1 g a G.length 0 (by omega)).2 ⟨hga, z, Nat.zero_le _, hz, hno⟩] at this
  cases this
 have hboth : ∀ i, i < (streets G).length → (u.1.getD i false = true ↔ X.mk t.1 ((streets G).getD i (0, 0)).1 ((streets G).getD i (0, 0)).2) := by
  intro i hi
  constructor
  ·-- what the program keeps, the reference keeps
   intro hiu
   have hedge := (streets_at hG hi).2
   refine r1.great (fun a b => ∃ i, i < (streets G).length ∧ u.1.getD i false = true ∧ ((streets G).getD i (0, 0) = (a, b) ∨ (streets G).getD i (0, 0) = (b, a))) ?_ ?_ ?_ _ _ hedge ⟨i, hi, hiu, .inl rfl⟩
   ·rintro a b ⟨i, q1, q2, q3⟩
    exact ⟨i, q1, q2, q3.symm⟩
   ·rintro a b z ha ⟨i, q1, q2, q3⟩ hz hga
    obtain ⟨k, k1, k2⟩ := edge_of hG hz
    refine ⟨k, k1, Classical.byContradiction fun hk => ?_, k2⟩
    have hno := spOut_none (streets G) g u.1 _ _ p1 i (Nat.zero_le _) (by omega)
    rw [(spIn_iff (streets G) g u.1 i _ _).2 ⟨k, Nat.zero_le _, by omega, (comes_iff _ _ _ _ _).2 ⟨q2, hk, a, hga, ?_, ?_⟩⟩] at hno
    ·cases hno
    ·rcases q3 with e | e <;> rw [e]
     ·exact .inl rfl
     ·exact .inr rfl
    ·rcases k2 with e | e <;> rw [e]
     ·exact .inl rfl
     ·exact .inr rfl
   ·rintro a b ha ⟨i, q1, q2, q3⟩
    have := (hcl i q1).1 (p2 i q2)
    rcases q3 with e | e <;> rw [e] at this
    ·exact this
    ·exact hsym b a (hG.adj_symm ha) this
  ·-- what the reference keeps, the program keeps
   intro hm
   refine p3 (fun i => i < (streets G).length ∧ X.mk t.1 ((streets G).getD i (0, 0)).1 ((streets G).getD i (0, 0)).2) ?_ ?_ i hi ⟨hi, hm⟩
   ·rintro i k hi hk ⟨_, q⟩ hno ⟨j, hj, hj1, hj2⟩
    have ei := (streets_at hG hi).2
    have ek := (streets_at hG hk).2
    obtain ⟨b, hab, hmb⟩ : ∃ b, Adj G j b ∧ X.mk t.1 j b := by
     rcases hj1 with e | e
     ·exact ⟨_, by rw [e]; exact ei, by rw [e]; exact q⟩
     ·exact ⟨_, by rw [e]; exact hG.adj_symm ei, by rw [e]; exact r1.sym _ _ ei q⟩
    rcases hj2 with e | e
    ·exact hno ⟨hk, by
      have := hst j b ((streets G).getD k (0, 0)).2 hab hmb (by rw [e]; exact ek) hj
      rwa [e] at this⟩
    ·exact hno ⟨hk, by
      have := hst j b ((streets G).getD k (0, 0)).1 hab hmb (by rw [e]; exact hG.adj_symm ek) hj
      rw [e] at this
      exact r1.sym _ _ (hG.adj_symm ek) this⟩
   ·rintro i hi ⟨_, q⟩
    exact (hcl i hi).2 (r1.sub _ _ (streets_at hG hi).2 q)
 refine ⟨rfl, rfl, ?_, r1.len, by rw [p5]; exact hol, r1.sym, hboth⟩
 show u.2 = t.2
 have : u.2 = true ↔ t.2 = true := by
  rw [p4, r1.bk]
  refine or_congr_right ⟨?_, ?_⟩
  ·rintro ⟨i, q1, q2, q3⟩
   exact ⟨_, _, (streets_at hG q1).2, (hcl i q1).1 q2, fun q => q3 ((hboth i q1).2 q)⟩
  ·rintro ⟨a, b, q1, q2, q3⟩
   obtain ⟨i, k1, k2⟩ := edge_of hG q1
   refine ⟨i, k1, (hcl i k1).2 ?_, fun q => q3 ?_⟩
   ·rcases k2 with e | e <;> rw [e]
    ·exact q2
    ·exact hsym _ _ q1 q2
   ·have := (hboth i k1).1 q
    rcases k2 with e | e <;> rw [e] at this
    ·exact this
    ·exact r1.sym _ _ (hG.adj_symm q1) this
 cases hu2 : u.2 <;> cases ht2 : t.2 <;> simp_all
theorem all3_iff {G : List Nat} (hG : Gr 7 G) (C : List Bool) : all3 G C G.length 0 = true ↔ ∀ a b, Adj G a b → X.mk C a b := by
 have row : ∀ x d y, y + d = G.length → (row3 G C x d y = true ↔ ∀ b, y ≤ b → Adj G x b → X.mk C x b) := by
  intro x d
  induction d with
  | zero => intro y hy; exact ⟨fun _ b h1 h2 => by have := hG.adj_lt h2; omega, fun _ => rfl⟩
  | succ d ih =>
   intro y hy
   simp only [row3]
   by_cases hc : ((G.getD x 0).testBit y && !C.getD (x * 8 + y) false) = true
   ·rw [if_pos hc]
    simp only [Bool.and_eq_true, Bool.not_eq_true'] at hc
    exact ⟨fun h => absurd h (by decide), fun h => by
     have : C.getD (x * 8 + y) false = true := h y (Nat.le_refl _) hc.1
     rw [hc.2] at this
     cases this⟩
   ·rw [if_neg hc, ih (y + 1) (by omega)]
    refine ⟨fun h b h1 h2 => ?_, fun h b h1 h2 => h b (by omega) h2⟩
    by_cases e : b = y
    ·subst e
     simp only [Bool.and_eq_true, Bool.not_eq_true', not_and] at hc
     have := hc h2
     show C.getD (x * 8 + b) false = true
     simpa using this
    ·exact h b (by omega) h2
 have all : ∀ d x, x + d = G.length → (all3 G C d x = true ↔ ∀ a b, x ≤ a → Adj G a b → X.mk C a b) := by
  intro d
  induction d with
  | zero => intro x hx; exact ⟨fun _ a b h1 h2 => by have := hG.adj_lt' h2; omega, fun _ => rfl⟩
  | succ d ih =>
   intro x hx
   simp only [all3]
   rw [Bool.and_eq_true, row x G.length 0 (by omega), ih (x + 1) (by omega)]
   refine ⟨fun ⟨h1, h2⟩ a b h3 h4 => ?_, fun h => ⟨fun b _ h2 => h x b (Nat.le_refl _) h2, fun a b h3 h4 => h a b (by omega) h4⟩⟩
   by_cases e : a = x
   ·subst e; exact h1 b (Nat.zero_le _) h4
   ·exact h2 a b (by omega) h4
 rw [all G.length 0 (by omega)]
 exact ⟨fun h a b ha => h a b (Nat.zero_le _) ha, fun h a b _ ha => h a b ha⟩
theorem Same.fin {G : List Nat} (hG : Gr 7 G) {s : PS} {o : OS} (h : Same G s o) : o.C.contains false = !all3 G s.C G.length 0 := by
 have : (o.C.contains false = true) ↔ ¬ (all3 G s.C G.length 0 = true) := by
  rw [all3_iff hG, List.contains_iff_mem, List.mem_iff_getElem]
  constructor
  ·rintro ⟨i, hi, e⟩ hall
   have hi2 : i < (streets G).length := by rw [← h.olen]; exact hi
   have := (h.cl i hi2).2 (hall _ _ (streets_at hG hi2).2)
   rw [List.getD_eq_getElem?_getD, List.getElem?_eq_getElem hi, e] at this
   cases this
  ·intro hno
   apply Classical.byContradiction
   intro hex
   refine hno fun a b ha => ?_
   obtain ⟨i, k1, k2⟩ := edge_of hG ha
   have hi : i < o.C.length := by rw [h.olen]; exact k1
   have : o.C.getD i false = true := by
    rw [List.getD_eq_getElem?_getD, List.getElem?_eq_getElem hi]
    cases he : o.C[i]
    ·exact (hex ⟨i, hi, he⟩).elim
    ·simp [he]
   have := (h.cl i k1).1 this
   rcases k2 with e | e <;> rw [e] at this
   ·exact this
   ·exact h.sym _ _ (hG.adj_symm ha) this
 cases h1 : o.C.contains false <;> cases h2 : all3 G s.C G.length 0 <;> simp_all
theorem ownTo_same {G : List Nat} (hG : Gr 7 G) : ∀ (l : List S85) (s : PS) (o : OS), Same G s o → finO G (ownTo G.length (streets G) l o s.most) = finP G (playTo G (l.map conv) s)
 | [], s, o, h => by
  simp only [ownTo, List.map_nil, playTo, finO, finP]
  rw [h.fin hG, h.had, h.bk]
  cases all3 G s.C G.length 0
  ·simp
  ·simp
 | a :: l, s, o, h => by
  simp only [ownTo, List.map_cons, playTo, conv]
  by_cases h0 : a.f1 < 0
  ·rw [if_pos h0, if_pos h0]; rfl
  ·rw [if_neg h0, if_neg h0]
   by_cases h1 : (G.length : Int) ≤ a.f1
   ·rw [if_pos h1, if_pos h1]; rfl
   ·rw [if_neg h1, if_neg h1]
    unfold doO
    rw [h.gd]
    by_cases h2 : (s.gd.testBit a.f1.toNat == a.f0) = true
    ·rw [if_pos h2, if_pos h2]; rfl
    ·rw [if_neg h2, if_neg h2, Option.bind_some]
     have := ownTo_same hG l _ _ (h.step hG a.f1.toNat)
     rw [← this]
     congr 2
     show max s.most (pc (o.gd ^^^ 2 ^ a.f1.toNat) 9) = max s.most (pc (s.gd ^^^ 2 ^ a.f1.toNat) 9)
     rw [h.gd]
theorem same_start (G : List Nat) : Same G p0 (o0 (streets G)) := by
 have z : ∀ a b, ¬ X.mk p0.C a b := fun a b q => by
  unfold X.mk at q
  rw [show p0.C = List.replicate 64 false from rfl, getD_false] at q
  cases q
 refine ⟨rfl, rfl, rfl, rfl, by simp [o0], fun a b _ q => (z a b q).elim, fun i hi => ⟨fun q => ?_, fun q => (z _ _ q).elim⟩⟩
 unfold o0 at q
 dsimp only at q
 rw [List.getD_eq_getElem?_getD, List.getElem?_replicate] at q
 split at q <;> cases q
theorem ownPlay_eq {G : List Nat} (hG : Gr 7 G) (l : List S85) : ownPlay G l = refPlay G (l.map conv) := by
 unfold ownPlay refPlay
 rw [List.length_map]
 by_cases h : 100 < l.length
 ·rw [if_pos h, if_pos h]
 ·rw [if_neg h, if_neg h]
  exact ownTo_same hG l p0 _ (same_start G)
end Go.Proofs.YtijfddobandcdaaDoor.X
end
section
/- What Play answers, told by the reference's; the laws' plan. -/
namespace Go.Proofs.YtijfddobandcdaaDoor.X
open Go.RowKit YtijfddobandcdaaDoorW.PrintWords YtijfddobandcdaaDoorW.PrintLast YtijfddobandcdaaDoorW.PrintMore YtijfddobandcdaaDoor.T
def unconv (p : S70) : S85 := ⟨p.f0, p.f1⟩
theorem conv_unconv (l : List S70) : (l.map unconv).map conv = l := by
 rw [List.map_map]
 conv => rhs; rw [← List.map_id l]
 exact List.map_congr_left fun x _ => rfl
theorem lawplan_l0 (l : List S70) (hl : l.length ≤ maxLen) : ∀ (d i : Nat), i + d = l.length → Ev (fun k => lampblacklaw03_plan.l0 k (((l.take 110).take i).map unconv) l (l.length : Int) (i : Int)) ((l.take 110).map unconv) := by
 intro d
 have hm : maxLen ≤ 9223372036854775807 := by decide
 induction d with
 | zero =>
  intro i hi
  refine Ev.step (f := fun _ => some (((l.take 110).take i).map unconv)) (fun k => by rw [lampblacklaw03_plan.l0, if_neg (by omega)]) (Ev.some ?_)
  rw [List.take_of_length_le (by rw [List.length_take]; omega)]
 | succ d ih =>
  intro i hi
  have hi' : i < l.length := by omega
  have hr : rd_T70 l (i : Int) = l[i] := by unfold rd_T70; rw [Int.toNat_natCast, List.getD_eq_getElem?_getD, List.getElem?_eq_getElem hi']; rfl
  have hw : wrap64 ((i : Int) + 1) = ((i + 1 : Nat) : Int) := by unfold wrap64; omega
  by_cases h110 : i < 110
  ·have e : ((l.take 110).take i).map unconv ++ [(⟨(rd_T70 l (i : Int)).f0, (rd_T70 l (i : Int)).f1⟩ : S85)] = ((l.take 110).take (i + 1)).map unconv := by
    have hi2 : i < (l.take 110).length := by rw [List.length_take]; omega
    rw [hr, List.take_add_one (l := l.take 110), List.getElem?_eq_getElem hi2, List.map_append, List.getElem_take]
    rfl
   refine Ev.step (fun k => by rw [lampblacklaw03_plan.l0, if_pos (by omega), if_pos (by omega), if_pos (by omega), if_pos (by omega), if_pos (by rw [List.length_map, List.length_take, List.length_take]; omega), e, hw]) (ih (i + 1) (by omega))
  ·have e : ((l.take 110).take i).map unconv = ((l.take 110).take (i + 1)).map unconv := by
    have hl1 : (l.take 110).length ≤ i := by rw [List.length_take]; omega
    rw [List.take_of_length_le hl1, List.take_of_length_le (Nat.le_trans hl1 (Nat.le_succ i))]
   refine Ev.step (fun k => by rw [lampblacklaw03_plan.l0, if_pos (by omega), if_pos (by omega), if_pos (by omega), if_neg (by omega), e, hw]) (ih (i + 1) (by omega))
theorem lawplan_ev (l : List S70) (hl : l.length ≤ maxLen) : Ev (fun k => lampblacklaw03_plan.f k l) ((l.take 110).map unconv) := by
 unfold lampblacklaw03_plan.f
 have := lawplan_l0 l hl l.length 0 (by omega)
 simpa using this
theorem Play_eq (G : List Nat) (hG : Gr 7 G) (l : List S85) : sweep_Play.f (gi G) l = some ((refPlay G (l.map conv)).1, (refPlay G (l.map conv)).2.1, (refPlay G (l.map conv)).2.2, 0) := by
 unfold sweep_Play.f
 rw [if_pos (by rw [gi_length]; have := hG.most; omega), if_pos ((chk_iff 7 (by omega) _).2 ⟨G, rfl, hG⟩), gi_toNat, ownPlay_eq hG]
theorem refPlay_cut (G : List Nat) (l : List S70) : refPlay G (((l.take 110).map unconv).map conv) = refPlay G l := by
 rw [conv_unconv]
 by_cases h : l.length ≤ 110
 ·rw [List.take_of_length_le h]
 ·unfold refPlay
  rw [if_pos (by rw [List.length_take]; omega), if_pos (by omega)]
theorem Play_cut (G : List Nat) (hG : Gr 7 G) (l : List S70) : sweep_Play.f (gi G) ((l.take 110).map unconv) = some ((refPlay G l).1, (refPlay G l).2.1, (refPlay G l).2.2, 0) := by
 rw [Play_eq G hG, refPlay_cut]
end Go.Proofs.YtijfddobandcdaaDoor.X
end
section
/- Blockages: if no layout has borders of less than k nodes, there is a blockage of order k; and the other way round. -/
namespace Go.Proofs.YtijfddobandcdaaDoor.T
open Go.RowKit YtijfddobandcdaaDoorW.PrintWords YtijfddobandcdaaDoorW.PrintLast YtijfddobandcdaaDoorW.PrintMore
def Sub (X Y : Nat) : Prop := ∀ j, bset X j → bset Y j
theorem Sub.refl (X : Nat) : Sub X X := fun _ h => h
theorem Sub.trans {X Y Z : Nat} (h : Sub X Y) (h2 : Sub Y Z) : Sub X Z := fun j hj => h2 j (h j hj)
theorem sub_eq {X Y : Nat} (h : Sub X Y) (h2 : Sub Y X) : X = Y := eq_of_bits fun j => ⟨h j, h2 j⟩
theorem zero_sub (X : Nat) : Sub 0 X := fun j h => by unfold bset at h; simp at h
theorem pc_sub {X Y : Nat} (h : Sub X Y) (n : Nat) : pc X n ≤ pc Y n := pc_mono n fun j _ hj => h j hj
noncomputable def cmp (G : List Nat) (X : Nat) : Nat := diff (2 ^ G.length - 1) X ||| bor G X
theorem cmp_bit (G : List Nat) (X j : Nat) : bset (cmp G X) j ↔ (j < G.length ∧ ¬ bset X j) ∨ bset (bor G X) j := by
 unfold cmp
 rw [or_bset, diff_bset, full_bit]
theorem bor_sub {m : Nat} {G : List Nat} (hG : Gr m G) (X : Nat) : Sub (bor G X) X := fun j h => ((bor_bit hG X j).1 h).1
theorem full_lt (n : Nat) : 2 ^ n - 1 < 2 ^ n := by have := Nat.two_pow_pos n; omega
theorem cmp_lt {m : Nat} {G : List Nat} (hG : Gr m G) (X : Nat) : cmp G X < 2 ^ G.length := or_lt (Nat.lt_of_le_of_lt (diff_le _ _) (full_lt _)) (bor_lt G X)
structure Sep (G : List Nat) (k A B : Nat) : Prop where
 la : A < 2 ^ G.length
 lb : B < 2 ^ G.length
 all : ∀ j, j < G.length → bset A j ∨ bset B j
 bor : Sub (bor G A) B
 card : pc (A &&& B) 9 ≤ k
theorem Sep.symm {m : Nat} {G : List Nat} (hG : Gr m G) {k A B : Nat} (h : Sep G k A B) : Sep G k B A := by
 refine ⟨h.lb, h.la, fun j hj => (h.all j hj).symm, fun j hj => ?_, by rw [Nat.and_comm]; exact h.card⟩
 obtain ⟨h1, u, h2, h3⟩ := (bor_bit hG B j).1 hj
 apply Classical.byContradiction
 intro hA
 have hu := (h.all u (hG.adj_lt h2)).resolve_right h3
 exact h3 (h.bor u ((bor_bit hG A u).2 ⟨hu, j, hG.adj_symm h2, hA⟩))
theorem Sep.bor2 {m : Nat} {G : List Nat} (hG : Gr m G) {k A B : Nat} (h : Sep G k A B) : Sub (T.bor G B) A := (h.symm hG).bor
def Sm (G : List Nat) (k X : Nat) : Prop := X < 2 ^ G.length ∧ pc (bor G X) 9 ≤ k
theorem Sep.sm {m : Nat} {G : List Nat} (hG : Gr m G) {k A B : Nat} (h : Sep G k A B) : Sm G k A :=
 ⟨h.la, Nat.le_trans (pc_sub (fun j hj => (and_bset _ _ _).2 ⟨bor_sub hG A j hj, h.bor j hj⟩) 9) h.card⟩
theorem and_cmp {m : Nat} {G : List Nat} (hG : Gr m G) (X : Nat) : X &&& cmp G X = bor G X := eq_of_bits fun j => by
 show bset _ _ ↔ bset _ _
 rw [and_bset, cmp_bit]
 exact ⟨fun ⟨h1, h2⟩ => h2.elim (fun h => (h.2 h1).elim) id, fun h => ⟨bor_sub hG X j h, .inr h⟩⟩
theorem Sm.sep {m : Nat} {G : List Nat} (hG : Gr m G) {k X : Nat} (h : Sm G k X) : Sep G k X (cmp G X) := by
 refine ⟨h.1, cmp_lt hG X, fun j hj => ?_, fun j hj => (cmp_bit G X j).2 (.inr hj), by rw [and_cmp hG]; exact h.2⟩
 by_cases hb : bset X j
 ·exact .inl hb
 ·exact .inr ((cmp_bit G X j).2 (.inl ⟨hj, hb⟩))
theorem submod (a b e d : Nat) : ∀ n, (∀ j, j < n → ((bset a j ∨ bset b j) ↔ (bset e j ∨ bset d j))) → pc (a &&& b) n + pc (e &&& d) n = pc ((a &&& e) &&& (b ||| d)) n + pc ((a ||| e) &&& (b &&& d)) n
 | 0, _ => rfl
 | n + 1, h => by
  have ih := submod a b e d n fun j hj => h j (by omega)
  have h1 := h n (by omega)
  simp only [pc, Nat.testBit_and, Nat.testBit_or]
  unfold bset at h1
  cases ha : a.testBit n <;> cases hb : b.testBit n <;> cases he : e.testBit n <;> cases hd : d.testBit n <;> simp_all <;> omega
theorem sides_same {G : List Nat} {A B E D : Nat} (hA : A < 2 ^ G.length) (hB : B < 2 ^ G.length) (hE : E < 2 ^ G.length) (hD : D < 2 ^ G.length) (h1 : ∀ j, j < G.length → bset A j ∨ bset B j) (h2 : ∀ j, j < G.length → bset E j ∨ bset D j) (j : Nat) :
  (bset A j ∨ bset B j) ↔ (bset E j ∨ bset D j) :=
 ⟨fun h => h2 j (h.elim (bit_lt hA) (bit_lt hB)), fun h => h1 j (h.elim (bit_lt hE) (bit_lt hD))⟩
inductive Mon (G : List Nat) (k : Nat) : Nat → Nat → Prop
 | refl {A : Nat} : Mon G k A A
 | step {A B E : Nat} : Mon G k A B → Sub B E → E < 2 ^ G.length → pc (cmp G B &&& E) 9 ≤ k → Mon G k A E
theorem Mon.sub {G : List Nat} {k A E : Nat} (h : Mon G k A E) : Sub A E := by
 induction h with
 | refl => exact Sub.refl _
 | step _ h1 _ _ ih => exact ih.trans h1
theorem Mon.trans {G : List Nat} {k A B C : Nat} (h : Mon G k A B) (h2 : Mon G k B C) : Mon G k A C := by
 induction h2 with
 | refl => exact h
 | step _ h1 h2 h3 ih => exact .step ih h1 h2 h3
theorem step_sep {m : Nat} {G : List Nat} (hG : Gr m G) {k B E : Nat} (h1 : Sub B E) (h2 : E < 2 ^ G.length) (h3 : pc (cmp G B &&& E) 9 ≤ k) : Sep G k E (cmp G B) := by
 refine ⟨h2, cmp_lt hG B, fun j hj => ?_, fun j hj => ?_, by rw [Nat.and_comm]; exact h3⟩
 ·by_cases hb : bset B j
  ·exact .inl (h1 j hb)
  ·exact .inr ((cmp_bit G B j).2 (.inl ⟨hj, hb⟩))
 ·obtain ⟨q1, u, q2, q3⟩ := (bor_bit hG E j).1 hj
  rw [cmp_bit]
  by_cases hb : bset B j
  ·exact .inr ((bor_bit hG B j).2 ⟨hb, u, q2, fun h => q3 (h1 u h)⟩)
  ·exact .inl ⟨hG.adj_lt' q2, hb⟩
theorem Mon.cut {m : Nat} {G : List Nat} (hG : Gr m G) {k M N C : Nat} (hM : M < 2 ^ G.length) (hN : N < 2 ^ G.length) (hMN : ∀ j, j < G.length → bset M j ∨ bset N j) (hb : Sub (bor G M) N)
  (hmin : ∀ X, X < 2 ^ G.length → Sub X C → pc (M &&& N) 9 ≤ pc (bor G (M ||| X)) 9) {A B : Nat} (h : Mon G k A B) (hB : Sub B C) : Mon G k (A &&& M) (B &&& M) := by
 induction h with
 | refl => exact .refl
 | @step B E _ h1 h2 h3 ih =>
  refine .step (ih (h1.trans hB)) (fun j hj => ?_) (Nat.lt_of_le_of_lt Nat.and_le_left h2) ?_
  ·obtain ⟨q1, q2⟩ := (and_bset _ _ _).1 hj
   exact (and_bset _ _ _).2 ⟨h1 j q1, q2⟩
  have hs := step_sep hG h1 h2 h3
  have hsm := submod M N E (cmp G B) 9 fun j _ => sides_same hM hN h2 (cmp_lt hG B) hMN hs.all j
  have h4 := hmin E h2 hB
  have h5 : pc (bor G (M ||| E)) 9 ≤ pc ((M ||| E) &&& (N &&& cmp G B)) 9 := pc_sub (fun j hj => by
   obtain ⟨q1, u, q2, q3⟩ := (bor_bit hG _ j).1 hj
   rw [or_bset, not_or] at q3
   refine (and_bset _ _ _).2 ⟨q1, (and_bset _ _ _).2 ⟨?_, ?_⟩⟩
   ·by_cases hm : bset M j
    ·exact hb j ((bor_bit hG M j).2 ⟨hm, u, q2, q3.1⟩)
    ·exact (hMN j (hG.adj_lt' q2)).resolve_left hm
   ·rw [cmp_bit]
    by_cases hm : bset B j
    ·exact .inr ((bor_bit hG B j).2 ⟨hm, u, q2, fun h => q3.2 (h1 u h)⟩)
    ·exact .inl ⟨hG.adj_lt' q2, hm⟩) 9
  have h6 : pc (cmp G (B &&& M) &&& (E &&& M)) 9 ≤ pc ((M &&& E) &&& (N ||| cmp G B)) 9 := pc_sub (fun j hj => by
   obtain ⟨q1, q2⟩ := (and_bset _ _ _).1 hj
   obtain ⟨q2, q3⟩ := (and_bset _ _ _).1 q2
   refine (and_bset _ _ _).2 ⟨(and_bset _ _ _).2 ⟨q3, q2⟩, (or_bset _ _ _).2 ?_⟩
   rw [cmp_bit] at q1
   rcases q1 with ⟨q4, q5⟩ | q4
   ·rw [and_bset] at q5
    exact .inr ((cmp_bit G B j).2 (.inl ⟨q4, fun h => q5 ⟨h, q3⟩⟩))
   ·obtain ⟨q5, u, q6, q7⟩ := (bor_bit hG _ j).1 q4
    obtain ⟨q5, _⟩ := (and_bset _ _ _).1 q5
    rw [and_bset] at q7
    by_cases hu : bset B u
    ·exact .inl (hb j ((bor_bit hG M j).2 ⟨q3, u, q6, fun h => q7 ⟨hu, h⟩⟩))
    ·exact .inr ((cmp_bit G B j).2 (.inr ((bor_bit hG B j).2 ⟨q5, u, q6, hu⟩)))) 9
  rw [Nat.and_comm] at h3
  omega
theorem least_of (Q : Nat → Prop) (f : Nat → Nat) (h : ∃ x, Q x) : ∃ x, Q x ∧ ∀ y, Q y → f x ≤ f y := by
 have key : ∀ d, ∀ x, Q x → f x ≤ d → ∃ x, Q x ∧ ∀ y, Q y → f x ≤ f y := by
  intro d
  induction d with
  | zero => exact fun x hx h0 => ⟨x, hx, fun y _ => by omega⟩
  | succ d ih =>
   intro x hx hd
   by_cases hy : ∃ y, Q y ∧ f y ≤ d
   ·obtain ⟨y, h1, h2⟩ := hy
    exact ih y h1 h2
   ·exact ⟨x, hx, fun y hq => Classical.byContradiction fun hn => hy ⟨y, hq, by omega⟩⟩
 obtain ⟨x, hx⟩ := h
 exact key (f x) x hx (Nat.le_refl _)
def Good (G : List Nat) (k A C : Nat) : Prop := ∃ A' C', Sub A' A ∧ Sm G k A' ∧ Sub C C' ∧ C' < 2 ^ G.length ∧ Mon G k A' C'
theorem Good.turn {m : Nat} {G : List Nat} (hG : Gr m G) {k A C D E : Nat} (h : Good G k A C) (h1 : Sep G k C D) (h2 : Sep G k E D) : Good G k A E := by
 obtain ⟨A', C', g1, g2, g3, g4, g5⟩ := h
 have hPC : Sub (cmp G D) C' := fun j hj => by
  rcases (cmp_bit G D j).1 hj with ⟨q1, q2⟩ | q
  ·exact g3 j ((h1.all j q1).resolve_right q2)
  ·exact g3 j (h1.bor2 hG j q)
 obtain ⟨M, ⟨m1, m2, m3⟩, m4⟩ := least_of (fun X => X < 2 ^ G.length ∧ Sub (cmp G D) X ∧ Sub X C') (fun X => pc (bor G X) 9) ⟨C', g4, hPC, Sub.refl _⟩
 have hmin : ∀ X, X < 2 ^ G.length → Sub X C' → pc (M &&& cmp G M) 9 ≤ pc (bor G (M ||| X)) 9 := fun X hX hXC => by
  rw [and_cmp hG]
  exact m4 _ ⟨or_lt m1 hX, fun j hj => (or_bset _ _ _).2 (.inl (m2 j hj)), fun j hj => ((or_bset _ _ _).1 hj).elim (m3 j) (hXC j)⟩
 have hMall : ∀ j, j < G.length → bset M j ∨ bset (cmp G M) j := fun j hj => by
  by_cases hb : bset M j
  ·exact .inl hb
  ·exact .inr ((cmp_bit G M j).2 (.inl ⟨hj, hb⟩))
 have hcut := Mon.cut hG m1 (cmp_lt hG M) hMall (fun j hj => (cmp_bit G M j).2 (.inr hj)) hmin g5 (Sub.refl _)
 have hCM : C' &&& M = M := sub_eq (fun j hj => ((and_bset _ _ _).1 hj).2) (fun j hj => (and_bset _ _ _).2 ⟨m3 j hj, hj⟩)
 rw [hCM] at hcut
 have hA'lt : A' &&& M < 2 ^ G.length := Nat.lt_of_le_of_lt Nat.and_le_left g2.1
 have hsm : Sm G k (A' &&& M) := by
  refine ⟨hA'lt, ?_⟩
  have hs := g2.sep hG
  have q0 := submod M (cmp G M) A' (cmp G A') 9 fun j _ => sides_same m1 (cmp_lt hG M) g2.1 (cmp_lt hG A') hMall hs.all j
  have q1 := hmin A' g2.1 g5.sub
  have q2 : pc (bor G (M ||| A')) 9 ≤ pc ((M ||| A') &&& (cmp G M &&& cmp G A')) 9 := pc_sub (fun j hj => by
   obtain ⟨r1, u, r2, r3⟩ := (bor_bit hG _ j).1 hj
   rw [or_bset, not_or] at r3
   refine (and_bset _ _ _).2 ⟨r1, (and_bset _ _ _).2 ⟨?_, ?_⟩⟩
   ·rw [cmp_bit]
    by_cases hm : bset M j
    ·exact .inr ((bor_bit hG M j).2 ⟨hm, u, r2, r3.1⟩)
    ·exact .inl ⟨hG.adj_lt' r2, hm⟩
   ·rw [cmp_bit]
    by_cases hm : bset A' j
    ·exact .inr ((bor_bit hG A' j).2 ⟨hm, u, r2, r3.2⟩)
    ·exact .inl ⟨hG.adj_lt' r2, hm⟩) 9
  have q3 : pc (bor G (A' &&& M)) 9 ≤ pc ((M &&& A') &&& (cmp G M ||| cmp G A')) 9 := pc_sub (fun j hj => by
   obtain ⟨r1, u, r2, r3⟩ := (bor_bit hG _ j).1 hj
   obtain ⟨r4, r5⟩ := (and_bset _ _ _).1 r1
   rw [and_bset] at r3
   refine (and_bset _ _ _).2 ⟨(and_bset _ _ _).2 ⟨r5, r4⟩, (or_bset _ _ _).2 ?_⟩
   by_cases hu : bset A' u
   ·exact .inl ((cmp_bit G M j).2 (.inr ((bor_bit hG M j).2 ⟨r5, u, r2, fun h => r3 ⟨hu, h⟩⟩)))
   ·exact .inr ((cmp_bit G A' j).2 (.inr ((bor_bit hG A' j).2 ⟨r4, u, r2, hu⟩)))) 9
  have q4 := g2.2
  rw [and_cmp hG A'] at q0
  omega
 refine ⟨A' &&& M, M ||| E, fun j hj => g1 j ((and_bset _ _ _).1 hj).1, hsm, fun j hj => (or_bset _ _ _).2 (.inr hj), or_lt m1 h2.la, .step hcut (fun j hj => (or_bset _ _ _).2 (.inl hj)) (or_lt m1 h2.la) ?_⟩
 have q0 := submod M (cmp G M) E D 9 fun j _ => sides_same m1 (cmp_lt hG M) h2.la h2.lb hMall h2.all j
 have q1 : pc (bor G M) 9 ≤ pc (bor G (M &&& E)) 9 := m4 _ ⟨Nat.lt_of_le_of_lt Nat.and_le_left m1, fun j hj => (and_bset _ _ _).2 ⟨m2 j hj, by
  rcases (cmp_bit G D j).1 hj with ⟨r1, r2⟩ | r
  ·exact (h2.all j r1).resolve_right r2
  ·exact h2.bor2 hG j r⟩, fun j hj => m3 j ((and_bset _ _ _).1 hj).1⟩
 have q2 : pc (bor G (M &&& E)) 9 ≤ pc ((M &&& E) &&& (cmp G M ||| D)) 9 := pc_sub (fun j hj => by
  obtain ⟨r1, u, r2, r3⟩ := (bor_bit hG _ j).1 hj
  obtain ⟨r4, r5⟩ := (and_bset _ _ _).1 r1
  rw [and_bset] at r3
  refine (and_bset _ _ _).2 ⟨r1, (or_bset _ _ _).2 ?_⟩
  by_cases hu : bset M u
  ·exact .inr (h2.bor j ((bor_bit hG E j).2 ⟨r5, u, r2, fun h => r3 ⟨hu, h⟩⟩))
  ·exact .inl ((cmp_bit G M j).2 (.inr ((bor_bit hG M j).2 ⟨r4, u, r2, hu⟩)))) 9
 have q3 : pc (cmp G M &&& (M ||| E)) 9 ≤ pc ((M ||| E) &&& (cmp G M &&& D)) 9 := pc_sub (fun j hj => by
  obtain ⟨r1, r2⟩ := (and_bset _ _ _).1 hj
  refine (and_bset _ _ _).2 ⟨r2, (and_bset _ _ _).2 ⟨r1, ?_⟩⟩
  apply Classical.byContradiction
  intro hD
  have hjn : j < G.length := bit_lt (cmp_lt hG M) r1
  have hjM : bset M j := m2 j ((cmp_bit G D j).2 (.inl ⟨hjn, hD⟩))
  obtain ⟨_, u, r4, r5⟩ := (bor_bit hG M j).1 (((cmp_bit G M j).1 r1).resolve_left fun h => h.2 hjM)
  have hu : ¬ bset (cmp G D) u := fun h => r5 (m2 u h)
  rw [cmp_bit, not_or] at hu
  have huD : bset D u := Classical.byContradiction fun h => hu.1 ⟨hG.adj_lt r4, h⟩
  exact hu.2 ((bor_bit hG D u).2 ⟨huD, j, hG.adj_symm r4, hD⟩)) 9
 have q4 := h2.card
 rw [and_cmp hG M] at q0
 omega
inductive Rch (G : List Nat) (k : Nat) (A : Nat) : Nat → Prop
 | base {X : Nat} : Sub X A → Sm G k X → Rch G k A X
 | down {X Y : Nat} : Rch G k A X → Sub Y X → Sm G k Y → Rch G k A Y
 | turn {C D E : Nat} : Rch G k A C → Sep G k C D → Sep G k E D → Rch G k A E
theorem Rch.good {m : Nat} {G : List Nat} (hG : Gr m G) {k A X : Nat} (h : Rch G k A X) : Good G k A X := by
 induction h with
 | @base X h1 h2 => exact ⟨X, X, h1, h2, Sub.refl _, h2.1, .refl⟩
 | down _ h1 _ ih =>
  obtain ⟨A', C', g1, g2, g3, g4⟩ := ih
  exact ⟨A', C', g1, g2, h1.trans g3, g4⟩
 | turn _ h1 h2 ih => exact ih.turn hG h1 h2
theorem Rch.sm {m : Nat} {G : List Nat} (hG : Gr m G) {k A X : Nat} (h : Rch G k A X) : Sm G k X := by
 induction h with
 | base _ h => exact h
 | down _ _ h _ => exact h
 | turn _ _ h _ => exact h.sm hG
theorem Rch.trans {G : List Nat} {k A X Y : Nat} (h : Rch G k A X) (h2 : Rch G k X Y) : Rch G k A Y := by
 induction h2 with
 | base h1 h2 => exact .down h h1 h2
 | down _ h1 h2 ih => exact .down ih h1 h2
 | turn _ h1 h2 ih => exact .turn ih h1 h2
theorem Rch.other {m : Nat} {G : List Nat} (hG : Gr m G) {k A A' Y B : Nat} (h : Sub A' A) (h1 : Sep G k A' Y) (h2 : Sep G k A B) : Rch G k Y B := by
 have hs := (h2.sm hG).sep hG
 have hc : Sub (cmp G A) Y := fun j hj => by
  rcases (cmp_bit G A j).1 hj with ⟨q1, q2⟩ | q
  ·exact (h1.all j q1).resolve_left fun hb => q2 (h j hb)
  ·obtain ⟨q1, u, q2, q3⟩ := (bor_bit hG A j).1 q
   by_cases hb : bset A' j
   ·exact h1.bor j ((bor_bit hG A' j).2 ⟨hb, u, q2, fun hu => q3 (h u hu)⟩)
   ·exact (h1.all j (hG.adj_lt' q2)).resolve_left hb
 exact .turn (.base hc ((hs.symm hG).sm hG)) (hs.symm hG) (h2.symm hG)
theorem Rch.self {m : Nat} {G : List Nat} (hG : Gr m G) {k A B : Nat} (h : Sep G k A B) : Rch G k A A := .base (Sub.refl _) (h.sm hG)
theorem Rch.skew {m : Nat} {G : List Nat} (hG : Gr m G) {k A B X : Nat} (h : Rch G k A X) (hAB : Sep G k A B) : ∀ Y, Sep G k X Y → Rch G k Y B := by
 induction h with
 | base h1 _ => exact fun Y hY => Rch.other hG h1 hY hAB
 | @down X Y' hX h1 h2 ih =>
  intro Z hZ
  have hs := (hX.sm hG).sep hG
  exact (Rch.other hG h1 hZ hs).trans (ih _ hs)
 | @turn C D E hC h1 h2 ih =>
  intro Z hZ
  exact (Rch.turn (Rch.self hG (hZ.symm hG)) (hZ.symm hG) (h2.symm hG)).trans (ih D h1)
theorem Mon.rch {m : Nat} {G : List Nat} (hG : Gr m G) {k A A' C : Nat} (h : Mon G k A' C) (h1 : Sub A' A) (h2 : Sm G k A') : Rch G k A C := by
 induction h with
 | refl => exact .base h1 h2
 | @step B E hB q1 q2 q3 ih => exact .turn ih ((ih.sm hG).sep hG) (step_sep hG q1 q2 q3)
structure Fam (G : List Nat) (k : Nat) (B : Nat → Prop) : Prop where
 sm : ∀ X, B X → Sm G k X
 zero : B 0
 down : ∀ X Y, B X → Sub Y X → Sm G k Y → B Y
 turn : ∀ C D E, B C → Sep G k C D → Sep G k E D → B E
 apart : ∀ X Y, Sep G k X Y → B X → ¬ B Y
theorem Fam.rch {G : List Nat} {k : Nat} {B : Nat → Prop} (h : Fam G k B) {A X : Nat} (hA : B A) (hX : Rch G k A X) : B X := by
 induction hX with
 | base h1 h2 => exact h.down _ _ hA h1 h2
 | down _ h1 h2 ih => exact h.down _ _ ih h1 h2
 | turn _ h1 h2 ih => exact h.turn _ _ _ ih h1 h2
theorem pc_zero (n : Nat) : pc 0 n = 0 := by
 induction n with
 | zero => rfl
 | succ n ih => simp [pc, ih]
theorem bor_zero {m : Nat} {G : List Nat} (hG : Gr m G) : bor G 0 = 0 := sub_eq (bor_sub hG 0) (zero_sub _)
theorem sep_zero {m : Nat} {G : List Nat} (hG : Gr m G) (k : Nat) : Sep G k 0 (2 ^ G.length - 1) :=
 ⟨Nat.two_pow_pos _, full_lt _, fun j hj => .inr ((full_bit _ _).2 hj), by rw [bor_zero hG]; exact zero_sub _, by rw [Nat.zero_and, pc_zero]; exact Nat.zero_le _⟩
theorem fam_start {m : Nat} {G : List Nat} (hG : Gr m G) {k : Nat} (hno : ¬ Mon G k 0 (2 ^ G.length - 1)) : Fam G k (Rch G k 0) := by
 refine ⟨fun X h => h.sm hG, .base (Sub.refl _) ((sep_zero hG k).sm hG), fun X Y h h1 h2 => .down h h1 h2, fun C D E h h1 h2 => .turn h h1 h2, fun X Y hXY hX hY => hno ?_⟩
 have h1 := hX.trans (hY.skew hG (sep_zero hG k) X (hXY.symm hG))
 obtain ⟨A', C', g1, g2, g3, g4, g5⟩ := h1.good hG
 obtain rfl : A' = 0 := sub_eq g1 (zero_sub _)
 obtain rfl : C' = 2 ^ G.length - 1 := sub_eq (fun j hj => (full_bit _ _).2 (bit_lt g4 hj)) g3
 exact g5
theorem Fam.more {m : Nat} {G : List Nat} (hG : Gr m G) {k : Nat} {B : Nat → Prop} (h : Fam G k B) (hu : ∃ X Y, Sep G k X Y ∧ ¬ B X ∧ ¬ B Y) : ∃ B' : Nat → Prop, Fam G k B' ∧ (∀ X, B X → B' X) ∧ ∃ X, X < 2 ^ G.length ∧ B' X ∧ ¬ B X := by
 obtain ⟨A, ⟨C, hAC, hA, hC⟩, hmin⟩ := least_of (fun A => ∃ C, Sep G k A C ∧ ¬ B A ∧ ¬ B C) (fun A => pc (bor G A) 9) (by obtain ⟨X, Y, h⟩ := hu; exact ⟨X, Y, h⟩)
 have hAs := (hAC.sm hG).sep hG
 have hAc : ¬ B (cmp G A) := fun hb => hC (h.turn _ _ _ hb (hAs.symm hG) (hAC.symm hG))
 refine ⟨fun X => B X ∨ Rch G k A X, ⟨fun X hX => hX.elim (h.sm X) (fun hX => hX.sm hG), .inl h.zero, fun X Y hX h1 h2 => hX.imp (fun hX => h.down _ _ hX h1 h2) (fun hX => .down hX h1 h2), fun C D E hX h1 h2 => hX.imp (fun hX => h.turn _ _ _ hX h1 h2) (fun hX => .turn hX h1 h2), ?_⟩, fun X hX => .inl hX, A, hAC.la, .inr (Rch.self hG hAC), hA⟩
 have one : ∀ X Y, Sep G k X Y → B X → ¬ Rch G k A Y := fun X Y hXY hX hY => hAc (h.rch hX (hY.skew hG hAs X (hXY.symm hG)))
 rintro X Y hXY (hX | hX) (hY | hY)
 ·exact h.apart X Y hXY hX hY
 ·exact one X Y hXY hX hY
 ·exact one Y X (hXY.symm hG) hY hX
 ·-- A leads to its own other side
  have hAB : Rch G k A (cmp G A) := hX.trans (hY.skew hG hAs X (hXY.symm hG))
  obtain ⟨A', C', g1, g2, g3, g4, g5⟩ := hAB.good hG
  have hcard : pc (cmp G A &&& A) 9 = pc (bor G A) 9 := by rw [Nat.and_comm, and_cmp hG]
  have hbig : ∀ M, M < 2 ^ G.length → Sub (cmp G A) M → Sub M C' → pc (bor G A) 9 ≤ pc (bor G M) 9 := fun M hM h1 h2 => by
   apply Classical.byContradiction
   intro hlt
   have hsm : Sm G k M := ⟨hM, by have := (hAC.sm hG).2; omega⟩
   have hs := hsm.sep hG
   have hrM : Rch G k A M := .down (g5.rch hG g1 g2) h2 hsm
   have hM1 : ¬ B M := fun hb => hAc (h.down _ _ hb h1 ((hAs.symm hG).sm hG))
   have hM2 : ¬ B (cmp G M) := fun hb => hAc (h.rch hb (hrM.skew hG hAs _ hs))
   exact hlt (hmin M ⟨_, hs, hM1, hM2⟩)
  have hcut := Mon.cut hG (cmp_lt hG A) hAC.la (fun j hj => (hAs.all j hj).symm) (hAs.bor2 hG) (fun X hX hXC => by
   rw [hcard]
   exact hbig _ (or_lt (cmp_lt hG A) hX) (fun j hj => (or_bset _ _ _).2 (.inl hj)) (fun j hj => ((or_bset _ _ _).1 hj).elim (g3 j) (hXC j))) g5 (Sub.refl _)
  rw [show C' &&& cmp G A = cmp G A from sub_eq (fun j hj => ((and_bset _ _ _).1 hj).2) (fun j hj => (and_bset _ _ _).2 ⟨g3 j hj, hj⟩)] at hcut
  have hfirst : Mon G k 0 (A' &&& cmp G A) := .step .refl (zero_sub _) (Nat.lt_of_le_of_lt Nat.and_le_left g2.1) (by
   refine Nat.le_trans (pc_sub (fun j hj => ?_) 9) hAs.card
   obtain ⟨_, q⟩ := (and_bset _ _ _).1 hj
   obtain ⟨q1, q2⟩ := (and_bset _ _ _).1 q
   exact (and_bset _ _ _).2 ⟨g1 j q1, q2⟩)
  exact hAc (h.rch h.zero ((hfirst.trans hcut).rch hG (Sub.refl _) ((sep_zero hG k).sm hG)))
noncomputable def cntP (P : Nat → Prop) : Nat → Nat
 | 0 => 0
 | n + 1 => cntP P n + @ite _ (P n) (Classical.propDecidable _) 1 0
theorem cntP_le (P : Nat → Prop) : ∀ n, cntP P n ≤ n
 | 0 => Nat.le_refl _
 | n + 1 => by
  have := cntP_le P n
  simp only [cntP]
  split <;> omega
theorem cntP_lt {P Q : Nat → Prop} (h : ∀ x, P x → Q x) {x : Nat} (h1 : Q x) (h2 : ¬ P x) : ∀ n, cntP P n + (if x < n then 1 else 0) ≤ cntP Q n
 | 0 => by simp [cntP]
 | n + 1 => by
  have ih := cntP_lt h h1 h2 n
  simp only [cntP]
  by_cases e : x = n
  ·subst e
   rw [if_neg h2, if_pos h1, if_pos (by omega)]
   rw [if_neg (by omega)] at ih
   omega
  ·have hx : (if x < n + 1 then 1 else 0) = (if x < n then 1 else 0) := by
    by_cases hl : x < n
    ·rw [if_pos hl, if_pos (by omega)]
    ·rw [if_neg hl, if_neg (by omega)]
   rw [hx]
   by_cases hp : P n
   ·rw [if_pos hp, if_pos (h n hp)]; omega
   ·rw [if_neg hp]; omega
structure Blk (G : List Nat) (k : Nat) (B : Nat → Prop) : Prop where
 sm : ∀ X, B X → Sm G k X
 down : ∀ X Y, B X → Sub Y X → Sm G k Y → B Y
 one : ∀ X Y, Sep G k X Y → (B X ↔ ¬ B Y)
theorem blk_exists {m : Nat} {G : List Nat} (hG : Gr m G) {k : Nat} (hno : ¬ Mon G k 0 (2 ^ G.length - 1)) : ∃ B, Blk G k B := by
 have key : ∀ d, ∀ B : Nat → Prop, Fam G k B → 2 ^ G.length - cntP B (2 ^ G.length) ≤ d → ∃ B, Blk G k B := by
  intro d
  induction d with
  | zero =>
   intro B h hd
   refine ⟨B, h.sm, h.down, fun X Y hs => ⟨h.apart X Y hs, fun hY => ?_⟩⟩
   apply Classical.byContradiction
   intro hX
   obtain ⟨B', _, h2, x, h3, h4, h5⟩ := h.more hG ⟨X, Y, hs, hX, hY⟩
   have := cntP_lt h2 h4 h5 (2 ^ G.length)
   rw [if_pos h3] at this
   have := cntP_le B' (2 ^ G.length)
   omega
  | succ d ih =>
   intro B h hd
   by_cases hu : ∃ X Y, Sep G k X Y ∧ ¬ B X ∧ ¬ B Y
   ·obtain ⟨B', h1, h2, x, h3, h4, h5⟩ := h.more hG hu
    have := cntP_lt h2 h4 h5 (2 ^ G.length)
    rw [if_pos h3] at this
    have := cntP_le B' (2 ^ G.length)
    exact ih B' h1 (by omega)
   ·exact ⟨B, h.sm, h.down, fun X Y hs => ⟨h.apart X Y hs, fun hY => Classical.byContradiction fun hX => hu ⟨X, Y, hs, hX, hY⟩⟩⟩
 exact key _ _ (fam_start hG hno) (Nat.le_refl _)
/-! Layouts and ways through. -/
theorem bag_bor {m : Nat} {G : List Nat} (hG : Gr m G) {B S E : Nat} (h1 : Sub B S) (h2 : Sub S E) : Sub (bor G S) (cmp G B &&& E) := fun j hj => by
 obtain ⟨q1, u, q2, q3⟩ := (bor_bit hG S j).1 hj
 refine (and_bset _ _ _).2 ⟨(cmp_bit G B j).2 ?_, h2 j q1⟩
 by_cases hb : bset B j
 ·exact .inr ((bor_bit hG B j).2 ⟨hb, u, q2, fun h => q3 (h1 u h)⟩)
 ·exact .inl ⟨hG.adj_lt' q2, hb⟩
theorem bag_less {m : Nat} {G : List Nat} (hG : Gr m G) (hm : m ≤ 9) {k B S E u : Nat} (h1 : Sub B S) (h2 : Sub S E) (hE : E < 2 ^ G.length) (hu : bset E u) (hS : ¬ bset S u) (h3 : pc (cmp G B &&& E) 9 ≤ k) : pc (bor G S) 9 + 1 ≤ k := by
 have hn := hG.most
 have hun := bit_lt hE hu
 have := pc_lt (x := bor G S) (y := cmp G B &&& E) u 9 (fun j _ hj => bag_bor hG h1 h2 j hj) (by omega) (by
  cases h : (bor G S).testBit u
  ·rfl
  ·exact (hS (bor_sub hG S u h)).elim) ((and_bset _ _ _).2 ⟨(cmp_bit G B u).2 (.inl ⟨hun, fun h => hS (h1 u h)⟩), hu⟩)
 omega
theorem not_sub {X Y : Nat} (h : ¬ Sub X Y) : ∃ u, bset X u ∧ ¬ bset Y u := Classical.byContradiction fun hn => h fun j hj => Classical.byContradiction fun hb => hn ⟨j, hj, hb⟩
theorem step_lay {m : Nat} {G : List Nat} (hG : Gr m G) (hm : m ≤ 9) {k B E : Nat} (hE : E < 2 ^ G.length) (h1 : Sub B E) (h3 : pc (cmp G B &&& E) 9 ≤ k + 1) (hL : Lay G k E) (hb : pc (bor G E) 9 ≤ k) : Lay G k B ∧ pc (bor G B) 9 ≤ k := by
 have hn := hG.most
 refine ⟨?_, ?_⟩
 ·have key : ∀ d S, pc (diff E S) 9 ≤ d → Sub B S → Sub S E → Lay G k S := by
   intro d
   induction d with
   | zero =>
    intro S hd hBS hSE
    by_cases he : Sub E S
    ·rw [sub_eq hSE he]; exact hL
    ·obtain ⟨v, h4, h5⟩ := not_sub he
     have := pc_lt (x := 0) (y := diff E S) v 9 (fun j _ hj => by simp at hj) (by have := bit_lt hE h4; omega) (by simp) ((diff_bset _ _ _).2 ⟨h4, h5⟩)
     omega
   | succ d ih =>
    intro S hd hBS hSE
    by_cases he : Sub E S
    ·rw [sub_eq hSE he]; exact hL
    ·obtain ⟨v, h4, h5⟩ := not_sub he
     have hv := bit_lt hE h4
     have hSE2 : Sub (S ||| 2 ^ v) E := fun j hj => by
      rcases (or_bset _ _ _).1 hj with h | h
      ·exact hSE j h
      ·rw [(two_pow_bit v j).1 h]; exact h4
     have hBS2 : Sub B (S ||| 2 ^ v) := fun j hj => (or_bset _ _ _).2 (.inl (hBS j hj))
     refine .step hv h5 ?_ (ih _ ?_ hBS2 hSE2)
     ·by_cases he2 : Sub E (S ||| 2 ^ v)
      ·rw [sub_eq hSE2 he2]; exact hb
      ·obtain ⟨u, h6, h7⟩ := not_sub he2
       have := bag_less hG hm hBS2 hSE2 hE h6 h7 h3
       omega
     ·have := pc_lt (x := diff E (S ||| 2 ^ v)) (y := diff E S) v 9 (fun j _ hj => by
       obtain ⟨q1, q2⟩ := (diff_bset _ _ _).1 hj
       exact (diff_bset _ _ _).2 ⟨q1, fun h => q2 ((or_bset _ _ _).2 (.inl h))⟩) (by omega) (by
       cases h : (diff E (S ||| 2 ^ v)).testBit v
       ·rfl
       ·exact (((diff_bset _ _ _).1 h).2 ((or_bset _ _ _).2 (.inr ((two_pow_bit v v).2 rfl)))).elim) ((diff_bset _ _ _).2 ⟨h4, h5⟩)
      omega
  exact key _ B (Nat.le_refl _) (Sub.refl _) h1
 ·by_cases he : Sub E B
  ·rw [sub_eq h1 he]; exact hb
  ·obtain ⟨u, h6, h7⟩ := not_sub he
   have := bag_less hG hm (Sub.refl B) h1 hE h6 h7 h3
   omega
theorem Mon.lay {m : Nat} {G : List Nat} (hG : Gr m G) (hm : m ≤ 9) {k A E : Nat} (h : Mon G (k + 1) A E) (hL : Lay G k E) (hb : pc (bor G E) 9 ≤ k) : Lay G k A ∧ pc (bor G A) 9 ≤ k := by
 induction h with
 | refl => exact ⟨hL, hb⟩
 | @step B E _ h1 h2 h3 ih =>
  obtain ⟨q1, q2⟩ := step_lay hG hm h2 h1 h3 hL hb
  exact ih q1 q2
theorem bor_full {m : Nat} {G : List Nat} (hG : Gr m G) : bor G (2 ^ G.length - 1) = 0 := sub_eq (fun j hj => by
 obtain ⟨_, u, h2, h3⟩ := (bor_bit hG _ j).1 hj
 exact (h3 ((full_bit _ _).2 (hG.adj_lt h2))).elim) (zero_sub _)
theorem mon_no {m : Nat} {G : List Nat} (hG : Gr m G) (hm : m ≤ 9) {x k : Nat} (hx : IsVs G x) (hk : k ≤ x) : ¬ Mon G k 0 (2 ^ G.length - 1) := by
 intro h
 cases k with
 | succ k =>
  have := (h.lay hG hm .done (by rw [bor_full hG, pc_zero]; exact Nat.zero_le _)).1
  have := (hx k).2 this
  omega
 | zero =>
  have key : ∀ E, Mon G 0 0 E → E = 0 := by
   intro E hE
   induction hE with
   | refl => rfl
   | @step B E _ h1 h2 h3 ih =>
    subst ih
    refine sub_eq (fun j hj => ?_) (zero_sub _)
    have hj2 := bit_lt h2 hj
    have hn := hG.most
    have := pc_lt (x := 0) (y := cmp G 0 &&& E) j 9 (fun i _ hi => by simp at hi) (by omega) (by simp) ((and_bset _ _ _).2 ⟨(cmp_bit G 0 j).2 (.inl ⟨hj2, fun h => by unfold bset at h; simp at h⟩), hj⟩)
    omega
  have h0 := key _ h
  have h1 := hG.pos
  have : 2 ^ 1 ≤ 2 ^ G.length := Nat.pow_le_pow_right (by omega) h1
  omega
theorem blk_of_vs {m : Nat} {G : List Nat} (hG : Gr m G) (hm : m ≤ 9) {x k : Nat} (hx : IsVs G x) (hk : k ≤ x) : ∃ B, Blk G k B := blk_exists hG (mon_no hG hm hx hk)
theorem Blk.zero {m : Nat} {G : List Nat} (hG : Gr m G) {k : Nat} {B : Nat → Prop} (h : Blk G k B) : B 0 ∧ ¬ B (2 ^ G.length - 1) := by
 have hs := sep_zero hG k
 by_cases h0 : B 0
 ·exact ⟨h0, (h.one _ _ hs).1 h0⟩
 ·have hf : B (2 ^ G.length - 1) := Classical.byContradiction fun hf => h0 ((h.one _ _ hs).2 hf)
  exact (h0 (h.down _ _ hf (zero_sub _) (hs.sm hG))).elim
theorem Blk.no_lay {m : Nat} {G : List Nat} (hG : Gr m G) (hm : m ≤ 9) {k : Nat} {B : Nat → Prop} (h : Blk G (k + 1) B) {S : Nat} (hL : Lay G k S) (hS : B S) (hb : pc (bor G S) 9 ≤ k) : False := by
 induction hL with
 | done => exact (h.zero hG).2 hS
 | @step S v h1 h2 h3 h4 ih =>
  have hn := hG.most
  refine ih ?_ h3
  have hs := (h.sm _ hS).sep hG
  have hY := (h.one _ _ hs).1 hS
  have hsub : Sub S (S ||| 2 ^ v) := fun j hj => (or_bset _ _ _).2 (.inl hj)
  have hbag : pc (cmp G S &&& (S ||| 2 ^ v)) 9 ≤ k + 1 := by
   have := pc_onto1 (x := cmp G S &&& (S ||| 2 ^ v)) (y := bor G S) (n := 9) v id (fun j hj hbj => by
    obtain ⟨q1, q2⟩ := (and_bset _ _ _).1 hbj
    rcases (cmp_bit G S j).1 q1 with ⟨_, q3⟩ | q3
    ·rcases (or_bset _ _ _).1 q2 with q4 | q4
     ·exact (q3 q4).elim
     ·exact .inl ((two_pow_bit v j).1 q4)
    ·exact .inr ⟨j, hj, q3, rfl⟩)
   omega
  exact (h.one _ _ (step_sep hG hsub (lay_lt h4) hbag)).2 hY
theorem Blk.vs {m : Nat} {G : List Nat} (hG : Gr m G) (hm : m ≤ 9) {x k : Nat} {B : Nat → Prop} (h : Blk G k B) (hx : IsVs G x) : k ≤ x := by
 cases k with
 | zero => exact Nat.zero_le _
 | succ k =>
  apply Classical.byContradiction
  intro hlt
  exact h.no_lay hG hm ((hx k).1 (by omega)) (h.zero hG).1 (by rw [bor_zero hG, pc_zero]; exact Nat.zero_le _)
end Go.Proofs.YtijfddobandcdaaDoor.T
end
section
/- A right plan has more guards than the order of any blockage: also if it goes back. -/
namespace Go.Proofs.YtijfddobandcdaaDoor.X
open Go.RowKit YtijfddobandcdaaDoorW.PrintWords YtijfddobandcdaaDoorW.PrintLast YtijfddobandcdaaDoorW.PrintMore YtijfddobandcdaaDoor.T
def reached (G : List Nat) (s : PS) (j : Nat) : Prop := (∃ u, Adj G j u ∧ X.mk s.C j u) ∨ bset s.gd j ∨ (bset s.had j ∧ ∀ u, ¬ Adj G j u)
structure EI (G : List Nat) (k : Nat) (B : Nat → Prop) (s : PS) : Prop where
 len : s.C.length = 64
 sym : ∀ a b, Adj G a b → X.mk s.C a b → X.mk s.C b a
 still : ∀ a b z, Adj G a b → X.mk s.C a b → Adj G a z → ¬ bset s.gd a → X.mk s.C a z
 both : ∀ a b, Adj G a b → bset s.gd a → bset s.gd b → X.mk s.C a b
 gl : s.gd < 2 ^ G.length
 hl : s.had < 2 ^ G.length
 few : pc s.gd 9 ≤ k
 inB : ∃ Xs, B Xs ∧ Xs < 2 ^ G.length ∧ ∀ j, j < G.length → (bset Xs j ↔ reached G s j)
theorem border_guard {G : List Nat} (hG : Gr 7 G) {s : PS} (still : ∀ a b z, Adj G a b → X.mk s.C a b → Adj G a z → ¬ bset s.gd a → X.mk s.C a z) (sym : ∀ a b, Adj G a b → X.mk s.C a b → X.mk s.C b a) {Xs : Nat} (hX : ∀ j, j < G.length → (bset Xs j ↔ reached G s j)) : Sub (bor G Xs) s.gd := by
 intro j hj
 obtain ⟨h1, u, h2, h3⟩ := (bor_bit hG Xs j).1 hj
 have hjl := hG.adj_lt' h2
 have hul := hG.adj_lt h2
 apply Classical.byContradiction
 intro hg
 apply h3
 rw [hX u hul]
 rcases (hX j hjl).1 h1 with ⟨z, q1, q2⟩ | q | ⟨_, q⟩
 ·exact .inl ⟨j, hG.adj_symm h2, sym j u h2 (still j z u q1 q2 h2 hg)⟩
 ·exact (hg q).elim
 ·exact (q u h2).elim
theorem EI.step {G : List Nat} (hG : Gr 7 G) {k : Nat} {B : Nat → Prop} (hB : Blk G k B) {s : PS} (h : EI G k B s) {v : Nat} (hv : v < G.length) (hk : pc (s.gd ^^^ 2 ^ v) 9 ≤ k) : EI G k B (stepP G s v) := by
 have hn := hG.most
 obtain ⟨Xs, hXB, hXl, hX⟩ := h.inB
 have hbX := border_guard hG h.still h.sym hX
 unfold stepP
 obtain ⟨g, hg⟩ : ∃ g, s.gd ^^^ 2 ^ v = g := ⟨_, rfl⟩
 have hgx : ∀ j, bset g j ↔ if j = v then ¬ bset s.gd j else bset s.gd j := fun j => by rw [← hg]; exact xor_bset s.gd v j
 rw [hg] at hk ⊢
 have hgl : g < 2 ^ G.length := by rw [← hg]; exact Nat.xor_lt_two_pow h.gl (Nat.pow_lt_pow_right (by omega) hv)
 obtain ⟨C0, hC0⟩ : ∃ C, all1 G g G.length 0 s.C = C := ⟨_, rfl⟩
 have h64 : C0.length = 64 := by rw [← hC0, all1_len]; exact h.len
 have hm0 : ∀ a b, Adj G a b → (X.mk C0 a b ↔ X.mk s.C a b ∨ (bset g a ∧ bset g b)) := fun a b ha => by
  rw [← hC0, all1_mk hG g G.length 0 s.C (by omega) h.len a b (by have := hG.adj_lt ha; omega)]
  exact or_congr_right ⟨fun q => q.2.2, fun q => ⟨Nat.zero_le _, ha, q⟩⟩
 have hsym : ∀ a b, Adj G a b → X.mk C0 a b → X.mk C0 b a := fun a b ha q => by
  rw [hm0 b a (hG.adj_symm ha)]
  exact ((hm0 a b ha).1 q).imp (h.sym a b ha) fun q => ⟨q.2, q.1⟩
 rw [hC0]
 obtain ⟨r1, r2⟩ := iter2_red hG g 64 (C0, s.bk) h64 hsym (by have := cntT_le C0; dsimp only; omega)
 obtain ⟨t, ht⟩ : ∃ t, iter2 G g 64 (C0, s.bk) = t := ⟨_, rfl⟩
 rw [ht] at r1 r2 ⊢
 have hst : ∀ a b z, Adj G a b → X.mk t.1 a b → Adj G a z → ¬ bset g a → X.mk t.1 a z := fun a b z ha hm hz hga => Classical.byContradiction fun hno => by
  have := (r2 a b ha hm).1
  rw [(smk_iff hG t.1 g a G.length 0 (by omega)).2 ⟨hga, z, Nat.zero_le _, hz, hno⟩] at this
  cases this
 have hboth : ∀ a b, Adj G a b → bset g a → bset g b → X.mk t.1 a b := fun a b ha q1 q2 =>
  r1.great (fun a b => bset g a ∧ bset g b) (fun a b q => ⟨q.2, q.1⟩) (fun a b z _ q _ hno => (hno q.1).elim) (fun a b ha q => (hm0 a b ha).2 (.inr q)) a b ha ⟨q1, q2⟩
 have hhl : s.had ||| g < 2 ^ G.length := or_lt h.hl hgl
 obtain ⟨X2, hX2l, hX2⟩ : ∃ X2, X2 < 2 ^ G.length ∧ ∀ j, j < G.length → (bset X2 j ↔ reached G ⟨g, max s.most (pc g 9), s.had ||| g, t.2, t.1⟩ j) :=
  ⟨ofSet (fun j => reached G ⟨g, max s.most (pc g 9), s.had ||| g, t.2, t.1⟩ j) G.length, ofSet_lt _ _, fun j hj => by rw [ofSet_bit]; exact ⟨fun q => q.2, fun q => ⟨hj, q⟩⟩⟩
 have hb2 : Sub (bor G X2) g := border_guard hG (s := ⟨g, max s.most (pc g 9), s.had ||| g, t.2, t.1⟩) hst r1.sym hX2
 have hsm2 : Sm G k X2 := ⟨hX2l, Nat.le_trans (pc_sub hb2 9) hk⟩
 have hY : B (Xs ||| g) := by
  have hs : Sep G k (Xs ||| g) (cmp G Xs) := by
   refine step_sep hG (fun j hj => (or_bset _ _ _).2 (.inl hj)) (or_lt hXl hgl) ?_
   by_cases hvg : bset s.gd v
   ·refine Nat.le_trans (pc_sub (fun j hj => ?_) 9) h.few
    obtain ⟨q1, q2⟩ := (and_bset _ _ _).1 hj
    rcases (cmp_bit G Xs j).1 q1 with ⟨q3, q4⟩ | q3
    ·rcases (or_bset _ _ _).1 q2 with q5 | q5
     ·exact (q4 q5).elim
     ·have := (hgx j).1 q5
      split at this
      ·rename_i e; subst e; exact (this hvg).elim
      ·exact this
    ·exact hbX j q3
   ·refine Nat.le_trans (pc_sub (fun j hj => ?_) 9) hk
    obtain ⟨q1, q2⟩ := (and_bset _ _ _).1 hj
    have up : ∀ j, bset s.gd j → bset g j := fun j hj => (hgx j).2 (by
     split
     ·rename_i e; subst e; exact (hvg hj).elim
     ·exact hj)
    rcases (cmp_bit G Xs j).1 q1 with ⟨q3, q4⟩ | q3
    ·exact ((or_bset _ _ _).1 q2).resolve_left q4
    ·exact up j (hbX j q3)
  have h1 := (hB.one Xs (cmp G Xs) ((hB.sm Xs hXB).sep hG)).1 hXB
  exact (hB.one _ _ hs).2 h1
 have hX2B : B X2 := by
  refine hB.down _ _ hY (fun j hj => ?_) hsm2
  have hjl := bit_lt hX2l hj
  rw [or_bset, hX j hjl]
  rcases (hX2 j hjl).1 hj with ⟨u, q1, q2⟩ | q | ⟨q1, q2⟩
  ·rcases (hm0 j u q1).1 (r1.sub j u q1 q2) with q3 | q3
   ·exact .inl (.inl ⟨u, q1, q3⟩)
   ·exact .inr q3.1
  ·exact .inr q
  ·rcases (or_bset _ _ _).1 q1 with q3 | q3
   ·exact .inl (.inr (.inr ⟨q3, q2⟩))
   ·exact .inr q3
 exact ⟨r1.len, r1.sym, hst, hboth, hgl, hhl, hk, X2, hX2B, hX2l, hX2⟩
theorem most_le (G : List Nat) : ∀ (l : List S70) (s s2 : PS), playTo G l s = some s2 → s.most ≤ s2.most
 | [], s, s2, h => by cases h; exact Nat.le_refl _
 | a :: l, s, s2, h => by
  simp only [playTo] at h
  split at h
  ·cases h
  ·split at h
   ·cases h
   ·split at h
    ·cases h
    ·have := most_le G l _ _ h
     unfold stepP at this
     dsimp only at this
     omega
theorem EI.play {G : List Nat} (hG : Gr 7 G) {k : Nat} {B : Nat → Prop} (hB : Blk G k B) : ∀ (l : List S70) (s s2 : PS), EI G k B s → playTo G l s = some s2 → s2.most ≤ k → EI G k B s2
 | [], s, s2, h, hp, _ => by cases hp; exact h
 | a :: l, s, s2, h, hp, hm => by
  simp only [playTo] at hp
  split at hp
  ·cases hp
  ·rename_i h0
   split at hp
   ·cases hp
   ·rename_i h1
    split at hp
    ·cases hp
    ·have hml := most_le G l _ _ hp
     refine EI.play hG hB l _ s2 (h.step hG hB (v := a.f1.toNat) (by omega) ?_) hp hm
     unfold stepP at hml
     dsimp only at hml
     omega
theorem EI.start {G : List Nat} (hG : Gr 7 G) {k : Nat} {B : Nat → Prop} (hB : Blk G k B) : EI G k B p0 := by
 have z : ∀ j, ¬ bset 0 j := fun j h => by unfold bset at h; simp at h
 have zm : ∀ a b, ¬ X.mk p0.C a b := fun a b q => by
  unfold X.mk at q
  rw [show p0.C = List.replicate 64 false from rfl, getD_false] at q
  cases q
 refine ⟨rfl, fun a b _ q => (zm a b q).elim, fun a b z _ q => (zm a b q).elim, fun a b _ q => (z a q).elim, Nat.two_pow_pos _, Nat.two_pow_pos _, by show pc 0 9 ≤ k; rw [pc_zero]; exact Nat.zero_le _, 0, (hB.zero hG).1, Nat.two_pow_pos _, fun j hj => ⟨fun q => (z j q).elim, ?_⟩⟩
 rintro (⟨u, _, q⟩ | q | ⟨q, _⟩)
 ·exact (zm _ _ q).elim
 ·exact (z j q).elim
 ·exact (z j q).elim
theorem right_more {G : List Nat} (hG : Gr 7 G) {k : Nat} {B : Nat → Prop} (hB : Blk G k B) {l : List S70} (h : (refPlay G l).2.2 = true) : (k : Int) < (refPlay G l).1 := by
 unfold refPlay at h ⊢
 split at h
 ·cases h
 ·rename_i h100
  rw [if_neg h100]
  cases hp : playTo G l p0 with
  | none => rw [hp] at h; cases h
  | some s =>
   rw [hp] at h
   simp only [finP] at h ⊢
   split at h
   ·rename_i h3
    split at h
    ·rename_i hh
     rw [if_pos h3, if_pos hh]
     show (k : Int) < (s.most : Int)
     apply Classical.byContradiction
     intro hlt
     have hE := EI.play hG hB l p0 s (EI.start hG hB) hp (by omega)
     obtain ⟨Xs, hXB, hXl, hX⟩ := hE.inB
     have hall := (all3_iff hG s.C).1 h3
     have e : Xs = 2 ^ G.length - 1 := eq_of_bits fun j => by
      show bset Xs j ↔ bset _ j
      rw [full_bit]
      refine ⟨fun hj => bit_lt hXl hj, fun hj => (hX j hj).2 ?_⟩
      by_cases hu : ∃ u, Adj G j u
      ·obtain ⟨u, hu⟩ := hu
       exact .inl ⟨u, hu, hall j u hu⟩
      ·refine .inr (.inr ⟨by rw [hh, full_bit]; exact hj, fun u q => hu ⟨u, q⟩⟩)
     rw [e] at hXB
     exact (hB.zero hG).2 hXB
    ·cases h
   ·cases h
end Go.Proofs.YtijfddobandcdaaDoor.X
end
section
namespace Go.Proofs.YtijfddobandcdaaDoor.X
open Go.RowKit YtijfddobandcdaaDoorW.PrintWords YtijfddobandcdaaDoorW.PrintLast YtijfddobandcdaaDoorW.PrintMore
attribute [local go_sem] max2_int min2_int max_two min_two max_three min_three max_four min_four
/-! ### lampblackref03_IsBlockage: function 35 -/
mutual
def lampblackref03_IsBlockage.l0 : Nat → List Int → Int → List Int → Int → List Bool → List Int → Int → Int → Option (Bool)
 | 0, _, _, _, _, _, _, _, _ => none
 | k + 1, x0, x1, x2, x7, x8, x20, x21, x22 => if x22 < x21 then (if 0 ≤ x22 then (if x22 < (x20.length : Int) then (if (rd x20 x22) < 0 then (some false) else (if (rd x20 x22) > x7 then (some false) else (if x22 > 0 then (if 0 ≤ (wrap64 (x22 - 1)) then (if (wrap64 (x22 - 1)) < (x2.length : Int) then (if (rd x2 (wrap64 (x22 - 1))) ≥ (rd x20 x22) then (some false) else ((lampblackref03_Border.f k x0 (rd x20 x22)).bind fun t323 => ((lampblackref02_Size.f k t323).bind fun t324 => (if t324 > x1 then (some false) else (if 0 ≤ (rd x20 x22) then (if (rd x20 x22) < (x8.length : Int) then (lampblackref03_IsBlockage.l0 k x0 x1 x2 x7 (x8.set ((rd x20 x22) : Int).toNat true) x20 x21 (wrap64 (x22 + 1))) else (none)) else (none)))))) else (none)) else (none)) else ((lampblackref03_Border.f k x0 (rd x20 x22)).bind fun t326 => ((lampblackref02_Size.f k t326).bind fun t327 => (if t327 > x1 then (some false) else (if 0 ≤ (rd x20 x22) then (if (rd x20 x22) < (x8.length : Int) then (lampblackref03_IsBlockage.l0 k x0 x1 x2 x7 (x8.set ((rd x20 x22) : Int).toNat true) x20 x21 (wrap64 (x22 + 1))) else (none)) else (none)))))))) else (none)) else (none)) else (lampblackref03_IsBlockage.l1 k x0 x1 x7 x8 (wrap64 (x7 + 1)) 0)
def lampblackref03_IsBlockage.l1 : Nat → List Int → Int → Int → List Bool → Int → Int → Option (Bool)
 | 0, _, _, _, _, _, _ => none
 | k + 1, x0, x1, x7, x8, x60, x61 => if x61 < x60 then (lampblackref03_IsBlockage.l2 k x0 x1 x7 x8 x61 x60 x61 (wrap64 (x7 + 1)) 0) else (some true)
def lampblackref03_IsBlockage.l2 : Nat → List Int → Int → Int → List Bool → Int → Int → Int → Int → Int → Option (Bool)
 | 0, _, _, _, _, _, _, _, _, _ => none
 | k + 1, x0, x1, x7, x8, x11, x60, x61, x65, x66 => if x66 < x65 then (if 0 ≤ x11 then (if x11 < (x8.length : Int) then (if rdOf false x8 x11 = true then (if (Go.bits .andNot .i64 x66 x11) = 0 then ((lampblackref03_Border.f k x0 x66).bind fun t330 => ((lampblackref02_Size.f k t330).bind fun t331 => (if t331 ≤ x1 then (if 0 ≤ x66 then (if x66 < (x8.length : Int) then (lampblackref03_IsBlockage.j3 k x0 x1 x7 x8 x11 x66 x60 x61 x65 x66 (!(rdOf false x8 x66))) else (none)) else (none)) else (lampblackref03_IsBlockage.j3 k x0 x1 x7 x8 x11 x66 x60 x61 x65 x66 false)))) else (lampblackref03_IsBlockage.j3 k x0 x1 x7 x8 x11 x66 x60 x61 x65 x66 false)) else (lampblackref03_IsBlockage.j3 k x0 x1 x7 x8 x11 x66 x60 x61 x65 x66 false)) else (none)) else (none)) else (lampblackref03_IsBlockage.l1 k x0 x1 x7 x8 x60 (wrap64 (x61 + 1)))
def lampblackref03_IsBlockage.j3 : Nat → List Int → Int → Int → List Bool → Int → Int → Int → Int → Int → Int → Bool → Option (Bool)
 | 0, _, _, _, _, _, _, _, _, _, _, _ => none
 | k + 1, x0, x1, x7, x8, x11, x12, x60, x61, x65, x66, x93 => if x93 = true then (some false) else (if (Go.bits .or .i64 x11 x12) = x7 then ((lampblackref03_Border.f k x0 x11).bind fun t333 => (if (Go.bits .andNot .i64 t333 x12) = 0 then ((lampblackref02_Size.f k (Go.bits .and .i64 x11 x12)).bind fun t334 => (if t334 ≤ x1 then (if 0 ≤ x11 then (if x11 < (x8.length : Int) then (if 0 ≤ x12 then (if x12 < (x8.length : Int) then (if ((rdOf false x8 x11) == (rdOf false x8 x12)) = true then (some false) else (lampblackref03_IsBlockage.l2 k x0 x1 x7 x8 x11 x60 x61 x65 (wrap64 (x66 + 1)))) else (none)) else (none)) else (none)) else (none)) else (lampblackref03_IsBlockage.l2 k x0 x1 x7 x8 x11 x60 x61 x65 (wrap64 (x66 + 1))))) else (lampblackref03_IsBlockage.l2 k x0 x1 x7 x8 x11 x60 x61 x65 (wrap64 (x66 + 1))))) else (lampblackref03_IsBlockage.l2 k x0 x1 x7 x8 x11 x60 x61 x65 (wrap64 (x66 + 1))))
end
end Go.Proofs.YtijfddobandcdaaDoor.X
end
section
/- The reference's IsBlockage: it tells what CheckBlockage tells. -/
namespace Go.Proofs.YtijfddobandcdaaDoor.X
open Go.RowKit YtijfddobandcdaaDoorW.PrintWords YtijfddobandcdaaDoorW.PrintLast YtijfddobandcdaaDoorW.PrintMore YtijfddobandcdaaDoor.T
def ptB (G : List Nat) (k : Nat) (H : List Bool) (x y : Nat) : Bool := !(H.getD x false && decide (pc (bo G y) 9 ≤ k) && (diff y x == 0) && !H.getD y false) && !(sidesB G k x y && (H.getD x false == H.getD y false))
theorem cb2_pt (G : List Nat) (k : Nat) (H : List Bool) (x : Nat) (N : Nat) : ∀ d y, (cb2a G k H x d y && cb2b H x (othTo G k x d y)) = allFrom (ptB G k H x) N d y
 | 0, _ => rfl
 | d + 1, y => by
  have ih := cb2_pt G k H x N d (y + 1)
  rw [allFrom, ← ih]
  simp only [cb2a, othTo, ptB]
  cases hs : sidesB G k x y
  ·simp only [Bool.false_eq_true, if_false, Bool.false_and, Bool.not_false, Bool.and_true, Bool.and_assoc]
  ·simp only [if_true, cb2b, Int.toNat_natCast, Bool.true_and]
   generalize cb2a G k H x d (y + 1) = A
   generalize cb2b H x (othTo G k x d (y + 1)) = B
   generalize (!(H.getD x false && decide (pc (bo G y) 9 ≤ k) && (diff y x == 0) && !H.getD y false)) = P
   generalize (!(H.getD x false == H.getD y false)) = Q
   cases A <;> cases B <;> cases P <;> cases Q <;> rfl
theorem rdOfB (H : List Bool) (x : Nat) : rdOf false H (x : Int) = H.getD x false := by unfold rdOf; rw [Int.toNat_natCast]
end Go.Proofs.YtijfddobandcdaaDoor.X
end
section
/- What CheckBlockage accepts: the blockages of an order, as rising lists. -/
namespace Go.Proofs.YtijfddobandcdaaDoor.X
open Go.RowKit YtijfddobandcdaaDoorW.PrintWords YtijfddobandcdaaDoorW.PrintLast YtijfddobandcdaaDoorW.PrintMore YtijfddobandcdaaDoor.T
structure RL (G : List Nat) (k : Nat) (L : List Nat) : Prop where
 up : L.Pairwise (· < ·)
 sm : ∀ x ∈ L, x < 2 ^ G.length ∧ pc (bo G x) 9 ≤ k
def MarksOf (G : List Nat) (H : List Bool) (L : List Nat) : Prop := H.length = 2 ^ G.length ∧ ∀ x, x < 2 ^ G.length → H.getD x false = decide (x ∈ L)
theorem up_last {L : List Nat} (h : L.Pairwise (· < ·)) {z : Nat} (hz : L[L.length - 1]? = some z) : ∀ y ∈ L, y ≤ z := by
 intro y hy
 obtain ⟨i, hi, rfl⟩ := List.getElem_of_mem hy
 obtain ⟨hl, rfl⟩ := List.getElem?_eq_some_iff.1 hz
 by_cases e : i = L.length - 1
 ·subst e; exact Nat.le_refl _
 ·exact Nat.le_of_lt (List.pairwise_iff_getElem.1 h i (L.length - 1) hi hl (by omega))
theorem snoc_up {L : List Nat} {x : Nat} : (L ++ [x]).Pairwise (· < ·) ↔ L.Pairwise (· < ·) ∧ ∀ y ∈ L, y < x := by
 rw [List.pairwise_append]
 constructor
 ·intro ⟨h1, _, h2⟩; exact ⟨h1, fun y hy => h2 y hy x (List.mem_singleton.2 rfl)⟩
 ·intro ⟨h1, h2⟩; exact ⟨h1, List.pairwise_singleton _ _, fun y hy z hz => by rw [List.mem_singleton.1 hz]; exact h2 y hy⟩
theorem cb1_iff (G : List Nat) (k : Nat) (l : List Int) : ∀ (d i : Nat) (H : List Bool) (L : List Nat), i + d = l.length → l.take i = gi L → RL G k L → MarksOf G H L →
  (∀ H', cb1 G k l d i H = some H' → ∃ L', l = gi L' ∧ RL G k L' ∧ MarksOf G H' L') ∧ (∀ L', l = gi L' → RL G k L' → ∃ H', cb1 G k l d i H = some H' ∧ MarksOf G H' L') := by
 intro d
 have hN1 := Nat.two_pow_pos G.length
 induction d with
 | zero =>
  intro i H L hi hL hR hM
  rw [List.take_of_length_le (by omega)] at hL
  refine ⟨fun H' h => ?_, fun L' hL' _ => ?_⟩
  ·obtain rfl := Option.some.inj h
   exact ⟨L, hL, hR, hM⟩
  ·rw [hL] at hL'
   rw [← gi_inj hL']
   exact ⟨H, rfl, hM⟩
 | succ d ih =>
  intro i H L hi hL hR hM
  have hil : i < l.length := by omega
  have hLl : L.length = i := by
   have := congrArg List.length hL
   rw [gi_length, List.length_take] at this
   omega
  simp only [cb1]
  have elt : ∀ L', l = gi L' → RL G k L' → ∃ x : Nat, rd l (i : Int) = (x : Int) ∧ x < 2 ^ G.length ∧ pc (bo G x) 9 ≤ k ∧ L' = L ++ x :: L'.drop (i + 1) := by
   intro L' hL' hR'
   have hl' : i < L'.length := by rw [hL', gi_length] at hil; exact hil
   have e1 : L = L'.take i := gi_inj (by rw [← hL, hL', gi_take])
   refine ⟨L'[i], ?_, (hR'.sm _ (List.getElem_mem hl')).1, (hR'.sm _ (List.getElem_mem hl')).2, ?_⟩
   ·rw [hL', rd_gi, List.getD_eq_getElem?_getD, List.getElem?_eq_getElem hl']; rfl
   ·rw [e1, ← List.drop_eq_getElem_cons hl', List.take_append_drop]
  by_cases c0 : rd l (i : Int) < 0
  ·rw [if_pos c0]
   exact ⟨fun H' h => (by cases h), fun L' hL' hR' => (by obtain ⟨x, h1, _⟩ := elt L' hL' hR'; omega)⟩
  ·rw [if_neg c0]
   obtain ⟨x, hx⟩ := Int.eq_ofNat_of_zero_le (show 0 ≤ rd l (i : Int) by omega)
   rw [hx] at elt ⊢
   by_cases c1 : ((2 ^ G.length - 1 : Nat) : Int) < (x : Int)
   ·rw [if_pos c1]
    exact ⟨fun H' h => (by cases h), fun L' hL' hR' => (by obtain ⟨x', h1, h2, _⟩ := elt L' hL' hR'; omega)⟩
   ·rw [if_neg c1, Int.toNat_natCast]
    by_cases c2 : pc (bo G x) 9 ≤ k
    ·rw [if_pos c2]
     have hxN : x < 2 ^ G.length := by omega
     have hlast : 0 < i → ∃ z : Nat, rd l ((i - 1 : Nat) : Int) = (z : Int) ∧ L[L.length - 1]? = some z := fun h0 => by
      have h1 : i - 1 < L.length := by omega
      refine ⟨L[i - 1], ?_, by rw [hLl, List.getElem?_eq_getElem h1]⟩
      have e : (l.take i)[i - 1]? = (gi L)[i - 1]? := by rw [hL]
      rw [List.getElem?_take, if_pos (by omega)] at e
      unfold rd
      rw [Int.toNat_natCast, List.getD_eq_getElem?_getD, e]
      unfold gi
      rw [List.getElem?_map, List.getElem?_eq_getElem h1]
      rfl
     by_cases c3 : 0 < i ∧ (x : Int) ≤ rd l ((i - 1 : Nat) : Int)
     ·rw [if_pos c3]
      refine ⟨fun H' h => (by cases h), fun L' hL' hR' => ?_⟩
      obtain ⟨x', h1, _, _, h4⟩ := elt L' hL' hR'
      obtain rfl : x = x' := by omega
      obtain ⟨z, hz, hz2⟩ := hlast c3.1
      have hm : z ∈ L := List.mem_of_getElem? hz2
      have hup := hR'.up
      rw [h4, List.pairwise_append] at hup
      have := hup.2.2 z hm x List.mem_cons_self
      omega
     ·rw [if_neg c3]
      have hnew : ∀ y ∈ L, y < x := fun y hy => by
       have h0 : 0 < i := by rw [← hLl]; exact List.length_pos_of_mem hy
       obtain ⟨z, hz, hz2⟩ := hlast h0
       have := up_last hR.up hz2 y hy
       have : ¬ (x : Int) ≤ (z : Int) := fun h => c3 ⟨h0, by rw [hz]; exact h⟩
       omega
      have hR2 : RL G k (L ++ [x]) := ⟨snoc_up.2 ⟨hR.up, hnew⟩, fun y hy => by
       rcases List.mem_append.1 hy with h | h
       ·exact hR.sm y h
       ·rw [List.mem_singleton.1 h]; exact ⟨hxN, c2⟩⟩
      have hM2 : MarksOf G (H.set x true) (L ++ [x]) := ⟨by rw [List.length_set]; exact hM.1, fun y hy => by
       rw [List.getD_eq_getElem?_getD, List.getElem?_set]
       by_cases e : x = y
       ·subst e
        rw [if_pos rfl, if_pos (by rw [hM.1]; exact hxN)]
        simp
       ·rw [if_neg e]
        have := hM.2 y hy
        rw [List.getD_eq_getElem?_getD] at this
        rw [this]
        have e2 : ¬ y = x := fun h => e h.symm
        simp [e2]⟩
      refine ih (i + 1) _ _ (by omega) ?_ hR2 hM2
      exact take_snoc hL hil x hx
    ·rw [if_neg c2]
     exact ⟨fun H' h => (by cases h), fun L' hL' hR' => (by
      obtain ⟨x', h1, _, h3, _⟩ := elt L' hL' hR'
      obtain rfl : x = x' := by omega
      exact (c2 h3).elim)⟩
theorem sides_sep {G : List Nat} (hG : Gr 7 G) {k x y : Nat} (hx : x < 2 ^ G.length) (hy : y < 2 ^ G.length) : sidesB G k x y = true ↔ Sep G k x y := by
 unfold sidesB
 rw [bo_eq hG hx]
 simp only [Bool.and_eq_true, beq_iff_eq, decide_eq_true_eq]
 constructor
 ·rintro ⟨⟨h1, h2⟩, h3⟩
  refine ⟨hx, hy, fun j hj => ?_, fun j hj => ?_, h3⟩
  ·have : bset (x ||| y) j := by rw [h1, full_bit]; exact hj
   exact (or_bset _ _ _).1 this
  ·apply Classical.byContradiction
   intro hb
   have : bset (diff (bor G x) y) j := (diff_bset _ _ _).2 ⟨hj, hb⟩
   rw [h2] at this
   unfold bset at this
   simp at this
 ·intro h
  refine ⟨⟨eq_of_bits fun j => ?_, eq_of_bits fun j => ?_⟩, h.card⟩
  ·show bset _ _ ↔ bset _ _
   rw [full_bit]
   exact ⟨fun hb => bit_lt (or_lt hx hy) hb, fun hj => (or_bset _ _ _).2 (h.all j hj)⟩
  ·show bset _ _ ↔ bset _ _
   exact ⟨fun hb => by
    obtain ⟨q1, q2⟩ := (diff_bset _ _ _).1 hb
    exact (q2 (h.bor j q1)).elim, fun hb => by unfold bset at hb; simp at hb⟩
theorem sub_diff {x y : Nat} : diff y x = 0 ↔ Sub y x := by
 constructor
 ·intro h j hj
  apply Classical.byContradiction
  intro hb
  have : bset (diff y x) j := (diff_bset _ _ _).2 ⟨hj, hb⟩
  rw [h] at this
  unfold bset at this
  simp at this
 ·intro h
  exact eq_of_bits fun j => ⟨fun hb => by
   obtain ⟨q1, q2⟩ := (diff_bset y x j).1 hb
   exact (q2 (h j q1)).elim, fun hb => by simp at hb⟩
theorem cb2_iff {G : List Nat} (k : Nat) (H : List Bool) (N : Nat) (hN : 2 ^ G.length = N) : ∀ d x, x + d = N → (cb2 G k H d x = true ↔ ∀ z y, x ≤ z → z < N → y < N → ptB G k H z y = true)
 | 0, x, hx => ⟨fun _ z y h1 h2 _ => by omega, fun _ => rfl⟩
 | d + 1, x, hx => by
  simp only [cb2]
  rw [hN, cb2_pt G k H x N, Bool.and_eq_true, allFrom_iff, cb2_iff k H N hN d (x + 1) (by omega)]
  constructor
  ·rintro ⟨h1, h2⟩ z y h3 h4 h5
   by_cases e : z = x
   ·subst e; exact h1 y (by omega) (by omega)
   ·exact h2 z y (by omega) h4 h5
  ·intro h
   exact ⟨fun y h1 h2 => h x y (Nat.le_refl _) (by omega) (by omega), fun z y h1 h2 h3 => h z y (by omega) h2 h3⟩
theorem cbR_iff {G : List Nat} (hG : Gr 7 G) (k : Nat) (l : List Int) : (cbR G k l).1 = true ↔ ∃ L, l = gi L ∧ RL G k L ∧ Blk G k (fun x => x ∈ L) := by
 obtain ⟨h1, h2⟩ := cb1_iff G k l l.length 0 (List.replicate (2 ^ G.length) false) [] (by omega) (by simp [gi]) ⟨List.Pairwise.nil, fun x hx => by simp at hx⟩ ⟨by simp, fun x hx => by rw [List.getD_eq_getElem?_getD, List.getElem?_replicate, if_pos hx]; simp⟩
 have key : ∀ (H : List Bool) (L : List Nat), RL G k L → MarksOf G H L → (cb2 G k H (2 ^ G.length) 0 = true ↔ Blk G k (fun x => x ∈ L)) := by
  intro H L hR hM
  rw [cb2_iff k H (2 ^ G.length) rfl (2 ^ G.length) 0 (by omega)]
  have pt : ∀ x y, x < 2 ^ G.length → y < 2 ^ G.length → (ptB G k H x y = true ↔ (x ∈ L → pc (bor G y) 9 ≤ k → Sub y x → y ∈ L) ∧ (Sep G k x y → ¬ (x ∈ L ↔ y ∈ L))) := by
   intro x y hx hy
   unfold ptB
   rw [hM.2 x hx, hM.2 y hy, bo_eq hG hy]
   simp only [Bool.and_eq_true, Bool.not_eq_true', Bool.and_eq_false_iff, decide_eq_false_iff_not, Bool.not_eq_false', decide_eq_true_eq, beq_eq_false_iff_ne, ne_eq, sub_diff]
   refine and_congr ⟨fun h a b c => ?_, fun h => ?_⟩ ⟨fun h a b => ?_, fun h => ?_⟩
   ·rcases h with ((h | h) | h) | h
    ·exact (h a).elim
    ·exact (h b).elim
    ·exact (h c).elim
    ·exact h
   ·by_cases a : x ∈ L
    ·by_cases b : pc (bor G y) 9 ≤ k
     ·by_cases c : Sub y x
      ·exact .inr (h a b c)
      ·exact .inl (.inr c)
     ·exact .inl (.inl (.inr b))
    ·exact .inl (.inl (.inl a))
   ·rcases h with h | h
    ·rw [(sides_sep hG hx hy).2 a] at h; cases h
    ·exact h (by rw [decide_eq_decide]; exact b)
   ·by_cases a : Sep G k x y
    ·exact .inr fun e => h a (by rwa [decide_eq_decide] at e)
    ·refine .inl ?_
     cases hs : sidesB G k x y
     ·rfl
     ·exact (a ((sides_sep hG hx hy).1 hs)).elim
  constructor
  ·intro h
   refine ⟨fun X hX => ⟨(hR.sm X hX).1, by have := (hR.sm X hX).2; rwa [bo_eq hG (hR.sm X hX).1] at this⟩, fun X Y hX hs hm => ((pt X Y (hR.sm X hX).1 hm.1).1 (h X Y (Nat.zero_le _) (hR.sm X hX).1 hm.1)).1 hX hm.2 hs, fun X Y hs => ?_⟩
   have := ((pt X Y hs.la hs.lb).1 (h X Y (Nat.zero_le _) hs.la hs.lb)).2 hs
   by_cases hX : X ∈ L
   ·exact ⟨fun _ hY => this ⟨fun _ => hY, fun _ => hX⟩, fun _ => hX⟩
   ·exact ⟨fun h => (hX h).elim, fun hY => (this ⟨fun h => (hX h).elim, fun h => (hY h).elim⟩).elim⟩
  ·intro h z y _ hz hy
   exact (pt z y hz hy).2 ⟨fun a b c => h.down z y a c ⟨hy, b⟩, fun hs hiff => by
    have := h.one z y hs
    by_cases hz : z ∈ L
    ·exact this.1 hz (hiff.1 hz)
    ·exact hz (this.2 fun hy => hz (hiff.2 hy))⟩
 unfold cbR
 constructor
 ·intro h
  cases hc : cb1 G k l l.length 0 (List.replicate (2 ^ G.length) false) with
  | none => rw [hc] at h; cases h
  | some H =>
   rw [hc] at h
   obtain ⟨L, q1, q2, q3⟩ := h1 H hc
   exact ⟨L, q1, q2, (key H L q2 q3).1 h⟩
 ·rintro ⟨L, q1, q2, q3⟩
  obtain ⟨H, q4, q5⟩ := h2 L q1 q2
  rw [q4]
  exact (key H L q2 q5).2 q3
end Go.Proofs.YtijfddobandcdaaDoor.X
end
section
/- decide, without Go and memory: its rounds in short. -/
namespace Go.Proofs.YtijfddobandcdaaDoor.Pure
open Go.RowKit YtijfddobandcdaaDoorW.PrintWords YtijfddobandcdaaDoorW.PrintLast YtijfddobandcdaaDoorW.PrintMore YtijfddobandcdaaDoor.T YtijfddobandcdaaDoor.X
def imp (BS : List Bool) (c : Int) (x y : Nat) : Bool := BS.getD y false && ((c == 1 && diff y x == 0) || (c == 2 && diff x y == 0))
theorem l0_eq (k : Nat) (st : List Int) (x y N : Nat) (c : Int) (S0 : List Int) (kk : Int) (BS : List Bool) (LS : List (List Int)) (hB : BS.length = N) (hN : N ≤ 128) (hL : LS.length = N) (hx : x < N) (hc : c = 1 ∨ c = 2) :
  sweep_family_decide.l0 (k + 1) st (x : Int) c BS (N : Int) (y : Int) S0 kk BS LS =
   if y < N then (if imp BS c x y = true then (sweep_family_decide.f k S0 kk BS LS st (y : Int) c).bind fun b => if b.1 = true then sweep_family_decide.l0 k b.2.2 (x : Int) c BS (N : Int) ((y + 1 : Nat) : Int) S0 b.2.1 BS LS else some (false, b.2.1, b.2.2)
    else sweep_family_decide.l0 k st (x : Int) c BS (N : Int) ((y + 1 : Nat) : Int) S0 kk BS LS)
   else sweep_family_decide.l1 k st c (rd_L4 LS (x : Int)) ((rd_L4 LS (x : Int)).length : Int) 0 S0 kk BS LS := by
 rw [sweep_family_decide.l0]
 by_cases hy : y < N
 ·have h1 : ((y : Int) < (N : Int)) := by omega
  have hw : wrap64 ((y : Int) + 1) = ((y + 1 : Nat) : Int) := by rw [w64_small _ (by omega) (by omega)]; omega
  have hb1 := b_andNot y x (by omega) (by omega)
  have hb2 := b_andNot x y (by omega) (by omega)
  rw [if_pos h1, if_pos (by omega), if_pos (by rw [hB]; exact h1), if_pos hy, hw, hb1, hb2, rdOfB]
  unfold imp
  generalize BS.getD y false = b
  rcases hc with rfl | rfl
  ·cases b
   ·simp
   ·by_cases h : diff y x = 0
    ·simp [h]
    ·simp [h]
  ·cases b
   ·simp
   ·by_cases h : diff x y = 0
    ·simp [h]
    ·simp [h]
 ·rw [if_neg (by omega), if_neg hy, if_pos (by omega), if_pos (by rw [hL]; omega)]
def Ag (N : Nat) (T : Nat → Int) (st : List Int) : Prop := st.length = N ∧ ∀ y, y < N → rd st (y : Int) = 0 ∨ rd st (y : Int) = T y
theorem Ag.set {N : Nat} {T : Nat → Int} {st : List Int} (h : Ag N T st) (x : Nat) (hx : x < N) : Ag N T (st.set x (T x)) := by
 refine ⟨by rw [List.length_set]; exact h.1, fun y hy => ?_⟩
 by_cases e : y = x
 ·subst e
  right
  unfold rd
  simp [List.getD_eq_getElem?_getD, h.1, hx]
 ·have : rd (st.set x (T x)) (y : Int) = rd st (y : Int) := by
   unfold rd
   simp only [Int.toNat_natCast, List.getD_eq_getElem?_getD]
   rw [List.getElem?_set_ne (by omega)]
  rw [this]
  exact h.2 y hy
theorem dec_T {N : Nat} {BS : List Bool} {LS : List (List Int)} {S0 : List Int} {T : Nat → Int} (hB : BS.length = N) (hN : N ≤ 128) (hL : LS.length = N) (hTv : ∀ x, x < N → T x = 1 ∨ T x = 2)
  (hT1 : ∀ x y, x < N → y < N → imp BS (T x) x y = true → T y = T x) (hT3 : ∀ x, x < N → (rd_L4 LS (x : Int)).length ≤ 1000) (hT2 : ∀ x, x < N → ∀ z ∈ rd_L4 LS (x : Int), ∃ n : Nat, n < N ∧ z = (n : Int) ∧ T n = 3 - T x) : ∀ F : Nat,
  (∀ st x kk r, x < N → Ag N T st → sweep_family_decide.f F S0 kk BS LS st (x : Int) (T x) = some r → r.1 = true ∧ Ag N T r.2.2) ∧
  (∀ (st : List Int) (x y : Nat) kk r, x < N → Ag N T st → sweep_family_decide.l0 F st (x : Int) (T x) BS (N : Int) (y : Int) S0 kk BS LS = some r → r.1 = true ∧ Ag N T r.2.2) ∧
  (∀ st c (L : List Int) (i : Nat) kk r, (c = 1 ∨ c = 2) → L.length ≤ 1000 → (∀ z ∈ L, ∃ n : Nat, n < N ∧ z = (n : Int) ∧ T n = 3 - c) → Ag N T st → sweep_family_decide.l1 F st c L (L.length : Int) (i : Int) S0 kk BS LS = some r → r.1 = true ∧ Ag N T r.2.2)
 | 0 => ⟨fun _ _ _ _ _ _ h => by simp [sweep_family_decide.f] at h, fun _ _ _ _ _ _ _ h => by simp [sweep_family_decide.l0] at h, fun _ _ _ _ _ _ _ _ _ _ h => by simp [sweep_family_decide.l1] at h⟩
 | F + 1 => by
  obtain ⟨ih0, ih1, ih2⟩ := dec_T hB hN hL hTv hT1 hT3 hT2 F
  refine ⟨?_, ?_, ?_⟩
  ·intro st x kk r hx hA h
   rw [sweep_family_decide.f, if_pos (by omega), if_pos (by rw [hA.1]; omega)] at h
   by_cases h0 : rd st (x : Int) = 0
   ·rw [if_pos h0, Int.toNat_natCast, hB] at h
    exact ih1 _ x 0 kk r hx (hA.set x hx) h
   ·rw [if_neg h0] at h
    cases h
    exact ⟨beq_iff_eq.mpr ((hA.2 x hx).resolve_left h0), hA⟩
  ·intro st x y kk r hx hA h
   rw [l0_eq F st x y N (T x) S0 kk BS LS hB hN hL hx (hTv x hx)] at h
   split at h
   ·rename_i hy
    split at h
    ·rename_i hi
     obtain ⟨b, hb, h⟩ := Option.bind_eq_some_iff.mp h
     rw [← hT1 x y hx hy hi] at hb
     obtain ⟨h1, h2⟩ := ih0 st y kk b hy hA hb
     rw [if_pos h1] at h
     exact ih1 _ x (y + 1) _ r hx h2 h
    ·exact ih1 _ x (y + 1) _ r hx hA h
   ·exact ih2 st (T x) _ 0 kk r (hTv x hx) (hT3 x hx) (hT2 x hx) hA h
  ·intro st c L i kk r hc hl hz hA h
   rw [sweep_family_decide.l1] at h
   by_cases hi : i < L.length
   ·rw [if_pos (by omega), if_pos (by omega), if_pos (by omega)] at h
    have hw : wrap64 ((i : Int) + 1) = ((i + 1 : Nat) : Int) := by rw [w64_small _ (by omega) (by omega)]; omega
    have hm : rd L (i : Int) ∈ L := by
     unfold rd
     rw [Int.toNat_natCast, List.getD_eq_getElem?_getD, List.getElem?_eq_getElem hi]
     exact List.getElem_mem hi
    obtain ⟨n, hn, hz1, hz2⟩ := hz _ hm
    have hv : IntKind.i8.wrap (3 - c) = T n := by
     rw [hz2]
     rcases hc with rfl | rfl <;> rfl
    rw [hz1, hv, hw] at h
    obtain ⟨b, hb, h⟩ := Option.bind_eq_some_iff.mp h
    obtain ⟨h1, h2⟩ := ih0 st n kk b hn hA hb
    rw [if_pos h1] at h
    exact ih2 _ c L (i + 1) _ r hc hl hz h2 h
   ·rw [if_neg (by omega)] at h
    cases h
    exact ⟨rfl, hA⟩
theorem tailC_some {g : Int → Option (Option (List Int))} {c : Int} {cs : List Int} {o : Option (List Int)} (h : tailC g (c :: cs) = some o) : ∃ o1, g c = some o1 ∧ ((∃ d, o1 = some d ∧ o = some d) ∨ (o1 = none ∧ tailC g cs = some o)) := by
 simp only [tailC] at h
 obtain ⟨o1, h1, h2⟩ := Option.bind_eq_some_iff.mp h
 refine ⟨o1, h1, ?_⟩
 cases o1 with
 | none => exact .inr ⟨rfl, h2⟩
 | some d => exact .inl ⟨d, rfl, (Option.some.inj h2).symm⟩
theorem chF_T {N : Nat} {BS : List Bool} {LS : List (List Int)} {S0 : List Int} {T : Nat → Int} (hB : BS.length = N) (hN : N ≤ 128) (hL : LS.length = N) (hTv : ∀ x, x < N → T x = 1 ∨ T x = 2)
  (hT1 : ∀ x y, x < N → y < N → imp BS (T x) x y = true → T y = T x) (hT3 : ∀ x, x < N → (rd_L4 LS (x : Int)).length ≤ 1000) (hT2 : ∀ x, x < N → ∀ z ∈ rd_L4 LS (x : Int), ∃ n : Nat, n < N ∧ z = (n : Int) ∧ T n = 3 - T x) (kd : Nat) (kk : Int) :
  ∀ (m : Nat) (st : List Int) (o : Option (List Int)), Ag N T st → chF kd S0 kk BS LS m st = some o → o ≠ none
 | 0, _, _, _, h => by cases h
 | m + 1, st, o, hA, h => by
  simp only [chF] at h
  rw [hB] at h
  have hp := pk_lt BS st N 0 (-1) (by omega) (by omega)
  rw [Nat.zero_add] at hp
  generalize pk BS st N 0 (-1) = X at *
  by_cases hX : X < 0
  ·rw [if_pos hX] at h
   cases h
   exact fun e => by cases e
  ·rw [if_neg hX] at h
   obtain ⟨x, rfl⟩ := Int.eq_ofNat_of_zero_le (show 0 ≤ X by omega)
   have hx : x < N := by omega
   have good : ∀ o1, tryC kd S0 kk BS LS (chF kd S0 kk BS LS m) st (x : Int) (T x) = some o1 → o1 ≠ none := fun o1 h1 => by
    unfold tryC at h1
    obtain ⟨r, hr, h1⟩ := Option.bind_eq_some_iff.mp h1
    obtain ⟨q1, q2⟩ := (dec_T hB hN hL hTv hT1 hT3 hT2 kd).1 st x kk r hx hA hr
    rw [if_pos q1] at h1
    exact chF_T hB hN hL hTv hT1 hT3 hT2 kd kk m _ _ q2 h1
   obtain ⟨o1, h1, hcase⟩ := tailC_some h
   rcases hcase with ⟨d, _, rfl⟩ | ⟨rfl, h⟩
   ·exact fun e => by cases e
   ·rcases hTv x hx with e1 | e2
    ·rw [← e1] at h1
     exact absurd rfl (good _ h1)
    ·obtain ⟨o2, h2, hcase2⟩ := tailC_some h
     rcases hcase2 with ⟨d, _, rfl⟩ | ⟨rfl, h⟩
     ·exact fun e => by cases e
     ·rw [← e2] at h2
      exact absurd rfl (good _ h2)
end Go.Proofs.YtijfddobandcdaaDoor.Pure
end
section
/- decide: what it sets is closed (sound). -/
namespace Go.Proofs.YtijfddobandcdaaDoor.Pure
open Go.RowKit YtijfddobandcdaaDoorW.PrintWords YtijfddobandcdaaDoorW.PrintLast YtijfddobandcdaaDoorW.PrintMore YtijfddobandcdaaDoor.T YtijfddobandcdaaDoor.X
def Cl (N : Nat) (BS : List Bool) (LS : List (List Int)) (st : List Int) (x : Nat) (c : Int) : Prop := (∀ y, y < N → imp BS c x y = true → rd st (y : Int) = c) ∧ ∀ z ∈ rd_L4 LS (x : Int), rd st z = 3 - c
structure Step (N : Nat) (BS : List Bool) (LS : List (List Int)) (st st' : List Int) : Prop where
 len : st'.length = st.length
 ext : ∀ z : Int, rd st z ≠ 0 → rd st' z = rd st z
 new : ∀ y, y < N → rd st (y : Int) = 0 → rd st' (y : Int) ≠ 0 → (rd st' (y : Int) = 1 ∨ rd st' (y : Int) = 2) ∧ Cl N BS LS st' y (rd st' (y : Int))
theorem Step.refl (N : Nat) (BS : List Bool) (LS : List (List Int)) (st : List Int) : Step N BS LS st st := ⟨rfl, fun _ _ => rfl, fun y _ h h' => absurd h h'⟩
theorem Cl.ext {N : Nat} {BS : List Bool} {LS : List (List Int)} {st st' : List Int} {x : Nat} {c : Int} (h : Cl N BS LS st x c) (hc : c = 1 ∨ c = 2) (he : ∀ z : Int, rd st z ≠ 0 → rd st' z = rd st z) : Cl N BS LS st' x c := by
 refine ⟨fun y hy hi => ?_, fun z hz => ?_⟩
 ·have := h.1 y hy hi
  rw [he _ (by omega), this]
 ·have := h.2 z hz
  rw [he _ (by omega), this]
theorem Step.trans {N : Nat} {BS : List Bool} {LS : List (List Int)} {a b c : List Int} (h : Step N BS LS a b) (h2 : Step N BS LS b c) : Step N BS LS a c := by
 refine ⟨h2.len.trans h.len, fun z hz => ?_, fun y hy h0 h1 => ?_⟩
 ·have := h.ext z hz
  rw [h2.ext z (by rw [this]; exact hz), this]
 ·by_cases hb : rd b (y : Int) = 0
  ·exact h2.new y hy hb h1
  ·obtain ⟨p, q⟩ := h.new y hy h0 hb
   rw [h2.ext _ hb]
   exact ⟨p, q.ext p h2.ext⟩
theorem rd_set (st : List Int) (x : Nat) (c z : Int) (hx : x < st.length) : rd (st.set x c) z = if z.toNat = x then c else rd st z := by
 unfold rd
 simp only [List.getD_eq_getElem?_getD]
 by_cases h : z.toNat = x
 ·rw [if_pos h, h]
  simp [hx]
 ·rw [if_neg h, List.getElem?_set_ne (by omega)]
theorem dec_S {N : Nat} {BS : List Bool} {LS : List (List Int)} {S0 : List Int} (hB : BS.length = N) (hN : N ≤ 128) (hL : LS.length = N)
  (hT3 : ∀ x, x < N → (rd_L4 LS (x : Int)).length ≤ 1000) (hT2 : ∀ x, x < N → ∀ z ∈ rd_L4 LS (x : Int), ∃ n : Nat, n < N ∧ z = (n : Int)) : ∀ F : Nat,
  (∀ st (x : Nat) c kk r, x < N → st.length = N → (c = 1 ∨ c = 2) → sweep_family_decide.f F S0 kk BS LS st (x : Int) c = some r → r.1 = true → Step N BS LS st r.2.2 ∧ rd r.2.2 (x : Int) = c) ∧
  (∀ (st : List Int) (x y : Nat) c kk r, x < N → st.length = N → (c = 1 ∨ c = 2) → sweep_family_decide.l0 F st (x : Int) c BS (N : Int) (y : Int) S0 kk BS LS = some r → r.1 = true → Step N BS LS st r.2.2 ∧ (∀ y', y ≤ y' → y' < N → imp BS c x y' = true → rd r.2.2 (y' : Int) = c) ∧ ∀ z ∈ rd_L4 LS (x : Int), rd r.2.2 z = 3 - c) ∧
  (∀ st c (L : List Int) (i : Nat) kk r, st.length = N → (c = 1 ∨ c = 2) → L.length ≤ 1000 → (∀ z ∈ L, ∃ n : Nat, n < N ∧ z = (n : Int)) → sweep_family_decide.l1 F st c L (L.length : Int) (i : Int) S0 kk BS LS = some r → r.1 = true → Step N BS LS st r.2.2 ∧ ∀ j : Nat, i ≤ j → j < L.length → rd r.2.2 (rd L (j : Int)) = 3 - c)
 | 0 => ⟨fun _ _ _ _ _ _ _ _ h => by simp [sweep_family_decide.f] at h, fun _ _ _ _ _ _ _ _ _ h => by simp [sweep_family_decide.l0] at h, fun _ _ _ _ _ _ _ _ _ _ h => by simp [sweep_family_decide.l1] at h⟩
 | F + 1 => by
  obtain ⟨ih0, ih1, ih2⟩ := dec_S (S0 := S0) hB hN hL hT3 hT2 F
  refine ⟨?_, ?_, ?_⟩
  ·intro st x c kk r hx hl hc h hr
   rw [sweep_family_decide.f, if_pos (by omega), if_pos (by rw [hl]; omega)] at h
   by_cases h0 : rd st (x : Int) = 0
   ·rw [if_pos h0, Int.toNat_natCast, hB] at h
    obtain ⟨S1, a, b⟩ := ih1 _ x 0 c kk r hx (by rw [List.length_set]; exact hl) hc h hr
    have hs := fun z => rd_set st x c z (by omega)
    have hxc : rd r.2.2 (x : Int) = c := by
     have e := hs (x : Int)
     rw [if_pos (Int.toNat_natCast x)] at e
     rw [S1.ext _ (by rw [e]; omega), e]
    refine ⟨⟨by rw [S1.len, List.length_set], fun z hz => ?_, fun y hy y0 y1 => ?_⟩, hxc⟩
    ·have e := hs z
     by_cases hzx : z.toNat = x
     ·exfalso
      apply hz
      unfold rd at h0 ⊢
      rw [hzx]
      rwa [Int.toNat_natCast] at h0
     ·rw [if_neg hzx] at e
      rw [S1.ext z (by rw [e]; exact hz), e]
    ·by_cases e : y = x
     ·subst e
      rw [hxc]
      exact ⟨hc, fun y' hy' hi => a y' (by omega) hy' hi, b⟩
     ·have e' := hs (y : Int)
      rw [if_neg (by rw [Int.toNat_natCast]; exact e)] at e'
      exact S1.new y hy (by rw [e']; exact y0) y1
   ·rw [if_neg h0] at h
    cases h
    exact ⟨Step.refl _ _ _ _, beq_iff_eq.mp hr⟩
  ·intro st x y c kk r hx hl hc h hr
   rw [l0_eq F st x y N c S0 kk BS LS hB hN hL hx hc] at h
   split at h
   ·rename_i hy
    split at h
    ·rename_i hi
     obtain ⟨b, hb, h⟩ := Option.bind_eq_some_iff.mp h
     by_cases h1 : b.1 = true
     ·rw [if_pos h1] at h
      obtain ⟨S1, q1⟩ := ih0 st y c kk b hy hl hc hb h1
      obtain ⟨S2, a2, b2⟩ := ih1 _ x (y + 1) c _ r hx (S1.len.trans hl) hc h hr
      refine ⟨S1.trans S2, fun y' h1 h2 h3 => ?_, b2⟩
      by_cases e : y' = y
      ·subst e
       rw [S2.ext _ (by rw [q1]; omega), q1]
      ·exact a2 y' (by omega) h2 h3
     ·rw [if_neg h1] at h
      cases h
      cases hr
    ·rename_i hi
     obtain ⟨S2, a2, b2⟩ := ih1 st x (y + 1) c _ r hx hl hc h hr
     refine ⟨S2, fun y' h1 h2 h3 => ?_, b2⟩
     by_cases e : y' = y
     ·subst e
      exact absurd h3 hi
     ·exact a2 y' (by omega) h2 h3
   ·rename_i hy
    obtain ⟨S2, a2⟩ := ih2 st c _ 0 kk r hl hc (hT3 x hx) (hT2 x hx) h hr
    refine ⟨S2, fun y' h1 h2 => by omega, fun z hz => ?_⟩
    obtain ⟨j, hj, e⟩ := List.mem_iff_getElem.mp hz
    have := a2 j (by omega) hj
    unfold rd at this ⊢
    rw [Int.toNat_natCast, List.getD_eq_getElem?_getD (l := rd_L4 LS (x : Int)), List.getElem?_eq_getElem hj] at this
    rw [← e]
    exact this
  ·intro st c L i kk r hl hc hle hz h hr
   rw [sweep_family_decide.l1] at h
   by_cases hi : i < L.length
   ·rw [if_pos (by omega), if_pos (by omega), if_pos (by omega)] at h
    have hw : wrap64 ((i : Int) + 1) = ((i + 1 : Nat) : Int) := by rw [w64_small _ (by omega) (by omega)]; omega
    have hm : rd L (i : Int) ∈ L := by
     unfold rd
     rw [Int.toNat_natCast, List.getD_eq_getElem?_getD, List.getElem?_eq_getElem hi]
     exact List.getElem_mem hi
    obtain ⟨n, hn, hz1⟩ := hz _ hm
    have hv : IntKind.i8.wrap (3 - c) = 3 - c := by rcases hc with rfl | rfl <;> rfl
    rw [hz1, hv, hw] at h
    obtain ⟨b, hb, h⟩ := Option.bind_eq_some_iff.mp h
    by_cases h1 : b.1 = true
    ·rw [if_pos h1] at h
     obtain ⟨S1, q1⟩ := ih0 st n (3 - c) kk b hn hl (by omega) hb h1
     obtain ⟨S2, a2⟩ := ih2 _ c L (i + 1) _ r (S1.len.trans hl) hc hle hz h hr
     refine ⟨S1.trans S2, fun j j1 j2 => ?_⟩
     by_cases e : j = i
     ·subst e
      rw [hz1, S2.ext _ (by rw [q1]; omega), q1]
     ·exact a2 j (by omega) j2
    ·rw [if_neg h1] at h
     cases h
     cases hr
   ·rw [if_neg (by omega)] at h
    cases h
    exact ⟨Step.refl _ _ _ _, fun j j1 j2 => by omega⟩
theorem pk_neg (BS : List Bool) (st : List Int) : ∀ (d y : Nat) (x : Int), pk BS st d y x < 0 → x < 0 ∧ ∀ y', y ≤ y' → y' < y + d → BS.getD y' false = true → rd st (y' : Int) ≠ 0
 | 0, y, x, h => ⟨h, fun y' h1 h2 => by omega⟩
 | d + 1, y, x, h => by
  simp only [pk] at h
  obtain ⟨h1, h2⟩ := pk_neg BS st d (y + 1) _ h
  split at h1
  ·omega
  ·rename_i hn
   refine ⟨h1, fun y' q1 q2 q3 q4 => ?_⟩
   by_cases e : y' = y
   ·subst e
    apply hn
    rw [q3, q4]; simp [h1]
   ·exact h2 y' (by omega) (by omega) q3 q4
theorem chF_S {N : Nat} {BS : List Bool} {LS : List (List Int)} {S0 : List Int} (hB : BS.length = N) (hN : N ≤ 128) (hL : LS.length = N)
  (hT3 : ∀ x, x < N → (rd_L4 LS (x : Int)).length ≤ 1000) (hT2 : ∀ x, x < N → ∀ z ∈ rd_L4 LS (x : Int), ∃ n : Nat, n < N ∧ z = (n : Int)) (kd : Nat) (kk : Int) :
  ∀ (m : Nat) (st d : List Int), st.length = N → chF kd S0 kk BS LS m st = some (some d) → Step N BS LS st d ∧ ∀ y, y < N → BS.getD y false = true → rd d (y : Int) ≠ 0
 | 0, _, _, _, h => by cases h
 | m + 1, st, d, hl, h => by
  simp only [chF] at h
  rw [hB] at h
  have hp := pk_lt BS st N 0 (-1) (by omega) (by omega)
  have hq := pk_neg BS st N 0 (-1)
  rw [Nat.zero_add] at hp
  generalize pk BS st N 0 (-1) = X at *
  by_cases hX : X < 0
  ·rw [if_pos hX] at h
   cases h
   exact ⟨Step.refl _ _ _ _, fun y hy hb => (hq hX).2 y (by omega) (by omega) hb⟩
  ·rw [if_neg hX] at h
   obtain ⟨x, rfl⟩ := Int.eq_ofNat_of_zero_le (show 0 ≤ X by omega)
   have hx : x < N := by omega
   have good : ∀ c, (c = 1 ∨ c = 2) → tryC kd S0 kk BS LS (chF kd S0 kk BS LS m) st (x : Int) c = some (some d) → Step N BS LS st d ∧ ∀ y, y < N → BS.getD y false = true → rd d (y : Int) ≠ 0 := fun c hc h1 => by
    unfold tryC at h1
    obtain ⟨r, hr, h1⟩ := Option.bind_eq_some_iff.mp h1
    by_cases q : r.1 = true
    ·rw [if_pos q] at h1
     obtain ⟨S1, _⟩ := (dec_S hB hN hL hT3 hT2 kd).1 st x c kk r hx hl hc hr q
     obtain ⟨S2, a2⟩ := chF_S hB hN hL hT3 hT2 kd kk m _ d (S1.len.trans hl) h1
     exact ⟨S1.trans S2, a2⟩
    ·rw [if_neg q] at h1
     cases h1
   obtain ⟨o1, h1, hcase⟩ := tailC_some h
   rcases hcase with ⟨d', rfl, e⟩ | ⟨rfl, h⟩
   ·cases e
    exact good 1 (.inl rfl) h1
   ·obtain ⟨o2, h2, hcase2⟩ := tailC_some h
    rcases hcase2 with ⟨d', rfl, e⟩ | ⟨rfl, h⟩
    ·cases e
     exact good 2 (.inr rfl) h2
    ·cases h
end Go.Proofs.YtijfddobandcdaaDoor.Pure
end
section
/- decide ends: enough fuel. -/
namespace Go.Proofs.YtijfddobandcdaaDoor.Pure
open Go.RowKit YtijfddobandcdaaDoorW.PrintWords YtijfddobandcdaaDoorW.PrintLast YtijfddobandcdaaDoorW.PrintMore YtijfddobandcdaaDoor.T YtijfddobandcdaaDoor.X
def zs : List Int → Nat
 | [] => 0
 | c :: cs => (if c = 0 then 1 else 0) + zs cs
theorem zs_set : ∀ (st : List Int) (x : Nat) (c : Int), c ≠ 0 → x < st.length → rd st (x : Int) = 0 → zs (st.set x c) + 1 = zs st
 | [], _, _, _, h, _ => by simp at h
 | a :: st, 0, c, hc, _, h => by
  have : a = 0 := by simpa [rd] using h
  simp [zs, this, hc]
  omega
 | a :: st, x + 1, c, hc, h, h0 => by
  have := zs_set st x c hc (by simpa using h) (by simpa [rd] using h0)
  simp only [List.set_cons_succ, zs]
  omega
def Ok3 (N : Nat) (st : List Int) (o : Option (Bool × Int × List Int)) : Prop := ∃ r, o = some r ∧ r.2.2.length = N ∧ zs r.2.2 ≤ zs st
theorem dec_F {N : Nat} {BS : List Bool} {LS : List (List Int)} {S0 : List Int} (hB : BS.length = N) (hN : N ≤ 128) (hL : LS.length = N)
  (hT3 : ∀ x, x < N → (rd_L4 LS (x : Int)).length ≤ 1000) (hT2 : ∀ x, x < N → ∀ z ∈ rd_L4 LS (x : Int), ∃ n : Nat, n < N ∧ z = (n : Int)) : ∀ F : Nat,
  (∀ st (x : Nat) c kk, x < N → st.length = N → (c = 1 ∨ c = 2) → 2000 * (zs st + 1) ≤ F → Ok3 N st (sweep_family_decide.f F S0 kk BS LS st (x : Int) c)) ∧
  (∀ (st : List Int) (x y : Nat) c kk, x < N → st.length = N → (c = 1 ∨ c = 2) → 2000 * (zs st + 1) + (N - y) + 1002 ≤ F → Ok3 N st (sweep_family_decide.l0 F st (x : Int) c BS (N : Int) (y : Int) S0 kk BS LS)) ∧
  (∀ st c (L : List Int) (i : Nat) kk, st.length = N → (c = 1 ∨ c = 2) → L.length ≤ 1000 → (∀ z ∈ L, ∃ n : Nat, n < N ∧ z = (n : Int)) → 2000 * (zs st + 1) + (L.length - i) + 1 ≤ F → Ok3 N st (sweep_family_decide.l1 F st c L (L.length : Int) (i : Int) S0 kk BS LS))
 | 0 => ⟨fun _ _ _ _ _ _ _ h => by omega, fun _ _ _ _ _ _ _ _ h => by omega, fun _ _ _ _ _ _ _ _ _ h => by omega⟩
 | F + 1 => by
  obtain ⟨ih0, ih1, ih2⟩ := dec_F (S0 := S0) hB hN hL hT3 hT2 F
  refine ⟨?_, ?_, ?_⟩
  ·intro st x c kk hx hl hc hF
   rw [sweep_family_decide.f, if_pos (by omega), if_pos (by rw [hl]; omega)]
   by_cases h0 : rd st (x : Int) = 0
   ·rw [if_pos h0, Int.toNat_natCast, hB]
    have hz := zs_set st x c (by omega) (by omega) h0
    obtain ⟨r, e, h1, h2⟩ := ih1 (st.set x c) x 0 c kk hx (by rw [List.length_set]; exact hl) hc (by omega)
    exact ⟨r, e, h1, by omega⟩
   ·rw [if_neg h0]
    exact ⟨_, rfl, hl, Nat.le_refl _⟩
  ·intro st x y c kk hx hl hc hF
   rw [l0_eq F st x y N c S0 kk BS LS hB hN hL hx hc]
   split
   ·rename_i hy
    split
    ·obtain ⟨b, e, h1, h2⟩ := ih0 st y c kk hy hl hc (by omega)
     rw [e, Option.bind_some]
     split
     ·obtain ⟨r, e2, h3, h4⟩ := ih1 b.2.2 x (y + 1) c b.2.1 hx h1 hc (by omega)
      exact ⟨r, e2, h3, by omega⟩
     ·exact ⟨_, rfl, h1, h2⟩
    ·exact ih1 st x (y + 1) c kk hx hl hc (by omega)
   ·exact ih2 st c _ 0 kk hl hc (hT3 x hx) (hT2 x hx) (by have := hT3 x hx; omega)
  ·intro st c L i kk hl hc hle hz hF
   rw [sweep_family_decide.l1]
   by_cases hi : i < L.length
   ·rw [if_pos (by omega), if_pos (by omega), if_pos (by omega)]
    have hw : wrap64 ((i : Int) + 1) = ((i + 1 : Nat) : Int) := by rw [w64_small _ (by omega) (by omega)]; omega
    have hm : rd L (i : Int) ∈ L := by
     unfold rd
     rw [Int.toNat_natCast, List.getD_eq_getElem?_getD, List.getElem?_eq_getElem hi]
     exact List.getElem_mem hi
    obtain ⟨n, hn, hz1⟩ := hz _ hm
    have hv : IntKind.i8.wrap (3 - c) = 3 - c := by rcases hc with rfl | rfl <;> rfl
    rw [hz1, hv, hw]
    obtain ⟨b, e, h1, h2⟩ := ih0 st n (3 - c) kk hn hl (by omega) (by omega)
    rw [e, Option.bind_some]
    split
    ·obtain ⟨r, e2, h3, h4⟩ := ih2 b.2.2 c L (i + 1) b.2.1 h1 hc hle hz (by omega)
     exact ⟨r, e2, h3, by omega⟩
    ·exact ⟨_, rfl, h1, h2⟩
   ·rw [if_neg (by omega)]
    exact ⟨_, rfl, hl, Nat.le_refl _⟩
theorem zs_le : ∀ (st st' : List Int), st'.length = st.length → (∀ x, x < st.length → rd st (x : Int) ≠ 0 → rd st' (x : Int) ≠ 0) → zs st' ≤ zs st
 | [], [], _, _ => Nat.le_refl _
 | [], _ :: _, h, _ => by simp at h
 | _ :: _, [], h, _ => by simp at h
 | a :: st, b :: st', h, hk => by
  have h0 := hk 0 (by simp)
  have ih := zs_le st st' (by simpa using h) (fun x hx => by
   have := hk (x + 1) (by simpa using hx)
   simpa [rd] using this)
  simp only [zs]
  have h0' : a ≠ 0 → b ≠ 0 := by simpa [rd] using h0
  by_cases ha : a = 0
  ·rw [if_pos ha]
   split <;> omega
  ·rw [if_neg ha, if_neg (h0' ha)]
   omega
theorem zs_lt {st st' : List Int} (h : st'.length = st.length) (hk : ∀ x, x < st.length → rd st (x : Int) ≠ 0 → rd st' (x : Int) ≠ 0) {x : Nat} (hx : x < st.length) (h0 : rd st (x : Int) = 0) (h1 : rd st' (x : Int) ≠ 0) : zs st' < zs st := by
 have e := zs_set st x 1 (by omega) hx h0
 have := zs_le (st.set x 1) st' (by rw [List.length_set]; exact h) (fun y hy hn => by
  rw [List.length_set] at hy
  rw [rd_set st x 1 (y : Int) hx, Int.toNat_natCast] at hn
  by_cases ey : y = x
  ·subst ey; exact h1
  ·rw [if_neg ey] at hn
   exact hk y hy hn)
 omega
theorem pk_open (BS : List Bool) (st : List Int) : ∀ (d y : Nat) (x : Int), 0 ≤ pk BS st d y x → pk BS st d y x = x ∨ (BS.getD (pk BS st d y x).toNat false = true ∧ rd st (pk BS st d y x) = 0)
 | 0, y, x, _ => .inl rfl
 | d + 1, y, x, h => by
  simp only [pk] at h ⊢
  rcases pk_open BS st d (y + 1) _ h with e | e
  ·split at e
   ·rename_i hc
    right
    simp only [Bool.and_eq_true, beq_iff_eq] at hc
    simp only [Bool.and_eq_true, beq_iff_eq, hc, and_self, if_true] at e ⊢
    rw [e]
    refine ⟨by rw [Int.toNat_natCast]; exact hc.1.1, hc.1.2⟩
   ·rename_i hc
    left
    rw [if_neg hc]
    exact e
  ·exact .inr e
theorem chF_F {N : Nat} {BS : List Bool} {LS : List (List Int)} {S0 : List Int} (hB : BS.length = N) (hN : N ≤ 128) (hL : LS.length = N)
  (hT3 : ∀ x, x < N → (rd_L4 LS (x : Int)).length ≤ 1000) (hT2 : ∀ x, x < N → ∀ z ∈ rd_L4 LS (x : Int), ∃ n : Nat, n < N ∧ z = (n : Int)) (kd : Nat) (kk : Int) :
  ∀ (m : Nat) (st : List Int), st.length = N → zs st < m → 2000 * (zs st + 1) ≤ kd → ∃ o, chF kd S0 kk BS LS m st = some o
 | 0, _, _, h, _ => by omega
 | m + 1, st, hl, hm, hk => by
  simp only [chF]
  rw [hB]
  have hp := pk_lt BS st N 0 (-1) (by omega) (by omega)
  have hq := pk_open BS st N 0 (-1)
  rw [Nat.zero_add] at hp
  generalize pk BS st N 0 (-1) = X at *
  by_cases hX : X < 0
  ·rw [if_pos hX]
   exact ⟨_, rfl⟩
  ·rw [if_neg hX]
   obtain ⟨x, rfl⟩ := Int.eq_ofNat_of_zero_le (show 0 ≤ X by omega)
   have hx : x < N := by omega
   have h0 := ((hq (by omega)).resolve_left (by omega)).2
   have good : ∀ c, (c = 1 ∨ c = 2) → ∃ o, tryC kd S0 kk BS LS (chF kd S0 kk BS LS m) st (x : Int) c = some o := fun c hc => by
    obtain ⟨r, e, h1, h2⟩ := (dec_F (S0 := S0) hB hN hL hT3 hT2 kd).1 st x c kk hx hl hc hk
    unfold tryC
    rw [e, Option.bind_some]
    split
    ·rename_i hr
     obtain ⟨S1, q⟩ := (dec_S hB hN hL hT3 hT2 kd).1 st x c kk r hx hl hc e hr
     have := zs_lt S1.len (fun y _ hn => by rw [S1.ext _ hn]; exact hn) (by rw [hl]; exact hx) h0 (by rw [q]; omega)
     exact chF_F hB hN hL hT3 hT2 kd kk m _ h1 (by omega) (by omega)
    ·exact ⟨_, rfl⟩
   obtain ⟨o1, e1⟩ := good 1 (.inl rfl)
   obtain ⟨o2, e2⟩ := good 2 (.inr rfl)
   simp only [tailC, e1, e2, Option.bind_some]
   cases o1 <;> cases o2 <;> exact ⟨_, rfl⟩
end Go.Proofs.YtijfddobandcdaaDoor.Pure
end
section
/- decide sets small sets only. -/
namespace Go.Proofs.YtijfddobandcdaaDoor.Pure
open Go.RowKit YtijfddobandcdaaDoorW.PrintWords YtijfddobandcdaaDoorW.PrintLast YtijfddobandcdaaDoorW.PrintMore YtijfddobandcdaaDoor.T YtijfddobandcdaaDoor.X
def On (N : Nat) (BS : List Bool) (st : List Int) : Prop := st.length = N ∧ ∀ y, y < N → rd st (y : Int) ≠ 0 → BS.getD y false = true
theorem On.set {N : Nat} {BS : List Bool} {st : List Int} (h : On N BS st) (x : Nat) (c : Int) (hx : x < N) (hb : BS.getD x false = true) : On N BS (st.set x c) := by
 refine ⟨by rw [List.length_set]; exact h.1, fun y hy h1 => ?_⟩
 rw [rd_set st x c _ (by rw [h.1]; exact hx), Int.toNat_natCast] at h1
 by_cases e : y = x
 ·rw [e]; exact hb
 ·rw [if_neg e] at h1
  exact h.2 y hy h1
theorem dec_B {N : Nat} {BS : List Bool} {LS : List (List Int)} {S0 : List Int} (hB : BS.length = N) (hN : N ≤ 128) (hL : LS.length = N)
  (hT3 : ∀ x, x < N → (rd_L4 LS (x : Int)).length ≤ 1000) (hT2 : ∀ x, x < N → ∀ z ∈ rd_L4 LS (x : Int), ∃ n : Nat, n < N ∧ z = (n : Int) ∧ BS.getD n false = true) : ∀ F : Nat,
  (∀ st (x : Nat) c kk r, x < N → BS.getD x false = true → (c = 1 ∨ c = 2) → On N BS st → sweep_family_decide.f F S0 kk BS LS st (x : Int) c = some r → On N BS r.2.2) ∧
  (∀ (st : List Int) (x y : Nat) c kk r, x < N → (c = 1 ∨ c = 2) → On N BS st → sweep_family_decide.l0 F st (x : Int) c BS (N : Int) (y : Int) S0 kk BS LS = some r → On N BS r.2.2) ∧
  (∀ st c (L : List Int) (i : Nat) kk r, (c = 1 ∨ c = 2) → L.length ≤ 1000 → (∀ z ∈ L, ∃ n : Nat, n < N ∧ z = (n : Int) ∧ BS.getD n false = true) → On N BS st → sweep_family_decide.l1 F st c L (L.length : Int) (i : Int) S0 kk BS LS = some r → On N BS r.2.2)
 | 0 => ⟨fun _ _ _ _ _ _ _ _ _ h => by simp [sweep_family_decide.f] at h, fun _ _ _ _ _ _ _ _ _ h => by simp [sweep_family_decide.l0] at h, fun _ _ _ _ _ _ _ _ _ _ h => by simp [sweep_family_decide.l1] at h⟩
 | F + 1 => by
  obtain ⟨ih0, ih1, ih2⟩ := dec_B (S0 := S0) hB hN hL hT3 hT2 F
  refine ⟨?_, ?_, ?_⟩
  ·intro st x c kk r hx hb hc hA h
   rw [sweep_family_decide.f, if_pos (by omega), if_pos (by rw [hA.1]; omega)] at h
   by_cases h0 : rd st (x : Int) = 0
   ·rw [if_pos h0, Int.toNat_natCast, hB] at h
    exact ih1 _ x 0 c kk r hx hc (hA.set x c hx hb) h
   ·rw [if_neg h0] at h
    cases h
    exact hA
  ·intro st x y c kk r hx hc hA h
   rw [l0_eq F st x y N c S0 kk BS LS hB hN hL hx hc] at h
   split at h
   ·rename_i hy
    split at h
    ·rename_i hi
     obtain ⟨b, hb, h⟩ := Option.bind_eq_some_iff.mp h
     have h2 := ih0 st y c kk b hy (by unfold imp at hi; simp only [Bool.and_eq_true] at hi; exact hi.1) hc hA hb
     split at h
     ·exact ih1 _ x (y + 1) c _ r hx hc h2 h
     ·cases h
      exact h2
    ·exact ih1 _ x (y + 1) c _ r hx hc hA h
   ·exact ih2 st c _ 0 kk r hc (hT3 x hx) (hT2 x hx) hA h
  ·intro st c L i kk r hc hl hz hA h
   rw [sweep_family_decide.l1] at h
   by_cases hi : i < L.length
   ·rw [if_pos (by omega), if_pos (by omega), if_pos (by omega)] at h
    have hw : wrap64 ((i : Int) + 1) = ((i + 1 : Nat) : Int) := by rw [w64_small _ (by omega) (by omega)]; omega
    have hm : rd L (i : Int) ∈ L := by
     unfold rd
     rw [Int.toNat_natCast, List.getD_eq_getElem?_getD, List.getElem?_eq_getElem hi]
     exact List.getElem_mem hi
    obtain ⟨n, hn, hz1, hz2⟩ := hz _ hm
    have hv : IntKind.i8.wrap (3 - c) = 3 - c := by rcases hc with rfl | rfl <;> rfl
    rw [hz1, hv, hw] at h
    obtain ⟨b, hb, h⟩ := Option.bind_eq_some_iff.mp h
    have h2 := ih0 st n (3 - c) kk b hn hz2 (by omega) hA hb
    split at h
    ·exact ih2 _ c L (i + 1) _ r hc hl hz h2 h
    ·cases h
     exact h2
   ·rw [if_neg (by omega)] at h
    cases h
    exact hA
end Go.Proofs.YtijfddobandcdaaDoor.Pure
end
section
/- choose from the start: what comes out is a blockage; and something comes out, if there is one. -/
namespace Go.Proofs.YtijfddobandcdaaDoor.Pure
open Go.RowKit YtijfddobandcdaaDoorW.PrintWords YtijfddobandcdaaDoorW.PrintLast YtijfddobandcdaaDoorW.PrintMore YtijfddobandcdaaDoor.T YtijfddobandcdaaDoor.X
theorem chF_B {N : Nat} {BS : List Bool} {LS : List (List Int)} {S0 : List Int} (hB : BS.length = N) (hN : N ≤ 128) (hL : LS.length = N)
  (hT3 : ∀ x, x < N → (rd_L4 LS (x : Int)).length ≤ 1000) (hT2 : ∀ x, x < N → ∀ z ∈ rd_L4 LS (x : Int), ∃ n : Nat, n < N ∧ z = (n : Int) ∧ BS.getD n false = true) (kd : Nat) (kk : Int) :
  ∀ (m : Nat) (st d : List Int), On N BS st → chF kd S0 kk BS LS m st = some (some d) → On N BS d
 | 0, _, _, _, h => by cases h
 | m + 1, st, d, hA, h => by
  simp only [chF] at h
  rw [hB] at h
  have hp := pk_lt BS st N 0 (-1) (by omega) (by omega)
  have hq := pk_open BS st N 0 (-1)
  rw [Nat.zero_add] at hp
  generalize pk BS st N 0 (-1) = X at *
  by_cases hX : X < 0
  ·rw [if_pos hX] at h
   cases h
   exact hA
  ·rw [if_neg hX] at h
   obtain ⟨x, rfl⟩ := Int.eq_ofNat_of_zero_le (show 0 ≤ X by omega)
   have hx : x < N := by omega
   have hb := ((hq (by omega)).resolve_left (by omega)).1
   rw [Int.toNat_natCast] at hb
   have good : ∀ c, (c = 1 ∨ c = 2) → tryC kd S0 kk BS LS (chF kd S0 kk BS LS m) st (x : Int) c = some (some d) → On N BS d := fun c hc h1 => by
    unfold tryC at h1
    obtain ⟨r, hr, h1⟩ := Option.bind_eq_some_iff.mp h1
    have q2 := (dec_B hB hN hL hT3 hT2 kd).1 st x c kk r hx hb hc hA hr
    by_cases q : r.1 = true
    ·rw [if_pos q] at h1
     exact chF_B hB hN hL hT3 hT2 kd kk m _ d q2 h1
    ·rw [if_neg q] at h1
     cases h1
   obtain ⟨o1, h1, hcase⟩ := tailC_some h
   rcases hcase with ⟨d', rfl, e⟩ | ⟨rfl, h⟩
   ·cases e
    exact good 1 (.inl rfl) h1
   ·obtain ⟨o2, h2, hcase2⟩ := tailC_some h
    rcases hcase2 with ⟨d', rfl, e⟩ | ⟨rfl, h⟩
    ·cases e
     exact good 2 (.inr rfl) h2
    ·cases h
theorem othTo_iff (G : List Nat) (k x : Nat) : ∀ (d y z : Nat), ((z : Int) ∈ othTo G k x d y ↔ y ≤ z ∧ z < y + d ∧ sidesB G k x z = true)
 | 0, y, z => by simp [othTo]; omega
 | d + 1, y, z => by
  simp only [othTo]
  have ih := othTo_iff G k x d (y + 1) z
  by_cases h : sidesB G k x y = true
  ·rw [if_pos h, List.mem_cons, ih]
   constructor
   ·rintro (e | ⟨a, b, c⟩)
    ·have : z = y := by omega
     subst this; exact ⟨Nat.le_refl _, by omega, h⟩
    ·exact ⟨by omega, by omega, c⟩
   ·rintro ⟨a, b, c⟩
    by_cases e : z = y
    ·left; rw [e]
    ·right; exact ⟨by omega, by omega, c⟩
  ·rw [if_neg h, ih]
   constructor
   ·rintro ⟨a, b, c⟩; exact ⟨by omega, by omega, c⟩
   ·rintro ⟨a, b, c⟩
    refine ⟨?_, by omega, c⟩
    by_cases e : z = y
    ·subst e; exact (h c).elim
    ·omega
theorem bs_iff {G : List Nat} (hG : Gr 7 G) (k : Nat) {y : Nat} (hy : y < 2 ^ G.length) : (smTo G k (2 ^ G.length) 0).getD y false = true ↔ Sm G k y := by
 rw [smTo_get G k _ 0 y hy, Nat.zero_add, bo_eq hG hy, decide_eq_true_eq]
 exact ⟨fun h => ⟨hy, h⟩, fun h => h.2⟩
theorem ls_eq (G : List Nat) (k : Nat) {x : Nat} (hx : x < 2 ^ G.length) : rd_L4 (otTo G k (2 ^ G.length) 0) (x : Int) = othTo G k x (2 ^ G.length) 0 := by
 have := otTo_get G k (2 ^ G.length) 0 x hx
 rw [Nat.zero_add] at this
 rw [← this]
 unfold rd_L4
 rw [Int.toNat_natCast]
theorem ls_mem {G : List Nat} (hG : Gr 7 G) (k : Nat) {x : Nat} (hx : x < 2 ^ G.length) {z : Int} (hz : z ∈ rd_L4 (otTo G k (2 ^ G.length) 0) (x : Int)) : ∃ n : Nat, z = (n : Int) ∧ Sep G k x n := by
 rw [ls_eq G k hx] at hz
 obtain ⟨n, rfl, hn⟩ := othTo_mem G k x _ _ _ hz
 obtain ⟨_, _, h⟩ := (othTo_iff G k x _ _ _).1 hz
 exact ⟨n, rfl, (sides_sep hG hx (by omega)).1 h⟩
theorem mem_ls {G : List Nat} (hG : Gr 7 G) (k : Nat) {x y : Nat} (h : Sep G k x y) : (y : Int) ∈ rd_L4 (otTo G k (2 ^ G.length) 0) (x : Int) := by
 rw [ls_eq G k h.la]
 exact (othTo_iff G k x _ _ _).2 ⟨Nat.zero_le _, by rw [Nat.zero_add]; exact h.lb, (sides_sep hG h.la h.lb).2 h⟩
theorem imp_iff {G : List Nat} (hG : Gr 7 G) (k : Nat) {x y : Nat} (hy : y < 2 ^ G.length) (c : Int) : imp (smTo G k (2 ^ G.length) 0) c x y = true ↔ Sm G k y ∧ ((c = 1 ∧ Sub y x) ∨ (c = 2 ∧ Sub x y)) := by
 unfold imp
 rw [Bool.and_eq_true, bs_iff hG k hy, Bool.or_eq_true, Bool.and_eq_true, Bool.and_eq_true, beq_iff_eq, beq_iff_eq, beq_iff_eq, beq_iff_eq, sub_diff, sub_diff]
noncomputable def tgt (G : List Nat) (B : Nat → Prop) (x : Nat) : Int := @ite _ (∃ y, y < 2 ^ G.length ∧ Sub x y ∧ B y) (Classical.propDecidable _) 1 2
theorem tgt_or (G : List Nat) (B : Nat → Prop) (x : Nat) : tgt G B x = 1 ∨ tgt G B x = 2 := by unfold tgt; split <;> simp
theorem tgt_one (G : List Nat) (B : Nat → Prop) (x : Nat) : tgt G B x = 1 ↔ ∃ y, y < 2 ^ G.length ∧ Sub x y ∧ B y := by
 unfold tgt
 split
 ·rename_i h; exact ⟨fun _ => h, fun _ => rfl⟩
 ·rename_i h; exact ⟨fun e => absurd e (by decide), fun h' => (h h').elim⟩
theorem tgt_small {G : List Nat} {k : Nat} {B : Nat → Prop} (h : Blk G k B) {x : Nat} (hx : Sm G k x) : tgt G B x = 1 ↔ B x := by
 rw [tgt_one]
 exact ⟨fun ⟨y, _, h2, h3⟩ => h.down y x h3 h2 hx, fun hb => ⟨x, hx.1, Sub.refl x, hb⟩⟩
theorem tgt_imp {G : List Nat} (hG : Gr 7 G) {k : Nat} {B : Nat → Prop} {x y : Nat} (hy : y < 2 ^ G.length) (hi : imp (smTo G k (2 ^ G.length) 0) (tgt G B x) x y = true) : tgt G B y = tgt G B x := by
 obtain ⟨_, h⟩ := (imp_iff hG k hy _).1 hi
 rcases h with ⟨e, h⟩ | ⟨e, h⟩
 ·rw [e, tgt_one]
  obtain ⟨z, h1, h2, h3⟩ := (tgt_one G B x).1 e
  exact ⟨z, h1, h.trans h2, h3⟩
 ·rw [e]
  rcases tgt_or G B y with e2 | e2
  ·obtain ⟨z, h1, h2, h3⟩ := (tgt_one G B y).1 e2
   have := (tgt_one G B x).2 ⟨z, h1, h.trans h2, h3⟩
   omega
  ·exact e2
theorem tgt_sep {G : List Nat} (hG : Gr 7 G) {k : Nat} {B : Nat → Prop} (hB : Blk G k B) {x y : Nat} (h : Sep G k x y) : tgt G B y = 3 - tgt G B x := by
 have h1 := tgt_small hB (h.sm hG)
 have h2 := tgt_small hB ((h.symm hG).sm hG)
 have h3 := hB.one x y h
 rcases tgt_or G B x with e | e <;> rcases tgt_or G B y with e2 | e2
 ·exact absurd (h2.1 e2) (h3.1 (h1.1 e))
 ·omega
 ·omega
 ·have : B x := h3.2 fun hb => by have := h2.2 hb; omega
  have := h1.2 this
  omega
def onesN (st : List Int) : Nat → Nat → List Nat
 | 0, _ => []
 | d + 1, x => if rd st (x : Int) == 1 then x :: onesN st d (x + 1) else onesN st d (x + 1)
theorem ones_gi (st : List Int) : ∀ d x, ones st d x = gi (onesN st d x)
 | 0, _ => rfl
 | d + 1, x => by
  simp only [ones, onesN]
  have ih := ones_gi st d (x + 1)
  split
  ·rw [ih]; rfl
  ·exact ih
theorem onesN_mem (st : List Int) : ∀ d x z, z ∈ onesN st d x ↔ x ≤ z ∧ z < x + d ∧ rd st (z : Int) = 1
 | 0, x, z => by simp [onesN]; omega
 | d + 1, x, z => by
  simp only [onesN]
  have ih := onesN_mem st d (x + 1) z
  by_cases h : rd st (x : Int) = 1
  ·rw [if_pos (by rw [h]; rfl), List.mem_cons, ih]
   constructor
   ·rintro (e | ⟨a, b, c⟩)
    ·subst e; exact ⟨Nat.le_refl _, by omega, h⟩
    ·exact ⟨by omega, by omega, c⟩
   ·rintro ⟨a, b, c⟩
    by_cases e : z = x
    ·exact .inl e
    ·exact .inr ⟨by omega, by omega, c⟩
  ·rw [if_neg (by simpa using h), ih]
   constructor
   ·rintro ⟨a, b, c⟩; exact ⟨by omega, by omega, c⟩
   ·rintro ⟨a, b, c⟩
    refine ⟨?_, by omega, c⟩
    by_cases e : z = x
    ·subst e; exact (h c).elim
    ·omega
theorem onesN_up (st : List Int) : ∀ d x, (onesN st d x).Pairwise (· < ·)
 | 0, _ => List.Pairwise.nil
 | d + 1, x => by
  simp only [onesN]
  split
  ·refine List.pairwise_cons.2 ⟨fun z hz => ?_, onesN_up st d (x + 1)⟩
   have := (onesN_mem st d (x + 1) z).1 hz
   omega
  ·exact onesN_up st d (x + 1)
theorem rd_zero (N : Nat) (z : Int) : rd (List.replicate N (0 : Int)) z = 0 := by
 unfold rd
 rw [List.getD_eq_getElem?_getD, List.getElem?_replicate]
 split <;> rfl
theorem zs_zero (N : Nat) : zs (List.replicate N (0 : Int)) = N := by
 induction N with
 | zero => rfl
 | succ n ih => rw [List.replicate_succ]; simp only [zs]; rw [ih]; simp; omega
theorem blR_eq {G : List Nat} (hG : Gr 7 G) {k m : Nat} (hm : IsVs G m) (hkm : k ≤ m) : ∃ K L, blR K G k = some (gi L, 0) ∧ RL G k L ∧ Blk G k (fun x => x ∈ L) := by
 have hn := hG.most
 obtain ⟨B, hBlk⟩ := blk_of_vs hG (by omega) hm hkm
 have HBI := fun y hy => @bs_iff G hG k y hy
 have HLM := fun x hx z hz => @ls_mem G hG k x hx z hz
 have HML := fun x y h => @mem_ls G hG k x y h
 have HII := fun x y hy c => @imp_iff G hG k x y hy c
 have hB : (smTo G k (2 ^ G.length) 0).length = 2 ^ G.length := smTo_len G k _ _
 have hL : (otTo G k (2 ^ G.length) 0).length = 2 ^ G.length := otTo_len G k _ _
 have h7 := p7 hn
 have hT3 : ∀ x : Nat, x < 2 ^ G.length → (rd_L4 (otTo G k (2 ^ G.length) 0) (x : Int)).length ≤ 1000 := fun x hx => by
  rw [ls_eq G k hx]
  have := othTo_len G k x (2 ^ G.length) 0
  omega
 have hT1 : ∀ x y, x < 2 ^ G.length → y < 2 ^ G.length → imp (smTo G k (2 ^ G.length) 0) (tgt G B x) x y = true → tgt G B y = tgt G B x := fun x y _ hy hi => tgt_imp hG hy hi
 unfold blR
 obtain ⟨o, ho⟩ := chF_F (S0 := gi G) hB h7 hL hT3 (fun x hx z hz => by
  obtain ⟨n, e, h⟩ := HLM x hx z hz
  exact ⟨n, h.lb, e⟩) (2000 * (2 ^ G.length + 1)) (k : Int) (2000 * (2 ^ G.length + 1)) (List.replicate (2 ^ G.length) 0) (by simp) (by rw [zs_zero]; omega) (by rw [zs_zero]; exact Nat.le_refl _)
 have hne := chF_T (S0 := gi G) (T := tgt G B) hB h7 hL (fun x _ => tgt_or G B x) hT1 hT3 (fun x hx z hz => by
  obtain ⟨n, e, h⟩ := HLM x hx z hz
  exact ⟨n, h.lb, e, tgt_sep hG hBlk h⟩) _ _ _ _ o ⟨by simp, fun y _ => .inl (rd_zero _ _)⟩ ho
 cases o with
 | none => exact (hne rfl).elim
 | some d =>
  refine ⟨_, onesN d (2 ^ G.length) 0, by rw [ho, Option.bind_some]; simp only [blOut]; rw [ones_gi], ?_⟩
  obtain ⟨hS, hall⟩ := chF_S (S0 := gi G) hB h7 hL hT3 (fun x hx z hz => by
   obtain ⟨n, e, h⟩ := HLM x hx z hz
   exact ⟨n, h.lb, e⟩) _ _ _ _ d (by simp) ho
  have hOn := chF_B (S0 := gi G) hB h7 hL hT3 (fun x hx z hz => by
   obtain ⟨n, e, h⟩ := HLM x hx z hz
   exact ⟨n, h.lb, e, (HBI n h.lb).2 ((h.symm hG).sm hG)⟩) _ _ _ _ d ⟨by simp, fun y _ h => (h (rd_zero _ _)).elim⟩ ho
  have hmem : ∀ z, z ∈ onesN d (2 ^ G.length) 0 ↔ z < 2 ^ G.length ∧ rd d (z : Int) = 1 := fun z => by
   rw [onesN_mem, Nat.zero_add]
   exact ⟨fun h => h.2, fun h => ⟨Nat.zero_le _, h⟩⟩
  have hnew := fun y hy h => hS.new y hy (rd_zero _ _) h
  have hsm : ∀ x, x ∈ onesN d (2 ^ G.length) 0 → Sm G k x := fun x hx => by
   obtain ⟨h1, h2⟩ := (hmem x).1 hx
   exact (HBI x h1).1 (hOn.2 x h1 (by omega))
  refine ⟨⟨onesN_up _ _ _, fun x hx => ⟨(hsm x hx).1, by rw [bo_eq hG (hsm x hx).1]; exact (hsm x hx).2⟩⟩, hsm, fun X Y hX hs hY => ?_, fun X Y hs => ?_⟩
  ·obtain ⟨h1, h2⟩ := (hmem X).1 hX
   have := (hnew X h1 (by omega)).2.1 Y hY.1
   rw [h2] at this
   exact (hmem Y).2 ⟨hY.1, this ((HII X Y hY.1 1).2 ⟨hY, .inl ⟨rfl, hs⟩⟩)⟩
  ·have hX := hs.sm hG
   have h1 := hall X hs.la ((HBI X hs.la).2 hX)
   obtain ⟨h2, h3⟩ := hnew X hs.la h1
   have h4 := h3.2 _ (HML X Y hs)
   rw [hmem, hmem]
   constructor
   ·rintro ⟨_, e⟩ ⟨_, e2⟩
    omega
   ·intro h
    refine ⟨hs.la, ?_⟩
    rcases h2 with e | e
    ·exact e
    ·exact (h ⟨hs.lb, by omega⟩).elim
end Go.Proofs.YtijfddobandcdaaDoor.Pure
end
section
/- SweepEither, without Go and memory: for each order the path width is less, or there is a blockage, which CheckBlockage accepts; where it accepts any, no plan with so few guards is right. -/
namespace Go.Proofs.YtijfddobandcdaaDoor.Pure
open Go.RowKit YtijfddobandcdaaDoorW.PrintWords YtijfddobandcdaaDoorW.PrintLast YtijfddobandcdaaDoorW.PrintMore YtijfddobandcdaaDoor.T YtijfddobandcdaaDoor.X
theorem BlockageE_ev {g : List Int} {a : Int} {r : List Int × Int} {K : Nat} (h : sweep_Blockage.f K g a = some r) : Ev (fun k => sweep_Blockage.f k g a) r := Ev.of (sweep_Blockage.mono g a) h
theorem cbRE_snd (G : List Nat) (k : Nat) (l : List Int) : (cbR G k l).2 = 0 := by
 unfold cbR
 cases cb1 G k l l.length 0 (List.replicate (2 ^ G.length) false) <;> rfl
theorem up_len : ∀ (L : List Nat) (lo n : Nat), L.Pairwise (· < ·) → (∀ x ∈ L, lo ≤ x ∧ x < lo + n) → L.length ≤ n := by
 intro L
 induction L with
 | nil => intro lo n _ _; exact Nat.zero_le _
 | cons x L ih =>
  intro lo n hp hx
  obtain ⟨q1, q2⟩ := List.pairwise_cons.1 hp
  have h1 := hx x List.mem_cons_self
  have := ih (x + 1) (lo + n - (x + 1)) q2 (fun y hy => by
   have := q1 y hy
   have := hx y (List.mem_cons_of_mem _ hy)
   omega)
  simp only [List.length_cons]
  omega
theorem either_j2 (G : List Nat) (hG : Gr 7 G) (acts : List S70) (hl : acts.length ≤ maxLen) (e : lampblacklaw03_Few.f (gi G) = some (gi G)) {m : Nat} (hm : IsVs G m) : Ev (fun k => lampblacklaw03_SweepEither.j2 k (gi G) acts (m : Int)) true := by
 have hn := hG.most
 refine Ev.step (fun k => by rw [lampblacklaw03_SweepEither.j2]) ?_
 refine Ev.bind1 e (Ev.bind (lawplan_ev acts hl) (Ev.bind1 (Play_cut G hG acts) (Ev.if_pos rfl ?_)))
 by_cases hr : (refPlay G acts).2.2 = true
 ·obtain ⟨B, hB⟩ := blk_of_vs hG (by omega) hm (Nat.le_refl m)
  exact Ev.if_pos hr (Ev.if_pos (right_more hG hB hr) (Ev.bind awake_ev (Ev.some rfl)))
 ·exact Ev.if_neg hr (Ev.bind awake_ev (Ev.some rfl))
set_option maxHeartbeats 2000000 in
theorem SweepEither : ∀ (l0 : List Int) (a1 : Int) (l2 : List Int) (l3 : List S70), l0.length ≤ maxLen → l0.length * 8 ≤ 140737488351232 → (∀ x ∈ l0, (Lit.int .i64 x).wf = true) → (Lit.int .i64 a1).wf = true → l2.length ≤ maxLen → l2.length * 8 ≤ 140737488351232 → (∀ x ∈ l2, (Lit.int .i64 x).wf = true) → l3.length ≤ maxLen → ∃ k, lampblacklaw03_SweepEither.f k l0 a1 l2 l3 = some true := by
 intro g a l acts _ hg _ _ _ hl _ hac
 apply Ev.rounds
 obtain ⟨h, e, e1, e2, e3⟩ := few_eq g (by omega)
 obtain ⟨m, f, f1, f2, f3⟩ := list_eq l (by omega)
 unfold lampblacklaw03_SweepEither.f
 by_cases hc : chk 7 g = true
 ·obtain ⟨G, rfl, hG⟩ := (chk_iff 7 (by omega) _).1 hc
  have hn := hG.most
  rw [e1 hc] at e
  have hlen : (gi G).length < 2 ^ 60 := by rw [gi_length]; omega
  obtain ⟨L, vs, hL, hm, hgr⟩ := layout_eq G hG
  obtain ⟨L2, vs2, hLay, hm2, hgr2⟩ := Layout_ev G hG
  obtain rfl := hm.uniq hm2
  have bad : ∀ (x12 : List Int) (b : Bool), Ev (fun k => lampblacklaw03_SweepEither.j0 k (gi G) a acts (vs : Int) 0 x12 2 b 2 true) true := fun x12 b =>
   Ev.step (f := fun k => (lampblacklaw03_awake.f k).bind fun t594 => some t594) (fun k => by rw [lampblacklaw03_SweepEither.j0, if_pos rfl, if_pos rfl, if_pos rfl, if_pos rfl]) (Ev.bind awake_ev (Ev.some rfl))
  refine Ev.bind1 e (Ev.bind hLay (Ev.bind1 e ?_))
  by_cases ha0 : a < 0
  ·have hbl : sweep_Blockage.f 0 (gi G) a = some ([], 2) := by
    unfold sweep_Blockage.f
    rw [if_pos hlen, if_pos hc, if_pos ha0]
   have hcb : sweep_CheckBlockage.f (gi G) a m = some (false, 2) := by
    unfold sweep_CheckBlockage.f
    rw [if_pos ⟨hlen, by omega⟩, if_pos hc, if_pos ha0]
   exact Ev.bind (BlockageE_ev hbl) (Ev.bind1 e (Ev.bind1 f (Ev.bind1 hcb (Ev.if_pos rfl (bad _ _)))))
  ·by_cases ha7 : 7 < a
   ·have hbl : sweep_Blockage.f 0 (gi G) a = some ([], 2) := by
     unfold sweep_Blockage.f
     rw [if_pos hlen, if_pos hc, if_neg ha0, if_pos ha7]
    have hcb : sweep_CheckBlockage.f (gi G) a m = some (false, 2) := by
     unfold sweep_CheckBlockage.f
     rw [if_pos ⟨hlen, by omega⟩, if_pos hc, if_neg ha0, if_pos ha7]
    exact Ev.bind (BlockageE_ev hbl) (Ev.bind1 e (Ev.bind1 f (Ev.bind1 hcb (Ev.if_pos rfl (bad _ _)))))
   ·obtain ⟨k, rfl⟩ := Int.eq_ofNat_of_zero_le (show 0 ≤ a by omega)
    have hcbl : ∀ x : List Int, x.length ≤ 1000 → sweep_CheckBlockage.f (gi G) (k : Int) x = some ((cbR G k x).1, 0) := fun x hx => by
     unfold sweep_CheckBlockage.f
     rw [if_pos ⟨hlen, hx⟩, if_pos hc, if_neg ha0, if_neg ha7, gi_toNat, Int.toNat_natCast, ← cbRE_snd G k x]
    have hcb := hcbl m (by omega)
    have hok : (cbR G k m).1 = true → k ≤ vs := fun ht => by
     obtain ⟨L3, _, _, hB⟩ := (cbR_iff hG k m).1 ht
     exact hB.vs hG (by omega) hm
    have hj2 := either_j2 G hG acts hac e hm
    generalize (cbR G k m).1 = ok at *
    by_cases hmk : (vs : Int) < (k : Int)
    ·have hbl : sweep_Blockage.f 0 (gi G) (k : Int) = some ([], 4) := by
      unfold sweep_Blockage.f
      rw [if_pos hlen, if_pos hc, if_neg ha0, if_neg ha7, hL, Option.bind_some, if_pos hmk]
     have hok2 : ok = false := by
      cases ok
      ·rfl
      ·have := hok rfl
       omega
     subst hok2
     refine Ev.bind (BlockageE_ev hbl) (Ev.bind1 e (Ev.bind1 f (Ev.bind1 hcb (Ev.if_pos rfl ?_))))
     refine Ev.step (fun n => by rw [lampblacklaw03_SweepEither.j0, if_neg (by simp), if_neg (by simp; omega), if_neg (by simp), if_pos rfl, if_neg (by simp)]) ?_
     refine Ev.step (fun n => by rw [lampblacklaw03_SweepEither.j1, if_neg (by simp), if_neg (by simp)]) hj2
    ·obtain ⟨K, L3, hK, hRL, hBl⟩ := blR_eq hG hm (show k ≤ vs by omega)
     have hbl : sweep_Blockage.f K (gi G) (k : Int) = some (gi L3, 0) := by
      unfold sweep_Blockage.f
      rw [if_pos hlen, if_pos hc, if_neg ha0, if_neg ha7, hL, Option.bind_some, if_neg hmk, gi_toNat, Int.toNat_natCast]
      exact hK
     have h7 := p7 hn
     have hlen3 := up_len L3 0 (2 ^ G.length) hRL.up (fun x hx => ⟨Nat.zero_le _, by have := (hRL.sm x hx).1; omega⟩)
     have hcb3 := hcbl (gi L3) (by rw [gi_length]; omega)
     rw [(cbR_iff hG k (gi L3)).2 ⟨L3, rfl, hRL, hBl⟩] at hcb3
     have hdm : decide ((vs : Int) < (k : Int)) = false := decide_eq_false hmk
     have hdg : decide ((vs : Int) ≥ (k : Int)) = true := decide_eq_true (by omega)
     have hj1 : Ev (fun n => lampblacklaw03_SweepEither.j1 n (gi G) (k : Int) acts (vs : Int) (gi L3) 0 false) true := by
      refine Ev.step (fun n => by rw [lampblacklaw03_SweepEither.j1, if_neg (by simp), if_pos rfl]) ?_
      exact Ev.bind1 e (Ev.bind1 hcb3 (Ev.if_pos rfl (Ev.if_pos rfl hj2)))
     refine Ev.bind (BlockageE_ev hbl) (Ev.bind1 e (Ev.bind1 f (Ev.bind1 hcb (Ev.if_pos rfl ?_))))
     refine Ev.step (fun n => by rw [lampblacklaw03_SweepEither.j0, if_neg (by simp), if_neg (by rw [hdg]; simp), if_pos rfl, hdm, ite_self]) hj1
 ·have hc' : chk 7 g = false := by simpa using hc
  have hb := e2 hc'
  have hbl : sweep_Blockage.f 0 h a = some ([], 2) := by
   unfold sweep_Blockage.f
   rw [if_pos (by omega), if_neg (by rw [hb]; simp)]
  have hcb : sweep_CheckBlockage.f h a m = some (false, 2) := by
   unfold sweep_CheckBlockage.f
   rw [if_pos ⟨by omega, by omega⟩, if_neg (by rw [hb]; simp)]
  refine Ev.bind1 e (Ev.bind (Layout_bad h (by omega) hb) (Ev.bind1 e (Ev.bind (BlockageE_ev hbl) (Ev.bind1 e (Ev.bind1 f (Ev.bind1 hcb (Ev.if_neg (by simp) ?_)))))))
  exact Ev.step (f := fun k => (lampblacklaw03_awake.f k).bind fun t595 => some t595) (fun k => by rw [lampblacklaw03_SweepEither.j0, if_pos rfl, if_pos rfl, if_pos rfl, if_neg (by simp), if_pos rfl]) (Ev.bind awake_ev (Ev.some rfl))
end Go.Proofs.YtijfddobandcdaaDoor.Pure
end
section
/- An argument that is a slice of acts, opened to its cells. -/
namespace Go.Proofs.YtijfddobandcdaaDoor.X
open Go.RowKit Go.ChangeShapes Go.WideShapes Go.Deep YtijfddobandcdaaDoorW.PrintWords
theorem list_of {α : Type} (d : α) (Q : Nat → α → Prop) : ∀ n : Nat, (∀ i, i < n → ∃ z, Q i z) → ∃ zs : List α, zs.length = n ∧ ∀ i, i < n → Q i (zs.getD i d)
 | 0, _ => ⟨[], rfl, fun i h => by omega⟩
 | n + 1, h => by
  obtain ⟨zs, h1, h2⟩ := list_of d Q n (fun i hi => h i (by omega))
  obtain ⟨z, hz⟩ := h n (by omega)
  refine ⟨zs ++ [z], by simp [h1], fun i hi => ?_⟩
  by_cases e : i = n
  ·subst e
   rw [List.getD_eq_getElem?_getD, List.getElem?_append_right (by omega), h1]
   simpa using hz
  ·have := h2 i (by omega)
   rw [List.getD_eq_getElem?_getD] at this ⊢
   rwa [List.getElem?_append_left (by omega)]
def IsRowS (w : World) (a : Option Addr) (len cap : Nat) (zs : List S70) : Prop :=
 (a = none ∧ len = 0 ∧ cap = 0 ∧ zs = []) ∨
 ∃ x, a = some x ∧ len ≤ cap ∧ cap ≤ maxLen ∧ zs.length = len ∧ ∀ i, i < len → w.cell? (x.add (i * 2)) = some (.bool (zs.getD i z70).f0) ∧ w.cell? (x.add (i * 2 + 1)) = some (.int .i64 (zs.getD i z70).f1)
theorem rowS_C {w : World} {a : Option Addr} {len cap : Nat} {zs : List S70} (h : IsRowS w a len cap zs) : zs.length = len ∧ len ≤ cap ∧ len ≤ maxLen ∧ Kd.C k70 w a len zs := by
 rcases h with ⟨rfl, rfl, rfl, rfl⟩ | ⟨x, rfl, h1, h2, h3, h4⟩
 ·exact ⟨rfl, Nat.le_refl _, Nat.zero_le _, rfl, by omega, fun h0 => by omega⟩
 ·have hm : maxLen ≤ 9223372036854775807 := by decide
  refine ⟨h3, h1, by omega, h3, by omega, fun h0 => ⟨x, rfl, fun j p hj => ⟨[.bool p.f0, .int .i64 p.f1], rfl, k70_mk w p, fun i u hu => ?_⟩⟩⟩
  obtain ⟨q1, q2⟩ := List.getElem?_eq_some_iff.1 hj
  obtain ⟨c1, c2⟩ := h4 j (by omega)
  rw [List.getD_eq_getElem?_getD, hj] at c1 c2
  show w.cell? (x.add (j * 2 + i)) = some u
  match i, hu with
  | 0, hu =>
   have hu' : Value.bool p.f0 = u := by simpa using hu
   rw [← hu']; exact c1
  | 1, hu =>
   have hu' : Value.int .i64 p.f1 = u := by simpa using hu
   rw [← hu']; exact c2
section
variable {H : Type} {enc : TypeId × Value → H} {P : Program} {w : World} {base : Nat} {spare : Nat → Bool} {held : Bool}
theorem open_acts {t e : TypeId} {f0 f1 : Field} {fuel : Nat} {a : Option Addr} {len cap : Nat} {x : DataW H × List MemPlace} (ht : P.underlying t = some (.slice e)) (he : P.underlying e = some (.struct #[f0, f1]))
  (hone : oneCellFields P #[f0, f1] = true) (hC : P.cellsOf e = 2) (h0 : P.underlying f0.type = some .bool) (h1 : P.underlying f1.type = some (.int .i64)) (h : DataW.trod enc P w base spare held fuel t [.slice a len cap] = some x) : ∃ zs, IsRowS w a len cap zs := by
 rcases open_slice ht h with ⟨hn, _⟩ | ⟨ad, l, c, m, n, D, Pl, hcs, _, hl, hm, hmm, _, hi⟩
 ·simp only [List.cons.injEq, Value.slice.injEq, and_true] at hn
  obtain ⟨rfl, rfl, rfl⟩ := hn
  exact ⟨[], .inl ⟨rfl, rfl, rfl, rfl⟩⟩
 ·simp only [List.cons.injEq, Value.slice.injEq, and_true] at hcs
  obtain ⟨rfl, rfl, rfl⟩ := hcs
  have hlm : len ≤ m := by rw [hmm]; split <;> omega
  obtain ⟨zs, z1, z2⟩ := list_of z70 (fun i z => w.cell? (ad.add (i * 2)) = some (.bool z.f0) ∧ w.cell? (ad.add (i * 2 + 1)) = some (.int .i64 z.f1)) len fun i hil => by
   obtain ⟨cs, hc, htr⟩ := hi i (by omega)
   rw [hC] at hc
   obtain ⟨_, hcl, hat⟩ := World.cells?_some hc
   obtain ⟨ys, n2, _, _, _, hyl, hf⟩ := DataW.trod_struct he htr
   obtain ⟨o0, k0⟩ := hone_of hone 0 f0 rfl
   obtain ⟨o1, k1⟩ := hone_of hone 1 f1 rfl
   match cs, hcl with
   | [c0, c1], _ =>
    have g0 := hf 0 f0 rfl
    have g1 := hf 1 f1 rfl
    rw [o0, k0] at g0
    rw [o1, k1] at g1
    have y0 : ys[0]? = some (ys[0]'(by rw [hyl]; show 0 < 2; omega)) := List.getElem?_eq_getElem _
    have y1 : ys[1]? = some (ys[1]'(by rw [hyl]; show 1 < 2; omega)) := List.getElem?_eq_getElem _
    obtain ⟨b, hb, _⟩ := DataW.trod_bool h0 (g0.trans y0)
    obtain ⟨v, hv0, _⟩ := DataW.trod_int h1 (g1.trans y1)
    have hv : c1 = .int .i64 v := by simpa using hv0
    have hb' : c0 = .bool b := by simpa using hb
    refine ⟨⟨b, v⟩, ?_, ?_⟩
    ·exact (hat 0 (by omega)).trans (by simp [hb'])
    ·rw [← Go.Deep.add_add]
     exact (hat 1 (by omega)).trans (by simp [hv])
  exact ⟨zs, .inr ⟨ad, rfl, hl, hm, z1, z2⟩⟩
end
end Go.Proofs.YtijfddobandcdaaDoor.X
end
