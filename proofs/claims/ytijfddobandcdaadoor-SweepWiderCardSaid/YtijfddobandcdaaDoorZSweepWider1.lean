/- Part 1 of what SweepWider rests on: contracts of the functions that it reaches, and what they compute, in plain words. -/
import Derived.Test.YtijfddobandcdaaDoorZSweepWider0
import Derived.ArgAppend
import Derived.OwnWalk
import Derived.Maps.AppendAt
import Derived.Deep.RegionHeld3
set_option linter.unusedVariables false
set_option linter.unusedSimpArgs false
section
/- Elimination orders of graphs, in plain Lean: a node less, an edge less, two neighbours made one. No program is in sight. -/
namespace Go.Proofs.YtijfddobandcdaaDoor.T
def AtMost (k : Nat) (P : Nat → Prop) : Prop := ∃ l : List Nat, l.length ≤ k ∧ ∀ u, P u → u ∈ l
theorem AtMost.mono {k k' : Nat} {P Q : Nat → Prop} (h : AtMost k P) (hk : k ≤ k') (hq : ∀ u, Q u → P u) : AtMost k' Q := by
 obtain ⟨l, hl, hp⟩ := h
 exact ⟨l, Nat.le_trans hl hk, fun u hu => hp u (hq u hu)⟩
theorem AtMost.map {k : Nat} {P Q : Nat → Prop} (f : Nat → Nat) (h : AtMost k P) (hq : ∀ u, Q u → ∃ x, P x ∧ f x = u) : AtMost k Q := by
 obtain ⟨l, hl, hp⟩ := h
 refine ⟨l.map f, by simpa using hl, fun u hu => ?_⟩
 obtain ⟨x, hx, rfl⟩ := hq u hu
 exact List.mem_map_of_mem (hp x hx)
theorem AtMost.succ {k : Nat} {P Q : Nat → Prop} (h : AtMost k P) (a : Nat) (hq : ∀ u, Q u → P u ∨ u = a) : AtMost (k + 1) Q := by
 obtain ⟨l, hl, hp⟩ := h
 refine ⟨a :: l, by simp; omega, fun u hu => ?_⟩
 rcases hq u hu with h | h
 ·exact List.mem_cons_of_mem _ (hp u h)
 ·subst h
  exact List.mem_cons_self
theorem AtMost.below {n : Nat} {P : Nat → Prop} (h : ∀ u, P u → u < n) : AtMost n P := ⟨List.range n, by simp, fun u hu => List.mem_range.2 (h u hu)⟩
inductive Way (adj : Nat → Nat → Prop) (S : Nat → Prop) (v : Nat) : Nat → Prop
 | one {u : Nat} : adj v u → Way adj S v u
 | more {x u : Nat} : Way adj S v x → S x → adj x u → Way adj S v u
def Nb (adj : Nat → Nat → Prop) (S : Nat → Prop) (v u : Nat) : Prop := Way adj S v u ∧ ¬ S u ∧ u ≠ v
inductive Elim (V : Nat → Prop) (adj : Nat → Nat → Prop) (k : Nat) : (Nat → Prop) → Prop
 | nil : Elim V adj k (fun _ => False)
 | snoc {S : Nat → Prop} (v : Nat) : Elim V adj k S → V v → ¬ S v → AtMost k (Nb adj S v) → Elim V adj k (fun u => S u ∨ u = v)
theorem Elim.ext {V : Nat → Prop} {adj : Nat → Nat → Prop} {k : Nat} {S S' : Nat → Prop} (h : Elim V adj k S) (e : ∀ u, S u ↔ S' u) : Elim V adj k S' := by
 have : S = S' := funext fun u => propext (e u)
 subst this
 exact h
theorem Elim.mono {V : Nat → Prop} {adj : Nat → Nat → Prop} {k k' : Nat} {S : Nat → Prop} (h : Elim V adj k S) (hk : k ≤ k') : Elim V adj k' S := by
 induction h with
 | nil => exact .nil
 | snoc v _ hv hs ha ih => exact .snoc v ih hv hs (ha.mono hk fun _ h => h)
theorem Elim.sub {V : Nat → Prop} {adj : Nat → Nat → Prop} {k : Nat} {S : Nat → Prop} (h : Elim V adj k S) : ∀ u, S u → V u := by
 induction h with
 | nil => intro u hu; exact hu.elim
 | snoc v _ hv _ _ ih =>
  intro u hu
  rcases hu with hu | hu
  ·exact ih u hu
  ·subst hu; exact hv
theorem Way.inside {adj : Nat → Nat → Prop} {S W : Nat → Prop} (hW : ∀ u w, adj u w → W w) {v u : Nat} (h : Way adj S v u) : W u := by
 cases h with
 | one h => exact hW _ _ h
 | more _ _ h => exact hW _ _ h
theorem Elim.more {V W : Nat → Prop} {adj adj' : Nat → Nat → Prop} {k : Nat} (a : Nat) (φ : Nat → Nat) (hinj : ∀ x y, φ x = φ y → x = y)
  (hV : ∀ u, V u ↔ u = a ∨ ∃ x, W x ∧ φ x = u) (ha : ∀ x, φ x ≠ a)
  (hin : ∀ u w, adj u w → V w) (hadj : ∀ u w, adj (φ u) (φ w) → adj' u w) {S : Nat → Prop} (h : Elim W adj' k S) :
  Elim V adj (k + 1) (fun u => ∃ x, S x ∧ φ x = u) := by
 induction h with
 | nil => exact Elim.nil.ext fun u => ⟨fun h => h.elim, fun ⟨_, h, _⟩ => h⟩
 | @snoc S v hS hv hs hm ih =>
  refine (Elim.snoc (φ v) ih ((hV _).2 (.inr ⟨v, hv, rfl⟩)) (fun ⟨x, hx, e⟩ => hs (hinj _ _ e ▸ hx)) ?_).ext ?_
  ·refine AtMost.succ (P := fun u => ∃ w, Nb adj' S v w ∧ φ w = u) (hm.map φ fun u ⟨w, hw, e⟩ => ⟨w, hw, e⟩) a ?_
   rintro u ⟨hu, hnu, hne⟩
   have key : ∀ y, Way adj (fun u => ∃ x, S x ∧ φ x = u) (φ v) y → ∀ x, φ x = y → Way adj' S v x := by
    intro y hy
    induction hy with
    | one h => rintro x rfl; exact .one (hadj _ _ h)
    | more _ hS h ih =>
     rintro x rfl
     obtain ⟨z, hz, rfl⟩ := hS
     exact .more (ih z rfl) hz (hadj _ _ h)
   rcases (hV u).1 (hu.inside hin) with e | ⟨x, hx, rfl⟩
   ·exact .inr e
   ·refine .inl ⟨x, ⟨key _ hu x rfl, fun h => hnu ⟨x, h, rfl⟩, fun e => hne (by rw [e])⟩, rfl⟩
  ·intro u
   constructor
   ·rintro (⟨x, hx, e⟩ | h)
    ·exact ⟨x, .inl hx, e⟩
    ·exact ⟨v, .inr rfl, h.symm⟩
   ·rintro ⟨x, hx | hx, e⟩
    ·exact .inl ⟨x, hx, e⟩
    ·subst hx; exact .inr e.symm
end Go.Proofs.YtijfddobandcdaaDoor.T
end
section
/- Sets of nodes as numbers: how many they have, what is connected with them, the neighbours of a node at its turn. -/
namespace Go.Proofs.YtijfddobandcdaaDoor.T
open Go.RowKit YtijfddobandcdaaDoorW.PrintWords YtijfddobandcdaaDoorW.PrintLast YtijfddobandcdaaDoorW.PrintMore
noncomputable def ofSet (P : Nat → Prop) : Nat → Nat
 | 0 => 0
 | d + 1 => ofSet P d ||| (@ite _ (P d) (Classical.propDecidable _) (2 ^ d) 0)
theorem ofSet_bit (P : Nat → Prop) : ∀ n j, bset (ofSet P n) j ↔ j < n ∧ P j
 | 0, j => by simp [ofSet, bset]
 | d + 1, j => by
  have ih := ofSet_bit P d j
  unfold bset at *
  simp only [ofSet, Nat.testBit_or, Bool.or_eq_true, ih]
  by_cases h : P d
  ·rw [if_pos h, Nat.testBit_two_pow, decide_eq_true_eq]
   constructor
   ·rintro (h1 | h1)
    ·exact ⟨by omega, h1.2⟩
    ·subst h1; exact ⟨by omega, h⟩
   ·rintro ⟨h1, h2⟩
    by_cases e : d = j
    ·exact .inr e
    ·exact .inl ⟨by omega, h2⟩
  ·rw [if_neg h]
   simp
   intro h1
   constructor
   ·intro _; omega
   ·intro _
    by_cases e : j = d
    ·subst e; exact (h h1).elim
    ·omega
theorem ofSet_lt (P : Nat → Prop) (n : Nat) : ofSet P n < 2 ^ n := lt_of_bits fun j hj => ((ofSet_bit P n j).1 hj).1
theorem eq_ofSet {P : Nat → Prop} {n x : Nat} (hx : x < 2 ^ n) (h : ∀ j, bset x j ↔ P j) : x = ofSet P n :=
 eq_of_bits fun j => by
  have := ofSet_bit P n j
  unfold bset at *
  rw [this, ← h j]
  exact ⟨fun hb => ⟨bit_lt hx hb, hb⟩, fun hb => hb.2⟩
def pc (x : Nat) : Nat → Nat
 | 0 => 0
 | d + 1 => pc x d + (x.testBit d).toNat
theorem pc_le (x : Nat) : ∀ n, pc x n ≤ n
 | 0 => Nat.le_refl _
 | d + 1 => by have := pc_le x d; simp only [pc]; cases x.testBit d <;> simp <;> omega
theorem pc_mono {x y : Nat} : ∀ n, (∀ j, j < n → x.testBit j = true → y.testBit j = true) → pc x n ≤ pc y n
 | 0, _ => Nat.le_refl _
 | d + 1, h => by
  have ih := pc_mono d (fun j hj => h j (by omega))
  have := h d (by omega)
  simp only [pc]
  cases hx : x.testBit d <;> cases hy : y.testBit d <;> simp_all <;> omega
theorem pc_lt {x y : Nat} (i : Nat) : ∀ n, (∀ j, j < n → x.testBit j = true → y.testBit j = true) → i < n → x.testBit i = false → y.testBit i = true → pc x n < pc y n
 | 0, _, hi, _, _ => by omega
 | d + 1, h, hi, h1, h2 => by
  simp only [pc]
  by_cases e : i = d
  ·subst e
   have ih := pc_mono i (fun j hj => h j (by omega))
   rw [h1, h2]; simp; omega
  ·have ih := pc_lt i d (fun j hj => h j (by omega)) (by omega) h1 h2
   have := h d (by omega)
   cases hx : x.testBit d <;> cases hy : y.testBit d <;> simp_all <;> omega
def els (x : Nat) (n : Nat) : List Nat := (List.range n).filter fun i => x.testBit i
theorem els_length (x : Nat) : ∀ n, (els x n).length = pc x n
 | 0 => rfl
 | d + 1 => by
  have ih := els_length x d
  unfold els at *
  rw [List.range_succ, List.filter_append, List.length_append, ih]
  simp only [pc]
  cases h : x.testBit d <;> simp [h]
theorem mem_els {x n j : Nat} : j ∈ els x n ↔ j < n ∧ x.testBit j = true := by unfold els; simp
theorem els_nodup (x n : Nat) : (els x n).Nodup := List.Pairwise.filter _ List.nodup_range
theorem nodup_le {l m : List Nat} (h : l.Nodup) (hs : ∀ x ∈ l, x ∈ m) : l.length ≤ m.length := by
 induction l generalizing m with
 | nil => simp
 | cons a l ih =>
  obtain ⟨h1, h2⟩ := List.nodup_cons.1 h
  have ha := hs a List.mem_cons_self
  have := ih (m := m.erase a) h2 (fun x hx => by
   have hxa : x ≠ a := fun e => h1 (e ▸ hx)
   exact (List.mem_erase_of_ne hxa).2 (hs x (List.mem_cons_of_mem _ hx)))
  rw [List.length_erase_of_mem ha] at this
  have : 0 < m.length := List.length_pos_of_mem ha
  simp only [List.length_cons]
  omega
theorem atMost_pc {x n k : Nat} (hx : x < 2 ^ n) : AtMost k (bset x) ↔ pc x n ≤ k := by
 rw [← els_length]
 constructor
 ·rintro ⟨l, hl, h⟩
  exact Nat.le_trans (nodup_le (els_nodup x n) fun j hj => h j (mem_els.1 hj).2) hl
 ·intro h
  exact ⟨els x n, h, fun j hj => mem_els.2 ⟨bit_lt hx hj, hj⟩⟩
noncomputable def conset (G : List Nat) (s w : Nat) : Nat := ofSet (Con (Adj G) (bset w) (bset s)) G.length
theorem Con.inside {adj : Nat → Nat → Prop} {w s : Nat → Prop} {u : Nat} (h : Con adj w s u) : s u ∨ w u := by
 cases h with
 | base h => exact .inl h
 | step _ _ h => exact .inr h
theorem Con.mono {adj : Nat → Nat → Prop} {w s w' s' : Nat → Prop} (hw : ∀ u, w u → w' u) (hs : ∀ u, s u → s' u) {u : Nat} (h : Con adj w s u) : Con adj w' s' u := by
 induction h with
 | base h => exact .base (hs _ h)
 | step _ a h ih => exact .step ih a (hw _ h)
theorem conset_bit {m : Nat} {G : List Nat} (hG : Gr m G) {s : Nat} (w : Nat) (hs : s < 2 ^ G.length) (j : Nat) : bset (conset G s w) j ↔ Con (Adj G) (bset w) (bset s) j := by
 unfold conset
 rw [ofSet_bit]
 refine ⟨fun h => h.2, fun h => ⟨?_, h⟩⟩
 cases h with
 | base h => exact bit_lt hs h
 | step _ a _ => exact hG.adj_lt a
theorem conset_lt (G : List Nat) (s w : Nat) : conset G s w < 2 ^ G.length := ofSet_lt _ _
theorem conset_eq {m : Nat} {G : List Nat} (hG : Gr m G) {s w x : Nat} (hs : s < 2 ^ G.length) (hx : x < 2 ^ G.length) (h1 : ∀ j, bset s j → bset x j)
  (h2 : ∀ j, bset x j → Con (Adj G) (bset w) (bset s) j) (h3 : ∀ i j, bset x i → Adj G i j → bset w j → bset x j) : x = conset G s w :=
 eq_ofSet hx fun j => ⟨h2 j, fun h => by
  induction h with
  | base h => exact h1 _ h
  | step _ a h ih => exact h3 _ _ ih a h⟩
noncomputable def nbset (G : List Nat) (gone v : Nat) : Nat := diff (diff (Around G (conset G (2 ^ v) (gone ||| 2 ^ v))) gone) (2 ^ v)
theorem two_pow_bit (v j : Nat) : bset (2 ^ v) j ↔ j = v := by
 unfold bset; rw [Nat.testBit_two_pow, decide_eq_true_eq]; exact ⟨fun h => h.symm, fun h => h.symm⟩
theorem diff_bset (a b j : Nat) : bset (diff a b) j ↔ bset a j ∧ ¬ bset b j := by
 unfold bset; rw [diff_testBit]; cases a.testBit j <;> cases b.testBit j <;> simp
theorem or_bset (a b j : Nat) : bset (a ||| b) j ↔ bset a j ∨ bset b j := by unfold bset; simp
theorem and_bset (a b j : Nat) : bset (a &&& b) j ↔ bset a j ∧ bset b j := by unfold bset; simp
theorem nbset_bit {m : Nat} {G : List Nat} (hG : Gr m G) {gone v : Nat} (hv : v < G.length) (j : Nat) : bset (nbset G gone v) j ↔ Nb (Adj G) (bset gone) v j := by
 have hp : 2 ^ v < 2 ^ G.length := Nat.pow_lt_pow_right (by omega) hv
 unfold nbset
 rw [diff_bset, diff_bset, two_pow_bit]
 have h1 : bset (Around G (conset G (2 ^ v) (gone ||| 2 ^ v))) j ↔ Way (Adj G) (bset gone) v j := by
  have : bset (Around G (conset G (2 ^ v) (gone ||| 2 ^ v))) j ↔ ∃ i, Con (Adj G) (bset (gone ||| 2 ^ v)) (bset (2 ^ v)) i ∧ Adj G i j := by
   unfold bset at *
   rw [Around_bit hG]
   exact ⟨fun ⟨i, h1, h2⟩ => ⟨i, (conset_bit hG _ hp i).1 h1, h2⟩, fun ⟨i, h1, h2⟩ => ⟨i, (conset_bit hG _ hp i).2 h1, h2⟩⟩
  rw [this]
  constructor
  ·rintro ⟨i, hi, ha⟩
   have key : ∀ i, Con (Adj G) (bset (gone ||| 2 ^ v)) (bset (2 ^ v)) i → i = v ∨ (Way (Adj G) (bset gone) v i ∧ bset gone i) := by
    intro i hi
    induction hi with
    | base h => exact .inl ((two_pow_bit v _).1 h)
    | @step x u _ a h ih =>
     by_cases e : u = v
     ·exact .inl e
     ·have hg : bset gone u := by
       rcases (or_bset _ _ _).1 h with h | h
       ·exact h
       ·exact (e ((two_pow_bit v u).1 h)).elim
      refine .inr ⟨?_, hg⟩
      rcases ih with ih | ih
      ·subst ih; exact .one a
      ·exact .more ih.1 ih.2 a
   rcases key i hi with h | h
   ·subst h; exact .one ha
   ·exact .more h.1 h.2 ha
  ·intro h
   have key : ∀ x, Way (Adj G) (bset gone) v x → bset gone x → Con (Adj G) (bset (gone ||| 2 ^ v)) (bset (2 ^ v)) x := by
    intro x hx
    induction hx with
    | one a => intro hg; exact .step (.base ((two_pow_bit v v).2 rfl)) a ((or_bset _ _ _).2 (.inl hg))
    | more _ hS a ih => intro hg; exact .step (ih hS) a ((or_bset _ _ _).2 (.inl hg))
   cases h with
   | one a => exact ⟨v, .base ((two_pow_bit v v).2 rfl), a⟩
   | more hx hS a => exact ⟨_, key _ hx hS, a⟩
 rw [h1]
 unfold Nb
 exact ⟨fun ⟨⟨a, b⟩, c⟩ => ⟨a, b, c⟩, fun ⟨a, b, c⟩ => ⟨⟨a, b⟩, c⟩⟩
theorem nbset_lt {m : Nat} {G : List Nat} (hG : Gr m G) (gone v : Nat) : nbset G gone v < 2 ^ G.length :=
 Nat.lt_of_le_of_lt (diff_le _ _) (Nat.lt_of_le_of_lt (diff_le _ _) (Around_lt hG _))
end Go.Proofs.YtijfddobandcdaaDoor.T
end
section
/- lampblackref03.smoky and Play, by hand: a plan played street by street. -/
namespace Go.Proofs.YtijfddobandcdaaDoor.X
open Go.RowKit YtijfddobandcdaaDoorW.PrintWords YtijfddobandcdaaDoorW.PrintLast YtijfddobandcdaaDoorW.PrintMore YtijfddobandcdaaDoor.T
attribute [local go_sem] max2_int min2_int max_two min_two max_three min_three max_four min_four
theorem bitJ (a y : Nat) (ha : a < 2 ^ 62) (hy : y < 62) : ∃ J : Int, ((a : Int) / 2 ^ min y 64) = J ∧ ((a : Int) / 2 ^ y) = J ∧ shr .i64 (a : Int) (y : Int) = J ∧ (Go.bits .and .i64 J 1 == 1) = a.testBit y ∧ (Go.bits .and .i64 J 1 == 0) = !a.testBit y := by
 have e := s_shr a y hy
 refine ⟨_, rfl, ?_, ?_, ?_, ?_⟩
 ·rw [Nat.min_eq_left (by omega)]
 ·rw [e, Nat.min_eq_left (by omega)]; simp
 ·rw [show ((a : Int) / 2 ^ min y 64) = shr .i64 (a : Int) (y : Int) by rw [e, Nat.min_eq_left (by omega)]; simp, bit_at a y ha hy]
  cases a.testBit y <;> rfl
 ·rw [show ((a : Int) / 2 ^ min y 64) = shr .i64 (a : Int) (y : Int) by rw [e, Nat.min_eq_left (by omega)]; simp, bit_at a y ha hy]
  cases a.testBit y <;> rfl
def BRow (W : World) (g : Nat) (C : List Bool) : Prop := W.heap[g]? = some (.cells (C.map Value.bool).toArray 81 (0, 0))
theorem BRow.lt {W : World} {g : Nat} {C : List Bool} (h : BRow W g C) : g < W.heap.size := (Array.getElem?_eq_some_iff.1 h).1
theorem BRow.cell {W : World} {g : Nat} {C : List Bool} (h : BRow W g C) (i : Nat) (hi : i < C.length) : W.cell? ⟨g, i, none⟩ = some (.bool (C.getD i false)) := by
 unfold World.cell?
 rw [show W.heap[(⟨g, i, none⟩ : Addr).block]? = _ from h]
 simp only [Option.isSome_none, Bool.false_eq_true, if_false]
 simp [List.getElem?_eq_getElem hi]
theorem BRow.frozen {W : World} {g : Nat} {C : List Bool} (h : BRow W g C) (i : Nat) : W.frozen? ⟨g, i, none⟩ = false := by
 unfold World.frozen?
 rw [show W.heap[(⟨g, i, none⟩ : Addr).block]? = _ from h]
 simp
theorem BRow.below {W V : World} {g : Nat} {C : List Bool} (h : BRow W g C) (hb : Below W.heap.size W V) : BRow V g C := (hb.block g h.lt).trans h
theorem BRow.other {W : World} {g : Nat} {C : List Bool} (h : BRow W g C) {p : Addr} (hne : g ≠ p.block) (u : Value) : BRow (W.setCell p u) g C := (Below.heap_setCell W p u g hne).trans h
theorem BRow.set {W : World} {g : Nat} {C : List Bool} (h : BRow W g C) (i : Nat) (v : Bool) : BRow (W.setCell ⟨g, i, none⟩ (.bool v)) g (C.set i v) := by
 obtain ⟨hlt, hk⟩ := Array.getElem?_eq_some_iff.1 h
 show (W.heap.modify g _)[g]? = _
 rw [Array.getElem?_eq_getElem (by rw [Array.size_modify]; exact hlt), Array.getElem_modify_self, hk]
 simp [List.map_set]
structure PS where
 gd : Nat
 most : Nat
 had : Nat
 bk : Bool
 C : List Bool
def p0 : PS := ⟨0, 0, 0, false, List.replicate 64 false⟩
theorem gi_toNat (G : List Nat) : (gi G).map Int.toNat = G := by
 unfold gi
 rw [List.map_map]
 conv => rhs; rw [← List.map_id G]
 exact List.map_congr_left fun x _ => by simp
end Go.Proofs.YtijfddobandcdaaDoor.X
end
section
/- The width of a graph: the least k with which all nodes can be eliminated; its step from a set to the set without a node. -/
namespace Go.Proofs.YtijfddobandcdaaDoor.T
open Go.RowKit YtijfddobandcdaaDoorW.PrintWords YtijfddobandcdaaDoorW.PrintLast YtijfddobandcdaaDoorW.PrintMore
def ElimG (G : List Nat) (k S : Nat) : Prop := Elim (fun u => u < G.length) (Adj G) k (bset S)
theorem elimG_zero (G : List Nat) (k : Nat) : ElimG G k 0 := Elim.nil.ext fun u => by simp [bset]
theorem elimG_step {m : Nat} {G : List Nat} (hG : Gr m G) {k S : Nat} (hS : S < 2 ^ G.length) (h0 : S ≠ 0) :
  ElimG G k S ↔ ∃ v, bset S v ∧ ElimG G k (diff S (2 ^ v)) ∧ pc (nbset G (diff S (2 ^ v)) v) G.length ≤ k := by
 have nb : ∀ v, bset S v → (AtMost k (Nb (Adj G) (bset (diff S (2 ^ v))) v) ↔ pc (nbset G (diff S (2 ^ v)) v) G.length ≤ k) := fun v hv => by
  rw [← atMost_pc (nbset_lt hG _ _)]
  have e : bset (nbset G (diff S (2 ^ v)) v) = Nb (Adj G) (bset (diff S (2 ^ v))) v := funext fun j => propext (nbset_bit hG (bit_lt hS hv) j)
  rw [e]
 constructor
 ·intro h
  unfold ElimG at h
  generalize hT : bset S = T at h
  cases h with
  | nil =>
   exfalso
   apply h0
   apply Nat.eq_of_testBit_eq
   intro i
   have : ¬ bset S i := by rw [hT]; exact id
   unfold bset at this
   simpa using this
  | @snoc S' v h1 hv hs ha =>
   have hv' : bset S v := by rw [hT]; exact .inr rfl
   have e : S' = bset (diff S (2 ^ v)) := funext fun u => propext (by
    rw [diff_bset, hT, two_pow_bit]
    constructor
    ·intro h; exact ⟨.inl h, fun e => hs (e ▸ h)⟩
    ·rintro ⟨h | h, h'⟩
     ·exact h
     ·exact (h' h).elim)
   subst e
   exact ⟨v, by rw [← hT]; exact hv', h1, (nb v hv').1 ha⟩
 ·rintro ⟨v, hv, h1, h2⟩
  refine (Elim.snoc v h1 (bit_lt hS hv) (fun h => ?_) ((nb v hv).2 h2)).ext fun u => ?_
  ·rw [diff_bset] at h
   exact h.2 ((two_pow_bit v v).2 rfl)
  ·rw [diff_bset, two_pow_bit]
   constructor
   ·rintro (h | h)
    ·exact h.1
    ·subst h; exact hv
   ·intro h
    by_cases e : u = v
    ·exact .inr e
    ·exact .inl ⟨h, e⟩
theorem diff_lt {S v : Nat} (h : bset S v) : diff S (2 ^ v) < S := by
 have h1 := diff_le S (2 ^ v)
 have h2 : diff S (2 ^ v) ≠ S := fun e => by
  have := (diff_bset S (2 ^ v) v).1 (by rw [e]; exact h)
  exact this.2 ((two_pow_bit v v).2 rfl)
 omega
theorem some_bit {S : Nat} (h : S ≠ 0) : ∃ v, bset S v := by
 apply Classical.byContradiction
 intro hn
 apply h
 apply Nat.eq_of_testBit_eq
 intro i
 have : ¬ bset S i := fun hi => hn ⟨i, hi⟩
 unfold bset at this
 simpa using this
theorem elimG_big {m : Nat} {G : List Nat} (hG : Gr m G) {k : Nat} (hk : G.length ≤ k) : ∀ S, S < 2 ^ G.length → ElimG G k S := by
 intro S
 induction S using Nat.strongRecOn with
 | _ S ih =>
  intro hS
  by_cases h0 : S = 0
  ·subst h0; exact elimG_zero G k
  ·obtain ⟨v, hv⟩ := some_bit h0
   have hd := diff_lt hv
   exact (elimG_step hG hS h0).2 ⟨v, hv, ih _ hd (by omega), Nat.le_trans (pc_le _ _) hk⟩
theorem pc_more {x n : Nat} (hx : x < 2 ^ n) : ∀ d, pc x (n + d) = pc x n
 | 0 => rfl
 | d + 1 => by
  rw [← Nat.add_assoc]
  simp only [pc]
  rw [pc_more hx d, testBit_ge hx (by omega)]
  rfl
theorem pc_nine {x n : Nat} (hx : x < 2 ^ n) (hn : n ≤ 9) : pc x 9 = pc x n := by
 have := pc_more hx (9 - n)
 rwa [show n + (9 - n) = 9 by omega] at this
def IsWidth (G : List Nat) (W : Nat) : Prop := ∀ k, W ≤ k ↔ ElimG G k (2 ^ G.length - 1)
theorem all_bit (n u : Nat) : bset (2 ^ n - 1) u ↔ u < n := by
 unfold bset; rw [Nat.testBit_two_pow_sub_one, decide_eq_true_eq]
theorem elimG_all {G : List Nat} {k : Nat} : ElimG G k (2 ^ G.length - 1) ↔ Elim (fun u => u < G.length) (Adj G) k (fun u => u < G.length) := by
 unfold ElimG
 have e : bset (2 ^ G.length - 1) = fun u => u < G.length := funext fun u => propext (all_bit _ u)
 rw [e]
theorem isWidth_iff {G : List Nat} {W : Nat} : IsWidth G W ↔ ∀ k, W ≤ k ↔ Elim (fun u => u < G.length) (Adj G) k (fun u => u < G.length) :=
 ⟨fun h k => (h k).trans elimG_all, fun h k => (h k).trans elimG_all.symm⟩
end Go.Proofs.YtijfddobandcdaaDoor.T
end
section
/- A node less, an edge less, two neighbours made one: what becomes of a graph, and of its width. -/
namespace Go.Proofs.YtijfddobandcdaaDoor.T
open Go.RowKit YtijfddobandcdaaDoorW.PrintWords YtijfddobandcdaaDoorW.PrintLast YtijfddobandcdaaDoorW.PrintMore
def down (v u : Nat) : Nat := if u < v then u else u - 1
end Go.Proofs.YtijfddobandcdaaDoor.T
end
section
/- Layouts of a town: the border of a set, what can come behind a set with borders of at most k nodes; a node less, an edge less. -/
namespace Go.Proofs.YtijfddobandcdaaDoor.T
open Go.RowKit YtijfddobandcdaaDoorW.PrintWords YtijfddobandcdaaDoorW.PrintLast YtijfddobandcdaaDoorW.PrintMore
noncomputable def bor (G : List Nat) (S : Nat) : Nat := ofSet (fun j => bset S j ∧ ∃ u, Adj G j u ∧ ¬ bset S u) G.length
theorem bor_bit {m : Nat} {G : List Nat} (hG : Gr m G) (S j : Nat) : bset (bor G S) j ↔ bset S j ∧ ∃ u, Adj G j u ∧ ¬ bset S u := by
 unfold bor
 rw [ofSet_bit]
 exact ⟨fun h => h.2, fun h => ⟨by obtain ⟨_, u, ha, _⟩ := h; exact hG.adj_lt' ha, h⟩⟩
theorem bor_lt (G : List Nat) (S : Nat) : bor G S < 2 ^ G.length := ofSet_lt _ _
inductive Lay (G : List Nat) (k : Nat) : Nat → Prop
 | done : Lay G k (2 ^ G.length - 1)
 | step {S v : Nat} : v < G.length → ¬ bset S v → pc (bor G (S ||| 2 ^ v)) 9 ≤ k → Lay G k (S ||| 2 ^ v) → Lay G k S
def IsVs (G : List Nat) (x : Nat) : Prop := ∀ k, x ≤ k ↔ Lay G k 0
theorem full_bit (n j : Nat) : bset (2 ^ n - 1) j ↔ j < n := by
 unfold bset
 rw [Nat.testBit_two_pow_sub_one, decide_eq_true_eq]
theorem pc_onto {x y n : Nat} (l : List Nat) (g : Nat → Nat) (h : ∀ j, j < n → bset x j → j ∈ l ∨ ∃ i, i < n ∧ bset y i ∧ g i = j) : pc x n ≤ pc y n + l.length := by
 rw [← els_length x n, ← els_length y n]
 have := nodup_le (els_nodup x n) (m := (els y n).map g ++ l) (fun j hj => by
  obtain ⟨h1, h2⟩ := mem_els.1 hj
  rcases h j h1 h2 with h | ⟨i, h3, h4, h5⟩
  ·exact List.mem_append_right _ h
  ·exact List.mem_append_left _ (List.mem_map.2 ⟨i, mem_els.2 ⟨h3, h4⟩, h5⟩))
 simpa using this
theorem pc_onto0 {x y n : Nat} (g : Nat → Nat) (h : ∀ j, j < n → bset x j → ∃ i, i < n ∧ bset y i ∧ g i = j) : pc x n ≤ pc y n := by
 have := pc_onto (x := x) (y := y) (n := n) [] g (fun j h1 h2 => .inr (h j h1 h2))
 simpa using this
theorem or_new {S v n : Nat} (hS : S < 2 ^ n) (hv : v < n) : S ||| 2 ^ v < 2 ^ n := or_lt hS (Nat.pow_lt_pow_right (by omega) hv)
theorem or_gt {S v : Nat} (h : ¬ bset S v) : S < S ||| 2 ^ v := by
 have h1 : S ≤ S ||| 2 ^ v := Nat.left_le_or
 rcases Nat.lt_or_ge S (S ||| 2 ^ v) with h2 | h2
 ·exact h2
 ·have e : S ||| 2 ^ v = S := by omega
  have : bset (S ||| 2 ^ v) v := (or_bset _ _ _).2 (.inr ((two_pow_bit v v).2 rfl))
  rw [e] at this
  exact (h this).elim
theorem missing {S n : Nat} (hS : S < 2 ^ n) (h : S ≠ 2 ^ n - 1) : ∃ v, v < n ∧ ¬ bset S v := by
 apply Classical.byContradiction
 intro hno
 refine h (eq_of_bits fun j => ?_)
 have := full_bit n j
 unfold bset at this
 rw [this]
 refine ⟨fun hj => bit_lt hS hj, fun hj => Classical.byContradiction fun hb => hno ⟨j, hj, hb⟩⟩
theorem lay_big {G : List Nat} {k : Nat} (hk : 9 ≤ k ∨ G.length ≤ k) (hn : G.length ≤ 9) : ∀ d S, 2 ^ G.length - S = d → S < 2 ^ G.length → Lay G k S := by
 intro d
 induction d using Nat.strongRecOn with
 | _ d ih =>
  intro S hd hS
  by_cases h : S = 2 ^ G.length - 1
  ·rw [h]; exact .done
  ·obtain ⟨v, hv, hb⟩ := missing hS h
   have h1 := or_new hS hv
   have h2 := or_gt hb
   refine .step hv hb ?_ (ih _ (by omega) _ rfl h1)
   have h3 := pc_onto (x := bor G (S ||| 2 ^ v)) (y := 0) (n := 9) (List.range G.length) id (fun j _ hj => .inl (List.mem_range.2 (bit_lt (bor_lt G _) hj)))
   have h4 := pc_le (bor G (S ||| 2 ^ v)) 9
   have h5 : pc 0 9 = 0 := by decide
   rw [List.length_range] at h3
   omega
theorem Lay.mono {G : List Nat} {k k' S : Nat} (h : Lay G k S) (hk : k ≤ k') : Lay G k' S := by
 induction h with
 | done => exact .done
 | step h1 h2 h3 _ ih => exact .step h1 h2 (by omega) ih
/-! A node less. -/
/-! An edge less. -/
end Go.Proofs.YtijfddobandcdaaDoor.T
end
section
/- What read tells: a graph that is valid, or nothing. -/
namespace Go.Proofs.YtijfddobandcdaaDoor.X
open Go.RowKit YtijfddobandcdaaDoorW.PrintWords YtijfddobandcdaaDoorW.PrintLast YtijfddobandcdaaDoorW.PrintMore YtijfddobandcdaaDoor.T
theorem read_l1 (g : List Int) (hn : g.length ≤ 7) (i : Nat) (hi : i < g.length) (r : List Int × Bool)
  (hrest : Ev (fun k => sweep_read.l0 k g (g.length : Int) g (g.length : Int) ((i + 1 : Nat) : Int)) r) :
  ∀ d j, j + d = g.length → Ev (fun k => sweep_read.l1 k g (g.length : Int) (i : Int) (rd g (i : Int)) g (g.length : Int) (i : Int) (g.length : Int) (j : Int))
   (cond (allFrom (fun j => decide (ibit (rd g (i : Int)) j = ibit (rd g (j : Int)) i)) g.length d j) r (([] : List Int), false)) := by
 intro d
 induction d with
 | zero =>
  intro j hj
  refine Ev.step (fun k => ?_) hrest
  rw [sweep_read.l1, if_neg (by omega), wrap_succ i (by omega)]
 | succ d ih =>
  intro j hj
  simp only [allFrom]
  by_cases hb : ibit (rd g (i : Int)) j = ibit (rd g (j : Int)) i
  ·refine Ev.step (f := fun k => sweep_read.l1 k g (g.length : Int) (i : Int) (rd g (i : Int)) g (g.length : Int) (i : Int) (g.length : Int) ((j + 1 : Nat) : Int)) (fun k => ?_) ?_
   ·rw [sweep_read.l1, if_pos (by omega), if_pos (by omega), if_pos (by omega), if_pos (by omega), wrap_succ j (by omega)]
    exact if_pos hb
   ·have := ih (j + 1) (by omega)
    simpa [hb] using this
  ·refine Ev.step (f := fun _ => some (([] : List Int), false)) (fun k => ?_) (Ev.some (by simp [hb]))
   rw [sweep_read.l1, if_pos (by omega), if_pos (by omega), if_pos (by omega), if_pos (by omega)]
   exact if_neg hb
theorem read_l0 (g : List Int) (hn : g.length ≤ 7) :
  ∀ d i, i + d = g.length → Ev (fun k => sweep_read.l0 k g (g.length : Int) g (g.length : Int) (i : Int)) (cond (allFrom (rowOk g) g.length d i) (g, true) (([] : List Int), false)) := by
 intro d
 induction d with
 | zero =>
  intro i hi
  refine Ev.step (f := fun _ => some (g, true)) (fun k => ?_) (Ev.some (by simp [allFrom]))
  rw [sweep_read.l0, if_neg (by omega)]
 | succ d ih =>
  intro i hi
  have stop : ∀ k, sweep_read.j2 (k + 1) g (g.length : Int) (i : Int) (rd g (i : Int)) g (g.length : Int) (i : Int) true = some (([] : List Int), false) := fun k => by
   rw [sweep_read.j2, if_pos rfl]
  simp only [allFrom, rowOk]
  by_cases h1 : rd g (i : Int) < 0
  ·refine Ev.step (fun k => ?_) (f := fun k => sweep_read.j2 k g (g.length : Int) (i : Int) (rd g (i : Int)) g (g.length : Int) (i : Int) true) ?_
   ·rw [sweep_read.l0, if_pos (by omega), if_pos (by omega), if_pos (by omega), if_pos h1]
   ·exact Ev.step stop (Ev.some (by simp [h1]))
  ·by_cases h2 : rd g (i : Int) ≥ shl .i64 1 (g.length : Int)
   ·refine Ev.step (fun k => ?_) (f := fun k => sweep_read.j2 k g (g.length : Int) (i : Int) (rd g (i : Int)) g (g.length : Int) (i : Int) true) ?_
    ·rw [sweep_read.l0, if_pos (by omega), if_pos (by omega), if_pos (by omega), if_neg h1, if_pos (by omega), if_pos h2]
    ·exact Ev.step stop (Ev.some (by simp [h2]))
   ·refine Ev.step (fun k => ?_) (f := fun k => sweep_read.j2 k g (g.length : Int) (i : Int) (rd g (i : Int)) g (g.length : Int) (i : Int) (ibit (rd g (i : Int)) i == 1)) ?_
    ·rw [sweep_read.l0, if_pos (by omega), if_pos (by omega), if_pos (by omega), if_neg h1, if_pos (by omega), if_neg h2]
     rfl
    ·by_cases h3 : (ibit (rd g (i : Int)) i == 1) = true
     ·simp only [h3]
      exact Ev.step stop (Ev.some (by simp))
     ·refine Ev.step (fun k => by rw [sweep_read.j2, if_neg h3]) ?_
      have := read_l1 g hn i (by omega) _ (ih (i + 1) (by omega)) g.length 0 (by omega)
      have h3' : (ibit (rd g (i : Int)) i == 1) = false := by simpa using h3
      simp only [h1, h2, h3', decide_false, Bool.not_false, Bool.true_and]
      cases h4 : allFrom (fun j => decide (ibit (rd g (i : Int)) j = ibit (rd g (j : Int)) i)) g.length g.length 0
      ·simpa [h4] using this
      ·simpa [h4] using this
theorem read_ev (g : List Int) (hg : g.length < 2 ^ 60) : Ev (fun k => sweep_read.f k g) (cond (chk 7 g) (g, true) (([] : List Int), false)) := by
 have stop : ∀ k, sweep_read.j0 (k + 1) g (g.length : Int) true = some (([] : List Int), false) := fun k => by
  rw [sweep_read.j0, if_pos rfl]
 by_cases h1 : g.length < 1
 ·refine Ev.congr (f := fun k => sweep_read.j0 k g (g.length : Int) true) (fun k => ?_) (Ev.step stop (Ev.some ?_))
  ·rw [sweep_read.f, if_pos (by omega)]
  ·have : ¬ 1 ≤ g.length := by omega
   simp [chk, this]
 ·refine Ev.congr (f := fun k => sweep_read.j0 k g (g.length : Int) (decide ((g.length : Int) > 7))) (fun k => ?_) ?_
  ·rw [sweep_read.f, if_neg (by omega)]
  ·by_cases h2 : g.length ≤ 7
   ·have e : decide ((g.length : Int) > 7) = false := decide_eq_false (by omega)
    rw [e]
    refine Ev.step (fun k => by rw [sweep_read.j0, if_neg (by simp)]) ?_
    have := read_l0 g h2 g.length 0 (by omega)
    have h3 : decide (1 ≤ g.length) = true := decide_eq_true (by omega)
    simpa [chk, h2, h3] using this
   ·have e : decide ((g.length : Int) > 7) = true := decide_eq_true (by omega)
    rw [e]
    refine Ev.step stop (Ev.some ?_)
    simp [chk, h2]
end Go.Proofs.YtijfddobandcdaaDoor.X
end
section
namespace Go.Proofs.YtijfddobandcdaaDoor.X
open Go.RowKit YtijfddobandcdaaDoorW.PrintWords YtijfddobandcdaaDoorW.PrintLast YtijfddobandcdaaDoorW.PrintMore
attribute [local go_sem] max2_int min2_int max_two min_two max_three min_three max_four min_four
/-! ### lampblackref01_IsGraph: function 48 -/
mutual
def lampblackref01_IsGraph.l0 : Nat → List Int → Int → List Int → Int → Int → Option (Bool)
 | 0, _, _, _, _, _ => none
 | k + 1, x0, x1, x8, x9, x10 => if x10 < x9 then (if 0 ≤ x10 then (if x10 < (x8.length : Int) then (if (x0.length : Int) > x1 then (lampblackref01_IsGraph.j1 k x0 x1 x10 (rd x8 x10) x8 x9 x10 true) else (if (rd x8 x10) < 0 then (lampblackref01_IsGraph.j1 k x0 x1 x10 (rd x8 x10) x8 x9 x10 true) else (if (rd x8 x10) ≥ (shl .i64 1 (x0.length : Int)) then (lampblackref01_IsGraph.j1 k x0 x1 x10 (rd x8 x10) x8 x9 x10 true) else (lampblackref01_IsGraph.j1 k x0 x1 x10 (rd x8 x10) x8 x9 x10 ((Go.bits .and .i64 (shr .i64 (rd x8 x10) x10) 1) == 1))))) else (none)) else (none)) else (if (x0.length : Int) ≥ 1 then (some (decide ((x0.length : Int) ≤ x1))) else (some false))
def lampblackref01_IsGraph.j1 : Nat → List Int → Int → Int → Int → List Int → Int → Int → Bool → Option (Bool)
 | 0, _, _, _, _, _, _, _, _ => none
 | k + 1, x0, x1, x5, x6, x8, x9, x10, x36 => if x36 = true then (some false) else (lampblackref01_IsGraph.l1 k x0 x1 x5 x6 x8 x9 x10 (x0.length : Int) 0)
def lampblackref01_IsGraph.l1 : Nat → List Int → Int → Int → Int → List Int → Int → Int → Int → Int → Option (Bool)
 | 0, _, _, _, _, _, _, _, _, _ => none
 | k + 1, x0, x1, x5, x6, x8, x9, x10, x38, x39 => if x39 < x38 then (if 0 ≤ x39 then (if x39 < (x0.length : Int) then (if 0 ≤ x5 then (if (Go.bits .and .i64 (shr .i64 x6 x39) 1) = (Go.bits .and .i64 (shr .i64 (rd x0 x39) x5) 1) then (lampblackref01_IsGraph.l1 k x0 x1 x5 x6 x8 x9 x10 x38 (wrap64 (x39 + 1))) else (some false)) else (none)) else (none)) else (none)) else (lampblackref01_IsGraph.l0 k x0 x1 x8 x9 (wrap64 (x10 + 1)))
end
end Go.Proofs.YtijfddobandcdaaDoor.X
end
section
/- border, count, layout: what they compute, in plain words; Layout, Least, awake, Few. -/
namespace Go.Proofs.YtijfddobandcdaaDoor.X
open Go.RowKit YtijfddobandcdaaDoorW.PrintWords YtijfddobandcdaaDoorW.PrintLast YtijfddobandcdaaDoorW.PrintMore YtijfddobandcdaaDoor.T
theorem mx_nat (a b : Nat) : mx (a : Int) (b : Int) = ((max a b : Nat) : Int) := by unfold mx; split <;> omega
theorem mn_nat (a b : Nat) : mn (a : Int) (b : Int) = ((min a b : Nat) : Int) := by unfold mn; split <;> omega
theorem small (G : List Nat) (h : G.length ≤ 9) {x : Nat} (hx : x < 2 ^ G.length) : x < 512 := Nat.lt_of_lt_of_le hx (show 2 ^ G.length ≤ 2 ^ 9 from Nat.pow_le_pow_right (by omega) h)
theorem big {x : Nat} (h : x < 512) : x < 2 ^ 62 := by omega
theorem ctz_all : ∀ z : Fin 512, 0 < z.val → Lib.ctz 64 z.val < 9 ∧ z.val.testBit (Lib.ctz 64 z.val) = true ∧ rest z.val = diff z.val (2 ^ Lib.ctz 64 z.val) ∧ ∀ j : Fin 9, z.val.testBit j.val = true → Lib.ctz 64 z.val ≤ j.val := by decide +kernel
theorem ctz_bit {z : Nat} (hz : z < 512) (h0 : z ≠ 0) : bset z (Lib.ctz 64 z) := (ctz_all ⟨z, hz⟩ (by show 0 < z; omega)).2.1
theorem ctz_low {z : Nat} (hz : z < 512) (h0 : z ≠ 0) {j : Nat} (hj : bset z j) : Lib.ctz 64 z ≤ j := (ctz_all ⟨z, hz⟩ (by show 0 < z; omega)).2.2.2 ⟨j, bit_lt (n := 9) (by omega) hj⟩ hj
theorem rest_diff {z : Nat} (hz : z < 512) (h0 : z ≠ 0) : rest z = diff z (2 ^ Lib.ctz 64 z) := (ctz_all ⟨z, hz⟩ (by show 0 < z; omega)).2.2.1
theorem rest_bset {z : Nat} (hz : z < 512) (h0 : z ≠ 0) (j : Nat) : bset (rest z) j ↔ bset z j ∧ j ≠ Lib.ctz 64 z := by
 rw [rest_diff hz h0, diff_bset, two_pow_bit]
theorem rest_pc {z : Nat} (hz : z < 512) (h0 : z ≠ 0) : pc (rest z) 9 < pc z 9 := by
 have h1 := ctz_bit hz h0
 refine pc_lt (Lib.ctz 64 z) 9 (fun j _ h => ((rest_bset hz h0 j).1 h).1) (bit_lt (n := 9) (by omega) h1) ?_ h1
 have := rest_bset hz h0 (Lib.ctz 64 z)
 cases h : (rest z).testBit (Lib.ctz 64 z)
 ·rfl
 ·exact ((this.1 h).2 rfl).elim
theorem diff_ne {a b : Nat} : diff a b ≠ 0 ↔ ∃ u, bset a u ∧ ¬ bset b u := by
 constructor
 ·intro h
  obtain ⟨i, hi⟩ := Nat.exists_testBit_of_ne_zero h
  exact ⟨i, (diff_bset a b i).1 hi⟩
 ·rintro ⟨u, hu⟩ h
  have := (diff_bset a b u).2 hu
  rw [h] at this
  unfold bset at this
  simp at this
theorem count_all : ∀ x : Fin 512, sweep_count.f (x.val : Int) = some (pc x.val 9 : Int) := by decide +kernel
theorem count_eq (x : Nat) (hx : x < 512) : sweep_count.f (x : Int) = some (pc x 9 : Int) := count_all ⟨x, hx⟩
theorem rest_lt' {s n : Nat} (hs5 : s < 512) (h0 : s ≠ 0) (hs : s < 2 ^ n) : rest s < 2 ^ n := lt_of_bits fun j hj => bit_lt hs ((rest_bset hs5 h0 j).1 hj).1
theorem bordTo_eq (G : List Nat) (hG : Gr 7 G) (S : Nat) (hS : S < 2 ^ G.length) : ∀ (k s o : Nat), pc s 9 < k → s < 2 ^ G.length → o < 2 ^ G.length → (∀ j, bset s j → bset S j) →
  ∃ r : Nat, bordTo (gi G) S k s (o : Int) = some (r : Int) ∧ r < 2 ^ G.length ∧ ∀ j, bset r j ↔ bset o j ∨ (bset s j ∧ ∃ u, Adj G j u ∧ ¬ bset S u) := by
 have hn := hG.most
 intro k
 induction k with
 | zero => intro s o h; omega
 | succ k ih =>
  intro s o hk hs ho hsS
  have hs5 := small G (by omega) hs
  by_cases h0 : s = 0
  ·subst h0
   refine ⟨o, by rw [bordTo, if_pos rfl], ho, fun j => ⟨.inl, fun h => h.elim id (fun h => ?_)⟩⟩
   have := h.1
   unfold bset at this
   simp at this
  ·have hb := ctz_bit hs5 h0
   have hp := rest_pc hs5 h0
   have hr := rest_bset hs5 h0
   have hrl := rest_lt' hs5 h0 hs
   rw [bordTo, if_neg h0]
   generalize Lib.ctz 64 s = v at *
   have hv : v < G.length := bit_lt hs hb
   have hpv : 2 ^ v < 2 ^ G.length := Nat.pow_lt_pow_right (by omega) hv
   have hrow := hG.row v
   rw [if_pos (by rw [gi_length]; omega), rd_gi, b_andNot _ _ (big (small G (by omega) hrow)) (big (small G (by omega) hS)), s_one v (by omega), b_or _ _ (big (small G (by omega) ho)) (big (small G (by omega) hpv))]
   by_cases hd : diff (G.getD v 0) S = 0
   ·rw [hd, if_neg (by decide)]
    obtain ⟨r, h1, h2, h3⟩ := ih (rest s) o (by omega) hrl ho (fun j hj => hsS j ((hr j).1 hj).1)
    refine ⟨r, h1, h2, fun j => ?_⟩
    rw [h3, hr]
    constructor
    ·rintro (h | ⟨h, h'⟩)
     ·exact .inl h
     ·exact .inr ⟨h.1, h'⟩
    ·rintro (h | ⟨h, u, hu, hu'⟩)
     ·exact .inl h
     ·refine .inr ⟨⟨h, fun e => ?_⟩, u, hu, hu'⟩
      subst e
      exact (diff_ne.2 ⟨u, hu, hu'⟩ hd).elim
   ·have hd' : ((diff (G.getD v 0) S : Nat) : Int) ≠ 0 := by omega
    rw [if_pos (by simpa using hd)]
    obtain ⟨r, h1, h2, h3⟩ := ih (rest s) (o ||| 2 ^ v) (by omega) hrl (or_lt ho hpv) (fun j hj => hsS j ((hr j).1 hj).1)
    refine ⟨r, h1, h2, fun j => ?_⟩
    rw [h3, hr, or_bset, two_pow_bit]
    obtain ⟨u, hu, hu'⟩ := diff_ne.1 hd
    constructor
    ·rintro ((h | h) | ⟨h, h'⟩)
     ·exact .inl h
     ·subst h; exact .inr ⟨hb, u, hu, hu'⟩
     ·exact .inr ⟨h.1, h'⟩
    ·rintro (h | ⟨h, h'⟩)
     ·exact .inl (.inl h)
     ·by_cases e : j = v
      ·exact .inl (.inr e)
      ·exact .inr ⟨⟨h, e⟩, h'⟩
theorem border_eq (G : List Nat) (hG : Gr 7 G) (S : Nat) (hS : S < 2 ^ G.length) : sweep_town_border.f (gi G) (S : Int) = some ((bor G S : Nat) : Int) := by
 have hn := hG.most
 have hS5 := small G (by omega) hS
 unfold sweep_town_border.f
 rw [if_pos (by omega), if_pos (by have := big hS5; omega), Int.toNat_natCast]
 obtain ⟨r, h1, h2, h3⟩ := bordTo_eq G hG S hS 64 S 0 (by have := pc_le S 9; omega) hS (Nat.two_pow_pos _) (fun _ h => h)
 have e : r = bor G S := eq_of_bits fun j => by
  have a := h3 j
  have b := bor_bit hG S j
  unfold bset at *
  rw [a, b]
  simp
 subst e
 exact h1
noncomputable def bc (G : List Nat) (S : Nat) : Nat := pc (bor G S) 9
theorem cost_eq (G : List Nat) (hG : Gr 7 G) (S : Nat) (hS : S < 2 ^ G.length) : cost (gi G) (S : Int) = some ((bc G S : Nat) : Int) := by
 unfold cost bc
 rw [border_eq G hG S hS, Option.bind_some]
 exact count_eq _ (small G (by have := hG.most; omega) (bor_lt G S))
def PV (G : List Nat) (S x : Nat) : Prop := ∀ q, x ≤ q ↔ Lay G q S
theorem getD_set (W : List Nat) (i j x : Nat) (hi : i < W.length) : (W.set i x).getD j 0 = if j = i then x else W.getD j 0 := by
 simp only [List.getD_eq_getElem?_getD, List.getElem?_set]
 by_cases h : i = j
 ·subst h; simp [hi]
 ·rw [if_neg h, if_neg (fun e => h e.symm)]
theorem bestIn_eq (G : List Nat) (hG : Gr 7 G) (S : Nat) (hS : S < 2 ^ G.length) : ∀ (k s : Nat) (W : List Nat), pc s 9 < k → s < 2 ^ G.length → (∀ j, bset s j → ¬ bset S j) → W.length = 2 ^ G.length →
  ∃ x, bestIn (gi G) S k s (gi W) = some (gi (W.set S x)) ∧ ∀ q, x ≤ q ↔ W.getD S 0 ≤ q ∨ ∃ v, bset s v ∧ W.getD (S ||| 2 ^ v) 0 ≤ q ∧ bc G (S ||| 2 ^ v) ≤ q := by
 have hn := hG.most
 intro k
 induction k with
 | zero => intro s W h; omega
 | succ k ih =>
  intro s W hk hs hsS hW
  have hs5 := small G (by omega) hs
  by_cases h0 : s = 0
  ·subst h0
   refine ⟨W.getD S 0, ?_, fun q => ⟨.inl, fun h => h.elim id (fun ⟨v, h, _⟩ => by unfold bset at h; simp at h)⟩⟩
   rw [bestIn, if_pos rfl]
   congr 2
   apply List.ext_getElem?
   intro i
   rw [List.getElem?_set]
   by_cases e : S = i
   ·subst e
    rw [if_pos rfl, if_pos (by omega), List.getD_eq_getElem?_getD, List.getElem?_eq_getElem (by omega)]
    rfl
   ·rw [if_neg e]
  ·have hb := ctz_bit hs5 h0
   have hp := rest_pc hs5 h0
   have hr := rest_bset hs5 h0
   have hrl := rest_lt' hs5 h0 hs
   rw [bestIn, if_neg h0]
   unfold nxt
   generalize Lib.ctz 64 s = v at *
   have hv : v < G.length := bit_lt hs hb
   have hX := or_new hS hv
   have hgt := or_gt (hsS v hb)
   have hSW : S < W.length := by rw [hW]; exact hS
   have hXW : S ||| 2 ^ v < W.length := by rw [hW]; exact hX
   rw [if_pos (by rw [gi_length]; exact ⟨hSW, hXW⟩), cost_eq G hG _ hX, Option.bind_some, rd_gi, rd_gi, mx_nat, mn_nat, gi_set]
   obtain ⟨x, h1, h2⟩ := ih (rest s) (W.set S (min (W.getD S 0) (max (W.getD (S ||| 2 ^ v) 0) (bc G (S ||| 2 ^ v))))) (Nat.lt_of_lt_of_le hp (Nat.le_of_lt_succ hk)) hrl (fun j hj => hsS j ((hr j).1 hj).1) (by rw [List.length_set]; exact hW)
   refine ⟨x, by rw [h1, List.set_set], fun q => ?_⟩
   rw [h2, getD_set _ _ _ _ hSW, if_pos rfl]
   have hoth : ∀ u, bset (rest s) u → (W.set S (min (W.getD S 0) (max (W.getD (S ||| 2 ^ v) 0) (bc G (S ||| 2 ^ v))))).getD (S ||| 2 ^ u) 0 = W.getD (S ||| 2 ^ u) 0 := fun u hu => by
    have := or_gt (hsS u ((hr u).1 hu).1)
    rw [getD_set _ _ _ _ hSW, if_neg (Nat.ne_of_gt this)]
   clear hX hgt hSW hXW hs hrl hW hs5 hv hp hk ih h1 h2 h0
   constructor
   ·rintro (h | ⟨u, hu, h3, h4⟩)
    ·rcases Nat.le_total (W.getD S 0) (max (W.getD (S ||| 2 ^ v) 0) (bc G (S ||| 2 ^ v))) with h5 | h5
     ·rw [Nat.min_eq_left h5] at h
      exact .inl h
     ·rw [Nat.min_eq_right h5] at h
      exact .inr ⟨v, hb, Nat.le_trans (Nat.le_max_left _ _) h, Nat.le_trans (Nat.le_max_right _ _) h⟩
    ·rw [hoth u hu] at h3
     exact .inr ⟨u, ((hr u).1 hu).1, h3, h4⟩
   ·rintro (h | ⟨u, hu, h3, h4⟩)
    ·exact .inl (Nat.le_trans (Nat.min_le_left _ _) h)
    ·by_cases e : u = v
     ·subst e; exact .inl (Nat.le_trans (Nat.min_le_right _ _) (Nat.max_le.2 ⟨h3, h4⟩))
     ·have hu' := (hr u).2 ⟨hu, e⟩
      exact .inr ⟨u, hu', by rw [hoth u hu']; exact h3, h4⟩
theorem bestTo_eq (G : List Nat) (hG : Gr 7 G) : ∀ (d : Nat) (W : List Nat), d < 2 ^ G.length → W.length = 2 ^ G.length → (∀ T, d ≤ T → T < 2 ^ G.length → PV G T (W.getD T 0)) →
  ∃ W2 : List Nat, bestTo (gi G) d (gi W) = some (gi W2) ∧ W2.length = 2 ^ G.length ∧ ∀ T, T < 2 ^ G.length → PV G T (W2.getD T 0) := by
 have hn := hG.most
 intro d
 induction d with
 | zero => intro W _ hW h; exact ⟨W, rfl, hW, fun T hT => h T (by omega) hT⟩
 | succ d ih =>
  intro W hd hW h
  have hd' : d < 2 ^ G.length := by omega
  have hS5 := small G (by omega) hd'
  have h2 := Nat.two_pow_pos G.length
  have hc : ∀ j, bset (diff (2 ^ G.length - 1) d) j ↔ j < G.length ∧ ¬ bset d j := fun j => by rw [diff_bset, full_bit]
  rw [bestTo]
  simp only [gi_length]
  have e1 : (gi W).set d (G.length : Int) = gi (W.set d G.length) := gi_set W d G.length
  rw [e1]
  obtain ⟨x, h3, h4⟩ := bestIn_eq G hG d hd' 64 (diff (2 ^ G.length - 1) d) (W.set d G.length) (by have := pc_le (diff (2 ^ G.length - 1) d) 9; omega) (Nat.lt_of_le_of_lt (diff_le _ _) (by omega)) (fun j hj => ((hc j).1 hj).2) (by rw [List.length_set]; exact hW)
  rw [h3, Option.bind_some, List.set_set]
  refine ih _ hd' (by rw [List.length_set]; exact hW) fun T h5 h6 => ?_
  rw [getD_set _ _ _ _ (by omega)]
  by_cases e : T = d
  ·subst e
   rw [if_pos rfl]
   intro q
   rw [h4, getD_set _ _ _ _ (by omega), if_pos rfl]
   have hoth : ∀ v, v < G.length → ¬ bset T v → (W.set T G.length).getD (T ||| 2 ^ v) 0 = W.getD (T ||| 2 ^ v) 0 ∧ PV G (T ||| 2 ^ v) (W.getD (T ||| 2 ^ v) 0) := fun v hv hb => by
    have h7 := or_gt hb
    have h8 := or_new hd' hv
    rw [getD_set _ _ _ _ (by omega), if_neg (by omega)]
    exact ⟨rfl, h _ (by omega) h8⟩
   constructor
   ·rintro (h7 | ⟨v, hv, h7, h8⟩)
    ·exact lay_big (.inr h7) (by omega) _ _ rfl hd'
    ·obtain ⟨h9, h10⟩ := (hc v).1 hv
     obtain ⟨h11, h12⟩ := hoth v h9 h10
     rw [h11] at h7
     exact .step h9 h10 h8 ((h12 q).1 h7)
   ·intro h7
    cases h7 with
    | done => omega
    | step h9 h10 h8 h13 =>
     obtain ⟨h11, h12⟩ := hoth _ h9 h10
     exact .inr ⟨_, (hc _).2 ⟨h9, h10⟩, by rw [h11]; exact (h12 q).2 h13, h8⟩
  ·rw [if_neg e]
   exact h T (by omega) h6
def Can (G : List Nat) (m S v : Nat) : Prop := Lay G m (S ||| 2 ^ v) ∧ bc G (S ||| 2 ^ v) ≤ m
inductive Greedy (G : List Nat) (m : Nat) : Nat → List Nat → Prop
 | nil : Greedy G m (2 ^ G.length - 1) []
 | cons {S v : Nat} {L : List Nat} : v < G.length → ¬ bset S v → Can G m S v → (∀ u, u < v → ¬ bset S u → ¬ Can G m S u) → Greedy G m (S ||| 2 ^ v) L → Greedy G m S (v :: L)
theorem goOn_eq (G : List Nat) (hG : Gr 7 G) (W : List Nat) (m : Nat) (hW : W.length = 2 ^ G.length) (hP : ∀ T, T < 2 ^ G.length → PV G T (W.getD T 0)) (hm : W.getD 0 0 = m) (S : Nat) (hS : S < 2 ^ G.length) :
  ∀ (k s : Nat), pc s 9 < k → s < 2 ^ G.length → (∀ j, bset s j → ¬ bset S j) → (∃ v, bset s v ∧ Can G m S v) →
   ∃ v : Nat, goOn (gi G) (gi W) S k s = some (some ((v : Int), S ||| 2 ^ v)) ∧ bset s v ∧ Can G m S v ∧ ∀ u, u < v → bset s u → ¬ Can G m S u := by
 have hn := hG.most
 intro k
 induction k with
 | zero => intro s h; omega
 | succ k ih =>
  intro s hk hs hsS hex
  have hs5 := small G (by omega) hs
  have h0 : s ≠ 0 := fun e => by obtain ⟨v, h, _⟩ := hex; subst e; unfold bset at h; simp at h
  have hb := ctz_bit hs5 h0
  have hlow : ∀ j, bset s j → Lib.ctz 64 s ≤ j := fun j hj => ctz_low hs5 h0 hj
  have hp := rest_pc hs5 h0
  have hr := rest_bset hs5 h0
  have hrl := rest_lt' hs5 h0 hs
  rw [goOn, if_neg h0]
  unfold nxt
  generalize Lib.ctz 64 s = v at *
  have hv : v < G.length := bit_lt hs hb
  have hX := or_new hS hv
  have hXW : S ||| 2 ^ v < W.length := by rw [hW]; exact hX
  have hp' := Nat.lt_of_lt_of_le hp (Nat.le_of_lt_succ hk)
  rw [if_pos (by rw [gi_length]; exact hXW), cost_eq G hG _ hX, Option.bind_some, rd_gi, show rd (gi W) 0 = ((W.getD 0 0 : Nat) : Int) from rd_gi W 0, mx_nat, hm]
  have hPX := hP _ hX
  clear hX hs hW hs5 hv hp hk h0 hS hXW
  by_cases hc : max (W.getD (S ||| 2 ^ v) 0) (bc G (S ||| 2 ^ v)) ≤ m
  ·rw [if_pos (by omega)]
   exact ⟨v, rfl, hb, ⟨(hPX m).1 (by omega), by omega⟩, fun u hu hsu => by have := hlow u hsu; omega⟩
  ·rw [if_neg (by omega)]
   have hno : ¬ Can G m S v := fun h => hc (by have := (hPX m).2 h.1; have := h.2; omega)
   obtain ⟨u, h1, h2, h3, h4⟩ := ih (rest s) hp' hrl (fun j hj => hsS j ((hr j).1 hj).1) (by
    obtain ⟨u, hu, hcu⟩ := hex
    exact ⟨u, (hr u).2 ⟨hu, fun e => hno (e ▸ hcu)⟩, hcu⟩)
   refine ⟨u, h1, ((hr u).1 h2).1, h3, fun x hx hsx => ?_⟩
   by_cases e : x = v
   ·subst e; exact hno
   ·exact h4 x hx ((hr x).2 ⟨hsx, e⟩)
theorem layTo_eq (G : List Nat) (hG : Gr 7 G) (W : List Nat) (m : Nat) (hW : W.length = 2 ^ G.length) (hP : ∀ T, T < 2 ^ G.length → PV G T (W.getD T 0)) (hm : W.getD 0 0 = m) :
  ∀ (k S : Nat) (pre : List Int), pc (diff (2 ^ G.length - 1) S) 9 < k → S < 2 ^ G.length → Lay G m S → ∃ L, layTo (gi G) (gi W) k S pre = some (pre ++ gi L) ∧ Greedy G m S L := by
 have hn := hG.most
 intro k
 induction k with
 | zero => intro S pre h; omega
 | succ k ih =>
  intro S pre hk hS hL
  have h2 := Nat.two_pow_pos G.length
  rw [layTo]
  simp only [gi_length]
  by_cases e : S = 2 ^ G.length - 1
  ·rw [if_pos e, e]
   exact ⟨[], by simp [gi], .nil⟩
  ·rw [if_neg e]
   have hc : ∀ j, bset (diff (2 ^ G.length - 1) S) j ↔ j < G.length ∧ ¬ bset S j := fun j => by rw [diff_bset, full_bit]
   obtain ⟨v, h3, h4, h5, h6⟩ := goOn_eq G hG W m hW hP hm S hS 64 (diff (2 ^ G.length - 1) S) (by have := pc_le (diff (2 ^ G.length - 1) S) 9; omega) (Nat.lt_of_le_of_lt (diff_le _ _) (by omega)) (fun j hj => ((hc j).1 hj).2) (by
    cases hL with
    | done => exact (e rfl).elim
    | step h7 h8 h9 h10 => exact ⟨_, (hc _).2 ⟨h7, h8⟩, h10, h9⟩)
   rw [h3, Option.bind_some]
   obtain ⟨h7, h8⟩ := (hc v).1 h4
   have hX := or_new hS h7
   obtain ⟨L, h9, h10⟩ := ih (S ||| 2 ^ v) (pre ++ [(v : Int)]) (by
    refine Nat.lt_of_lt_of_le (pc_lt v 9 (fun j _ hj => ?_) (by omega) ?_ ((hc v).2 ⟨h7, h8⟩)) (show pc (diff (2 ^ G.length - 1) S) 9 ≤ k by omega)
    ·have a := (diff_bset (2 ^ G.length - 1) (S ||| 2 ^ v) j).1 hj
     exact (diff_bset _ _ _).2 ⟨a.1, fun h => a.2 ((or_bset _ _ _).2 (.inl h))⟩
    ·have a := diff_bset (2 ^ G.length - 1) (S ||| 2 ^ v) v
     cases hh : (diff (2 ^ G.length - 1) (S ||| 2 ^ v)).testBit v
     ·rfl
     ·exact ((a.1 hh).2 ((or_bset _ _ _).2 (.inr ((two_pow_bit v v).2 rfl)))).elim) hX h5.1
   refine ⟨v :: L, ?_, .cons h7 h8 h5 (fun u hu hSu => h6 u hu ((hc u).2 ⟨by omega, hSu⟩)) h10⟩
   show layTo (gi G) (gi W) k (S ||| 2 ^ v) (pre ++ [(v : Int)]) = _
   rw [h9]
   simp [gi]
theorem layout_eq (G : List Nat) (hG : Gr 7 G) : ∃ (L : List Nat) (m : Nat), sweep_town_layout.f (gi G) = some (gi L, (m : Int)) ∧ IsVs G m ∧ Greedy G m 0 L := by
 have hn := hG.most
 have h2 := Nat.two_pow_pos G.length
 have e : List.replicate (2 ^ G.length) (0 : Int) = gi (List.replicate (2 ^ G.length) 0) := by simp [gi]
 obtain ⟨W, h3, h4, h5⟩ := bestTo_eq G hG (2 ^ G.length - 1) (List.replicate (2 ^ G.length) 0) (by omega) (by simp) (fun T hT hT2 q => by
  have e : T = 2 ^ G.length - 1 := by omega
  subst e
  have : (List.replicate (2 ^ G.length) 0).getD (2 ^ G.length - 1) 0 = 0 := by simp [List.getD_eq_getElem?_getD, List.getElem?_replicate]; rw [if_pos (by omega)]; rfl
  rw [this]
  exact ⟨fun _ => .done, fun _ => by omega⟩)
 obtain ⟨L, h6, h7⟩ := layTo_eq G hG W (W.getD 0 0) h4 h5 rfl 11 0 [] (by have := pc_le (diff (2 ^ G.length - 1) 0) 9; omega) h2 ((h5 0 h2 _).1 (Nat.le_refl _))
 refine ⟨L, W.getD 0 0, ?_, h5 0 h2, h7⟩
 unfold sweep_town_layout.f
 simp only [gi_length]
 rw [if_pos ⟨hG.pos, by omega⟩, e, h3, Option.bind_some, h6]
 simp only [List.nil_append, Option.bind_some]
 rw [show rd (gi W) 0 = ((W.getD 0 0 : Nat) : Int) from rd_gi W 0]
theorem Layout_ev (G : List Nat) (hG : Gr 7 G) : ∃ (L : List Nat) (m : Nat), Ev (fun k => sweep_Layout.f k (gi G)) (gi L, (m : Int), 0) ∧ IsVs G m ∧ Greedy G m 0 L := by
 obtain ⟨L, m, h1, h2, h3⟩ := layout_eq G hG
 refine ⟨L, m, ?_, h2, h3⟩
 have hr := read_ev (gi G) (by rw [gi_length]; have := hG.most; omega)
 rw [(chk_iff 7 (by omega) _).2 ⟨G, rfl, hG⟩] at hr
 unfold sweep_Layout.f
 exact Ev.bind hr (Ev.if_pos rfl (Ev.bind1 h1 (Ev.some rfl)))
theorem Layout_bad (g : List Int) (hl : g.length < 2 ^ 60) (h : chk 7 g = false) : Ev (fun k => sweep_Layout.f k g) (([] : List Int), 0, 2) := by
 have hr := read_ev g hl
 rw [h] at hr
 unfold sweep_Layout.f
 exact Ev.bind hr (Ev.if_neg (by simp) (Ev.some rfl))
theorem awake_ev : Ev (fun k => lampblacklaw03_awake.f k) true := by
 exact Ev.of (lampblacklaw03_awake.mono) (k := 40) (by decide +kernel)
theorem few_eq (g : List Int) (hg : g.length < 2 ^ 44) : ∃ h, lampblacklaw03_Few.f g = some h ∧ (chk 7 g = true → h = g) ∧ (chk 7 g = false → chk 7 h = false) ∧ h.length ≤ 11 := by
 have hm : mn (g.length : Int) 11 = ((min g.length 11 : Nat) : Int) := mn_nat g.length 11
 refine ⟨g.take (min g.length 11), ?_, ?_, ?_, ?_⟩
 ·unfold lampblacklaw03_Few.f slices_Clone_Graph.f
  simp only [hm, Int.toNat_natCast]
  rw [if_pos (by omega), if_pos (by omega)]
  simp only [Option.bind_some, List.length_nil, List.nil_append]
  rw [if_pos (by rw [List.length_take]; omega)]
  rfl
 ·intro h
  simp only [chk, Bool.and_eq_true, decide_eq_true_eq] at h
  exact List.take_of_length_le (by omega)
 ·intro h
  by_cases hl : g.length ≤ 11
  ·rw [List.take_of_length_le (by omega)]; exact h
  ·unfold chk
   have : ¬ (List.take (min g.length 11) g).length ≤ 7 := by rw [List.length_take]; omega
   rw [decide_eq_false this, Bool.and_false, Bool.false_and]
 ·rw [List.length_take]; omega
end Go.Proofs.YtijfddobandcdaaDoor.X
end
section
/- lampblackref03.layouts, by hand: all orders that begin in some way. -/
namespace Go.Proofs.YtijfddobandcdaaDoor.X
open Go.RowKit YtijfddobandcdaaDoorW.PrintWords YtijfddobandcdaaDoorW.PrintLast YtijfddobandcdaaDoorW.PrintMore YtijfddobandcdaaDoor.T
attribute [local go_sem] max2_int min2_int max_two min_two max_three min_three max_four min_four
def Rows (B : Nat) (W : World) (rows : List Value) (Ls : List (List Int)) : Prop := rows.length = Ls.length ∧ ∀ (i : Nat) (L : List Int), Ls[i]? = some L → ∃ v, rows[i]? = some v ∧ W.ownsRow B 3 1 v L.length (L.map (Value.int .i64))
theorem Rows.append {B : Nat} {W : World} {r1 r2 : List Value} {L1 L2 : List (List Int)} (h1 : Rows B W r1 L1) (h2 : Rows B W r2 L2) : Rows B W (r1 ++ r2) (L1 ++ L2) := by
 refine ⟨by simp [h1.1, h2.1], fun i L hL => ?_⟩
 by_cases hi : i < L1.length
 ·rw [List.getElem?_append_left hi] at hL
  rw [List.getElem?_append_left (by rw [h1.1]; exact hi)]
  exact h1.2 i L hL
 ·rw [List.getElem?_append_right (by omega)] at hL
  rw [List.getElem?_append_right (by rw [h1.1]; omega), h1.1]
  exact h2.2 _ L hL
theorem Rows.imp {B : Nat} {W V : World} {rows : List Value} {Ls : List (List Int)} (h : Rows B W rows Ls) (hk : ∀ (v : Value) (L : List Int), W.ownsRow B 3 1 v L.length (L.map (Value.int .i64)) → V.ownsRow B 3 1 v L.length (L.map (Value.int .i64))) : Rows B V rows Ls :=
 ⟨h.1, fun i L hL => by obtain ⟨v, h1, h2⟩ := h.2 i L hL; exact ⟨v, h1, hk v L h2⟩⟩
theorem ownsRow_other {W V : World} {base base2 : Nat} {e e2 : TypeId} {size size2 : Nat} {v v2 : Value} {k k2 : Nat} {xs ys : List Value} (h : W.ownsRow base e size v k xs) (h2 : W.ownsRow base2 e2 size2 v2 k2 ys) (hne : e ≠ e2) (hg : W.grownBy V v2.ownBlock) : V.ownsRow base e size v k xs := by
 refine h.kept hg ?_
 rcases h.2 with ⟨rfl, _⟩ | ⟨g, cap, cur, rfl, _, hgb, _⟩
 ·exact .inl rfl
 ·refine .inr fun e' => ?_
  rcases h2.2 with ⟨rfl, _⟩ | ⟨g2, cap2, cur2, rfl, _, hgb2, _⟩
  ·simp [Value.ownBlock] at e'
  ·obtain rfl : g = g2 := by simpa [Value.ownBlock] using e'
   rw [hgb] at hgb2
   cases hgb2
   exact hne rfl
theorem ownsRow_mono {W : World} {base base' : Nat} {e : TypeId} {size : Nat} {v : Value} {k : Nat} {xs : List Value} (h : W.ownsRow base e size v k xs) (hb : base' ≤ base) : W.ownsRow base' e size v k xs := by
 obtain ⟨h1, h2⟩ := h
 refine ⟨h1, ?_⟩
 rcases h2 with h2 | ⟨g, cap, cur, e1, hb1, r⟩
 ·exact .inl h2
 ·exact .inr ⟨g, cap, cur, e1, by omega, r⟩
end Go.Proofs.YtijfddobandcdaaDoor.X
end
section
namespace Go.Proofs.YtijfddobandcdaaDoor.X
open Go.RowKit YtijfddobandcdaaDoorW.PrintWords YtijfddobandcdaaDoorW.PrintLast YtijfddobandcdaaDoorW.PrintMore
attribute [local go_sem] max2_int min2_int max_two min_two max_three min_three max_four min_four
/-! ### lampblackref03_Border: function 59 -/
def lampblackref03_Border.l0 : Nat → List Int → Int → Int → Int → Int → Option (Int)
 | 0, _, _, _, _, _ => none
 | k + 1, x0, x1, x5, x8, x9 => if x9 < x8 then (if 0 ≤ x9 then (if (Go.bits .and .i64 (shr .i64 x1 x9) 1) = 1 then (if x9 < (x0.length : Int) then (if (Go.bits .andNot .i64 (rd x0 x9) x1) = 0 then (lampblackref03_Border.l0 k x0 x1 x5 x8 (wrap64 (x9 + 1))) else (lampblackref03_Border.l0 k x0 x1 (Go.bits .or .i64 x5 (shl .i64 1 x9)) x8 (wrap64 (x9 + 1)))) else (none)) else (lampblackref03_Border.l0 k x0 x1 x5 x8 (wrap64 (x9 + 1)))) else (none)) else (some x5)
def lampblackref03_Border.f (k : Nat) (l0 : List Int) (a1 : Int) : Option (Int) := lampblackref03_Border.l0 k l0 a1 0 (l0.length : Int) 0
end Go.Proofs.YtijfddobandcdaaDoor.X
end
section
namespace Go.Proofs.YtijfddobandcdaaDoor.X
open Go.RowKit YtijfddobandcdaaDoorW.PrintWords YtijfddobandcdaaDoorW.PrintLast YtijfddobandcdaaDoorW.PrintMore
attribute [local go_sem] max2_int min2_int max_two min_two max_three min_three max_four min_four
/-! ### lampblackref03_Breadth: function 31 -/
def lampblackref03_Breadth.l0 : Nat → List Int → Int → Int → List Int → Int → Int → Option (Int)
 | 0, _, _, _, _, _, _ => none
 | k + 1, x0, x5, x6, x9, x10, x11 => if x11 < x10 then (if 0 ≤ x11 then (if x11 < (x9.length : Int) then (if 0 ≤ (rd x9 x11) then ((lampblackref03_Border.f k x0 (Go.bits .or .i64 x6 (shl .i64 1 (rd x9 x11)))).bind fun t138 => ((lampblackref02_Size.f k t138).bind fun t139 => (lampblackref03_Breadth.l0 k x0 (mx x5 t139) (Go.bits .or .i64 x6 (shl .i64 1 (rd x9 x11))) x9 x10 (wrap64 (x11 + 1))))) else (none)) else (none)) else (none)) else (some x5)
end Go.Proofs.YtijfddobandcdaaDoor.X
end
section
/- (family).sides and (town).family, by hand. -/
namespace Go.Proofs.YtijfddobandcdaaDoor.X
open Go.RowKit YtijfddobandcdaaDoorW.PrintWords YtijfddobandcdaaDoorW.PrintLast YtijfddobandcdaaDoorW.PrintMore YtijfddobandcdaaDoor.T
attribute [local go_sem] max2_int min2_int max_two min_two max_three min_three max_four min_four
theorem p7 {G : List Nat} (hn : G.length ≤ 7) : 2 ^ G.length ≤ 128 := Nat.pow_le_pow_right (n := 2) (by omega) hn
theorem all_f {G : List Nat} (hG : Gr 7 G) : sweep_town_all.f (gi G) = some ((2 ^ G.length - 1 : Nat) : Int) := by
 have hn := hG.most
 have hp := p7 hn
 have h0 := Nat.two_pow_pos G.length
 unfold sweep_town_all.f
 rw [gi_length, s_one _ (by omega)]
 generalize 2 ^ G.length = P at *
 rw [w64_small _ (by omega) (by omega)]
 congr 1
 omega
theorem own_ne_blk {W : World} {base g : Nat} {e t : TypeId} {size : Nat} {v : Value} {k : Nat} {xs : List Value} {cs : Array Value} (h : W.ownsRow base e size v k xs) (hb : W.heap[g]? = some (.cells cs t (0, 0))) (hne : e ≠ t) : v.ownBlock ≠ some g := by
 rcases h.2 with ⟨rfl, _⟩ | ⟨g2, cap, cur, rfl, _, hg, _⟩
 ·simp [Value.ownBlock]
 ·intro e2
  obtain rfl : g2 = g := by simpa [Value.ownBlock] using e2
  rw [hg] at hb
  injection hb with hb
  injection hb with _ h2
  exact hne h2
structure FamI (w W : World) (gf H : Nat) (A0 : Option Addr) (c0 n k : Nat) (v2 v3 : Value) (bs : List Bool) (Ls : List (List Int)) : Prop where
 blk : W.heap[gf]? = some (.cells #[.slice A0 n c0, .int .i64 (k : Int), v2, v3] 96 (0, 0))
 ge : w.heap.size ≤ gf
 lt : gf < H
 own2 : W.ownsRow w.heap.size 4 1 v2 bs.length (bs.map Value.bool)
 lt2 : ∀ b, v2.ownBlock = some b → b < H
 own3 : ∃ rows, W.ownsRow w.heap.size 22 1 v3 Ls.length rows ∧ Rows w.heap.size W rows Ls ∧ ∀ v ∈ rows, ∀ b, v.ownBlock = some b → b < H
 lt3 : ∀ b, v3.ownBlock = some b → b < H
 below : Below w.heap.size w W
 top : H ≤ W.heap.size
theorem FamI.kept {w W V : World} {gf H : Nat} {A0 : Option Addr} {c0 n k : Nat} {v2 v3 : Value} {bs : List Bool} {Ls : List (List Int)} {row : Option Nat} (h : FamI w W gf H A0 c0 n k v2 v3 bs Ls) (hg : W.grownBy V row) (hr : ∀ r, row = some r → H ≤ r) : FamI w V gf H A0 c0 n k v2 v3 bs Ls := by
 have ne : ∀ b, b < H → some b ≠ row := fun b hb e => by have := hr b e.symm; omega
 have hlt := h.lt
 have hge := h.ge
 obtain ⟨rows, r1, r2, r3⟩ := h.own3
 refine ⟨blk_grown h.blk hg (ne _ hlt), hge, hlt, own_kept h.own2 hg (fun b hb => ne b (h.lt2 b hb)), h.lt2, ⟨rows, own_kept r1 hg (fun b hb => ne b (h.lt3 b hb)), ⟨r2.1, fun i L hL => ?_⟩, r3⟩, h.lt3, h.below.grown hg h.below.size (fun j e => by have := hr j e; omega), Nat.le_trans h.top hg.size⟩
 obtain ⟨v, q1, q2⟩ := r2.2 i L hL
 exact ⟨v, q1, own_kept q2 hg (fun b hb => ne b (r3 v (List.mem_of_getElem? q1) b hb))⟩
theorem FamI.low {w W V : World} {gf H : Nat} {A0 : Option Addr} {c0 n k : Nat} {v2 v3 : Value} {bs : List Bool} {Ls : List (List Int)} (h : FamI w W gf H A0 c0 n k v2 v3 bs Ls) (hb : Below W.heap.size W V) : FamI w V gf H A0 c0 n k v2 v3 bs Ls := h.kept (grown_of_below hb none) (fun r e => by cases e)
theorem FamI.other {w W V : World} {gf H HH : Nat} {A0 : Option Addr} {c0 n k : Nat} {v2 v3 v3' v7 : Value} {bs : List Bool} {Ls : List (List Int)} {rows : List Value} {L : List Int} {o : Obj} (h : FamI w W gf H A0 c0 n k v2 v3 bs Ls) (hHH : w.heap.size ≤ HH) (h7 : W.ownsRow HH 3 1 v7 L.length (L.map (Value.int .i64))) (r1 : W.ownsRow w.heap.size 22 1 v3 Ls.length rows) (r2 : Rows w.heap.size W rows Ls) (r3 : ∀ v ∈ rows, ∀ b, v.ownBlock = some b → b < H)
  (hg : (W.alloc o).grownBy V v3.ownBlock) (hown : V.ownsRow w.heap.size 22 1 v3' (Ls.length + 1) (rows ++ [v7])) :
  FamI w (V.setCell ⟨gf, 3, none⟩ v3') gf V.heap.size A0 c0 n k v2 v3' bs (Ls ++ [L]) := by
 have hge := h.ge
 have hlt := h.lt
 have htop := h.top
 have hgs := hg.size
 simp only [World.size_alloc] at hgs
 have hsz : (V.setCell ⟨gf, 3, none⟩ v3').heap.size = V.heap.size := World.size_setCell _ _ _
 have hb1 : V.heap[gf]? = some (.cells #[.slice A0 n c0, .int .i64 (k : Int), v2, v3] 96 (0, 0)) := blk_grown (blk_alloc h.blk o) hg (fun e => own_ne_blk (r1.alloc o) (blk_alloc h.blk o) (by decide) e.symm)
 have set_kept : ∀ {base : Nat} {e : TypeId} {v : Value} {m : Nat} {xs : List Value}, V.ownsRow base e 1 v m xs → e ≠ 96 → (V.setCell ⟨gf, 3, none⟩ v3').ownsRow base e 1 v m xs := fun ho he =>
  own_kept ho (grownBy_set V _ _) (fun b hb e2 => own_ne_blk ho hb1 he (by rw [hb]; exact e2))
 refine ⟨by simpa using blk_set hb1 3 v3', hge, by omega, ?_, fun b hb => ?_, ⟨rows ++ [v7], ?_, ?_, fun v hv b hb => ?_⟩, fun b hb => own_lt hown b hb, ?_, by omega⟩
 ·exact set_kept (ownsRow_other (h.own2.alloc o) (r1.alloc o) (by decide) hg) (by decide)
 ·have := h.lt2 b hb; omega
 ·rw [List.length_append]
  exact set_kept hown (by decide)
 ·have q1 : Rows w.heap.size (V.setCell ⟨gf, 3, none⟩ v3') rows Ls := r2.imp fun v L hv => set_kept (ownsRow_other (hv.alloc o) (r1.alloc o) (by decide) hg) (by decide)
  refine q1.append ⟨rfl, fun i L2 hL => ?_⟩
  cases i with
  | zero =>
   obtain rfl : L = L2 := by simpa using hL
   exact ⟨v7, rfl, set_kept (ownsRow_other ((ownsRow_mono h7 hHH).alloc o) (r1.alloc o) (by decide) hg) (by decide)⟩
  | succ i => simp at hL
 ·rcases List.mem_append.1 hv with h1 | h1
  ·have := r3 v h1 b hb; omega
  ·rw [List.mem_singleton.1 h1] at hb
   have := own_lt h7 b hb; omega
 ·exact below_set ((below_alloc h.below o).grown hg (by have := h.below.size; simp; omega) (fun j e => by
   rcases (r1.alloc o).2 with ⟨e1, _⟩ | ⟨g2, cap, cur, e1, hb2, _⟩
   ·rw [e1] at e; simp [Value.ownBlock] at e
   ·rw [e1] at e
    obtain rfl : g2 = j := by simpa [Value.ownBlock] using e
    exact hb2)) hge
end Go.Proofs.YtijfddobandcdaaDoor.X
end
section
/- sweep.CheckBlockage, by hand. -/
namespace Go.Proofs.YtijfddobandcdaaDoor.X
open Go.RowKit YtijfddobandcdaaDoorW.PrintWords YtijfddobandcdaaDoorW.PrintLast YtijfddobandcdaaDoorW.PrintMore YtijfddobandcdaaDoor.T
attribute [local go_sem] max2_int min2_int max_two min_two max_three min_three max_four min_four
def HRow (W : World) (g : Nat) (C : List Bool) : Prop := W.heap[g]? = some (.cells (C.map Value.bool).toArray 4 (0, 0))
theorem HRow.lt {W : World} {g : Nat} {C : List Bool} (h : HRow W g C) : g < W.heap.size := (Array.getElem?_eq_some_iff.1 h).1
theorem HRow.cell {W : World} {g : Nat} {C : List Bool} (h : HRow W g C) (i : Nat) (hi : i < C.length) : W.cell? ⟨g, i, none⟩ = some (.bool (C.getD i false)) := by
 unfold World.cell?
 rw [show W.heap[(⟨g, i, none⟩ : Addr).block]? = _ from h]
 simp only [Option.isSome_none, Bool.false_eq_true, if_false]
 simp [List.getElem?_eq_getElem hi]
theorem HRow.frozen {W : World} {g : Nat} {C : List Bool} (h : HRow W g C) (i : Nat) : W.frozen? ⟨g, i, none⟩ = false := by
 unfold World.frozen?
 rw [show W.heap[(⟨g, i, none⟩ : Addr).block]? = _ from h]
 simp
theorem HRow.below {W V : World} {g : Nat} {C : List Bool} (h : HRow W g C) (hb : Below W.heap.size W V) : HRow V g C := (hb.block g h.lt).trans h
theorem HRow.set {W : World} {g : Nat} {C : List Bool} (h : HRow W g C) (i : Nat) (v : Bool) : HRow (W.setCell ⟨g, i, none⟩ (.bool v)) g (C.set i v) := by
 obtain ⟨hlt, hk⟩ := Array.getElem?_eq_some_iff.1 h
 show (W.heap.modify g _)[g]? = _
 rw [Array.getElem?_eq_getElem (by rw [Array.size_modify]; exact hlt), Array.getElem_modify_self, hk]
 simp [List.map_set]
theorem HRow.made (W : World) (n : Nat) : HRow (W.alloc (.cells (madeCells #[Value.bool false] n) 4)) W.heap.size (List.replicate n false) := by
 have := heap_alloc_new W (.cells (madeCells #[Value.bool false] n) 4)
 unfold HRow
 rw [this]
 congr 2
 unfold madeCells
 apply Array.ext
 ·simp
 ·intro i h1 h2
  simp [Nat.mod_one]
end Go.Proofs.YtijfddobandcdaaDoor.X
end
section
namespace Go.Proofs.YtijfddobandcdaaDoor.X
open Go.RowKit YtijfddobandcdaaDoorW.PrintWords YtijfddobandcdaaDoorW.PrintLast YtijfddobandcdaaDoorW.PrintMore
attribute [local go_sem] max2_int min2_int max_two min_two max_three min_three max_four min_four
/-! ### width_nodes: function 88 -/
def width_nodes.l0 : Nat → Int → List Int → Option (List Int)
 | 0, _, _ => none
 | k + 1, x0, x3 => if x0 = 0 then (some x3) else ((bits_TrailingZeros.f (IntKind.u64.wrap (x0))).bind fun t627 => (if x3.length < 17592186044416 then (width_nodes.l0 k (Go.bits .and .i64 x0 (wrap64 (x0 - 1))) (x3 ++ [t627])) else (none)))
def width_nodes.f (k : Nat) (a0 : Int) : Option (List Int) := width_nodes.l0 k a0 ([] : List Int)
theorem width_nodes.mono_l : ∀ k, (∀ y0 y1, LeO (width_nodes.l0 k y0 y1) (width_nodes.l0 (k + 1) y0 y1))
 | 0 => fun _ _ r h => by simp [width_nodes.l0] at h
 | k + 1 => by
  have ih0 := width_nodes.mono_l k
  ·intro y0 y1
   unfold width_nodes.l0
   repeat' first
   | (with_reducible exact ih0 _ _)
   | (with_reducible exact LeO.refl _)
   | (with_reducible exact LeO.none _)
   | (with_reducible refine LeO.ite ?_ ?_)
   | (with_reducible refine LeO.bind ?_ (fun _ => ?_))
   | exact ih0 _ _
   | exact LeO.none _
   | refine LeO.ite ?_ ?_
   | refine LeO.bind ?_ (fun _ => ?_)
theorem width_nodes.mono : ∀ a0 k, LeO (width_nodes.f k a0) (width_nodes.f (k + 1) a0) := by
 intro a0 k
 have ih0 := width_nodes.mono_l k
 unfold width_nodes.f
 repeat' first
   | (with_reducible exact ih0 _ _)
   | (with_reducible exact LeO.refl _)
   | (with_reducible exact LeO.none _)
   | (with_reducible refine LeO.ite ?_ ?_)
   | (with_reducible refine LeO.bind ?_ (fun _ => ?_))
   | exact ih0 _ _
   | exact LeO.none _
   | refine LeO.ite ?_ ?_
   | refine LeO.bind ?_ (fun _ => ?_)
set_option maxHeartbeats 8000000 in
set_option maxRecDepth 100000 in
theorem width_nodes.calls (k : Nat) (a0 : Int) (r : List Int) (w : World) (hGL : GL w) (h : width_nodes.f k a0 = some r) :
  Calls Tryd.prog 88 #[.int .i64 a0] w fun e w' => ∃ v0_ : Value, e = .returned (v0_) ∧ Kd.R (Kd.int .i64) 3 w' w.heap.size (fun _ => True) v0_ r ∧ Below w.heap.size w w' := by
 have HGL := Aside0.mk hGL
 clear hGL
 have HB := Aside0.mk (Below.refl w.heap.size w)
 have H : (width_nodes.l0 k a0 ([] : List Int)) = some r := h
 clear h
 have H' := Aside0.mk H
 clear H
 go_enter Tryd.func88, Tryd.ntmps88
 go_wp2
 go_loopg [0, 3] k (fun kq v0 v3 w' => ∃ (x0_1 : Int) (x3_1 : List Int), v0 = .int .i64 x0_1 ∧ Aside0 (width_nodes.l0 kq x0_1 x3_1 = some r) ∧ Aside0 (kq ≤ k) ∧ Aside0 (Kd.R (Kd.int .i64) 3 w' w.heap.size (fun _ => True) v3 x3_1) ∧ Aside0 (Below w.heap.size w w'))
 case atStart => exact ⟨(a0), (([] : List Int)), (by first | rfl | (simp; done) | (simp [*]; done)), H', ⟨Nat.le_refl _⟩, ⟨by first | exact Kd.R_nil _ _ _ _ _ | exact Kd.N_nil _ _ _ _ _ | exact Kd.V_nil _ _ _ _ _ | exact Kd.Q_nil _ _ _ _ _ | exact Kd.S_nil _ _ _ _ _⟩, ⟨by repeat (first | (with_reducible first | exact HB.out | apply below_alloc | apply pw_below_drewN | apply below_drew1) | exact HB.out)⟩⟩
 case round =>
  clear H'
  obtain ⟨x0_1, x3_1, rfl, HA, HK1, HO_3, HB⟩ := hrel
  cases gk with
  | zero => exact absurd HA.out (by simp [width_nodes.l0])
  | succ k1 =>
   have H := HA.out
   clear HA
   simp only [width_nodes.l0] at H
   by_cases c2 : x0_1 = 0
   ·rw [if_pos c2] at H
    have c2b0 : (x0_1 == 0) = true := beq_iff_eq.mpr c2
    have c2b1 : (x0_1 != 0) = false := bne_eq_false_iff_eq.mpr c2
    clear c2
    obtain rfl := Option.some.inj H
    go_wp2
    go_ret
    exact ⟨_, by first | rfl | (simp [errW_none, errW_some] <;> rfl) | (simp [*, errW_none, errW_some] <;> rfl), by (with_reducible repeat (first | apply Kd.R_alloc | apply Kd.R_drewN | apply Kd.R_drew)); exact HO_3.out, by repeat (first | (with_reducible first | exact HB.out | apply below_alloc | apply pw_below_drewN | apply below_drew1) | exact HB.out)⟩
   ·rw [if_neg c2] at H
    have c2b0 : (x0_1 == 0) = false := beq_eq_false_iff_ne.mpr c2
    have c2b1 : (x0_1 != 0) = true := bne_iff_ne.mpr c2
    replace H := Option.bind_eq_some_iff.mp H
    obtain ⟨t627, A30, H⟩ := H
    replace H : (if x3_1.length < 17592186044416 then (width_nodes.l0 k1 (Go.bits .and .i64 x0_1 (wrap64 (x0_1 - 1))) (x3_1 ++ [t627])) else (none)) = some r := H
    have A3 := Aside0.mk A30
    clear A30
    by_cases c4 : x3_1.length < 17592186044416
    ·rw [if_pos c4] at H
     have LMc4 := Aside0.mk c4
     clear c4
     obtain ⟨y628, hy628⟩ : ∃ y_ : List Int, y_ = (x3_1 ++ [t627]) := ⟨_, rfl⟩
     replace H : (width_nodes.l0 k1 (Go.bits .and .i64 x0_1 (wrap64 (x0_1 - 1))) y628) = some r := by first | (rw [hy628]; with_reducible exact H) | (have H2_ := (Option.bind_some _ _).symm.trans H; rw [hy628]; with_reducible exact H2_) | (have H2_ := (Option.bind_some _ _).symm.trans H; with_reducible exact H2_) | with_reducible exact H | (rw [hy628]; exact H) | exact H
     have Ny628 := Aside0.mk hy628
     clear hy628
     have H' := Aside0.mk H
     clear H
     go_wp2_with (first | ((with_reducible refine gate_callee (f := 92) rfl ?_); refine goesL_ (some 13) rfl rfl Tryd.func92 (by kernel_rfl) rfl #[.int .u64 (IntKind.u64.wrap (x0_1))] rfl (Qls) ?_; (with_reducible refine (bits_TrailingZeros.calls (hGL := (Qlg)) (IntKind.u64.wrap (x0_1)) t627 _ A3.out).mono ?_); rintro e w' ⟨rfl, ⟨nd, rfl⟩⟩; refine ⟨_, rfl, ?_⟩) | ((with_reducible refine gate_builtin (b := .append) (xs := #[.tmp 10, .tmp 14]) rfl ?_); at_builtin; refine Kd.R_append (Kd.int .i64) (w0 := w) w.heap.size rfl (.tmp 10) (.tmp 14) 22 3 (.int .i64 0) 8 rfl Tryd.underlying22 info3 rfl (by decide) (by omega) u3 x3_1 t627 [.int .i64 t627] (fun _ => True) (fun _ => False) rfl rfl ?aP (fun _ hk => hk.elim) ?aF ?aO ?aB ?aS ?aL ?_; (case aP => exact rfl); (case aB => exact (Qaw)); (case aF => exact (fun _ _ => trivial)); (case aO => exact (Qro HO_3.out)); (case aS => exact (below_size (Qaw))); (case aL => have := LMc4.out; omega); intro v629 w5 ho hb hg hat; rw [← Ny628.out] at ho; have n0_ := Aside0.mk (hb); have n1_ := Aside0.mk (ho); clear HB; clear HO_3; have HB := n0_; have HO630 := n1_; clear n0_ n1_; clear ho hb hg hat))
     go_roundg k1
     case measure => have := HK1.out; omega
     case rel => exact ⟨(Go.bits .and .i64 x0_1 (wrap64 (x0_1 - 1))), (y628), (by first | rfl | (simp; done) | (simp [*]; done)), H', ⟨by have := HK1.out; omega⟩, ⟨by (with_reducible repeat (first | apply Kd.R_alloc | apply Kd.R_drewN | apply Kd.R_drew)); exact HO630.out⟩, ⟨by repeat (first | (with_reducible first | exact HB.out | apply below_alloc | apply pw_below_drewN | apply below_drew1) | exact HB.out)⟩⟩
    ·rw [if_neg c4] at H
     exact absurd H (by simp)
end Go.Proofs.YtijfddobandcdaaDoor.X
end
section
namespace Go.Proofs.YtijfddobandcdaaDoor.X
open Go.RowKit YtijfddobandcdaaDoorW.PrintWords YtijfddobandcdaaDoorW.PrintLast YtijfddobandcdaaDoorW.PrintMore
attribute [local go_sem] max2_int min2_int max_two min_two max_three min_three max_four min_four
/-! ### width_town_all: function 84 -/
def width_town_all.f (l0 : List Int) : Option (Int) := some (wrap64 ((shl .i64 1 (l0.length : Int)) - 1))
set_option maxHeartbeats 8000000 in
set_option maxRecDepth 100000 in
theorem width_town_all.calls (A0 : Option Addr) (c0 : Nat) (l0 : List Int) (r : Int) (w : World) (hr0 : Kd.C (Kd.int .i64) w A0 l0.length l0) (hc0 : l0.length ≤ c0) (h : width_town_all.f l0 = some r) :
  Calls Tryd.prog 84 #[.slice A0 l0.length c0] w fun e w' => e = .returned (.int .i64 r) ∧ Drawn0 w w' := by
 have HR0 := Aside0.mk hr0
 have HC0 := Aside0.mk hc0
 clear hr0 hc0
 have H : (some (wrap64 ((shl .i64 1 (l0.length : Int)) - 1))) = some r := h
 clear h
 obtain ⟨ji2, hji2⟩ : ∃ j_ : Int, (shl .i64 1 (l0.length : Int)) = j_ := ⟨_, rfl⟩
 replace H : (some (wrap64 ((ji2) - 1))) = some r := by first | (rw [hji2] at H; exact H) | (simp only [hji2] at H ⊢; exact H)
 have hji2_ : (IntKind.i64.wrap (1 * 2 ^ min (l0.length : Int).toNat 64)) = ji2 := hji2
 have hji2z : (l0.length : Int) ≤ 64 → (IntKind.i64.wrap (1 * 2 ^ (l0.length : Int).toNat)) = ji2 := shl_small hji2
 have hji2p : (IntKind.i64.wrap (1 * 2 ^ min l0.length 64)) = ji2 := hji2_
 have hji2q : (l0.length : Int) ≤ 64 → (IntKind.i64.wrap (1 * 2 ^ l0.length)) = ji2 := hji2z
 have hji2r : (IntKind.i64.wrap (2 ^ min l0.length 64)) = ji2 := by have h_ := hji2p; rw [Int.one_mul] at h_; exact h_
 have hji2s : (l0.length : Int) ≤ 64 → (IntKind.i64.wrap (2 ^ l0.length)) = ji2 := fun hle_ => by have h_ := hji2q hle_; rw [Int.one_mul] at h_; exact h_
 have hji2u : (IntKind.i64.wrap (2 ^ min (l0.length : Int).toNat 64)) = ji2 := by have h_ := hji2_; rw [Int.one_mul] at h_; exact h_
 have hji2v : (l0.length : Int) ≤ 64 → (IntKind.i64.wrap (2 ^ (l0.length : Int).toNat)) = ji2 := fun hle_ => by have h_ := hji2z hle_; rw [Int.one_mul] at h_; exact h_
 have hji2y : (wrap64 (1 * 2 ^ min (l0.length : Int).toNat 64)) = ji2 := (i64_w _).symm.trans hji2_
 have hji2x : (l0.length : Int) ≤ 64 → (wrap64 (1 * 2 ^ (l0.length : Int).toNat)) = ji2 := fun h_ => (i64_w _).symm.trans (hji2z h_)
 obtain rfl := Option.some.inj H
 go_enter Tryd.func84, Tryd.ntmps84
 go_wp2
 go_ret
 exact ⟨by first | rfl | (simp; done) | (simp only [← hji2] <;> (first | rfl | simp)) | (simp [*]; done), by repeat (first | exact Drawn0.refl _ | apply Drawn0.step)⟩
end Go.Proofs.YtijfddobandcdaaDoor.X
end
section
/- (width.town).tree and its closures, by hand. -/
namespace Go.Proofs.YtijfddobandcdaaDoor.X
open Go.RowKit YtijfddobandcdaaDoorW.PrintWords YtijfddobandcdaaDoorW.PrintLast YtijfddobandcdaaDoorW.PrintMore YtijfddobandcdaaDoor.T
attribute [local go_sem] max2_int min2_int max_two min_two max_three min_three max_four min_four
theorem cell_sameT {W V : World} {a : Addr} (h : V.heap[a.block]? = W.heap[a.block]?) : V.cell? a = W.cell? a := by
 unfold World.cell?
 rw [h]
theorem heap_setT (W : World) (a : Addr) (v : Value) (b : Nat) (h : b ≠ a.block) : (W.setCell a v).heap[b]? = W.heap[b]? := Below.heap_setCell W a v b h
theorem blk_ltT {W : World} {g : Nat} {o : Obj} (h : W.heap[g]? = some o) : g < W.heap.size := (Array.getElem?_eq_some_iff.1 h).1
def cycB (P : List Int) : Nat → Int → Bool
 | 0, at_ => decide (0 ≤ at_)
 | d + 1, at_ => if at_ < 0 then false else cycB P d (rd P at_)
def InP (P : List Int) : Prop := ∀ i, i < P.length → -1 ≤ rd P (i : Int) ∧ rd P (i : Int) < (P.length : Int)
set_option maxHeartbeats 4000000 in
set_option maxRecDepth 100000 in
theorem cyclic_calls (A0 : Option Addr) (n0 c0 : Nat) (A1 : Option Addr) (c1 : Nat) (P : List Int) (at_ : Int) (hP : InP P) (hn : P.length ≤ 30) (ha1 : at_ < (P.length : Int)) (w : World) (hr : Kd.C (Kd.int .i64) w A1 P.length P) :
  Calls Tryd.prog 87 #[.agg #[.slice A0 n0 c0, .slice A1 P.length c1], .int .i64 at_] w fun e w' => e = .returned (.bool (cycB P P.length at_)) ∧ Below w.heap.size w w' := by
 have HR := Aside0.mk hr
 have HP := Aside0.mk hP
 obtain ⟨R, hR⟩ : ∃ r, cycB P P.length at_ = r := ⟨_, rfl⟩
 rw [hR]
 have HC := Aside0.mk hR
 clear hr hP hR
 go_enter Tryd.func87, Tryd.ntmps87
 go_wp2_with (first | ((with_reducible refine gate_dst (N := 2) rfl ?_); refine box_event ?hg (N := 2) ?hd (cs := #[.slice A0 n0 c0, .slice A1 P.length c1]) (t := 74) ?hr ?_; (case hd => rfl); (case hg => rfl); (case hr => first | (go_simp; done) | (go_simp; rfl)); intro ga hga w7 hbox hb7; have HBOX := Aside0.mk hbox; have HB7 := Aside0.mk hb7; have hz1 : w7.cell? ⟨ga, 1, none⟩ = some (.slice A1 P.length c1) := (blk_cell hbox 1).trans rfl; clear hbox hb7 hga))
 go_loopg [1, 8] P.length (fun kq v1 v8 w' => ∃ (i : Nat) (x : Int), v1 = .int .i64 x ∧ v8 = .int .i64 (i : Int) ∧ i + kq = P.length ∧ Aside0 (cycB P kq x = R ∧ x < (P.length : Int)) ∧ w' = w7)
 case atStart => exact ⟨0, at_, rfl, rfl, by omega, ⟨HC.out, ha1⟩, rfl⟩
 case round =>
  clear HC
  obtain ⟨i, x, rfl, rfl, hi, HC, rfl⟩ := hrel
  obtain ⟨hc, hx⟩ := HC.out
  clear HC
  by_cases hil : i < P.length
  ·have hi1 : ((i : Int) < (P.length : Int)) = True := eq_true (by omega)
   have hi2 : decide ((i : Int) < (P.length : Int)) = true := decide_eq_true (by omega)
   cases gk with
   | zero => omega
   | succ gi =>
   simp only [cycB] at hc
   by_cases hx0 : x < 0
   ·rw [if_pos hx0] at hc
    subst hc
    have hd1 : decide (x < 0) = true := decide_eq_true hx0
    clear hx0
    go_wp2
    go_ret
    exact ⟨rfl, HB7.out⟩
   ·rw [if_neg hx0] at hc
    have hd1 : decide (x < 0) = false := decide_eq_false hx0
    obtain ⟨xn, rfl⟩ := Int.eq_ofNat_of_zero_le (show 0 ≤ x by omega)
    have hxl : xn < P.length := by omega
    obtain ⟨ad, e1, hgx⟩ := Kd.at_int (Kd.C_below HR.out HB7.out) (xn : Int) (by omega) (by omega)
    subst e1
    rw [Int.toNat_natCast] at hgx
    obtain ⟨h1, h2⟩ := HP.out xn hxl
    have hj1 : ((xn : Int) < (P.length : Int)) = True := eq_true (by omega)
    have hj2 : decide ((xn : Int) < (P.length : Int)) = true := decide_eq_true (by omega)
    generalize rd P (xn : Int) = y at *
    have HC2 := Aside0.mk hc
    clear hc hx0
    go_wp2
    go_roundg gi
    case measure => omega
    case rel => exact ⟨i + 1, y, rfl, by go_num, by omega, ⟨HC2.out, h2⟩, rfl⟩
  ·have hi1 : ((i : Int) < (P.length : Int)) = False := eq_false (by omega)
   have hi2 : decide ((i : Int) < (P.length : Int)) = false := decide_eq_false (by omega)
   obtain rfl : gk = 0 := by omega
   simp only [cycB] at hc
   have hd3 : decide (x ≥ 0) = R := hc
   have hd4 : decide (0 ≤ x) = R := hc
   clear hc
   go_wp2
   go_ret
   exact ⟨by first | rfl | (rw [hd4]), HB7.out⟩
theorem cyc1 (xB : Nat) (A0 : Option Addr) (n0 c0 : Nat) (A1 : Option Addr) (c1 : Nat) (P : List Int) (at_ : Int) (hP : InP P) (hn : P.length ≤ 30) (ha1 : at_ < (P.length : Int)) (w : World) (hr : Kd.C (Kd.int .i64) w A1 P.length P) (h0 : w.cell? ⟨xB, 0, none⟩ = some (.slice A0 n0 c0)) (h1 : w.cell? ⟨xB, 1, none⟩ = some (.slice A1 P.length c1)) :
  Calls Tryd.prog 86 #[.int .i64 at_, .pointer (some ⟨xB, 0, none⟩)] w fun e w' => e = .returned (.bool (cycB P P.length at_)) ∧ Below w.heap.size w w' := by
 have HC := Aside0.mk (cyclic_calls A0 n0 c0 A1 c1 P at_ hP hn ha1 w hr)
 clear hP hn ha1 hr
 go_enter Tryd.func86, Tryd.ntmps86
 go_wp2_with (go_at_call 87; refine HC.out.mono ?_; rintro e w3 ⟨rfl, hb⟩)
 go_ret
 exact ⟨rfl, hb⟩
def bothB (u v : Nat) (b : Int) : Bool := b.toNat.testBit u && b.toNat.testBit v
theorem both1 (uB vB : Nat) (u v b : Nat) (hu : u < 62) (hv : v < 62) (hb : b < 2 ^ 62) (w : World) (h0 : w.cell? ⟨uB, 0, none⟩ = some (.int .i64 (u : Int))) (h1 : w.cell? ⟨vB, 0, none⟩ = some (.int .i64 (v : Int))) :
  Calls Tryd.prog 89 #[.int .i64 (b : Int), .pointer (some ⟨uB, 0, none⟩), .pointer (some ⟨vB, 0, none⟩)] w fun e w' => e = .returned (.bool (bothB u v (b : Int))) ∧ Below w.heap.size w w' := by
 obtain ⟨J, hJ1, hJ2, hJ3, hJ4, hJ5⟩ := bitJ b u hb hu
 obtain ⟨K, hK1, hK2, hK3, hK4, hK5⟩ := bitJ b v hb hv
 have HB := Aside0.mk (show bothB u v (b : Int) = (b.testBit u && b.testBit v) from rfl)
 have hz1 : (0 : Int) ≤ (u : Int) := by omega
 have hz2 : (0 : Int) ≤ (v : Int) := by omega
 clear hb hJ3 hJ5 hK3 hK5
 rw [HB.out]
 cases hbt : b.testBit u
 ·rw [hbt] at hJ4
  clear hbt
  generalize b.testBit v = bv at *
  go_enter Tryd.func89, Tryd.ntmps89
  go_wp2
  go_ret
  exact ⟨rfl, Below.refl _ _⟩
 ·rw [hbt] at hJ4
  clear hbt
  generalize b.testBit v = bv at *
  go_enter Tryd.func89, Tryd.ntmps89
  go_wp2
  go_ret
  exact ⟨rfl, Below.refl _ _⟩
set_option maxHeartbeats 2000000 in
theorem index_cyc (A : Option Addr) (c : Nat) (l : List Int) (p : Int → Bool) (xB : Nat) (w : World) (hx : Kd.C (Kd.int .i64) w A l.length l) (hl : l.length ≤ 1000)
  (hp : ∀ W, Below w.heap.size w W → ∀ x ∈ l, Calls Tryd.prog 86 #[.int .i64 x, .pointer (some ⟨xB, 0, none⟩)] W fun e w' => e = .returned (.bool (p x)) ∧ Below W.heap.size W w') :
  Calls Tryd.prog 96 #[.slice A l.length c, .func (.func 86) #[] #[.pointer (some ⟨xB, 0, none⟩)]] w fun e w' => ∃ z, e = .returned (.int .i64 z) ∧ decide (z ≥ 0) = l.any p ∧ Below w.heap.size w w' := by
 have HX := Aside0.mk hx
 have HP := Aside0.mk hp
 clear hx hp
 go_enter Tryd.func96, Tryd.ntmps96
 go_wp2
 go_loopg [8] l.length (fun kq v8 w' => ∃ i : Nat, v8 = .int .i64 (i : Int) ∧ i + kq = l.length ∧ Aside0 ((l.drop i).any p = l.any p) ∧ Aside0 (Below w.heap.size w w'))
 case atStart => exact ⟨0, rfl, by omega, ⟨rfl⟩, ⟨Below.refl _ _⟩⟩
 case round =>
  obtain ⟨i, rfl, hi, HA, HB⟩ := hrel
  by_cases hil : i < l.length
  ·have hi1 : ((i : Int) < (l.length : Int)) = True := eq_true (by omega)
   have hi2 : decide ((i : Int) < (l.length : Int)) = true := decide_eq_true (by omega)
   cases gk with
   | zero => omega
   | succ gi =>
   obtain ⟨ad, e1, hgx⟩ := Kd.at_int (Kd.C_below HX.out HB.out) (i : Int) (by omega) (by omega)
   subst e1
   have hra : rd l (i : Int) = l[i] := by unfold rd; rw [Int.toNat_natCast, List.getD_eq_getElem?_getD, List.getElem?_eq_getElem hil]; rfl
   rw [hra, Int.toNat_natCast] at hgx
   have hm : l[i] ∈ l := List.getElem_mem hil
   have ha := HA.out
   rw [List.drop_eq_getElem_cons hil, List.any_cons] at ha
   have HC := Aside0.mk (HP.out wr HB.out _ hm)
   generalize l[i] = x at *
   clear hra HA
   cases hpx : p x
   ·rw [hpx] at HC ha
    have HA2 : Aside0 ((l.drop (i + 1)).any p = l.any p) := ⟨by simpa using ha⟩
    clear ha hpx hm
    go_wp2_with (go_at_call 86; refine HC.out.mono ?_; rintro e w3 ⟨rfl, hb⟩)
    go_roundg gi
    case measure => omega
    case rel => exact ⟨i + 1, by go_num, by omega, HA2, ⟨below_step HB.out hb⟩⟩
   ·rw [hpx] at HC ha
    have HA2 : Aside0 (true = l.any p) := ⟨by simpa using ha⟩
    clear ha hpx hm
    go_wp2_with (go_at_call 86; refine HC.out.mono ?_; rintro e w3 ⟨rfl, hb⟩)
    go_ret
    exact ⟨_, rfl, by rw [← HA2.out]; exact decide_eq_true (by omega), below_step HB.out hb⟩
  ·have hi1 : ((i : Int) < (l.length : Int)) = False := eq_false (by omega)
   have hi2 : decide ((i : Int) < (l.length : Int)) = false := decide_eq_false (by omega)
   have ha := HA.out
   rw [List.drop_eq_nil_of_le (by omega)] at ha
   have HA2 : Aside0 (false = l.any p) := ⟨ha⟩
   clear ha HA
   go_wp2
   go_ret
   exact ⟨_, rfl, by rw [← HA2.out]; rfl, HB.out⟩
theorem contains_cyc (A : Option Addr) (c : Nat) (l : List Int) (p : Int → Bool) (xB : Nat) (w : World) (hx : Kd.C (Kd.int .i64) w A l.length l) (hl : l.length ≤ 1000)
  (hp : ∀ W, Below w.heap.size w W → ∀ x ∈ l, Calls Tryd.prog 86 #[.int .i64 x, .pointer (some ⟨xB, 0, none⟩)] W fun e w' => e = .returned (.bool (p x)) ∧ Below W.heap.size W w') :
  Calls Tryd.prog 85 #[.slice A l.length c, .func (.func 86) #[] #[.pointer (some ⟨xB, 0, none⟩)]] w fun e w' => e = .returned (.bool (l.any p)) ∧ Below w.heap.size w w' := by
 have HI := Aside0.mk (index_cyc A c l p xB w hx hl hp)
 clear hx hl hp
 go_enter Tryd.func85, Tryd.ntmps85
 go_wp2_with (go_at_call 96; refine HI.out.mono ?_; rintro e w3 ⟨z, rfl, hz, hb⟩)
 go_ret
 exact ⟨by rw [← hz]; rfl, hb⟩
set_option maxHeartbeats 2000000 in
theorem index_both (A : Option Addr) (c : Nat) (l : List Int) (p : Int → Bool) (uB vB : Nat) (w : World) (hx : Kd.C (Kd.int .i64) w A l.length l) (hl : l.length ≤ 1000)
  (hp : ∀ W, Below w.heap.size w W → ∀ x ∈ l, Calls Tryd.prog 89 #[.int .i64 x, .pointer (some ⟨uB, 0, none⟩), .pointer (some ⟨vB, 0, none⟩)] W fun e w' => e = .returned (.bool (p x)) ∧ Below W.heap.size W w') :
  Calls Tryd.prog 96 #[.slice A l.length c, .func (.func 89) #[] #[.pointer (some ⟨uB, 0, none⟩), .pointer (some ⟨vB, 0, none⟩)]] w fun e w' => ∃ z, e = .returned (.int .i64 z) ∧ decide (z ≥ 0) = l.any p ∧ Below w.heap.size w w' := by
 have HX := Aside0.mk hx
 have HP := Aside0.mk hp
 clear hx hp
 go_enter Tryd.func96, Tryd.ntmps96
 go_wp2
 go_loopg [8] l.length (fun kq v8 w' => ∃ i : Nat, v8 = .int .i64 (i : Int) ∧ i + kq = l.length ∧ Aside0 ((l.drop i).any p = l.any p) ∧ Aside0 (Below w.heap.size w w'))
 case atStart => exact ⟨0, rfl, by omega, ⟨rfl⟩, ⟨Below.refl _ _⟩⟩
 case round =>
  obtain ⟨i, rfl, hi, HA, HB⟩ := hrel
  by_cases hil : i < l.length
  ·have hi1 : ((i : Int) < (l.length : Int)) = True := eq_true (by omega)
   have hi2 : decide ((i : Int) < (l.length : Int)) = true := decide_eq_true (by omega)
   cases gk with
   | zero => omega
   | succ gi =>
   obtain ⟨ad, e1, hgx⟩ := Kd.at_int (Kd.C_below HX.out HB.out) (i : Int) (by omega) (by omega)
   subst e1
   have hra : rd l (i : Int) = l[i] := by unfold rd; rw [Int.toNat_natCast, List.getD_eq_getElem?_getD, List.getElem?_eq_getElem hil]; rfl
   rw [hra, Int.toNat_natCast] at hgx
   have hm : l[i] ∈ l := List.getElem_mem hil
   have ha := HA.out
   rw [List.drop_eq_getElem_cons hil, List.any_cons] at ha
   have HC := Aside0.mk (HP.out wr HB.out _ hm)
   generalize l[i] = x at *
   clear hra HA
   cases hpx : p x
   ·rw [hpx] at HC ha
    have HA2 : Aside0 ((l.drop (i + 1)).any p = l.any p) := ⟨by simpa using ha⟩
    clear ha hpx hm
    go_wp2_with (go_at_call 89; refine HC.out.mono ?_; rintro e w3 ⟨rfl, hb⟩)
    go_roundg gi
    case measure => omega
    case rel => exact ⟨i + 1, by go_num, by omega, HA2, ⟨below_step HB.out hb⟩⟩
   ·rw [hpx] at HC ha
    have HA2 : Aside0 (true = l.any p) := ⟨by simpa using ha⟩
    clear ha hpx hm
    go_wp2_with (go_at_call 89; refine HC.out.mono ?_; rintro e w3 ⟨rfl, hb⟩)
    go_ret
    exact ⟨_, rfl, by rw [← HA2.out]; exact decide_eq_true (by omega), below_step HB.out hb⟩
  ·have hi1 : ((i : Int) < (l.length : Int)) = False := eq_false (by omega)
   have hi2 : decide ((i : Int) < (l.length : Int)) = false := decide_eq_false (by omega)
   have ha := HA.out
   rw [List.drop_eq_nil_of_le (by omega)] at ha
   have HA2 : Aside0 (false = l.any p) := ⟨ha⟩
   clear ha HA
   go_wp2
   go_ret
   exact ⟨_, rfl, by rw [← HA2.out]; rfl, HB.out⟩
theorem contains_both (A : Option Addr) (c : Nat) (l : List Int) (p : Int → Bool) (uB vB : Nat) (w : World) (hx : Kd.C (Kd.int .i64) w A l.length l) (hl : l.length ≤ 1000)
  (hp : ∀ W, Below w.heap.size w W → ∀ x ∈ l, Calls Tryd.prog 89 #[.int .i64 x, .pointer (some ⟨uB, 0, none⟩), .pointer (some ⟨vB, 0, none⟩)] W fun e w' => e = .returned (.bool (p x)) ∧ Below W.heap.size W w') :
  Calls Tryd.prog 85 #[.slice A l.length c, .func (.func 89) #[] #[.pointer (some ⟨uB, 0, none⟩), .pointer (some ⟨vB, 0, none⟩)]] w fun e w' => e = .returned (.bool (l.any p)) ∧ Below w.heap.size w w' := by
 have HI := Aside0.mk (index_both A c l p uB vB w hx hl hp)
 clear hx hl hp
 go_enter Tryd.func85, Tryd.ntmps85
 go_wp2_with (go_at_call 96; refine HI.out.mono ?_; rintro e w3 ⟨z, rfl, hz, hb⟩)
 go_ret
 exact ⟨by rw [← hz]; rfl, hb⟩
def bitI (x : Int) (v : Nat) : Bool := x.toNat.testBit v
def tl1 (B P : List Int) (n all_ : Nat) : Nat → Nat → Nat → Nat → Option (Nat × Nat)
 | 0, _, ro, ac => some (ro, ac)
 | d + 1, i, ro, ac => if rd P (i : Int) < -1 then none else if (n : Int) ≤ rd P (i : Int) then none else if rd B (i : Int) < 0 then none else if (all_ : Int) < rd B (i : Int) then none else tl1 B P n all_ d (i + 1) (if rd P (i : Int) < 0 then ro + 1 else ro) (ac ||| (rd B (i : Int)).toNat)
def topsF (B P : List Int) (v : Nat) : Nat → Nat → Nat → Nat
 | 0, _, t => t
 | d + 1, i, t => topsF B P v d (i + 1) (if bitI (rd B (i : Int)) v && (decide (rd P (i : Int) < 0) || !bitI (rd B (rd P (i : Int))) v) then t + 1 else t)
def nbF (B : List Int) (v : Nat) : List Nat → Bool
 | [] => true
 | u :: us => B.any (bothB u v) && nbF B v us
def tl2 (G : List Nat) (B P : List Int) : Nat → Nat → Bool
 | 0, _ => true
 | d + 1, v => if topsF B P v B.length 0 0 = 1 then nbF B v (els (G.getD v 0) 9) && tl2 G B P d (v + 1) else false
def treeB2 (G : List Nat) (B P : List Int) : Option (Nat × Nat) → Bool
 | none => false
 | some r => if r.1 = 1 then if r.2 = 2 ^ G.length - 1 then if P.any (cycB P P.length) then false else tl2 G B P G.length 0 else false else false
def treeB (G : List Nat) (B P : List Int) : Bool := if B.length < 1 then false else if 30 < B.length then false else if P.length = B.length then treeB2 G B P (tl1 B P B.length (2 ^ G.length - 1) B.length 0 0 0) else false
theorem wnodes_all : ∀ x : Fin 128, width_nodes.f 10 (x.val : Int) = some (gi (els x.val 9)) := by decide +kernel
theorem tl1_ok (B P : List Int) (n all_ : Nat) : ∀ (d i ro ac : Nat) (r : Nat × Nat), tl1 B P n all_ d i ro ac = some r → ∀ j, i ≤ j → j < i + d → -1 ≤ rd P (j : Int) ∧ rd P (j : Int) < (n : Int) ∧ 0 ≤ rd B (j : Int) ∧ rd B (j : Int) ≤ (all_ : Int)
 | 0, i, _, _, _, _, j, h1, h2 => by omega
 | d + 1, i, ro, ac, r, h, j, h1, h2 => by
  simp only [tl1] at h
  split at h
  ·cases h
  ·split at h
   ·cases h
   ·split at h
    ·cases h
    ·split at h
     ·cases h
     ·by_cases e : j = i
      ·subst e; omega
      ·exact tl1_ok B P n all_ d (i + 1) _ _ r h j (by omega) (by omega)
theorem wall_f {G : List Nat} (hG : Gr 7 G) : width_town_all.f (gi G) = some ((2 ^ G.length - 1 : Nat) : Int) := all_f hG
set_option maxHeartbeats 16000000 in
set_option maxRecDepth 100000 in
theorem tree_calls (Ag : Option Addr) (cg : Nat) (G : List Nat) (hG : Gr 7 G) (hcg : G.length ≤ cg) (A0 : Option Addr) (c0 : Nat) (B : List Int) (A1 : Option Addr) (c1 : Nat) (P : List Int) (R : Bool) (hR : treeB G B P = R) (w : World) (hGL : GL w) (hrg : Kd.C (Kd.int .i64) w Ag (gi G).length (gi G)) (hr0 : Kd.C (Kd.int .i64) w A0 B.length B) (hr1 : Kd.C (Kd.int .i64) w A1 P.length P) :
  Calls Tryd.prog 70 #[.slice Ag G.length cg, .agg #[.slice A0 B.length c0, .slice A1 P.length c1]] w fun e w' => e = .returned (.bool R) ∧ Below w.heap.size w w' := by
 have hn := hG.most
 have HG := Aside0.mk hG
 have HGL := Aside0.mk hGL
 have HRG := Aside0.mk hrg
 have HR0 := Aside0.mk hr0
 have HR1 := Aside0.mk hr1
 have HL := Aside0.mk (gi_length G)
 have HALL := Aside0.mk (wall_f hG)
 have HN7 := Aside0.mk (p7 hn)
 unfold treeB at hR
 clear hG hGL hrg hr0 hr1
 by_cases hb1 : B.length < 1
 ·rw [if_pos hb1] at hR
  subst hR
  have hd1 : decide ((B.length : Int) < 1) = true := decide_eq_true (by omega)
  clear hb1
  go_enter Tryd.func70, Tryd.ntmps70
  go_wp2_with (first | ((with_reducible refine gate_dst (N := 3) rfl ?_); refine box_event ?hg (N := 3) ?hd (cs := #[.slice A0 B.length c0, .slice A1 P.length c1]) (t := 74) ?hr ?_; (case hd => rfl); (case hg => rfl); (case hr => first | (go_simp; done) | (go_simp; rfl)); intro xB hga w7 hbox hb7; have HBOX := Aside0.mk hbox; have HB7 := Aside0.mk hb7; have hz0 : w7.cell? ⟨xB, 0, none⟩ = some (.slice A0 B.length c0) := (blk_cell hbox 0).trans rfl; have hz1 : w7.cell? ⟨xB, 1, none⟩ = some (.slice A1 P.length c1) := (blk_cell hbox 1).trans rfl; clear hbox hb7 hga))
  go_ret
  exact ⟨rfl, HB7.out⟩
 ·rw [if_neg hb1] at hR
  have hd1 : decide ((B.length : Int) < 1) = false := decide_eq_false (by omega)
  by_cases hb30 : 30 < B.length
  ·rw [if_pos hb30] at hR
   subst hR
   have hd2 : decide ((B.length : Int) > 30) = true := decide_eq_true (by omega)
   clear hb1 hb30
   go_enter Tryd.func70, Tryd.ntmps70
   go_wp2_with (first | ((with_reducible refine gate_dst (N := 3) rfl ?_); refine box_event ?hg (N := 3) ?hd (cs := #[.slice A0 B.length c0, .slice A1 P.length c1]) (t := 74) ?hr ?_; (case hd => rfl); (case hg => rfl); (case hr => first | (go_simp; done) | (go_simp; rfl)); intro xB hga w7 hbox hb7; have HBOX := Aside0.mk hbox; have HB7 := Aside0.mk hb7; have hz0 : w7.cell? ⟨xB, 0, none⟩ = some (.slice A0 B.length c0) := (blk_cell hbox 0).trans rfl; have hz1 : w7.cell? ⟨xB, 1, none⟩ = some (.slice A1 P.length c1) := (blk_cell hbox 1).trans rfl; clear hbox hb7 hga))
   go_ret
   exact ⟨rfl, HB7.out⟩
  ·rw [if_neg hb30] at hR
   have hd2 : decide ((B.length : Int) > 30) = false := decide_eq_false (by omega)
   by_cases hpl : P.length = B.length
   ·rw [if_pos hpl] at hR
    have hd3 : ((P.length : Int) == (B.length : Int)) = true := by rw [hpl]; simp
    have hd4 : ((P.length : Int) != (B.length : Int)) = false := by rw [hpl]; simp
    have HPL := Aside0.mk hpl
    have hn1 : 1 ≤ B.length := by omega
    have hn30 : B.length ≤ 30 := by omega
    obtain ⟨T1, hT1⟩ : ∃ r, tl1 B P B.length (2 ^ G.length - 1) B.length 0 0 0 = r := ⟨_, rfl⟩
    rw [hT1] at hR
    have HT1 := Aside0.mk hT1
    have HR := Aside0.mk hR
    have HOK : Aside0 (∀ r, T1 = some r → ∀ j, j < B.length → -1 ≤ rd P (j : Int) ∧ rd P (j : Int) < (B.length : Int) ∧ 0 ≤ rd B (j : Int) ∧ rd B (j : Int) ≤ ((2 ^ G.length - 1 : Nat) : Int)) := ⟨fun r e j hj => tl1_ok B P B.length (2 ^ G.length - 1) B.length 0 0 0 r (by rw [hT1, e]) j (Nat.zero_le _) (by omega)⟩
    obtain ⟨PA, hPA⟩ : ∃ x, 2 ^ G.length - 1 = x := ⟨_, rfl⟩
    rw [hPA] at HT1 HOK HALL
    have HPA := Aside0.mk hPA
    have hPA7 : PA < 128 := by rw [← hPA]; have := HN7.out; omega
    clear hb1 hb30 hpl hT1 hR hPA
    go_enter Tryd.func70, Tryd.ntmps70
    go_wp2_with (first | ((with_reducible refine gate_dst (N := 3) rfl ?_); refine box_event ?hg (N := 3) ?hd (cs := #[.slice A0 B.length c0, .slice A1 P.length c1]) (t := 74) ?hr ?_; (case hd => rfl); (case hg => rfl); (case hr => first | (go_simp; done) | (go_simp; rfl)); intro xB hga w7 hbox hb7; have HBOX := Aside0.mk hbox; have HB7 := Aside0.mk hb7; have hz0 : w7.cell? ⟨xB, 0, none⟩ = some (.slice A0 B.length c0) := (blk_cell hbox 0).trans rfl; have hz1 : w7.cell? ⟨xB, 1, none⟩ = some (.slice A1 P.length c1) := (blk_cell hbox 1).trans rfl; clear hbox hb7 hga))
    go_loopg [6, 7, 35] B.length (fun kq v6 v7 v35 w' => ∃ (i ro ac : Nat), v6 = .int .i64 (ro : Int) ∧ v7 = .int .i64 (ac : Int) ∧ v35 = .int .i64 (i : Int) ∧ i + kq = B.length ∧ Aside0 (tl1 B P B.length PA kq i ro ac = T1 ∧ ro ≤ i ∧ ac < 128) ∧ Aside0 (Below w7.heap.size w7 w'))
    case atStart => exact ⟨0, 0, 0, rfl, rfl, rfl, by omega, ⟨HT1.out, Nat.le_refl _, by decide⟩, ⟨Below.refl _ _⟩⟩
    case round =>
     clear HT1
     obtain ⟨i, ro, ac, rfl, rfl, rfl, hi, HT, HB⟩ := hrel
     by_cases hil : i < B.length
     ·have hi1 : ((i : Int) < (B.length : Int)) = True := eq_true (by omega)
      have hi2 : decide ((i : Int) < (B.length : Int)) = true := decide_eq_true (by omega)
      have hi3 : ((i : Int) < (P.length : Int)) = True := eq_true (by have := HPL.out; omega)
      have hi4 : decide ((i : Int) < (P.length : Int)) = true := decide_eq_true (by have := HPL.out; omega)
      cases gk with
      | zero => omega
      | succ gq =>
      obtain ⟨ht, hro, hac⟩ := HT.out
      simp only [tl1] at ht
      obtain ⟨adP, e1, hgp⟩ := Kd.at_int (Kd.C_below (Kd.C_below HR1.out HB7.out) HB.out) (i : Int) (by omega) (by have := HPL.out; omega)
      subst e1
      obtain ⟨adB, e2, hgb⟩ := Kd.at_int (Kd.C_below (Kd.C_below HR0.out HB7.out) HB.out) (i : Int) (by omega) (by omega)
      subst e2
      rw [Int.toNat_natCast] at hgp hgb
      have hgb0 := hgb
      generalize rd P (i : Int) = p at *
      generalize rd B (i : Int) = b at *
      have hbc := blk_below HBOX.out HB.out
      have f0d : wr.drew.cell? ⟨xB, 0, none⟩ = some (.slice (some adB) B.length c0) := (blk_cell hbc 0).trans rfl
      have f1d : wr.drew.cell? (adB.add i) = some (.int .i64 b) := hgb
      have fbd : Below w7.heap.size w7 wr.drew := below_drew HB.out
      clear HT hbc
      by_cases hp1 : p < -1
      ·rw [if_pos hp1] at ht
       have hd5 : decide (p < -1) = true := decide_eq_true hp1
       subst ht
       have hr := HR.out
       simp only [treeB2] at hr
       subst hr
       clear hp1
       go_wp2_with (fail)
       refine start_ (n := 25) (S := fun w' => Below w7.heap.size w7 w') (ds := []) (Qbz 25 0) (by kernel_rfl) rfl rfl (fbd) (fun hHeld => ?_)
       refine pure_ (i := 0) (N := some 40) (v := ?_) (a' := ?_) (Qbz 25 1) rfl rfl (by kernel_rfl) (fun _ _ _ h => h) (Or.inl ⟨by rfl, ?_⟩) ?_ ?_
       rotate_left
       ·intro w'
        go_simp
        with_reducible rfl
       rotate_left
       ·simp only [Act.put, Qp1, Qp2, Qp3, i64_w, i32_w]
        rfl
       refine pure_ (i := 1) (N := some 41) (v := ?_) (a' := ?_) (Qbz 25 3) rfl rfl (by kernel_rfl) (fun _ _ _ h => h) (Or.inl ⟨by rfl, ?_⟩) ?_ ?_
       rotate_left
       ·intro w'
        go_simp
        with_reducible rfl
       rotate_left
       ·simp only [Act.put, Qp1, Qp2, Qp3, i64_w, i32_w]
        rfl
       refine pure_ (i := 2) (N := some 42) (v := ?_) (a' := ?_) (Qbz 25 7) rfl rfl (by kernel_rfl) (fun _ _ _ h => h) (Or.inl ⟨by rfl, ?_⟩) ?_ ?_
       rotate_left
       ·intro w'
        go_simp
        with_reducible rfl
       rotate_left
       ·simp only [Act.put, Qp1, Qp2, Qp3, i64_w, i32_w]
        rfl
       refine pure_ (i := 3) (N := some 43) (v := undef) (a' := ?_) (Qbz 25 15) rfl rfl (by kernel_rfl) (fun _ _ _ h => h) (Or.inr ⟨by rfl, rfl⟩) ?_ ?_
       rotate_left
       ·simp only [Act.put, Qp1, Qp2, Qp3, i64_w, i32_w]
        rfl
       refine pure_ (i := 4) (N := some 44) (v := undef) (a' := ?_) (Qbz 25 31) rfl rfl (by kernel_rfl) (fun _ _ _ h => h) (Or.inr ⟨by rfl, rfl⟩) ?_ ?_
       rotate_left
       ·simp only [Act.put, Qp1, Qp2, Qp3, i64_w, i32_w]
        rfl
       refine pure_ (i := 5) (N := some 45) (v := undef) (a' := ?_) (Qbz 25 63) rfl rfl (by kernel_rfl) (fun _ _ _ h => h) (Or.inr ⟨by rfl, rfl⟩) ?_ ?_
       rotate_left
       ·simp only [Act.put, Qp1, Qp2, Qp3, i64_w, i32_w]
        rfl
       refine pure_ (i := 6) (N := some 46) (v := ?_) (a' := ?_) (Qbz 25 127) rfl rfl (by kernel_rfl) (fun _ _ _ h => h) (Or.inl ⟨by rfl, ?_⟩) ?_ ?_
       rotate_left
       ·intro w'
        go_simp
        with_reducible rfl
       rotate_left
       ·simp only [Act.put, Qp1, Qp2, Qp3, i64_w, i32_w]
        rfl
       refine pure_ (i := 7) (N := some 47) (v := ?_) (a' := ?_) (Qbz 25 255) rfl rfl (by kernel_rfl) (fun _ _ _ h => h) (Or.inl ⟨by rfl, ?_⟩) ?_ ?_
       rotate_left
       ·intro w'
        go_simp
        with_reducible rfl
       rotate_left
       ·simp only [Act.put, Qp1, Qp2, Qp3, i64_w, i32_w]
        rfl
       refine pure_ (i := 8) (N := some 48) (v := undef) (a' := ?_) (Qbz 25 511) rfl rfl (by kernel_rfl) (fun _ _ _ h => h) (Or.inr ⟨by rfl, rfl⟩) ?_ ?_
       rotate_left
       ·simp only [Act.put, Qp1, Qp2, Qp3, i64_w, i32_w]
        rfl
       refine pure_ (i := 9) (N := some 49) (v := undef) (a' := ?_) (Qbz 25 1023) rfl rfl (by kernel_rfl) (fun _ _ _ h => h) (Or.inr ⟨by rfl, rfl⟩) ?_ ?_
       rotate_left
       ·simp only [Act.put, Qp1, Qp2, Qp3, i64_w, i32_w]
        rfl
       refine pure_ (i := 10) (N := some 50) (v := undef) (a' := ?_) (Qbz 25 2047) rfl rfl (by kernel_rfl) (fun _ _ _ h => h) (Or.inr ⟨by rfl, rfl⟩) ?_ ?_
       rotate_left
       ·simp only [Act.put, Qp1, Qp2, Qp3, i64_w, i32_w]
        rfl
       refine pure_ (i := 11) (N := some 51) (v := undef) (a' := ?_) (Qbz 25 4095) rfl rfl (by kernel_rfl) (fun _ _ _ h => h) (Or.inr ⟨by rfl, rfl⟩) ?_ ?_
       rotate_left
       ·simp only [Act.put, Qp1, Qp2, Qp3, i64_w, i32_w]
        rfl
       refine pure_ (i := 12) (N := some 52) (v := undef) (a' := ?_) (Qbz 25 8191) rfl rfl (by kernel_rfl) (fun _ _ _ h => h) (Or.inr ⟨by rfl, rfl⟩) ?_ ?_
       rotate_left
       ·simp only [Act.put, Qp1, Qp2, Qp3, i64_w, i32_w]
        rfl
       refine pure_ (i := 13) (N := some 53) (v := undef) (a' := ?_) (Qbz 25 16383) rfl rfl (by kernel_rfl) (fun _ _ _ h => h) (Or.inr ⟨by rfl, rfl⟩) ?_ ?_
       rotate_left
       ·simp only [Act.put, Qp1, Qp2, Qp3, i64_w, i32_w]
        rfl
       refine pure_ (i := 14) (N := some 54) (v := ?_) (a' := ?_) (Qbz 25 32767) rfl rfl (by kernel_rfl) (fun _ _ _ h => h) (Or.inl ⟨by rfl, ?_⟩) ?_ ?_
       rotate_left
       ·intro w'
        go_simp
        with_reducible rfl
       rotate_left
       ·simp only [Act.put, Qp1, Qp2, Qp3, i64_w, i32_w]
        rfl
       refine pure_ (i := 15) (N := some 55) (v := ?_) (a' := ?_) (Qbz 25 65535) rfl rfl (by kernel_rfl) (fun _ _ _ h => h) (Or.inl ⟨by rfl, ?_⟩) ?_ ?_
       rotate_left
       ·intro w'
        go_simp
        with_reducible rfl
       rotate_left
       ·simp only [Act.put, Qp1, Qp2, Qp3, i64_w, i32_w]
        rfl
       refine pure_ (i := 16) (N := some 56) (v := undef) (a' := ?_) (Qbz 25 131071) rfl rfl (by kernel_rfl) (fun _ _ _ h => h) (Or.inr ⟨by rfl, rfl⟩) ?_ ?_
       rotate_left
       ·simp only [Act.put, Qp1, Qp2, Qp3, i64_w, i32_w]
        rfl
       refine pure_ (i := 17) (N := some 57) (v := undef) (a' := ?_) (Qbz 25 262143) rfl rfl (by kernel_rfl) (fun _ _ _ h => h) (Or.inr ⟨by rfl, rfl⟩) ?_ ?_
       rotate_left
       ·simp only [Act.put, Qp1, Qp2, Qp3, i64_w, i32_w]
        rfl
       refine pure_ (i := 18) (N := some 58) (v := undef) (a' := ?_) (Qbz 25 524287) rfl rfl (by kernel_rfl) (fun _ _ _ h => h) (Or.inr ⟨by rfl, rfl⟩) ?_ ?_
       rotate_left
       ·simp only [Act.put, Qp1, Qp2, Qp3, i64_w, i32_w]
        rfl
       refine pure_ (i := 19) (N := some 59) (v := undef) (a' := ?_) (Qbz 25 1048575) rfl rfl (by kernel_rfl) (fun _ _ _ h => h) (Or.inr ⟨by rfl, rfl⟩) ?_ ?_
       rotate_left
       ·simp only [Act.put, Qp1, Qp2, Qp3, i64_w, i32_w]
        rfl
       refine pure_ (i := 20) (N := some 60) (v := undef) (a' := ?_) (Qbz 25 2097151) rfl rfl (by kernel_rfl) (fun _ _ _ h => h) (Or.inr ⟨by rfl, rfl⟩) ?_ ?_
       rotate_left
       ·simp only [Act.put, Qp1, Qp2, Qp3, i64_w, i32_w]
        rfl
       refine pure_ (i := 21) (N := some 61) (v := undef) (a' := ?_) (Qbz 25 4194303) rfl rfl (by kernel_rfl) (fun _ _ _ h => h) (Or.inr ⟨by rfl, rfl⟩) ?_ ?_
       rotate_left
       ·simp only [Act.put, Qp1, Qp2, Qp3, i64_w, i32_w]
        rfl
       refine pure_ (i := 22) (N := some 62) (v := undef) (a' := ?_) (Qbz 25 8388607) rfl rfl (by kernel_rfl) (fun _ _ _ h => h) (Or.inr ⟨by rfl, rfl⟩) ?_ ?_
       rotate_left
       ·simp only [Act.put, Qp1, Qp2, Qp3, i64_w, i32_w]
        rfl
       refine pure_ (i := 23) (N := some 63) (v := undef) (a' := ?_) (Qbz 25 16777215) rfl rfl (by kernel_rfl) (fun _ _ _ h => h) (Or.inr ⟨by rfl, rfl⟩) ?_ ?_
       rotate_left
       ·simp only [Act.put, Qp1, Qp2, Qp3, i64_w, i32_w]
        rfl
       refine pure_ (i := 24) (N := some 64) (v := ?_) (a' := ?_) (Qbz 25 33554431) rfl rfl (by kernel_rfl) (fun _ _ _ h => h) (Or.inl ⟨by rfl, ?_⟩) ?_ ?_
       rotate_left
       ·intro w'
        go_simp
        with_reducible rfl
       rotate_left
       ·simp only [Act.put, Qp1, Qp2, Qp3, i64_w, i32_w]
        rfl
       refine done_ (by kernel_rfl) ?_
       go_wp2
       go_ret
       exact ⟨rfl, below_step HB7.out fbd⟩
      ·rw [if_neg hp1] at ht
       have hd5 : decide (p < -1) = false := decide_eq_false hp1
       by_cases hp2 : (B.length : Int) ≤ p
       ·rw [if_pos hp2] at ht
        have hd6 : decide (p ≥ (B.length : Int)) = true := decide_eq_true hp2
        have hd7 : decide ((B.length : Int) ≤ p) = true := decide_eq_true hp2
        subst ht
        have hr := HR.out
        simp only [treeB2] at hr
        subst hr
        clear hp1 hp2
        go_wp2_with (fail)
        refine start_ (n := 25) (S := fun w' => Below w7.heap.size w7 w') (ds := []) (Qbz 25 0) (by kernel_rfl) rfl rfl (fbd) (fun hHeld => ?_)
        refine pure_ (i := 0) (N := some 40) (v := ?_) (a' := ?_) (Qbz 25 1) rfl rfl (by kernel_rfl) (fun _ _ _ h => h) (Or.inl ⟨by rfl, ?_⟩) ?_ ?_
        rotate_left
        ·intro w'
         go_simp
         with_reducible rfl
        rotate_left
        ·simp only [Act.put, Qp1, Qp2, Qp3, i64_w, i32_w]
         rfl
        refine pure_ (i := 1) (N := some 41) (v := ?_) (a' := ?_) (Qbz 25 3) rfl rfl (by kernel_rfl) (fun _ _ _ h => h) (Or.inl ⟨by rfl, ?_⟩) ?_ ?_
        rotate_left
        ·intro w'
         go_simp
         with_reducible rfl
        rotate_left
        ·simp only [Act.put, Qp1, Qp2, Qp3, i64_w, i32_w]
         rfl
        refine pure_ (i := 2) (N := some 42) (v := ?_) (a' := ?_) (Qbz 25 7) rfl rfl (by kernel_rfl) (fun _ _ _ h => h) (Or.inl ⟨by rfl, ?_⟩) ?_ ?_
        rotate_left
        ·intro w'
         go_simp
         with_reducible rfl
        rotate_left
        ·simp only [Act.put, Qp1, Qp2, Qp3, i64_w, i32_w]
         rfl
        refine pure_ (i := 3) (N := some 43) (v := ?_) (a' := ?_) (Qbz 25 15) rfl rfl (by kernel_rfl) (fun _ _ _ h => h) (Or.inl ⟨by rfl, ?_⟩) ?_ ?_
        rotate_left
        ·intro w'
         go_simp
         with_reducible rfl
        rotate_left
        ·simp only [Act.put, Qp1, Qp2, Qp3, i64_w, i32_w]
         rfl
        refine pure_ (i := 4) (N := some 44) (v := ?_) (a' := ?_) (Qbz 25 31) rfl rfl (by kernel_rfl) (fun _ _ _ h => h) (Or.inl ⟨by rfl, ?_⟩) ?_ ?_
        rotate_left
        ·intro w'
         go_simp
         with_reducible rfl
        rotate_left
        ·simp only [Act.put, Qp1, Qp2, Qp3, i64_w, i32_w]
         rfl
        refine pure_ (i := 5) (N := some 45) (v := ?_) (a' := ?_) (Qbz 25 63) rfl rfl (by kernel_rfl) (fun _ _ _ h => h) (Or.inl ⟨by rfl, ?_⟩) ?_ ?_
        rotate_left
        ·intro w'
         go_simp
         with_reducible rfl
        rotate_left
        ·simp only [Act.put, Qp1, Qp2, Qp3, i64_w, i32_w]
         rfl
        refine pure_ (i := 6) (N := some 46) (v := ?_) (a' := ?_) (Qbz 25 127) rfl rfl (by kernel_rfl) (fun _ _ _ h => h) (Or.inl ⟨by rfl, ?_⟩) ?_ ?_
        rotate_left
        ·intro w'
         go_simp
         with_reducible rfl
        rotate_left
        ·simp only [Act.put, Qp1, Qp2, Qp3, i64_w, i32_w]
         rfl
        refine pure_ (i := 7) (N := some 47) (v := ?_) (a' := ?_) (Qbz 25 255) rfl rfl (by kernel_rfl) (fun _ _ _ h => h) (Or.inl ⟨by rfl, ?_⟩) ?_ ?_
        rotate_left
        ·intro w'
         go_simp
         with_reducible rfl
        rotate_left
        ·simp only [Act.put, Qp1, Qp2, Qp3, i64_w, i32_w]
         rfl
        refine pure_ (i := 8) (N := some 48) (v := undef) (a' := ?_) (Qbz 25 511) rfl rfl (by kernel_rfl) (fun _ _ _ h => h) (Or.inr ⟨by rfl, rfl⟩) ?_ ?_
        rotate_left
        ·simp only [Act.put, Qp1, Qp2, Qp3, i64_w, i32_w]
         rfl
        refine pure_ (i := 9) (N := some 49) (v := undef) (a' := ?_) (Qbz 25 1023) rfl rfl (by kernel_rfl) (fun _ _ _ h => h) (Or.inr ⟨by rfl, rfl⟩) ?_ ?_
        rotate_left
        ·simp only [Act.put, Qp1, Qp2, Qp3, i64_w, i32_w]
         rfl
        refine pure_ (i := 10) (N := some 50) (v := undef) (a' := ?_) (Qbz 25 2047) rfl rfl (by kernel_rfl) (fun _ _ _ h => h) (Or.inr ⟨by rfl, rfl⟩) ?_ ?_
        rotate_left
        ·simp only [Act.put, Qp1, Qp2, Qp3, i64_w, i32_w]
         rfl
        refine pure_ (i := 11) (N := some 51) (v := undef) (a' := ?_) (Qbz 25 4095) rfl rfl (by kernel_rfl) (fun _ _ _ h => h) (Or.inr ⟨by rfl, rfl⟩) ?_ ?_
        rotate_left
        ·simp only [Act.put, Qp1, Qp2, Qp3, i64_w, i32_w]
         rfl
        refine pure_ (i := 12) (N := some 52) (v := undef) (a' := ?_) (Qbz 25 8191) rfl rfl (by kernel_rfl) (fun _ _ _ h => h) (Or.inr ⟨by rfl, rfl⟩) ?_ ?_
        rotate_left
        ·simp only [Act.put, Qp1, Qp2, Qp3, i64_w, i32_w]
         rfl
        refine pure_ (i := 13) (N := some 53) (v := undef) (a' := ?_) (Qbz 25 16383) rfl rfl (by kernel_rfl) (fun _ _ _ h => h) (Or.inr ⟨by rfl, rfl⟩) ?_ ?_
        rotate_left
        ·simp only [Act.put, Qp1, Qp2, Qp3, i64_w, i32_w]
         rfl
        refine pure_ (i := 14) (N := some 54) (v := ?_) (a' := ?_) (Qbz 25 32767) rfl rfl (by kernel_rfl) (fun _ _ _ h => h) (Or.inl ⟨by rfl, ?_⟩) ?_ ?_
        rotate_left
        ·intro w'
         go_simp
         with_reducible rfl
        rotate_left
        ·simp only [Act.put, Qp1, Qp2, Qp3, i64_w, i32_w]
         rfl
        refine pure_ (i := 15) (N := some 55) (v := ?_) (a' := ?_) (Qbz 25 65535) rfl rfl (by kernel_rfl) (fun _ _ _ h => h) (Or.inl ⟨by rfl, ?_⟩) ?_ ?_
        rotate_left
        ·intro w'
         go_simp
         with_reducible rfl
        rotate_left
        ·simp only [Act.put, Qp1, Qp2, Qp3, i64_w, i32_w]
         rfl
        refine pure_ (i := 16) (N := some 56) (v := undef) (a' := ?_) (Qbz 25 131071) rfl rfl (by kernel_rfl) (fun _ _ _ h => h) (Or.inr ⟨by rfl, rfl⟩) ?_ ?_
        rotate_left
        ·simp only [Act.put, Qp1, Qp2, Qp3, i64_w, i32_w]
         rfl
        refine pure_ (i := 17) (N := some 57) (v := undef) (a' := ?_) (Qbz 25 262143) rfl rfl (by kernel_rfl) (fun _ _ _ h => h) (Or.inr ⟨by rfl, rfl⟩) ?_ ?_
        rotate_left
        ·simp only [Act.put, Qp1, Qp2, Qp3, i64_w, i32_w]
         rfl
        refine pure_ (i := 18) (N := some 58) (v := undef) (a' := ?_) (Qbz 25 524287) rfl rfl (by kernel_rfl) (fun _ _ _ h => h) (Or.inr ⟨by rfl, rfl⟩) ?_ ?_
        rotate_left
        ·simp only [Act.put, Qp1, Qp2, Qp3, i64_w, i32_w]
         rfl
        refine pure_ (i := 19) (N := some 59) (v := undef) (a' := ?_) (Qbz 25 1048575) rfl rfl (by kernel_rfl) (fun _ _ _ h => h) (Or.inr ⟨by rfl, rfl⟩) ?_ ?_
        rotate_left
        ·simp only [Act.put, Qp1, Qp2, Qp3, i64_w, i32_w]
         rfl
        refine pure_ (i := 20) (N := some 60) (v := undef) (a' := ?_) (Qbz 25 2097151) rfl rfl (by kernel_rfl) (fun _ _ _ h => h) (Or.inr ⟨by rfl, rfl⟩) ?_ ?_
        rotate_left
        ·simp only [Act.put, Qp1, Qp2, Qp3, i64_w, i32_w]
         rfl
        refine pure_ (i := 21) (N := some 61) (v := undef) (a' := ?_) (Qbz 25 4194303) rfl rfl (by kernel_rfl) (fun _ _ _ h => h) (Or.inr ⟨by rfl, rfl⟩) ?_ ?_
        rotate_left
        ·simp only [Act.put, Qp1, Qp2, Qp3, i64_w, i32_w]
         rfl
        refine pure_ (i := 22) (N := some 62) (v := undef) (a' := ?_) (Qbz 25 8388607) rfl rfl (by kernel_rfl) (fun _ _ _ h => h) (Or.inr ⟨by rfl, rfl⟩) ?_ ?_
        rotate_left
        ·simp only [Act.put, Qp1, Qp2, Qp3, i64_w, i32_w]
         rfl
        refine pure_ (i := 23) (N := some 63) (v := undef) (a' := ?_) (Qbz 25 16777215) rfl rfl (by kernel_rfl) (fun _ _ _ h => h) (Or.inr ⟨by rfl, rfl⟩) ?_ ?_
        rotate_left
        ·simp only [Act.put, Qp1, Qp2, Qp3, i64_w, i32_w]
         rfl
        refine pure_ (i := 24) (N := some 64) (v := ?_) (a' := ?_) (Qbz 25 33554431) rfl rfl (by kernel_rfl) (fun _ _ _ h => h) (Or.inl ⟨by rfl, ?_⟩) ?_ ?_
        rotate_left
        ·intro w'
         go_simp
         with_reducible rfl
        rotate_left
        ·simp only [Act.put, Qp1, Qp2, Qp3, i64_w, i32_w]
         rfl
        refine done_ (by kernel_rfl) ?_
        go_wp2
        go_ret
        exact ⟨rfl, below_step HB7.out fbd⟩
       ·rw [if_neg hp2] at ht
        have hd6 : decide (p ≥ (B.length : Int)) = false := decide_eq_false hp2
        have hd7 : decide ((B.length : Int) ≤ p) = false := decide_eq_false hp2
        by_cases hb1 : b < 0
        ·rw [if_pos hb1] at ht
         have hd8 : decide (b < 0) = true := decide_eq_true hb1
         subst ht
         have hr := HR.out
         simp only [treeB2] at hr
         subst hr
         clear hp1 hp2 hb1
         go_wp2_with (fail)
         refine start_ (n := 25) (S := fun w' => w'.cell? ⟨xB, 0, none⟩ = some (.slice (some adB) B.length c0) ∧ w'.cell? (adB.add i) = some (.int .i64 b) ∧ Below w7.heap.size w7 w') (ds := []) (Qbz 25 0) (by kernel_rfl) rfl rfl ⟨f0d, f1d, fbd⟩ (fun hHeld => ?_)
         refine pure_ (i := 0) (N := some 40) (v := ?_) (a' := ?_) (Qbz 25 1) rfl rfl (by kernel_rfl) (fun _ _ _ h => h) (Or.inl ⟨by rfl, ?_⟩) ?_ ?_
         rotate_left
         ·intro w'
          go_simp
          with_reducible rfl
         rotate_left
         ·simp only [Act.put, Qp1, Qp2, Qp3, i64_w, i32_w]
          rfl
         refine pure_ (i := 1) (N := some 41) (v := ?_) (a' := ?_) (Qbz 25 3) rfl rfl (by kernel_rfl) (fun _ _ _ h => h) (Or.inl ⟨by rfl, ?_⟩) ?_ ?_
         rotate_left
         ·intro w'
          go_simp
          with_reducible rfl
         rotate_left
         ·simp only [Act.put, Qp1, Qp2, Qp3, i64_w, i32_w]
          rfl
         refine pure_ (i := 2) (N := some 42) (v := ?_) (a' := ?_) (Qbz 25 7) rfl rfl (by kernel_rfl) (fun _ _ _ h => h) (Or.inl ⟨by rfl, ?_⟩) ?_ ?_
         rotate_left
         ·intro w'
          go_simp
          with_reducible rfl
         rotate_left
         ·simp only [Act.put, Qp1, Qp2, Qp3, i64_w, i32_w]
          rfl
         refine pure_ (i := 3) (N := some 43) (v := ?_) (a' := ?_) (Qbz 25 15) rfl rfl (by kernel_rfl) (fun _ _ _ h => h) (Or.inl ⟨by rfl, ?_⟩) ?_ ?_
         rotate_left
         ·intro w'
          go_simp
          with_reducible rfl
         rotate_left
         ·simp only [Act.put, Qp1, Qp2, Qp3, i64_w, i32_w]
          rfl
         refine pure_ (i := 4) (N := some 44) (v := ?_) (a' := ?_) (Qbz 25 31) rfl rfl (by kernel_rfl) (fun _ _ _ h => h) (Or.inl ⟨by rfl, ?_⟩) ?_ ?_
         rotate_left
         ·intro w'
          go_simp
          with_reducible rfl
         rotate_left
         ·simp only [Act.put, Qp1, Qp2, Qp3, i64_w, i32_w]
          rfl
         refine pure_ (i := 5) (N := some 45) (v := ?_) (a' := ?_) (Qbz 25 63) rfl rfl (by kernel_rfl) (fun _ _ _ h => h) (Or.inl ⟨by rfl, ?_⟩) ?_ ?_
         rotate_left
         ·intro w'
          go_simp
          with_reducible rfl
         rotate_left
         ·simp only [Act.put, Qp1, Qp2, Qp3, i64_w, i32_w]
          rfl
         refine pure_ (i := 6) (N := some 46) (v := ?_) (a' := ?_) (Qbz 25 127) rfl rfl (by kernel_rfl) (fun _ _ _ h => h) (Or.inl ⟨by rfl, ?_⟩) ?_ ?_
         rotate_left
         ·intro w'
          go_simp
          with_reducible rfl
         rotate_left
         ·simp only [Act.put, Qp1, Qp2, Qp3, i64_w, i32_w]
          rfl
         refine pure_ (i := 7) (N := some 47) (v := ?_) (a' := ?_) (Qbz 25 255) rfl rfl (by kernel_rfl) (fun _ _ _ h => h) (Or.inl ⟨by rfl, ?_⟩) ?_ ?_
         rotate_left
         ·intro w'
          go_simp
          with_reducible rfl
         rotate_left
         ·simp only [Act.put, Qp1, Qp2, Qp3, i64_w, i32_w]
          rfl
         refine pure_ (i := 8) (N := some 48) (v := ?_) (a' := ?_) (Qbz 25 511) rfl rfl (by kernel_rfl) (fun _ _ _ h => h) (Or.inl ⟨by rfl, ?_⟩) ?_ ?_
         rotate_left
         ·intro w'
          go_simp
          with_reducible rfl
         rotate_left
         ·simp only [Act.put, Qp1, Qp2, Qp3, i64_w, i32_w]
          rfl
         refine pure_ (i := 10) (N := some 50) (v := ?_) (a' := ?_) (Qbz 25 1535) rfl rfl (by kernel_rfl) (fun _ _ _ h => h) (Or.inl ⟨by rfl, ?_⟩) ?_ ?_
         rotate_left
         ·intro w'
          go_simp
          with_reducible rfl
         rotate_left
         ·simp only [Act.put, Qp1, Qp2, Qp3, i64_w, i32_w]
          rfl
         refine take_ (i := 9) (N := some 49) (v := ?_) (a' := ?_) (Qbz 25 2047) rfl rfl (by kernel_rfl) (fun _ _ _ h => h) (Or.inl ⟨by rfl, ?_⟩) hHeld ?_ ?_
         rotate_left
         ·rintro w' ⟨s0, s1, s2⟩
          go_simp
          with_reducible rfl
         rotate_left
         ·simp only [Act.put, Qp1, Qp2, Qp3, i64_w, i32_w]
          rfl
         refine pure_ (i := 11) (N := some 51) (v := ?_) (a' := ?_) (Qbz 25 4095) rfl rfl (by kernel_rfl) (fun _ _ _ h => h) (Or.inl ⟨by rfl, ?_⟩) ?_ ?_
         rotate_left
         ·intro w'
          go_simp
          with_reducible rfl
         rotate_left
         ·simp only [Act.put, Qp1, Qp2, Qp3, i64_w, i32_w]
          rfl
         refine take_ (i := 12) (N := some 52) (v := ?_) (a' := ?_) (Qbz 25 8191) rfl rfl (by kernel_rfl) (fun _ _ _ h => h) (Or.inl ⟨by rfl, ?_⟩) hHeld ?_ ?_
         rotate_left
         ·rintro w' ⟨s0, s1, s2⟩
          go_simp
          with_reducible rfl
         rotate_left
         ·simp only [Act.put, Qp1, Qp2, Qp3, i64_w, i32_w]
          rfl
         refine pure_ (i := 13) (N := some 53) (v := ?_) (a' := ?_) (Qbz 25 16383) rfl rfl (by kernel_rfl) (fun _ _ _ h => h) (Or.inl ⟨by rfl, ?_⟩) ?_ ?_
         rotate_left
         ·intro w'
          go_simp
          with_reducible rfl
         rotate_left
         ·simp only [Act.put, Qp1, Qp2, Qp3, i64_w, i32_w]
          rfl
         refine pure_ (i := 14) (N := some 54) (v := ?_) (a' := ?_) (Qbz 25 32767) rfl rfl (by kernel_rfl) (fun _ _ _ h => h) (Or.inl ⟨by rfl, ?_⟩) ?_ ?_
         rotate_left
         ·intro w'
          go_simp
          with_reducible rfl
         rotate_left
         ·simp only [Act.put, Qp1, Qp2, Qp3, i64_w, i32_w]
          rfl
         refine pure_ (i := 15) (N := some 55) (v := ?_) (a' := ?_) (Qbz 25 65535) rfl rfl (by kernel_rfl) (fun _ _ _ h => h) (Or.inl ⟨by rfl, ?_⟩) ?_ ?_
         rotate_left
         ·intro w'
          go_simp
          with_reducible rfl
         rotate_left
         ·simp only [Act.put, Qp1, Qp2, Qp3, i64_w, i32_w]
          rfl
         refine pure_ (i := 16) (N := some 56) (v := undef) (a' := ?_) (Qbz 25 131071) rfl rfl (by kernel_rfl) (fun _ _ _ h => h) (Or.inr ⟨by rfl, rfl⟩) ?_ ?_
         rotate_left
         ·simp only [Act.put, Qp1, Qp2, Qp3, i64_w, i32_w]
          rfl
         refine pure_ (i := 17) (N := some 57) (v := undef) (a' := ?_) (Qbz 25 262143) rfl rfl (by kernel_rfl) (fun _ _ _ h => h) (Or.inr ⟨by rfl, rfl⟩) ?_ ?_
         rotate_left
         ·simp only [Act.put, Qp1, Qp2, Qp3, i64_w, i32_w]
          rfl
         refine pure_ (i := 18) (N := some 58) (v := undef) (a' := ?_) (Qbz 25 524287) rfl rfl (by kernel_rfl) (fun _ _ _ h => h) (Or.inr ⟨by rfl, rfl⟩) ?_ ?_
         rotate_left
         ·simp only [Act.put, Qp1, Qp2, Qp3, i64_w, i32_w]
          rfl
         refine pure_ (i := 19) (N := some 59) (v := undef) (a' := ?_) (Qbz 25 1048575) rfl rfl (by kernel_rfl) (fun _ _ _ h => h) (Or.inr ⟨by rfl, rfl⟩) ?_ ?_
         rotate_left
         ·simp only [Act.put, Qp1, Qp2, Qp3, i64_w, i32_w]
          rfl
         refine pure_ (i := 20) (N := some 60) (v := undef) (a' := ?_) (Qbz 25 2097151) rfl rfl (by kernel_rfl) (fun _ _ _ h => h) (Or.inr ⟨by rfl, rfl⟩) ?_ ?_
         rotate_left
         ·simp only [Act.put, Qp1, Qp2, Qp3, i64_w, i32_w]
          rfl
         refine pure_ (i := 21) (N := some 61) (v := undef) (a' := ?_) (Qbz 25 4194303) rfl rfl (by kernel_rfl) (fun _ _ _ h => h) (Or.inr ⟨by rfl, rfl⟩) ?_ ?_
         rotate_left
         ·simp only [Act.put, Qp1, Qp2, Qp3, i64_w, i32_w]
          rfl
         refine pure_ (i := 22) (N := some 62) (v := undef) (a' := ?_) (Qbz 25 8388607) rfl rfl (by kernel_rfl) (fun _ _ _ h => h) (Or.inr ⟨by rfl, rfl⟩) ?_ ?_
         rotate_left
         ·simp only [Act.put, Qp1, Qp2, Qp3, i64_w, i32_w]
          rfl
         refine pure_ (i := 23) (N := some 63) (v := undef) (a' := ?_) (Qbz 25 16777215) rfl rfl (by kernel_rfl) (fun _ _ _ h => h) (Or.inr ⟨by rfl, rfl⟩) ?_ ?_
         rotate_left
         ·simp only [Act.put, Qp1, Qp2, Qp3, i64_w, i32_w]
          rfl
         refine pure_ (i := 24) (N := some 64) (v := ?_) (a' := ?_) (Qbz 25 33554431) rfl rfl (by kernel_rfl) (fun _ _ _ h => h) (Or.inl ⟨by rfl, ?_⟩) ?_ ?_
         rotate_left
         ·intro w'
          go_simp
          with_reducible rfl
         rotate_left
         ·simp only [Act.put, Qp1, Qp2, Qp3, i64_w, i32_w]
          rfl
         refine done_ (by kernel_rfl) ?_
         go_wp2
         go_ret
         exact ⟨rfl, below_step HB7.out fbd⟩
        ·rw [if_neg hb1] at ht
         have hd8 : decide (b < 0) = false := decide_eq_false hb1
         have CALL : Aside0 (∀ W, (W.cell? ⟨xB, 0, none⟩ = some (.slice (some adB) B.length c0) ∧ W.cell? (adB.add i) = some (.int .i64 b) ∧ Below w7.heap.size w7 W) → Calls Tryd.prog 84 #[.slice Ag G.length cg] W fun e w' => e = .returned (.int .i64 (PA : Int)) ∧ w'.cell? ⟨xB, 0, none⟩ = some (.slice (some adB) B.length c0) ∧ w'.cell? (adB.add i) = some (.int .i64 b) ∧ Below w7.heap.size w7 w') := ⟨fun W hW => by
          have := width_town_all.calls Ag cg (gi G) _ W (Kd.C_below (Kd.C_below HRG.out HB7.out) hW.2.2) (by rw [HL.out]; exact hcg) HALL.out
          rw [HL.out] at this
          exact this.mono fun e w' ⟨h, m, hm⟩ => ⟨h, by rw [hm]; exact ⟨hW.1, hW.2.1, pw_below_drewN hW.2.2 m⟩⟩⟩
         by_cases hb2 : (PA : Int) < b
         ·rw [if_pos hb2] at ht
          have hd9 : decide (b > (PA : Int)) = true := decide_eq_true hb2
          have hd10 : decide ((PA : Int) < b) = true := decide_eq_true hb2
          subst ht
          have hr := HR.out
          simp only [treeB2] at hr
          subst hr
          clear hp1 hp2 hb1 hb2
          go_wp2_with (fail)
          refine start_ (n := 25) (S := fun w' => w'.cell? ⟨xB, 0, none⟩ = some (.slice (some adB) B.length c0) ∧ w'.cell? (adB.add i) = some (.int .i64 b) ∧ Below w7.heap.size w7 w') (ds := []) (Qbz 25 0) (by kernel_rfl) rfl rfl ⟨f0d, f1d, fbd⟩ (fun hHeld => ?_)
          refine pure_ (i := 0) (N := some 40) (v := ?_) (a' := ?_) (Qbz 25 1) rfl rfl (by kernel_rfl) (fun _ _ _ h => h) (Or.inl ⟨by rfl, ?_⟩) ?_ ?_
          rotate_left
          ·intro w'
           go_simp
           with_reducible rfl
          rotate_left
          ·simp only [Act.put, Qp1, Qp2, Qp3, i64_w, i32_w]
           rfl
          refine pure_ (i := 1) (N := some 41) (v := ?_) (a' := ?_) (Qbz 25 3) rfl rfl (by kernel_rfl) (fun _ _ _ h => h) (Or.inl ⟨by rfl, ?_⟩) ?_ ?_
          rotate_left
          ·intro w'
           go_simp
           with_reducible rfl
          rotate_left
          ·simp only [Act.put, Qp1, Qp2, Qp3, i64_w, i32_w]
           rfl
          refine pure_ (i := 2) (N := some 42) (v := ?_) (a' := ?_) (Qbz 25 7) rfl rfl (by kernel_rfl) (fun _ _ _ h => h) (Or.inl ⟨by rfl, ?_⟩) ?_ ?_
          rotate_left
          ·intro w'
           go_simp
           with_reducible rfl
          rotate_left
          ·simp only [Act.put, Qp1, Qp2, Qp3, i64_w, i32_w]
           rfl
          refine pure_ (i := 3) (N := some 43) (v := ?_) (a' := ?_) (Qbz 25 15) rfl rfl (by kernel_rfl) (fun _ _ _ h => h) (Or.inl ⟨by rfl, ?_⟩) ?_ ?_
          rotate_left
          ·intro w'
           go_simp
           with_reducible rfl
          rotate_left
          ·simp only [Act.put, Qp1, Qp2, Qp3, i64_w, i32_w]
           rfl
          refine pure_ (i := 4) (N := some 44) (v := ?_) (a' := ?_) (Qbz 25 31) rfl rfl (by kernel_rfl) (fun _ _ _ h => h) (Or.inl ⟨by rfl, ?_⟩) ?_ ?_
          rotate_left
          ·intro w'
           go_simp
           with_reducible rfl
          rotate_left
          ·simp only [Act.put, Qp1, Qp2, Qp3, i64_w, i32_w]
           rfl
          refine pure_ (i := 5) (N := some 45) (v := ?_) (a' := ?_) (Qbz 25 63) rfl rfl (by kernel_rfl) (fun _ _ _ h => h) (Or.inl ⟨by rfl, ?_⟩) ?_ ?_
          rotate_left
          ·intro w'
           go_simp
           with_reducible rfl
          rotate_left
          ·simp only [Act.put, Qp1, Qp2, Qp3, i64_w, i32_w]
           rfl
          refine pure_ (i := 6) (N := some 46) (v := ?_) (a' := ?_) (Qbz 25 127) rfl rfl (by kernel_rfl) (fun _ _ _ h => h) (Or.inl ⟨by rfl, ?_⟩) ?_ ?_
          rotate_left
          ·intro w'
           go_simp
           with_reducible rfl
          rotate_left
          ·simp only [Act.put, Qp1, Qp2, Qp3, i64_w, i32_w]
           rfl
          refine pure_ (i := 7) (N := some 47) (v := ?_) (a' := ?_) (Qbz 25 255) rfl rfl (by kernel_rfl) (fun _ _ _ h => h) (Or.inl ⟨by rfl, ?_⟩) ?_ ?_
          rotate_left
          ·intro w'
           go_simp
           with_reducible rfl
          rotate_left
          ·simp only [Act.put, Qp1, Qp2, Qp3, i64_w, i32_w]
           rfl
          refine pure_ (i := 8) (N := some 48) (v := ?_) (a' := ?_) (Qbz 25 511) rfl rfl (by kernel_rfl) (fun _ _ _ h => h) (Or.inl ⟨by rfl, ?_⟩) ?_ ?_
          rotate_left
          ·intro w'
           go_simp
           with_reducible rfl
          rotate_left
          ·simp only [Act.put, Qp1, Qp2, Qp3, i64_w, i32_w]
           rfl
          refine pure_ (i := 10) (N := some 50) (v := ?_) (a' := ?_) (Qbz 25 1535) rfl rfl (by kernel_rfl) (fun _ _ _ h => h) (Or.inl ⟨by rfl, ?_⟩) ?_ ?_
          rotate_left
          ·intro w'
           go_simp
           with_reducible rfl
          rotate_left
          ·simp only [Act.put, Qp1, Qp2, Qp3, i64_w, i32_w]
           rfl
          refine take_ (i := 9) (N := some 49) (v := ?_) (a' := ?_) (Qbz 25 2047) rfl rfl (by kernel_rfl) (fun _ _ _ h => h) (Or.inl ⟨by rfl, ?_⟩) hHeld ?_ ?_
          rotate_left
          ·rintro w' ⟨s0, s1, s2⟩
           go_simp
           with_reducible rfl
          rotate_left
          ·simp only [Act.put, Qp1, Qp2, Qp3, i64_w, i32_w]
           rfl
          refine pure_ (i := 11) (N := some 51) (v := ?_) (a' := ?_) (Qbz 25 4095) rfl rfl (by kernel_rfl) (fun _ _ _ h => h) (Or.inl ⟨by rfl, ?_⟩) ?_ ?_
          rotate_left
          ·intro w'
           go_simp
           with_reducible rfl
          rotate_left
          ·simp only [Act.put, Qp1, Qp2, Qp3, i64_w, i32_w]
           rfl
          refine take_ (i := 12) (N := some 52) (v := ?_) (a' := ?_) (Qbz 25 8191) rfl rfl (by kernel_rfl) (fun _ _ _ h => h) (Or.inl ⟨by rfl, ?_⟩) hHeld ?_ ?_
          rotate_left
          ·rintro w' ⟨s0, s1, s2⟩
           go_simp
           with_reducible rfl
          rotate_left
          ·simp only [Act.put, Qp1, Qp2, Qp3, i64_w, i32_w]
           rfl
          refine pure_ (i := 13) (N := some 53) (v := ?_) (a' := ?_) (Qbz 25 16383) rfl rfl (by kernel_rfl) (fun _ _ _ h => h) (Or.inl ⟨by rfl, ?_⟩) ?_ ?_
          rotate_left
          ·intro w'
           go_simp
           with_reducible rfl
          rotate_left
          ·simp only [Act.put, Qp1, Qp2, Qp3, i64_w, i32_w]
           rfl
          refine pure_ (i := 14) (N := some 54) (v := ?_) (a' := ?_) (Qbz 25 32767) rfl rfl (by kernel_rfl) (fun _ _ _ h => h) (Or.inl ⟨by rfl, ?_⟩) ?_ ?_
          rotate_left
          ·intro w'
           go_simp
           with_reducible rfl
          rotate_left
          ·simp only [Act.put, Qp1, Qp2, Qp3, i64_w, i32_w]
           rfl
          refine pure_ (i := 15) (N := some 55) (v := ?_) (a' := ?_) (Qbz 25 65535) rfl rfl (by kernel_rfl) (fun _ _ _ h => h) (Or.inl ⟨by rfl, ?_⟩) ?_ ?_
          rotate_left
          ·intro w'
           go_simp
           with_reducible rfl
          rotate_left
          ·simp only [Act.put, Qp1, Qp2, Qp3, i64_w, i32_w]
           rfl
          refine pure_ (i := 16) (N := some 56) (v := ?_) (a' := ?_) (Qbz 25 131071) rfl rfl (by kernel_rfl) (fun _ _ _ h => h) (Or.inl ⟨by rfl, ?_⟩) ?_ ?_
          rotate_left
          ·intro w'
           go_simp
           with_reducible rfl
          rotate_left
          ·simp only [Act.put, Qp1, Qp2, Qp3, i64_w, i32_w]
           rfl
          refine pure_ (i := 18) (N := some 58) (v := ?_) (a' := ?_) (Qbz 25 393215) rfl rfl (by kernel_rfl) (fun _ _ _ h => h) (Or.inl ⟨by rfl, ?_⟩) ?_ ?_
          rotate_left
          ·intro w'
           go_simp
           with_reducible rfl
          rotate_left
          ·simp only [Act.put, Qp1, Qp2, Qp3, i64_w, i32_w]
           rfl
          refine pure_ (i := 21) (N := some 61) (v := ?_) (a' := ?_) (Qbz 25 2490367) rfl rfl (by kernel_rfl) (fun _ _ _ h => h) (Or.inl ⟨by rfl, ?_⟩) ?_ ?_
          rotate_left
          ·intro w'
           go_simp
           with_reducible rfl
          rotate_left
          ·simp only [Act.put, Qp1, Qp2, Qp3, i64_w, i32_w]
           rfl
          refine take_ (i := 17) (N := some 57) (v := ?_) (a' := ?_) (Qbz 25 2621439) rfl rfl (by kernel_rfl) (fun _ _ _ h => h) (Or.inl ⟨by rfl, ?_⟩) hHeld ?_ ?_
          rotate_left
          ·rintro w' ⟨s0, s1, s2⟩
           go_simp
           with_reducible rfl
          rotate_left
          ·simp only [Act.put, Qp1, Qp2, Qp3, i64_w, i32_w]
           rfl
          refine pure_ (i := 19) (N := some 59) (v := ?_) (a' := ?_) (Qbz 25 3145727) rfl rfl (by kernel_rfl) (fun _ _ _ h => h) (Or.inl ⟨by rfl, ?_⟩) ?_ ?_
          rotate_left
          ·intro w'
           go_simp
           with_reducible rfl
          rotate_left
          ·simp only [Act.put, Qp1, Qp2, Qp3, i64_w, i32_w]
           rfl
          refine take_ (i := 20) (N := some 60) (v := ?_) (a' := ?_) (Qbz 25 4194303) rfl rfl (by kernel_rfl) (fun _ _ _ h => h) (Or.inl ⟨by rfl, ?_⟩) hHeld ?_ ?_
          rotate_left
          ·rintro w' ⟨s0, s1, s2⟩
           go_simp
           with_reducible rfl
          rotate_left
          ·simp only [Act.put, Qp1, Qp2, Qp3, i64_w, i32_w]
           rfl
          refine one_ (i := 22) (N := some 62) (Qbz 25 8388607) rfl rfl (by kernel_rfl) (by decide) (fun K hK => ?_)
          refine goes_ Tryd.func84 (by kernel_rfl) rfl #[.slice Ag G.length cg] (by rfl) rfl rfl (by simp only [List.map_toArray, List.map_cons, List.map_nil]; rfl) ?_
          with_reducible refine (CALL.out _ hHeld).mono ?_
          rintro e w3 ⟨rfl, g0, g1, gB⟩
          refine ⟨_, rfl, ?_⟩
          refine hK.out _ _ ⟨g0, g1, gB⟩ (fun hHeld => ?_)
          clear hK K
          refine norm_ (a' := ?_) ?_ ?_
          rotate_left
          ·show Act.put _ (some 62) _ = _
           simp only [Act.put, Qp1, Qp2, Qp3, i64_w, i32_w]
           rfl
          refine pure_ (i := 23) (N := some 63) (v := ?_) (a' := ?_) (Qbz 25 16777215) rfl rfl (by kernel_rfl) (fun _ _ _ h => h) (Or.inl ⟨by rfl, ?_⟩) ?_ ?_
          rotate_left
          ·intro w'
           go_simp
           with_reducible rfl
          rotate_left
          ·simp only [Act.put, Qp1, Qp2, Qp3, i64_w, i32_w]
           rfl
          refine pure_ (i := 24) (N := some 64) (v := ?_) (a' := ?_) (Qbz 25 33554431) rfl rfl (by kernel_rfl) (fun _ _ _ h => h) (Or.inl ⟨by rfl, ?_⟩) ?_ ?_
          rotate_left
          ·intro w'
           go_simp
           with_reducible rfl
          rotate_left
          ·simp only [Act.put, Qp1, Qp2, Qp3, i64_w, i32_w]
           rfl
          refine done_ (by kernel_rfl) ?_
          go_wp2
          go_ret
          exact ⟨rfl, below_step HB7.out gB⟩
         ·rw [if_neg hb2] at ht
          have hd9 : decide (b > (PA : Int)) = false := decide_eq_false hb2
          have hd10 : decide ((PA : Int) < b) = false := decide_eq_false hb2
          obtain ⟨bn, rfl⟩ := Int.eq_ofNat_of_zero_le (show 0 ≤ b by omega)
          rw [Int.toNat_natCast] at ht
          have hd12 : decide (PA < bn) = false := decide_eq_false (by omega)
          have hd13 : decide (bn > PA) = false := decide_eq_false (by omega)
          have hor := b_or ac bn (by omega) (by omega)
          have hac2 : ac ||| bn < 128 := Nat.or_lt_two_pow (n := 7) hac (by omega)
          generalize ac ||| bn = a2 at *
          by_cases hp0 : p < 0
          ·rw [if_pos hp0] at ht
           have hd11 : decide (p < 0) = true := decide_eq_true hp0
           have HT2 := Aside0.mk ht
           clear hp1 hp2 hb1 hb2 ht hp0
           go_wp2_with (fail)
           refine start_ (n := 25) (S := fun w' => w'.cell? ⟨xB, 0, none⟩ = some (.slice (some adB) B.length c0) ∧ w'.cell? (adB.add i) = some (.int .i64 (bn : Int)) ∧ Below w7.heap.size w7 w') (ds := []) (Qbz 25 0) (by kernel_rfl) rfl rfl ⟨f0d, f1d, fbd⟩ (fun hHeld => ?_)
           refine pure_ (i := 0) (N := some 40) (v := ?_) (a' := ?_) (Qbz 25 1) rfl rfl (by kernel_rfl) (fun _ _ _ h => h) (Or.inl ⟨by rfl, ?_⟩) ?_ ?_
           rotate_left
           ·intro w'
            go_simp
            with_reducible rfl
           rotate_left
           ·simp only [Act.put, Qp1, Qp2, Qp3, i64_w, i32_w]
            rfl
           refine pure_ (i := 1) (N := some 41) (v := ?_) (a' := ?_) (Qbz 25 3) rfl rfl (by kernel_rfl) (fun _ _ _ h => h) (Or.inl ⟨by rfl, ?_⟩) ?_ ?_
           rotate_left
           ·intro w'
            go_simp
            with_reducible rfl
           rotate_left
           ·simp only [Act.put, Qp1, Qp2, Qp3, i64_w, i32_w]
            rfl
           refine pure_ (i := 2) (N := some 42) (v := ?_) (a' := ?_) (Qbz 25 7) rfl rfl (by kernel_rfl) (fun _ _ _ h => h) (Or.inl ⟨by rfl, ?_⟩) ?_ ?_
           rotate_left
           ·intro w'
            go_simp
            with_reducible rfl
           rotate_left
           ·simp only [Act.put, Qp1, Qp2, Qp3, i64_w, i32_w]
            rfl
           refine pure_ (i := 3) (N := some 43) (v := ?_) (a' := ?_) (Qbz 25 15) rfl rfl (by kernel_rfl) (fun _ _ _ h => h) (Or.inl ⟨by rfl, ?_⟩) ?_ ?_
           rotate_left
           ·intro w'
            go_simp
            with_reducible rfl
           rotate_left
           ·simp only [Act.put, Qp1, Qp2, Qp3, i64_w, i32_w]
            rfl
           refine pure_ (i := 4) (N := some 44) (v := ?_) (a' := ?_) (Qbz 25 31) rfl rfl (by kernel_rfl) (fun _ _ _ h => h) (Or.inl ⟨by rfl, ?_⟩) ?_ ?_
           rotate_left
           ·intro w'
            go_simp
            with_reducible rfl
           rotate_left
           ·simp only [Act.put, Qp1, Qp2, Qp3, i64_w, i32_w]
            rfl
           refine pure_ (i := 5) (N := some 45) (v := ?_) (a' := ?_) (Qbz 25 63) rfl rfl (by kernel_rfl) (fun _ _ _ h => h) (Or.inl ⟨by rfl, ?_⟩) ?_ ?_
           rotate_left
           ·intro w'
            go_simp
            with_reducible rfl
           rotate_left
           ·simp only [Act.put, Qp1, Qp2, Qp3, i64_w, i32_w]
            rfl
           refine pure_ (i := 6) (N := some 46) (v := ?_) (a' := ?_) (Qbz 25 127) rfl rfl (by kernel_rfl) (fun _ _ _ h => h) (Or.inl ⟨by rfl, ?_⟩) ?_ ?_
           rotate_left
           ·intro w'
            go_simp
            with_reducible rfl
           rotate_left
           ·simp only [Act.put, Qp1, Qp2, Qp3, i64_w, i32_w]
            rfl
           refine pure_ (i := 7) (N := some 47) (v := ?_) (a' := ?_) (Qbz 25 255) rfl rfl (by kernel_rfl) (fun _ _ _ h => h) (Or.inl ⟨by rfl, ?_⟩) ?_ ?_
           rotate_left
           ·intro w'
            go_simp
            with_reducible rfl
           rotate_left
           ·simp only [Act.put, Qp1, Qp2, Qp3, i64_w, i32_w]
            rfl
           refine pure_ (i := 8) (N := some 48) (v := ?_) (a' := ?_) (Qbz 25 511) rfl rfl (by kernel_rfl) (fun _ _ _ h => h) (Or.inl ⟨by rfl, ?_⟩) ?_ ?_
           rotate_left
           ·intro w'
            go_simp
            with_reducible rfl
           rotate_left
           ·simp only [Act.put, Qp1, Qp2, Qp3, i64_w, i32_w]
            rfl
           refine pure_ (i := 10) (N := some 50) (v := ?_) (a' := ?_) (Qbz 25 1535) rfl rfl (by kernel_rfl) (fun _ _ _ h => h) (Or.inl ⟨by rfl, ?_⟩) ?_ ?_
           rotate_left
           ·intro w'
            go_simp
            with_reducible rfl
           rotate_left
           ·simp only [Act.put, Qp1, Qp2, Qp3, i64_w, i32_w]
            rfl
           refine take_ (i := 9) (N := some 49) (v := ?_) (a' := ?_) (Qbz 25 2047) rfl rfl (by kernel_rfl) (fun _ _ _ h => h) (Or.inl ⟨by rfl, ?_⟩) hHeld ?_ ?_
           rotate_left
           ·rintro w' ⟨s0, s1, s2⟩
            go_simp
            with_reducible rfl
           rotate_left
           ·simp only [Act.put, Qp1, Qp2, Qp3, i64_w, i32_w]
            rfl
           refine pure_ (i := 11) (N := some 51) (v := ?_) (a' := ?_) (Qbz 25 4095) rfl rfl (by kernel_rfl) (fun _ _ _ h => h) (Or.inl ⟨by rfl, ?_⟩) ?_ ?_
           rotate_left
           ·intro w'
            go_simp
            with_reducible rfl
           rotate_left
           ·simp only [Act.put, Qp1, Qp2, Qp3, i64_w, i32_w]
            rfl
           refine take_ (i := 12) (N := some 52) (v := ?_) (a' := ?_) (Qbz 25 8191) rfl rfl (by kernel_rfl) (fun _ _ _ h => h) (Or.inl ⟨by rfl, ?_⟩) hHeld ?_ ?_
           rotate_left
           ·rintro w' ⟨s0, s1, s2⟩
            go_simp
            with_reducible rfl
           rotate_left
           ·simp only [Act.put, Qp1, Qp2, Qp3, i64_w, i32_w]
            rfl
           refine pure_ (i := 13) (N := some 53) (v := ?_) (a' := ?_) (Qbz 25 16383) rfl rfl (by kernel_rfl) (fun _ _ _ h => h) (Or.inl ⟨by rfl, ?_⟩) ?_ ?_
           rotate_left
           ·intro w'
            go_simp
            with_reducible rfl
           rotate_left
           ·simp only [Act.put, Qp1, Qp2, Qp3, i64_w, i32_w]
            rfl
           refine pure_ (i := 14) (N := some 54) (v := ?_) (a' := ?_) (Qbz 25 32767) rfl rfl (by kernel_rfl) (fun _ _ _ h => h) (Or.inl ⟨by rfl, ?_⟩) ?_ ?_
           rotate_left
           ·intro w'
            go_simp
            with_reducible rfl
           rotate_left
           ·simp only [Act.put, Qp1, Qp2, Qp3, i64_w, i32_w]
            rfl
           refine pure_ (i := 15) (N := some 55) (v := ?_) (a' := ?_) (Qbz 25 65535) rfl rfl (by kernel_rfl) (fun _ _ _ h => h) (Or.inl ⟨by rfl, ?_⟩) ?_ ?_
           rotate_left
           ·intro w'
            go_simp
            with_reducible rfl
           rotate_left
           ·simp only [Act.put, Qp1, Qp2, Qp3, i64_w, i32_w]
            rfl
           refine pure_ (i := 16) (N := some 56) (v := ?_) (a' := ?_) (Qbz 25 131071) rfl rfl (by kernel_rfl) (fun _ _ _ h => h) (Or.inl ⟨by rfl, ?_⟩) ?_ ?_
           rotate_left
           ·intro w'
            go_simp
            with_reducible rfl
           rotate_left
           ·simp only [Act.put, Qp1, Qp2, Qp3, i64_w, i32_w]
            rfl
           refine pure_ (i := 18) (N := some 58) (v := ?_) (a' := ?_) (Qbz 25 393215) rfl rfl (by kernel_rfl) (fun _ _ _ h => h) (Or.inl ⟨by rfl, ?_⟩) ?_ ?_
           rotate_left
           ·intro w'
            go_simp
            with_reducible rfl
           rotate_left
           ·simp only [Act.put, Qp1, Qp2, Qp3, i64_w, i32_w]
            rfl
           refine pure_ (i := 21) (N := some 61) (v := ?_) (a' := ?_) (Qbz 25 2490367) rfl rfl (by kernel_rfl) (fun _ _ _ h => h) (Or.inl ⟨by rfl, ?_⟩) ?_ ?_
           rotate_left
           ·intro w'
            go_simp
            with_reducible rfl
           rotate_left
           ·simp only [Act.put, Qp1, Qp2, Qp3, i64_w, i32_w]
            rfl
           refine take_ (i := 17) (N := some 57) (v := ?_) (a' := ?_) (Qbz 25 2621439) rfl rfl (by kernel_rfl) (fun _ _ _ h => h) (Or.inl ⟨by rfl, ?_⟩) hHeld ?_ ?_
           rotate_left
           ·rintro w' ⟨s0, s1, s2⟩
            go_simp
            with_reducible rfl
           rotate_left
           ·simp only [Act.put, Qp1, Qp2, Qp3, i64_w, i32_w]
            rfl
           refine pure_ (i := 19) (N := some 59) (v := ?_) (a' := ?_) (Qbz 25 3145727) rfl rfl (by kernel_rfl) (fun _ _ _ h => h) (Or.inl ⟨by rfl, ?_⟩) ?_ ?_
           rotate_left
           ·intro w'
            go_simp
            with_reducible rfl
           rotate_left
           ·simp only [Act.put, Qp1, Qp2, Qp3, i64_w, i32_w]
            rfl
           refine take_ (i := 20) (N := some 60) (v := ?_) (a' := ?_) (Qbz 25 4194303) rfl rfl (by kernel_rfl) (fun _ _ _ h => h) (Or.inl ⟨by rfl, ?_⟩) hHeld ?_ ?_
           rotate_left
           ·rintro w' ⟨s0, s1, s2⟩
            go_simp
            with_reducible rfl
           rotate_left
           ·simp only [Act.put, Qp1, Qp2, Qp3, i64_w, i32_w]
            rfl
           refine one_ (i := 22) (N := some 62) (Qbz 25 8388607) rfl rfl (by kernel_rfl) (by decide) (fun K hK => ?_)
           refine goes_ Tryd.func84 (by kernel_rfl) rfl #[.slice Ag G.length cg] (by rfl) rfl rfl (by simp only [List.map_toArray, List.map_cons, List.map_nil]; rfl) ?_
           with_reducible refine (CALL.out _ hHeld).mono ?_
           rintro e w3 ⟨rfl, g0, g1, gB⟩
           refine ⟨_, rfl, ?_⟩
           refine hK.out _ _ ⟨g0, g1, gB⟩ (fun hHeld => ?_)
           clear hK K
           refine norm_ (a' := ?_) ?_ ?_
           rotate_left
           ·show Act.put _ (some 62) _ = _
            simp only [Act.put, Qp1, Qp2, Qp3, i64_w, i32_w]
            rfl
           refine pure_ (i := 23) (N := some 63) (v := ?_) (a' := ?_) (Qbz 25 16777215) rfl rfl (by kernel_rfl) (fun _ _ _ h => h) (Or.inl ⟨by rfl, ?_⟩) ?_ ?_
           rotate_left
           ·intro w'
            go_simp
            with_reducible rfl
           rotate_left
           ·simp only [Act.put, Qp1, Qp2, Qp3, i64_w, i32_w]
            rfl
           refine pure_ (i := 24) (N := some 64) (v := ?_) (a' := ?_) (Qbz 25 33554431) rfl rfl (by kernel_rfl) (fun _ _ _ h => h) (Or.inl ⟨by rfl, ?_⟩) ?_ ?_
           rotate_left
           ·intro w'
            go_simp
            with_reducible rfl
           rotate_left
           ·simp only [Act.put, Qp1, Qp2, Qp3, i64_w, i32_w]
            rfl
           refine done_ (by kernel_rfl) ?_
           go_wp2
           go_roundg gq
           case measure => omega
           case rel => exact ⟨i + 1, ro + 1, a2, by go_num, rfl, by go_num, by omega, ⟨HT2.out, by omega, hac2⟩, ⟨gB⟩⟩
          ·rw [if_neg hp0] at ht
           have hd11 : decide (p < 0) = false := decide_eq_false hp0
           have HT2 := Aside0.mk ht
           clear hp1 hp2 hb1 hb2 ht hp0
           go_wp2_with (fail)
           refine start_ (n := 25) (S := fun w' => w'.cell? ⟨xB, 0, none⟩ = some (.slice (some adB) B.length c0) ∧ w'.cell? (adB.add i) = some (.int .i64 (bn : Int)) ∧ Below w7.heap.size w7 w') (ds := []) (Qbz 25 0) (by kernel_rfl) rfl rfl ⟨f0d, f1d, fbd⟩ (fun hHeld => ?_)
           refine pure_ (i := 0) (N := some 40) (v := ?_) (a' := ?_) (Qbz 25 1) rfl rfl (by kernel_rfl) (fun _ _ _ h => h) (Or.inl ⟨by rfl, ?_⟩) ?_ ?_
           rotate_left
           ·intro w'
            go_simp
            with_reducible rfl
           rotate_left
           ·simp only [Act.put, Qp1, Qp2, Qp3, i64_w, i32_w]
            rfl
           refine pure_ (i := 1) (N := some 41) (v := ?_) (a' := ?_) (Qbz 25 3) rfl rfl (by kernel_rfl) (fun _ _ _ h => h) (Or.inl ⟨by rfl, ?_⟩) ?_ ?_
           rotate_left
           ·intro w'
            go_simp
            with_reducible rfl
           rotate_left
           ·simp only [Act.put, Qp1, Qp2, Qp3, i64_w, i32_w]
            rfl
           refine pure_ (i := 2) (N := some 42) (v := ?_) (a' := ?_) (Qbz 25 7) rfl rfl (by kernel_rfl) (fun _ _ _ h => h) (Or.inl ⟨by rfl, ?_⟩) ?_ ?_
           rotate_left
           ·intro w'
            go_simp
            with_reducible rfl
           rotate_left
           ·simp only [Act.put, Qp1, Qp2, Qp3, i64_w, i32_w]
            rfl
           refine pure_ (i := 3) (N := some 43) (v := ?_) (a' := ?_) (Qbz 25 15) rfl rfl (by kernel_rfl) (fun _ _ _ h => h) (Or.inl ⟨by rfl, ?_⟩) ?_ ?_
           rotate_left
           ·intro w'
            go_simp
            with_reducible rfl
           rotate_left
           ·simp only [Act.put, Qp1, Qp2, Qp3, i64_w, i32_w]
            rfl
           refine pure_ (i := 4) (N := some 44) (v := ?_) (a' := ?_) (Qbz 25 31) rfl rfl (by kernel_rfl) (fun _ _ _ h => h) (Or.inl ⟨by rfl, ?_⟩) ?_ ?_
           rotate_left
           ·intro w'
            go_simp
            with_reducible rfl
           rotate_left
           ·simp only [Act.put, Qp1, Qp2, Qp3, i64_w, i32_w]
            rfl
           refine pure_ (i := 5) (N := some 45) (v := ?_) (a' := ?_) (Qbz 25 63) rfl rfl (by kernel_rfl) (fun _ _ _ h => h) (Or.inl ⟨by rfl, ?_⟩) ?_ ?_
           rotate_left
           ·intro w'
            go_simp
            with_reducible rfl
           rotate_left
           ·simp only [Act.put, Qp1, Qp2, Qp3, i64_w, i32_w]
            rfl
           refine pure_ (i := 6) (N := some 46) (v := ?_) (a' := ?_) (Qbz 25 127) rfl rfl (by kernel_rfl) (fun _ _ _ h => h) (Or.inl ⟨by rfl, ?_⟩) ?_ ?_
           rotate_left
           ·intro w'
            go_simp
            with_reducible rfl
           rotate_left
           ·simp only [Act.put, Qp1, Qp2, Qp3, i64_w, i32_w]
            rfl
           refine pure_ (i := 7) (N := some 47) (v := ?_) (a' := ?_) (Qbz 25 255) rfl rfl (by kernel_rfl) (fun _ _ _ h => h) (Or.inl ⟨by rfl, ?_⟩) ?_ ?_
           rotate_left
           ·intro w'
            go_simp
            with_reducible rfl
           rotate_left
           ·simp only [Act.put, Qp1, Qp2, Qp3, i64_w, i32_w]
            rfl
           refine pure_ (i := 8) (N := some 48) (v := ?_) (a' := ?_) (Qbz 25 511) rfl rfl (by kernel_rfl) (fun _ _ _ h => h) (Or.inl ⟨by rfl, ?_⟩) ?_ ?_
           rotate_left
           ·intro w'
            go_simp
            with_reducible rfl
           rotate_left
           ·simp only [Act.put, Qp1, Qp2, Qp3, i64_w, i32_w]
            rfl
           refine pure_ (i := 10) (N := some 50) (v := ?_) (a' := ?_) (Qbz 25 1535) rfl rfl (by kernel_rfl) (fun _ _ _ h => h) (Or.inl ⟨by rfl, ?_⟩) ?_ ?_
           rotate_left
           ·intro w'
            go_simp
            with_reducible rfl
           rotate_left
           ·simp only [Act.put, Qp1, Qp2, Qp3, i64_w, i32_w]
            rfl
           refine take_ (i := 9) (N := some 49) (v := ?_) (a' := ?_) (Qbz 25 2047) rfl rfl (by kernel_rfl) (fun _ _ _ h => h) (Or.inl ⟨by rfl, ?_⟩) hHeld ?_ ?_
           rotate_left
           ·rintro w' ⟨s0, s1, s2⟩
            go_simp
            with_reducible rfl
           rotate_left
           ·simp only [Act.put, Qp1, Qp2, Qp3, i64_w, i32_w]
            rfl
           refine pure_ (i := 11) (N := some 51) (v := ?_) (a' := ?_) (Qbz 25 4095) rfl rfl (by kernel_rfl) (fun _ _ _ h => h) (Or.inl ⟨by rfl, ?_⟩) ?_ ?_
           rotate_left
           ·intro w'
            go_simp
            with_reducible rfl
           rotate_left
           ·simp only [Act.put, Qp1, Qp2, Qp3, i64_w, i32_w]
            rfl
           refine take_ (i := 12) (N := some 52) (v := ?_) (a' := ?_) (Qbz 25 8191) rfl rfl (by kernel_rfl) (fun _ _ _ h => h) (Or.inl ⟨by rfl, ?_⟩) hHeld ?_ ?_
           rotate_left
           ·rintro w' ⟨s0, s1, s2⟩
            go_simp
            with_reducible rfl
           rotate_left
           ·simp only [Act.put, Qp1, Qp2, Qp3, i64_w, i32_w]
            rfl
           refine pure_ (i := 13) (N := some 53) (v := ?_) (a' := ?_) (Qbz 25 16383) rfl rfl (by kernel_rfl) (fun _ _ _ h => h) (Or.inl ⟨by rfl, ?_⟩) ?_ ?_
           rotate_left
           ·intro w'
            go_simp
            with_reducible rfl
           rotate_left
           ·simp only [Act.put, Qp1, Qp2, Qp3, i64_w, i32_w]
            rfl
           refine pure_ (i := 14) (N := some 54) (v := ?_) (a' := ?_) (Qbz 25 32767) rfl rfl (by kernel_rfl) (fun _ _ _ h => h) (Or.inl ⟨by rfl, ?_⟩) ?_ ?_
           rotate_left
           ·intro w'
            go_simp
            with_reducible rfl
           rotate_left
           ·simp only [Act.put, Qp1, Qp2, Qp3, i64_w, i32_w]
            rfl
           refine pure_ (i := 15) (N := some 55) (v := ?_) (a' := ?_) (Qbz 25 65535) rfl rfl (by kernel_rfl) (fun _ _ _ h => h) (Or.inl ⟨by rfl, ?_⟩) ?_ ?_
           rotate_left
           ·intro w'
            go_simp
            with_reducible rfl
           rotate_left
           ·simp only [Act.put, Qp1, Qp2, Qp3, i64_w, i32_w]
            rfl
           refine pure_ (i := 16) (N := some 56) (v := ?_) (a' := ?_) (Qbz 25 131071) rfl rfl (by kernel_rfl) (fun _ _ _ h => h) (Or.inl ⟨by rfl, ?_⟩) ?_ ?_
           rotate_left
           ·intro w'
            go_simp
            with_reducible rfl
           rotate_left
           ·simp only [Act.put, Qp1, Qp2, Qp3, i64_w, i32_w]
            rfl
           refine pure_ (i := 18) (N := some 58) (v := ?_) (a' := ?_) (Qbz 25 393215) rfl rfl (by kernel_rfl) (fun _ _ _ h => h) (Or.inl ⟨by rfl, ?_⟩) ?_ ?_
           rotate_left
           ·intro w'
            go_simp
            with_reducible rfl
           rotate_left
           ·simp only [Act.put, Qp1, Qp2, Qp3, i64_w, i32_w]
            rfl
           refine pure_ (i := 21) (N := some 61) (v := ?_) (a' := ?_) (Qbz 25 2490367) rfl rfl (by kernel_rfl) (fun _ _ _ h => h) (Or.inl ⟨by rfl, ?_⟩) ?_ ?_
           rotate_left
           ·intro w'
            go_simp
            with_reducible rfl
           rotate_left
           ·simp only [Act.put, Qp1, Qp2, Qp3, i64_w, i32_w]
            rfl
           refine take_ (i := 17) (N := some 57) (v := ?_) (a' := ?_) (Qbz 25 2621439) rfl rfl (by kernel_rfl) (fun _ _ _ h => h) (Or.inl ⟨by rfl, ?_⟩) hHeld ?_ ?_
           rotate_left
           ·rintro w' ⟨s0, s1, s2⟩
            go_simp
            with_reducible rfl
           rotate_left
           ·simp only [Act.put, Qp1, Qp2, Qp3, i64_w, i32_w]
            rfl
           refine pure_ (i := 19) (N := some 59) (v := ?_) (a' := ?_) (Qbz 25 3145727) rfl rfl (by kernel_rfl) (fun _ _ _ h => h) (Or.inl ⟨by rfl, ?_⟩) ?_ ?_
           rotate_left
           ·intro w'
            go_simp
            with_reducible rfl
           rotate_left
           ·simp only [Act.put, Qp1, Qp2, Qp3, i64_w, i32_w]
            rfl
           refine take_ (i := 20) (N := some 60) (v := ?_) (a' := ?_) (Qbz 25 4194303) rfl rfl (by kernel_rfl) (fun _ _ _ h => h) (Or.inl ⟨by rfl, ?_⟩) hHeld ?_ ?_
           rotate_left
           ·rintro w' ⟨s0, s1, s2⟩
            go_simp
            with_reducible rfl
           rotate_left
           ·simp only [Act.put, Qp1, Qp2, Qp3, i64_w, i32_w]
            rfl
           refine one_ (i := 22) (N := some 62) (Qbz 25 8388607) rfl rfl (by kernel_rfl) (by decide) (fun K hK => ?_)
           refine goes_ Tryd.func84 (by kernel_rfl) rfl #[.slice Ag G.length cg] (by rfl) rfl rfl (by simp only [List.map_toArray, List.map_cons, List.map_nil]; rfl) ?_
           with_reducible refine (CALL.out _ hHeld).mono ?_
           rintro e w3 ⟨rfl, g0, g1, gB⟩
           refine ⟨_, rfl, ?_⟩
           refine hK.out _ _ ⟨g0, g1, gB⟩ (fun hHeld => ?_)
           clear hK K
           refine norm_ (a' := ?_) ?_ ?_
           rotate_left
           ·show Act.put _ (some 62) _ = _
            simp only [Act.put, Qp1, Qp2, Qp3, i64_w, i32_w]
            rfl
           refine pure_ (i := 23) (N := some 63) (v := ?_) (a' := ?_) (Qbz 25 16777215) rfl rfl (by kernel_rfl) (fun _ _ _ h => h) (Or.inl ⟨by rfl, ?_⟩) ?_ ?_
           rotate_left
           ·intro w'
            go_simp
            with_reducible rfl
           rotate_left
           ·simp only [Act.put, Qp1, Qp2, Qp3, i64_w, i32_w]
            rfl
           refine pure_ (i := 24) (N := some 64) (v := ?_) (a' := ?_) (Qbz 25 33554431) rfl rfl (by kernel_rfl) (fun _ _ _ h => h) (Or.inl ⟨by rfl, ?_⟩) ?_ ?_
           rotate_left
           ·intro w'
            go_simp
            with_reducible rfl
           rotate_left
           ·simp only [Act.put, Qp1, Qp2, Qp3, i64_w, i32_w]
            rfl
           refine done_ (by kernel_rfl) ?_
           go_wp2
           go_roundg gq
           case measure => omega
           case rel => exact ⟨i + 1, ro, a2, rfl, rfl, by go_num, by omega, ⟨HT2.out, by omega, hac2⟩, ⟨gB⟩⟩
     ·have hi1 : ((i : Int) < (B.length : Int)) = False := eq_false (by omega)
      have hi2 : decide ((i : Int) < (B.length : Int)) = false := decide_eq_false (by omega)
      have hi3 : ((i : Int) < (P.length : Int)) = False := eq_false (by have := HPL.out; omega)
      have hi4 : decide ((i : Int) < (P.length : Int)) = false := decide_eq_false (by have := HPL.out; omega)
      obtain rfl : gk = 0 := by omega
      obtain ⟨ht, hro, hac⟩ := HT.out
      simp only [tl1] at ht
      subst ht
      clear HT
      have hr := HR.out
      simp only [treeB2] at hr
      have CAL2 : Aside0 (∀ W, Below wr.heap.size wr W → Calls Tryd.prog 84 #[.slice Ag G.length cg] W fun e w' => e = .returned (.int .i64 (PA : Int)) ∧ Below wr.heap.size wr w') := ⟨fun W hW => by
       have := width_town_all.calls Ag cg (T.gi G) _ W (Kd.C_below (Kd.C_below (Kd.C_below HRG.out HB7.out) HB.out) hW) (by rw [HL.out]; exact hcg) HALL.out
       rw [HL.out] at this
       exact this.mono fun e w' ⟨h, m, hm⟩ => ⟨h, by rw [hm]; exact pw_below_drewN hW m⟩⟩
      have hinp : InP P := fun j hj => by
       have := HOK.out _ rfl j (by have := HPL.out; omega)
       have e := HPL.out
       omega
      have hbc := blk_below HBOX.out HB.out
      have hz1' : wr.cell? ⟨xB, 1, none⟩ = some (.slice A1 P.length c1) := (blk_cell hbc 1).trans rfl
      have CCY : Aside0 (∀ W, Below wr.heap.size wr W → Calls Tryd.prog 85 #[.slice A1 P.length c1, .func (.func 86) #[] #[.pointer (some ⟨xB, 0, none⟩)]] W fun e w' => e = .returned (.bool (P.any (cycB P P.length))) ∧ Below W.heap.size W w') := ⟨fun W hW => contains_cyc A1 c1 P (cycB P P.length) xB W (Kd.C_below (Kd.C_below (Kd.C_below HR1.out HB7.out) HB.out) hW) (by have := HPL.out; omega) (fun V hV x hx => by
       have hb2 := below_step hW hV
       refine cyc1 xB A0 B.length c0 A1 c1 P x hinp (by have := HPL.out; omega) ?_ V (Kd.C_below (Kd.C_below (Kd.C_below HR1.out HB7.out) HB.out) hb2) ((blk_cell (blk_below hbc hb2) 0).trans rfl) ((blk_cell (blk_below hbc hb2) 1).trans rfl)
       obtain ⟨j, hj, e⟩ := List.getElem_of_mem hx
       have := (hinp j hj).2
       unfold rd at this
       rw [Int.toNat_natCast, List.getD_eq_getElem?_getD, List.getElem?_eq_getElem hj] at this
       rw [← e]
       exact this)⟩
      have HBC := Aside0.mk hbc
      have hro30 : ro ≤ 30 := by omega
      by_cases h1 : ro = 1
      ·subst h1
       rw [if_pos rfl] at hr
       by_cases h2 : ac = PA
       ·subst h2
        rw [if_pos HPA.out.symm] at hr
        have hx5 : ((ac : Int) == (ac : Int)) = true := by simp
        have hx6 : ((ac : Int) != (ac : Int)) = false := by simp
        obtain ⟨cy, hcy⟩ : ∃ b, P.any (cycB P P.length) = b := ⟨_, rfl⟩
        rw [hcy] at CCY hr
        clear hcy hbc
        cases cy
        ·rw [if_neg (by simp)] at hr
         have HR2 := Aside0.mk hr
         clear hr hz1
         go_wp2_with (first
          | (go_at_call 84; refine (CAL2.out _ (Below.refl _ _)).mono ?_; rintro e w3 ⟨rfl, hb3⟩; have HB3 := Aside0.mk hb3; have hz3 : w3.cell? ⟨xB, 1, none⟩ = some (.slice A1 P.length c1) := (blk_cell (blk_below HBC.out hb3) 1).trans rfl; clear hb3)
          | (go_at_call 85; refine (CCY.out _ HB3.out).mono ?_; rintro e w4 ⟨rfl, hb4⟩; have HB4 := Aside0.mk (below_step HB3.out hb4); clear hb4))
         have HB5 : Aside0 (Below w7.heap.size w7 w4) := ⟨below_step HB.out HB4.out⟩
         have HOK2 : Aside0 (∀ j, j < B.length → -1 ≤ rd P (j : Int) ∧ rd P (j : Int) < (B.length : Int) ∧ 0 ≤ rd B (j : Int) ∧ rd B (j : Int) < 128) := ⟨fun j hj => by
          have := HOK.out _ rfl j hj
          omega⟩
         obtain ⟨adB, eB, _⟩ := Kd.at_int HR0.out 0 (by omega) (by omega)
         subst eB
         obtain ⟨adP, eP, _⟩ := Kd.at_int HR1.out 0 (by omega) (by have := HPL.out; omega)
         subst eP
         clear HB4 HB3 CAL2 CCY HALL HOK hz0
         clear HB
         go_loopg [93] G.length (fun kq v93 w' => ∃ v : Nat, v93 = .int .i64 (v : Int) ∧ v + kq = G.length ∧ Aside0 (tl2 G B P kq v = R) ∧ Aside0 (Below w7.heap.size w7 w'))
         case atStart => exact ⟨0, rfl, by omega, HR2, HB5⟩
         case round =>
          clear HR2 HB5
          obtain ⟨v, rfl, hv, HT2, HB⟩ := hrel
          by_cases hvl : v < G.length
          ·have hv1 : ((v : Int) < (G.length : Int)) = True := eq_true (by omega)
           have hv2 : decide ((v : Int) < (G.length : Int)) = true := decide_eq_true (by omega)
           cases gk with
           | zero => omega
           | succ gq =>
           have ht := HT2.out
           simp only [tl2] at ht
           obtain ⟨TP, hTP⟩ : ∃ t, topsF B P v B.length 0 0 = t := ⟨_, rfl⟩
           rw [hTP] at ht
           have HTP := Aside0.mk hTP
           have HT3 := Aside0.mk ht
           clear HT2 ht hTP
           go_wp2_with (first | ((with_reducible refine gate_dst (N := 10) rfl ?_); refine box_event ?hg (N := 10) ?hd (cs := #[.int .i64 0]) (t := 3) ?hr ?_; (case hd => rfl); (case hg => rfl); (case hr => first | (go_simp; done) | (go_simp; rfl)); intro vB hgv w8' hbox hb8; have HGV := Aside0.mk (show wr.heap.size ≤ vB by rw [hgv]; exact Nat.le_refl _); clear hgv; have hv0 : w8'.cell? ⟨vB, 0, none⟩ = some (.int .i64 0) := (blk_cell hbox 0).trans rfl; have hvf := blk_frozen hbox 0; have hx0 : ∀ u : Value, (w8'.setCell ⟨vB, 0, none⟩ u).cell? ⟨xB, 0, none⟩ = some (.slice (some adB) B.length c0) := (fun u => (cell_sameT (heap_setT _ ⟨vB, 0, none⟩ u _ (by have := HGV.out; have := HB.out.size; have := blk_ltT HBOX.out; show xB ≠ vB; omega))).trans ((blk_cell (blk_below (blk_below HBOX.out HB.out) hb8) 0).trans rfl)); have HBV := Aside0.mk hbox; have HB8 := Aside0.mk hb8; clear hbox hb8))
           have hcv := blk_set HBV.out 0 (.int .i64 (v : Int))
           have HB9 : Aside0 (Below w7.heap.size w7 (w8'.setCell ⟨vB, 0, none⟩ (.int .i64 (v : Int)))) := ⟨below_then HB.out HB.out.size (below_set HB8.out HGV.out)⟩
           generalize w8'.setCell ⟨vB, 0, none⟩ (.int .i64 (v : Int)) = w9 at *
           have HCV := Aside0.mk hcv
           have HBOX9 := Aside0.mk (blk_below HBOX.out HB9.out)
           clear hcv HBV HB8 HGV hv0 hvf hx0 HB
           go_loopg [11, 99] B.length (fun kq v11 v99 w' => ∃ i t : Nat, v11 = .int .i64 (t : Int) ∧ v99 = .int .i64 (i : Int) ∧ i + kq = B.length ∧ Aside0 (topsF B P v kq i t = TP ∧ t ≤ i) ∧ Aside0 (Below w9.heap.size w9 w'))
           case atStart => exact ⟨0, 0, rfl, rfl, by omega, ⟨HTP.out, Nat.le_refl _⟩, ⟨Below.refl _ _⟩⟩
           case round =>
            clear HTP
            obtain ⟨i, t, rfl, rfl, hi, HT, HB⟩ := hrel
            by_cases hil : i < B.length
            ·have hi1 : ((i : Int) < (B.length : Int)) = True := eq_true (by omega)
             have hi2 : decide ((i : Int) < (B.length : Int)) = true := decide_eq_true (by omega)
             have hi3 : ((i : Int) < (P.length : Int)) = True := eq_true (by have := HPL.out; omega)
             have hi4 : decide ((i : Int) < (P.length : Int)) = true := decide_eq_true (by have := HPL.out; omega)
             cases gk with
             | zero => omega
             | succ gx =>
             obtain ⟨ht, hti⟩ := HT.out
             simp only [topsF] at ht
             obtain ⟨hk1, hk2, hk3, hk4⟩ := HOK2.out i hil
             have hcB := Kd.C_below (Kd.C_below (Kd.C_below HR0.out HB7.out) HB9.out) HB.out
             have hcP := Kd.C_below (Kd.C_below (Kd.C_below HR1.out HB7.out) HB9.out) HB.out
             obtain ⟨adP', e1, hgp⟩ := Kd.at_int hcP (i : Int) (by omega) (by have := HPL.out; omega)
             injection e1 with e1
             subst e1
             obtain ⟨adB', e2, hgb⟩ := Kd.at_int hcB (i : Int) (by omega) (by omega)
             injection e2 with e2
             subst e2
             rw [Int.toNat_natCast] at hgp hgb
             obtain ⟨p, hp⟩ : ∃ p, rd P (i : Int) = p := ⟨_, rfl⟩
             rw [hp] at hgp ht hk1 hk2
             obtain ⟨bn, hbn⟩ := Int.eq_ofNat_of_zero_le hk3
             rw [hbn] at hgb ht hk4
             have hbn7 : bn < 128 := by omega
             have hcv2 := blk_below HCV.out HB.out
             have hcx2 := blk_below HBOX9.out HB.out
             have fvd : wr.drew.cell? ⟨vB, 0, none⟩ = some (.int .i64 (v : Int)) := (blk_cell hcv2 0).trans rfl
             have f0d : wr.drew.cell? ⟨xB, 0, none⟩ = some (.slice (some adB) B.length c0) := (blk_cell hcx2 0).trans rfl
             have f1d : wr.drew.cell? ⟨xB, 1, none⟩ = some (.slice (some adP) P.length c1) := (blk_cell hcx2 1).trans rfl
             have fpd : wr.drew.cell? (adP.add i) = some (.int .i64 p) := hgp
             have hzv : (0 : Int) ≤ (v : Int) := by omega
             obtain ⟨J, hJ1, hJ2, hJ3, hJ4, hJ5⟩ := bitJ bn v (by omega) (by omega)
             have hbi : bitI (bn : Int) v = bn.testBit v := rfl
             rw [hbi] at ht
             clear HT hk3 hbn hp hcv2 hcx2 hbi hJ3 hJ5 hcP
             cases hbt : bn.testBit v
             ·rw [hbt] at hJ4 ht
              have HT4 : Aside0 (topsF B P v gx (i + 1) t = TP) := ⟨by simpa using ht⟩
              clear ht hbt hcB
              go_wp2_with (fail)
              refine start_ (n := 28) (S := fun w' => w'.cell? ⟨vB, 0, none⟩ = some (.int .i64 (v : Int))) (ds := []) (Qbz 28 0) (by kernel_rfl) rfl rfl (fvd) (fun hHeld => ?_)
              refine pure_ (i := 0) (N := some 104) (v := ?_) (a' := ?_) (Qbz 28 1) rfl rfl (by kernel_rfl) (fun _ _ _ h => h) (Or.inl ⟨by rfl, ?_⟩) ?_ ?_
              rotate_left
              ·intro w'
               go_simp
               with_reducible rfl
              rotate_left
              ·simp only [Act.put, Qp1, Qp2, Qp3, i64_w, i32_w]
               rfl
              refine take_ (i := 1) (N := some 105) (v := ?_) (a' := ?_) (Qbz 28 3) rfl rfl (by kernel_rfl) (fun _ _ _ h => h) (Or.inl ⟨by rfl, ?_⟩) hHeld ?_ ?_
              rotate_left
              ·intro w' s0
               go_simp
               with_reducible rfl
              rotate_left
              ·simp only [Act.put, Qp1, Qp2, Qp3, i64_w, i32_w]
               rfl
              refine pure_ (i := 2) (N := some 106) (v := ?_) (a' := ?_) (Qbz 28 7) rfl rfl (by kernel_rfl) (fun _ _ _ h => h) (Or.inl ⟨by rfl, ?_⟩) ?_ ?_
              rotate_left
              ·intro w'
               go_simp
               with_reducible rfl
              rotate_left
              ·simp only [Act.put, Qp1, Qp2, Qp3, i64_w, i32_w]
               rfl
              refine pure_ (i := 3) (N := some 107) (v := ?_) (a' := ?_) (Qbz 28 15) rfl rfl (by kernel_rfl) (fun _ _ _ h => h) (Or.inl ⟨by rfl, ?_⟩) ?_ ?_
              rotate_left
              ·intro w'
               go_simp
               with_reducible rfl
              rotate_left
              ·simp only [Act.put, Qp1, Qp2, Qp3, i64_w, i32_w]
               rfl
              refine pure_ (i := 4) (N := some 108) (v := ?_) (a' := ?_) (Qbz 28 31) rfl rfl (by kernel_rfl) (fun _ _ _ h => h) (Or.inl ⟨by rfl, ?_⟩) ?_ ?_
              rotate_left
              ·intro w'
               go_simp
               with_reducible rfl
              rotate_left
              ·simp only [Act.put, Qp1, Qp2, Qp3, i64_w, i32_w]
               rfl
              refine pure_ (i := 5) (N := some 109) (v := ?_) (a' := ?_) (Qbz 28 63) rfl rfl (by kernel_rfl) (fun _ _ _ h => h) (Or.inl ⟨by rfl, ?_⟩) ?_ ?_
              rotate_left
              ·intro w'
               go_simp
               with_reducible rfl
              rotate_left
              ·simp only [Act.put, Qp1, Qp2, Qp3, i64_w, i32_w]
               rfl
              refine pure_ (i := 6) (N := some 110) (v := undef) (a' := ?_) (Qbz 28 127) rfl rfl (by kernel_rfl) (fun _ _ _ h => h) (Or.inr ⟨by rfl, rfl⟩) ?_ ?_
              rotate_left
              ·simp only [Act.put, Qp1, Qp2, Qp3, i64_w, i32_w]
               rfl
              refine pure_ (i := 7) (N := some 111) (v := undef) (a' := ?_) (Qbz 28 255) rfl rfl (by kernel_rfl) (fun _ _ _ h => h) (Or.inr ⟨by rfl, rfl⟩) ?_ ?_
              rotate_left
              ·simp only [Act.put, Qp1, Qp2, Qp3, i64_w, i32_w]
               rfl
              refine pure_ (i := 8) (N := some 112) (v := undef) (a' := ?_) (Qbz 28 511) rfl rfl (by kernel_rfl) (fun _ _ _ h => h) (Or.inr ⟨by rfl, rfl⟩) ?_ ?_
              rotate_left
              ·simp only [Act.put, Qp1, Qp2, Qp3, i64_w, i32_w]
               rfl
              refine pure_ (i := 9) (N := some 113) (v := undef) (a' := ?_) (Qbz 28 1023) rfl rfl (by kernel_rfl) (fun _ _ _ h => h) (Or.inr ⟨by rfl, rfl⟩) ?_ ?_
              rotate_left
              ·simp only [Act.put, Qp1, Qp2, Qp3, i64_w, i32_w]
               rfl
              refine pure_ (i := 10) (N := some 114) (v := undef) (a' := ?_) (Qbz 28 2047) rfl rfl (by kernel_rfl) (fun _ _ _ h => h) (Or.inr ⟨by rfl, rfl⟩) ?_ ?_
              rotate_left
              ·simp only [Act.put, Qp1, Qp2, Qp3, i64_w, i32_w]
               rfl
              refine pure_ (i := 11) (N := some 115) (v := undef) (a' := ?_) (Qbz 28 4095) rfl rfl (by kernel_rfl) (fun _ _ _ h => h) (Or.inr ⟨by rfl, rfl⟩) ?_ ?_
              rotate_left
              ·simp only [Act.put, Qp1, Qp2, Qp3, i64_w, i32_w]
               rfl
              refine pure_ (i := 12) (N := some 116) (v := undef) (a' := ?_) (Qbz 28 8191) rfl rfl (by kernel_rfl) (fun _ _ _ h => h) (Or.inr ⟨by rfl, rfl⟩) ?_ ?_
              rotate_left
              ·simp only [Act.put, Qp1, Qp2, Qp3, i64_w, i32_w]
               rfl
              refine pure_ (i := 13) (N := some 117) (v := undef) (a' := ?_) (Qbz 28 16383) rfl rfl (by kernel_rfl) (fun _ _ _ h => h) (Or.inr ⟨by rfl, rfl⟩) ?_ ?_
              rotate_left
              ·simp only [Act.put, Qp1, Qp2, Qp3, i64_w, i32_w]
               rfl
              refine pure_ (i := 14) (N := some 118) (v := undef) (a' := ?_) (Qbz 28 32767) rfl rfl (by kernel_rfl) (fun _ _ _ h => h) (Or.inr ⟨by rfl, rfl⟩) ?_ ?_
              rotate_left
              ·simp only [Act.put, Qp1, Qp2, Qp3, i64_w, i32_w]
               rfl
              refine pure_ (i := 15) (N := some 119) (v := undef) (a' := ?_) (Qbz 28 65535) rfl rfl (by kernel_rfl) (fun _ _ _ h => h) (Or.inr ⟨by rfl, rfl⟩) ?_ ?_
              rotate_left
              ·simp only [Act.put, Qp1, Qp2, Qp3, i64_w, i32_w]
               rfl
              refine pure_ (i := 16) (N := some 120) (v := undef) (a' := ?_) (Qbz 28 131071) rfl rfl (by kernel_rfl) (fun _ _ _ h => h) (Or.inr ⟨by rfl, rfl⟩) ?_ ?_
              rotate_left
              ·simp only [Act.put, Qp1, Qp2, Qp3, i64_w, i32_w]
               rfl
              refine pure_ (i := 17) (N := some 121) (v := undef) (a' := ?_) (Qbz 28 262143) rfl rfl (by kernel_rfl) (fun _ _ _ h => h) (Or.inr ⟨by rfl, rfl⟩) ?_ ?_
              rotate_left
              ·simp only [Act.put, Qp1, Qp2, Qp3, i64_w, i32_w]
               rfl
              refine pure_ (i := 18) (N := some 122) (v := undef) (a' := ?_) (Qbz 28 524287) rfl rfl (by kernel_rfl) (fun _ _ _ h => h) (Or.inr ⟨by rfl, rfl⟩) ?_ ?_
              rotate_left
              ·simp only [Act.put, Qp1, Qp2, Qp3, i64_w, i32_w]
               rfl
              refine pure_ (i := 19) (N := some 123) (v := undef) (a' := ?_) (Qbz 28 1048575) rfl rfl (by kernel_rfl) (fun _ _ _ h => h) (Or.inr ⟨by rfl, rfl⟩) ?_ ?_
              rotate_left
              ·simp only [Act.put, Qp1, Qp2, Qp3, i64_w, i32_w]
               rfl
              refine pure_ (i := 20) (N := some 124) (v := undef) (a' := ?_) (Qbz 28 2097151) rfl rfl (by kernel_rfl) (fun _ _ _ h => h) (Or.inr ⟨by rfl, rfl⟩) ?_ ?_
              rotate_left
              ·simp only [Act.put, Qp1, Qp2, Qp3, i64_w, i32_w]
               rfl
              refine pure_ (i := 21) (N := some 125) (v := undef) (a' := ?_) (Qbz 28 4194303) rfl rfl (by kernel_rfl) (fun _ _ _ h => h) (Or.inr ⟨by rfl, rfl⟩) ?_ ?_
              rotate_left
              ·simp only [Act.put, Qp1, Qp2, Qp3, i64_w, i32_w]
               rfl
              refine pure_ (i := 22) (N := some 126) (v := undef) (a' := ?_) (Qbz 28 8388607) rfl rfl (by kernel_rfl) (fun _ _ _ h => h) (Or.inr ⟨by rfl, rfl⟩) ?_ ?_
              rotate_left
              ·simp only [Act.put, Qp1, Qp2, Qp3, i64_w, i32_w]
               rfl
              refine pure_ (i := 23) (N := some 127) (v := undef) (a' := ?_) (Qbz 28 16777215) rfl rfl (by kernel_rfl) (fun _ _ _ h => h) (Or.inr ⟨by rfl, rfl⟩) ?_ ?_
              rotate_left
              ·simp only [Act.put, Qp1, Qp2, Qp3, i64_w, i32_w]
               rfl
              refine pure_ (i := 24) (N := some 128) (v := undef) (a' := ?_) (Qbz 28 33554431) rfl rfl (by kernel_rfl) (fun _ _ _ h => h) (Or.inr ⟨by rfl, rfl⟩) ?_ ?_
              rotate_left
              ·simp only [Act.put, Qp1, Qp2, Qp3, i64_w, i32_w]
               rfl
              refine pure_ (i := 25) (N := some 129) (v := undef) (a' := ?_) (Qbz 28 67108863) rfl rfl (by kernel_rfl) (fun _ _ _ h => h) (Or.inr ⟨by rfl, rfl⟩) ?_ ?_
              rotate_left
              ·simp only [Act.put, Qp1, Qp2, Qp3, i64_w, i32_w]
               rfl
              refine pure_ (i := 26) (N := some 130) (v := undef) (a' := ?_) (Qbz 28 134217727) rfl rfl (by kernel_rfl) (fun _ _ _ h => h) (Or.inr ⟨by rfl, rfl⟩) ?_ ?_
              rotate_left
              ·simp only [Act.put, Qp1, Qp2, Qp3, i64_w, i32_w]
               rfl
              refine pure_ (i := 27) (N := some 131) (v := ?_) (a' := ?_) (Qbz 28 268435455) rfl rfl (by kernel_rfl) (fun _ _ _ h => h) (Or.inl ⟨by rfl, ?_⟩) ?_ ?_
              rotate_left
              ·intro w'
               go_simp
               with_reducible rfl
              rotate_left
              ·simp only [Act.put, Qp1, Qp2, Qp3, i64_w, i32_w]
               rfl
              refine done_ (by kernel_rfl) ?_
              go_wp2
              go_roundg gx
              case measure => omega
              case rel => exact ⟨i + 1, t, rfl, by go_num, by omega, ⟨HT4.out, by omega⟩, ⟨below_drew HB.out⟩⟩
             ·rw [hbt] at hJ4 ht
              by_cases hp0 : p < 0
              ·have hd1' : decide (p < 0) = true := decide_eq_true hp0
               rw [hd1'] at ht
               have HT4 : Aside0 (topsF B P v gx (i + 1) (t + 1) = TP) := ⟨by simpa using ht⟩
               clear ht hbt hcB hp0
               go_wp2_with (fail)
               refine start_ (n := 28) (S := fun w' => w'.cell? ⟨vB, 0, none⟩ = some (.int .i64 (v : Int)) ∧ w'.cell? ⟨xB, 1, none⟩ = some (.slice (some adP) P.length c1) ∧ w'.cell? (adP.add i) = some (.int .i64 p)) (ds := []) (Qbz 28 0) (by kernel_rfl) rfl rfl ⟨fvd, f1d, fpd⟩ (fun hHeld => ?_)
               refine pure_ (i := 0) (N := some 104) (v := ?_) (a' := ?_) (Qbz 28 1) rfl rfl (by kernel_rfl) (fun _ _ _ h => h) (Or.inl ⟨by rfl, ?_⟩) ?_ ?_
               rotate_left
               ·intro w'
                go_simp
                with_reducible rfl
               rotate_left
               ·simp only [Act.put, Qp1, Qp2, Qp3, i64_w, i32_w]
                rfl
               refine take_ (i := 1) (N := some 105) (v := ?_) (a' := ?_) (Qbz 28 3) rfl rfl (by kernel_rfl) (fun _ _ _ h => h) (Or.inl ⟨by rfl, ?_⟩) hHeld ?_ ?_
               rotate_left
               ·rintro w' ⟨s0, s1, s2⟩
                go_simp
                with_reducible rfl
               rotate_left
               ·simp only [Act.put, Qp1, Qp2, Qp3, i64_w, i32_w]
                rfl
               refine pure_ (i := 2) (N := some 106) (v := ?_) (a' := ?_) (Qbz 28 7) rfl rfl (by kernel_rfl) (fun _ _ _ h => h) (Or.inl ⟨by rfl, ?_⟩) ?_ ?_
               rotate_left
               ·intro w'
                go_simp
                with_reducible rfl
               rotate_left
               ·simp only [Act.put, Qp1, Qp2, Qp3, i64_w, i32_w]
                rfl
               refine pure_ (i := 3) (N := some 107) (v := ?_) (a' := ?_) (Qbz 28 15) rfl rfl (by kernel_rfl) (fun _ _ _ h => h) (Or.inl ⟨by rfl, ?_⟩) ?_ ?_
               rotate_left
               ·intro w'
                go_simp
                with_reducible rfl
               rotate_left
               ·simp only [Act.put, Qp1, Qp2, Qp3, i64_w, i32_w]
                rfl
               refine pure_ (i := 4) (N := some 108) (v := ?_) (a' := ?_) (Qbz 28 31) rfl rfl (by kernel_rfl) (fun _ _ _ h => h) (Or.inl ⟨by rfl, ?_⟩) ?_ ?_
               rotate_left
               ·intro w'
                go_simp
                with_reducible rfl
               rotate_left
               ·simp only [Act.put, Qp1, Qp2, Qp3, i64_w, i32_w]
                rfl
               refine pure_ (i := 5) (N := some 109) (v := ?_) (a' := ?_) (Qbz 28 63) rfl rfl (by kernel_rfl) (fun _ _ _ h => h) (Or.inl ⟨by rfl, ?_⟩) ?_ ?_
               rotate_left
               ·intro w'
                go_simp
                with_reducible rfl
               rotate_left
               ·simp only [Act.put, Qp1, Qp2, Qp3, i64_w, i32_w]
                rfl
               refine pure_ (i := 6) (N := some 110) (v := ?_) (a' := ?_) (Qbz 28 127) rfl rfl (by kernel_rfl) (fun _ _ _ h => h) (Or.inl ⟨by rfl, ?_⟩) ?_ ?_
               rotate_left
               ·intro w'
                go_simp
                with_reducible rfl
               rotate_left
               ·simp only [Act.put, Qp1, Qp2, Qp3, i64_w, i32_w]
                rfl
               refine pure_ (i := 8) (N := some 112) (v := ?_) (a' := ?_) (Qbz 28 383) rfl rfl (by kernel_rfl) (fun _ _ _ h => h) (Or.inl ⟨by rfl, ?_⟩) ?_ ?_
               rotate_left
               ·intro w'
                go_simp
                with_reducible rfl
               rotate_left
               ·simp only [Act.put, Qp1, Qp2, Qp3, i64_w, i32_w]
                rfl
               refine take_ (i := 7) (N := some 111) (v := ?_) (a' := ?_) (Qbz 28 511) rfl rfl (by kernel_rfl) (fun _ _ _ h => h) (Or.inl ⟨by rfl, ?_⟩) hHeld ?_ ?_
               rotate_left
               ·rintro w' ⟨s0, s1, s2⟩
                go_simp
                with_reducible rfl
               rotate_left
               ·simp only [Act.put, Qp1, Qp2, Qp3, i64_w, i32_w]
                rfl
               refine pure_ (i := 9) (N := some 113) (v := ?_) (a' := ?_) (Qbz 28 1023) rfl rfl (by kernel_rfl) (fun _ _ _ h => h) (Or.inl ⟨by rfl, ?_⟩) ?_ ?_
               rotate_left
               ·intro w'
                go_simp
                with_reducible rfl
               rotate_left
               ·simp only [Act.put, Qp1, Qp2, Qp3, i64_w, i32_w]
                rfl
               refine take_ (i := 10) (N := some 114) (v := ?_) (a' := ?_) (Qbz 28 2047) rfl rfl (by kernel_rfl) (fun _ _ _ h => h) (Or.inl ⟨by rfl, ?_⟩) hHeld ?_ ?_
               rotate_left
               ·rintro w' ⟨s0, s1, s2⟩
                go_simp
                with_reducible rfl
               rotate_left
               ·simp only [Act.put, Qp1, Qp2, Qp3, i64_w, i32_w]
                rfl
               refine pure_ (i := 11) (N := some 115) (v := ?_) (a' := ?_) (Qbz 28 4095) rfl rfl (by kernel_rfl) (fun _ _ _ h => h) (Or.inl ⟨by rfl, ?_⟩) ?_ ?_
               rotate_left
               ·intro w'
                go_simp
                with_reducible rfl
               rotate_left
               ·simp only [Act.put, Qp1, Qp2, Qp3, i64_w, i32_w]
                rfl
               refine pure_ (i := 12) (N := some 116) (v := ?_) (a' := ?_) (Qbz 28 8191) rfl rfl (by kernel_rfl) (fun _ _ _ h => h) (Or.inl ⟨by rfl, ?_⟩) ?_ ?_
               rotate_left
               ·intro w'
                go_simp
                with_reducible rfl
               rotate_left
               ·simp only [Act.put, Qp1, Qp2, Qp3, i64_w, i32_w]
                rfl
               refine pure_ (i := 13) (N := some 117) (v := undef) (a' := ?_) (Qbz 28 16383) rfl rfl (by kernel_rfl) (fun _ _ _ h => h) (Or.inr ⟨by rfl, rfl⟩) ?_ ?_
               rotate_left
               ·simp only [Act.put, Qp1, Qp2, Qp3, i64_w, i32_w]
                rfl
               refine pure_ (i := 14) (N := some 118) (v := undef) (a' := ?_) (Qbz 28 32767) rfl rfl (by kernel_rfl) (fun _ _ _ h => h) (Or.inr ⟨by rfl, rfl⟩) ?_ ?_
               rotate_left
               ·simp only [Act.put, Qp1, Qp2, Qp3, i64_w, i32_w]
                rfl
               refine pure_ (i := 15) (N := some 119) (v := undef) (a' := ?_) (Qbz 28 65535) rfl rfl (by kernel_rfl) (fun _ _ _ h => h) (Or.inr ⟨by rfl, rfl⟩) ?_ ?_
               rotate_left
               ·simp only [Act.put, Qp1, Qp2, Qp3, i64_w, i32_w]
                rfl
               refine pure_ (i := 16) (N := some 120) (v := undef) (a' := ?_) (Qbz 28 131071) rfl rfl (by kernel_rfl) (fun _ _ _ h => h) (Or.inr ⟨by rfl, rfl⟩) ?_ ?_
               rotate_left
               ·simp only [Act.put, Qp1, Qp2, Qp3, i64_w, i32_w]
                rfl
               refine pure_ (i := 17) (N := some 121) (v := undef) (a' := ?_) (Qbz 28 262143) rfl rfl (by kernel_rfl) (fun _ _ _ h => h) (Or.inr ⟨by rfl, rfl⟩) ?_ ?_
               rotate_left
               ·simp only [Act.put, Qp1, Qp2, Qp3, i64_w, i32_w]
                rfl
               refine pure_ (i := 18) (N := some 122) (v := undef) (a' := ?_) (Qbz 28 524287) rfl rfl (by kernel_rfl) (fun _ _ _ h => h) (Or.inr ⟨by rfl, rfl⟩) ?_ ?_
               rotate_left
               ·simp only [Act.put, Qp1, Qp2, Qp3, i64_w, i32_w]
                rfl
               refine pure_ (i := 19) (N := some 123) (v := undef) (a' := ?_) (Qbz 28 1048575) rfl rfl (by kernel_rfl) (fun _ _ _ h => h) (Or.inr ⟨by rfl, rfl⟩) ?_ ?_
               rotate_left
               ·simp only [Act.put, Qp1, Qp2, Qp3, i64_w, i32_w]
                rfl
               refine pure_ (i := 20) (N := some 124) (v := undef) (a' := ?_) (Qbz 28 2097151) rfl rfl (by kernel_rfl) (fun _ _ _ h => h) (Or.inr ⟨by rfl, rfl⟩) ?_ ?_
               rotate_left
               ·simp only [Act.put, Qp1, Qp2, Qp3, i64_w, i32_w]
                rfl
               refine pure_ (i := 21) (N := some 125) (v := undef) (a' := ?_) (Qbz 28 4194303) rfl rfl (by kernel_rfl) (fun _ _ _ h => h) (Or.inr ⟨by rfl, rfl⟩) ?_ ?_
               rotate_left
               ·simp only [Act.put, Qp1, Qp2, Qp3, i64_w, i32_w]
                rfl
               refine pure_ (i := 22) (N := some 126) (v := undef) (a' := ?_) (Qbz 28 8388607) rfl rfl (by kernel_rfl) (fun _ _ _ h => h) (Or.inr ⟨by rfl, rfl⟩) ?_ ?_
               rotate_left
               ·simp only [Act.put, Qp1, Qp2, Qp3, i64_w, i32_w]
                rfl
               refine pure_ (i := 23) (N := some 127) (v := undef) (a' := ?_) (Qbz 28 16777215) rfl rfl (by kernel_rfl) (fun _ _ _ h => h) (Or.inr ⟨by rfl, rfl⟩) ?_ ?_
               rotate_left
               ·simp only [Act.put, Qp1, Qp2, Qp3, i64_w, i32_w]
                rfl
               refine pure_ (i := 24) (N := some 128) (v := undef) (a' := ?_) (Qbz 28 33554431) rfl rfl (by kernel_rfl) (fun _ _ _ h => h) (Or.inr ⟨by rfl, rfl⟩) ?_ ?_
               rotate_left
               ·simp only [Act.put, Qp1, Qp2, Qp3, i64_w, i32_w]
                rfl
               refine pure_ (i := 25) (N := some 129) (v := undef) (a' := ?_) (Qbz 28 67108863) rfl rfl (by kernel_rfl) (fun _ _ _ h => h) (Or.inr ⟨by rfl, rfl⟩) ?_ ?_
               rotate_left
               ·simp only [Act.put, Qp1, Qp2, Qp3, i64_w, i32_w]
                rfl
               refine pure_ (i := 26) (N := some 130) (v := ?_) (a' := ?_) (Qbz 28 134217727) rfl rfl (by kernel_rfl) (fun _ _ _ h => h) (Or.inl ⟨by rfl, ?_⟩) ?_ ?_
               rotate_left
               ·intro w'
                go_simp
                with_reducible rfl
               rotate_left
               ·simp only [Act.put, Qp1, Qp2, Qp3, i64_w, i32_w]
                rfl
               refine pure_ (i := 27) (N := some 131) (v := ?_) (a' := ?_) (Qbz 28 268435455) rfl rfl (by kernel_rfl) (fun _ _ _ h => h) (Or.inl ⟨by rfl, ?_⟩) ?_ ?_
               rotate_left
               ·intro w'
                go_simp
                with_reducible rfl
               rotate_left
               ·simp only [Act.put, Qp1, Qp2, Qp3, i64_w, i32_w]
                rfl
               refine done_ (by kernel_rfl) ?_
               go_wp2
               go_roundg gx
               case measure => omega
               case rel => exact ⟨i + 1, t + 1, by go_num, by go_num, by omega, ⟨HT4.out, by omega⟩, ⟨below_drew HB.out⟩⟩
              ·have hd1' : decide (p < 0) = false := decide_eq_false hp0
               rw [hd1'] at ht
               obtain ⟨pn, rfl⟩ := Int.eq_ofNat_of_zero_le (show 0 ≤ p by omega)
               have hpn : pn < B.length := by omega
               obtain ⟨hm1, hm2, hm3, hm4⟩ := HOK2.out pn hpn
               obtain ⟨adB'', e3, hgc⟩ := Kd.at_int hcB (pn : Int) (by omega) (by omega)
               injection e3 with e3
               subst e3
               rw [Int.toNat_natCast] at hgc
               obtain ⟨cn, hcn⟩ := Int.eq_ofNat_of_zero_le hm3
               rw [hcn] at hgc ht hm4
               have hcn7 : cn < 128 := by omega
               have fcd : wr.drew.cell? (adB.add pn) = some (.int .i64 (cn : Int)) := hgc
               have hci : bitI (cn : Int) v = cn.testBit v := rfl
               rw [hci] at ht
               obtain ⟨J2, hK1, hK2, hK3, hK4, hK5⟩ := bitJ cn v (by omega) (by omega)
               have hp5 : ((pn : Int) < (B.length : Int)) = True := eq_true (by omega)
               have hp6 : decide ((pn : Int) < (B.length : Int)) = true := decide_eq_true (by omega)
               have hd1n : decide ((pn : Int) < 0) = false := hd1'
               clear hm1 hm2 hm3 hcn hci hK3 hK4 hcB hbt hp0
               cases hct : cn.testBit v
               ·rw [hct] at hK5 ht
                have HT4 : Aside0 (topsF B P v gx (i + 1) (t + 1) = TP) := ⟨by simpa using ht⟩
                clear ht hct
                go_wp2_with (fail)
                refine start_ (n := 28) (S := fun w' => w'.cell? ⟨vB, 0, none⟩ = some (.int .i64 (v : Int)) ∧ w'.cell? ⟨xB, 0, none⟩ = some (.slice (some adB) B.length c0) ∧ w'.cell? ⟨xB, 1, none⟩ = some (.slice (some adP) P.length c1) ∧ w'.cell? (adP.add i) = some (.int .i64 (pn : Int)) ∧ w'.cell? (adB.add pn) = some (.int .i64 (cn : Int))) (ds := []) (Qbz 28 0) (by kernel_rfl) rfl rfl ⟨fvd, f0d, f1d, fpd, fcd⟩ (fun hHeld => ?_)
                refine pure_ (i := 0) (N := some 104) (v := ?_) (a' := ?_) (Qbz 28 1) rfl rfl (by kernel_rfl) (fun _ _ _ h => h) (Or.inl ⟨by rfl, ?_⟩) ?_ ?_
                rotate_left
                ·intro w'
                 go_simp
                 with_reducible rfl
                rotate_left
                ·simp only [Act.put, Qp1, Qp2, Qp3, i64_w, i32_w]
                 rfl
                refine take_ (i := 1) (N := some 105) (v := ?_) (a' := ?_) (Qbz 28 3) rfl rfl (by kernel_rfl) (fun _ _ _ h => h) (Or.inl ⟨by rfl, ?_⟩) hHeld ?_ ?_
                rotate_left
                ·rintro w' ⟨s0, s1, s2, s3, s4⟩
                 go_simp
                 with_reducible rfl
                rotate_left
                ·simp only [Act.put, Qp1, Qp2, Qp3, i64_w, i32_w]
                 rfl
                refine pure_ (i := 2) (N := some 106) (v := ?_) (a' := ?_) (Qbz 28 7) rfl rfl (by kernel_rfl) (fun _ _ _ h => h) (Or.inl ⟨by rfl, ?_⟩) ?_ ?_
                rotate_left
                ·intro w'
                 go_simp
                 with_reducible rfl
                rotate_left
                ·simp only [Act.put, Qp1, Qp2, Qp3, i64_w, i32_w]
                 rfl
                refine pure_ (i := 3) (N := some 107) (v := ?_) (a' := ?_) (Qbz 28 15) rfl rfl (by kernel_rfl) (fun _ _ _ h => h) (Or.inl ⟨by rfl, ?_⟩) ?_ ?_
                rotate_left
                ·intro w'
                 go_simp
                 with_reducible rfl
                rotate_left
                ·simp only [Act.put, Qp1, Qp2, Qp3, i64_w, i32_w]
                 rfl
                refine pure_ (i := 4) (N := some 108) (v := ?_) (a' := ?_) (Qbz 28 31) rfl rfl (by kernel_rfl) (fun _ _ _ h => h) (Or.inl ⟨by rfl, ?_⟩) ?_ ?_
                rotate_left
                ·intro w'
                 go_simp
                 with_reducible rfl
                rotate_left
                ·simp only [Act.put, Qp1, Qp2, Qp3, i64_w, i32_w]
                 rfl
                refine pure_ (i := 5) (N := some 109) (v := ?_) (a' := ?_) (Qbz 28 63) rfl rfl (by kernel_rfl) (fun _ _ _ h => h) (Or.inl ⟨by rfl, ?_⟩) ?_ ?_
                rotate_left
                ·intro w'
                 go_simp
                 with_reducible rfl
                rotate_left
                ·simp only [Act.put, Qp1, Qp2, Qp3, i64_w, i32_w]
                 rfl
                refine pure_ (i := 6) (N := some 110) (v := ?_) (a' := ?_) (Qbz 28 127) rfl rfl (by kernel_rfl) (fun _ _ _ h => h) (Or.inl ⟨by rfl, ?_⟩) ?_ ?_
                rotate_left
                ·intro w'
                 go_simp
                 with_reducible rfl
                rotate_left
                ·simp only [Act.put, Qp1, Qp2, Qp3, i64_w, i32_w]
                 rfl
                refine pure_ (i := 8) (N := some 112) (v := ?_) (a' := ?_) (Qbz 28 383) rfl rfl (by kernel_rfl) (fun _ _ _ h => h) (Or.inl ⟨by rfl, ?_⟩) ?_ ?_
                rotate_left
                ·intro w'
                 go_simp
                 with_reducible rfl
                rotate_left
                ·simp only [Act.put, Qp1, Qp2, Qp3, i64_w, i32_w]
                 rfl
                refine take_ (i := 7) (N := some 111) (v := ?_) (a' := ?_) (Qbz 28 511) rfl rfl (by kernel_rfl) (fun _ _ _ h => h) (Or.inl ⟨by rfl, ?_⟩) hHeld ?_ ?_
                rotate_left
                ·rintro w' ⟨s0, s1, s2, s3, s4⟩
                 go_simp
                 with_reducible rfl
                rotate_left
                ·simp only [Act.put, Qp1, Qp2, Qp3, i64_w, i32_w]
                 rfl
                refine pure_ (i := 9) (N := some 113) (v := ?_) (a' := ?_) (Qbz 28 1023) rfl rfl (by kernel_rfl) (fun _ _ _ h => h) (Or.inl ⟨by rfl, ?_⟩) ?_ ?_
                rotate_left
                ·intro w'
                 go_simp
                 with_reducible rfl
                rotate_left
                ·simp only [Act.put, Qp1, Qp2, Qp3, i64_w, i32_w]
                 rfl
                refine take_ (i := 10) (N := some 114) (v := ?_) (a' := ?_) (Qbz 28 2047) rfl rfl (by kernel_rfl) (fun _ _ _ h => h) (Or.inl ⟨by rfl, ?_⟩) hHeld ?_ ?_
                rotate_left
                ·rintro w' ⟨s0, s1, s2, s3, s4⟩
                 go_simp
                 with_reducible rfl
                rotate_left
                ·simp only [Act.put, Qp1, Qp2, Qp3, i64_w, i32_w]
                 rfl
                refine pure_ (i := 11) (N := some 115) (v := ?_) (a' := ?_) (Qbz 28 4095) rfl rfl (by kernel_rfl) (fun _ _ _ h => h) (Or.inl ⟨by rfl, ?_⟩) ?_ ?_
                rotate_left
                ·intro w'
                 go_simp
                 with_reducible rfl
                rotate_left
                ·simp only [Act.put, Qp1, Qp2, Qp3, i64_w, i32_w]
                 rfl
                refine pure_ (i := 12) (N := some 116) (v := ?_) (a' := ?_) (Qbz 28 8191) rfl rfl (by kernel_rfl) (fun _ _ _ h => h) (Or.inl ⟨by rfl, ?_⟩) ?_ ?_
                rotate_left
                ·intro w'
                 go_simp
                 with_reducible rfl
                rotate_left
                ·simp only [Act.put, Qp1, Qp2, Qp3, i64_w, i32_w]
                 rfl
                refine pure_ (i := 13) (N := some 117) (v := ?_) (a' := ?_) (Qbz 28 16383) rfl rfl (by kernel_rfl) (fun _ _ _ h => h) (Or.inl ⟨by rfl, ?_⟩) ?_ ?_
                rotate_left
                ·intro w'
                 go_simp
                 with_reducible rfl
                rotate_left
                ·simp only [Act.put, Qp1, Qp2, Qp3, i64_w, i32_w]
                 rfl
                refine pure_ (i := 15) (N := some 119) (v := ?_) (a' := ?_) (Qbz 28 49151) rfl rfl (by kernel_rfl) (fun _ _ _ h => h) (Or.inl ⟨by rfl, ?_⟩) ?_ ?_
                rotate_left
                ·intro w'
                 go_simp
                 with_reducible rfl
                rotate_left
                ·simp only [Act.put, Qp1, Qp2, Qp3, i64_w, i32_w]
                 rfl
                refine pure_ (i := 17) (N := some 121) (v := ?_) (a' := ?_) (Qbz 28 180223) rfl rfl (by kernel_rfl) (fun _ _ _ h => h) (Or.inl ⟨by rfl, ?_⟩) ?_ ?_
                rotate_left
                ·intro w'
                 go_simp
                 with_reducible rfl
                rotate_left
                ·simp only [Act.put, Qp1, Qp2, Qp3, i64_w, i32_w]
                 rfl
                refine take_ (i := 14) (N := some 118) (v := ?_) (a' := ?_) (Qbz 28 196607) rfl rfl (by kernel_rfl) (fun _ _ _ h => h) (Or.inl ⟨by rfl, ?_⟩) hHeld ?_ ?_
                rotate_left
                ·rintro w' ⟨s0, s1, s2, s3, s4⟩
                 go_simp
                 with_reducible rfl
                rotate_left
                ·simp only [Act.put, Qp1, Qp2, Qp3, i64_w, i32_w]
                 rfl
                refine take_ (i := 16) (N := some 120) (v := ?_) (a' := ?_) (Qbz 28 262143) rfl rfl (by kernel_rfl) (fun _ _ _ h => h) (Or.inl ⟨by rfl, ?_⟩) hHeld ?_ ?_
                rotate_left
                ·rintro w' ⟨s0, s1, s2, s3, s4⟩
                 go_simp
                 with_reducible rfl
                rotate_left
                ·simp only [Act.put, Qp1, Qp2, Qp3, i64_w, i32_w]
                 rfl
                refine pure_ (i := 18) (N := some 122) (v := ?_) (a' := ?_) (Qbz 28 524287) rfl rfl (by kernel_rfl) (fun _ _ _ h => h) (Or.inl ⟨by rfl, ?_⟩) ?_ ?_
                rotate_left
                ·intro w'
                 go_simp
                 with_reducible rfl
                rotate_left
                ·simp only [Act.put, Qp1, Qp2, Qp3, i64_w, i32_w]
                 rfl
                refine take_ (i := 19) (N := some 123) (v := ?_) (a' := ?_) (Qbz 28 1048575) rfl rfl (by kernel_rfl) (fun _ _ _ h => h) (Or.inl ⟨by rfl, ?_⟩) hHeld ?_ ?_
                rotate_left
                ·rintro w' ⟨s0, s1, s2, s3, s4⟩
                 go_simp
                 with_reducible rfl
                rotate_left
                ·simp only [Act.put, Qp1, Qp2, Qp3, i64_w, i32_w]
                 rfl
                refine pure_ (i := 20) (N := some 124) (v := ?_) (a' := ?_) (Qbz 28 2097151) rfl rfl (by kernel_rfl) (fun _ _ _ h => h) (Or.inl ⟨by rfl, ?_⟩) ?_ ?_
                rotate_left
                ·intro w'
                 go_simp
                 with_reducible rfl
                rotate_left
                ·simp only [Act.put, Qp1, Qp2, Qp3, i64_w, i32_w]
                 rfl
                refine take_ (i := 21) (N := some 125) (v := ?_) (a' := ?_) (Qbz 28 4194303) rfl rfl (by kernel_rfl) (fun _ _ _ h => h) (Or.inl ⟨by rfl, ?_⟩) hHeld ?_ ?_
                rotate_left
                ·rintro w' ⟨s0, s1, s2, s3, s4⟩
                 go_simp
                 with_reducible rfl
                rotate_left
                ·simp only [Act.put, Qp1, Qp2, Qp3, i64_w, i32_w]
                 rfl
                refine take_ (i := 22) (N := some 126) (v := ?_) (a' := ?_) (Qbz 28 8388607) rfl rfl (by kernel_rfl) (fun _ _ _ h => h) (Or.inl ⟨by rfl, ?_⟩) hHeld ?_ ?_
                rotate_left
                ·rintro w' ⟨s0, s1, s2, s3, s4⟩
                 go_simp
                 with_reducible rfl
                rotate_left
                ·simp only [Act.put, Qp1, Qp2, Qp3, i64_w, i32_w]
                 rfl
                refine pure_ (i := 23) (N := some 127) (v := ?_) (a' := ?_) (Qbz 28 16777215) rfl rfl (by kernel_rfl) (fun _ _ _ h => h) (Or.inl ⟨by rfl, ?_⟩) ?_ ?_
                rotate_left
                ·intro w'
                 go_simp
                 with_reducible rfl
                rotate_left
                ·simp only [Act.put, Qp1, Qp2, Qp3, i64_w, i32_w]
                 rfl
                refine pure_ (i := 24) (N := some 128) (v := ?_) (a' := ?_) (Qbz 28 33554431) rfl rfl (by kernel_rfl) (fun _ _ _ h => h) (Or.inl ⟨by rfl, ?_⟩) ?_ ?_
                rotate_left
                ·intro w'
                 go_simp
                 with_reducible rfl
                rotate_left
                ·simp only [Act.put, Qp1, Qp2, Qp3, i64_w, i32_w]
                 rfl
                refine pure_ (i := 25) (N := some 129) (v := ?_) (a' := ?_) (Qbz 28 67108863) rfl rfl (by kernel_rfl) (fun _ _ _ h => h) (Or.inl ⟨by rfl, ?_⟩) ?_ ?_
                rotate_left
                ·intro w'
                 go_simp
                 with_reducible rfl
                rotate_left
                ·simp only [Act.put, Qp1, Qp2, Qp3, i64_w, i32_w]
                 rfl
                refine pure_ (i := 26) (N := some 130) (v := ?_) (a' := ?_) (Qbz 28 134217727) rfl rfl (by kernel_rfl) (fun _ _ _ h => h) (Or.inl ⟨by rfl, ?_⟩) ?_ ?_
                rotate_left
                ·intro w'
                 go_simp
                 with_reducible rfl
                rotate_left
                ·simp only [Act.put, Qp1, Qp2, Qp3, i64_w, i32_w]
                 rfl
                refine pure_ (i := 27) (N := some 131) (v := ?_) (a' := ?_) (Qbz 28 268435455) rfl rfl (by kernel_rfl) (fun _ _ _ h => h) (Or.inl ⟨by rfl, ?_⟩) ?_ ?_
                rotate_left
                ·intro w'
                 go_simp
                 with_reducible rfl
                rotate_left
                ·simp only [Act.put, Qp1, Qp2, Qp3, i64_w, i32_w]
                 rfl
                refine done_ (by kernel_rfl) ?_
                go_wp2
                go_roundg gx
                case measure => omega
                case rel => exact ⟨i + 1, t + 1, by go_num, by go_num, by omega, ⟨HT4.out, by omega⟩, ⟨below_drew HB.out⟩⟩
               ·rw [hct] at hK5 ht
                have HT4 : Aside0 (topsF B P v gx (i + 1) t = TP) := ⟨by simpa using ht⟩
                clear ht hct
                go_wp2_with (fail)
                refine start_ (n := 28) (S := fun w' => w'.cell? ⟨vB, 0, none⟩ = some (.int .i64 (v : Int)) ∧ w'.cell? ⟨xB, 0, none⟩ = some (.slice (some adB) B.length c0) ∧ w'.cell? ⟨xB, 1, none⟩ = some (.slice (some adP) P.length c1) ∧ w'.cell? (adP.add i) = some (.int .i64 (pn : Int)) ∧ w'.cell? (adB.add pn) = some (.int .i64 (cn : Int))) (ds := []) (Qbz 28 0) (by kernel_rfl) rfl rfl ⟨fvd, f0d, f1d, fpd, fcd⟩ (fun hHeld => ?_)
                refine pure_ (i := 0) (N := some 104) (v := ?_) (a' := ?_) (Qbz 28 1) rfl rfl (by kernel_rfl) (fun _ _ _ h => h) (Or.inl ⟨by rfl, ?_⟩) ?_ ?_
                rotate_left
                ·intro w'
                 go_simp
                 with_reducible rfl
                rotate_left
                ·simp only [Act.put, Qp1, Qp2, Qp3, i64_w, i32_w]
                 rfl
                refine take_ (i := 1) (N := some 105) (v := ?_) (a' := ?_) (Qbz 28 3) rfl rfl (by kernel_rfl) (fun _ _ _ h => h) (Or.inl ⟨by rfl, ?_⟩) hHeld ?_ ?_
                rotate_left
                ·rintro w' ⟨s0, s1, s2, s3, s4⟩
                 go_simp
                 with_reducible rfl
                rotate_left
                ·simp only [Act.put, Qp1, Qp2, Qp3, i64_w, i32_w]
                 rfl
                refine pure_ (i := 2) (N := some 106) (v := ?_) (a' := ?_) (Qbz 28 7) rfl rfl (by kernel_rfl) (fun _ _ _ h => h) (Or.inl ⟨by rfl, ?_⟩) ?_ ?_
                rotate_left
                ·intro w'
                 go_simp
                 with_reducible rfl
                rotate_left
                ·simp only [Act.put, Qp1, Qp2, Qp3, i64_w, i32_w]
                 rfl
                refine pure_ (i := 3) (N := some 107) (v := ?_) (a' := ?_) (Qbz 28 15) rfl rfl (by kernel_rfl) (fun _ _ _ h => h) (Or.inl ⟨by rfl, ?_⟩) ?_ ?_
                rotate_left
                ·intro w'
                 go_simp
                 with_reducible rfl
                rotate_left
                ·simp only [Act.put, Qp1, Qp2, Qp3, i64_w, i32_w]
                 rfl
                refine pure_ (i := 4) (N := some 108) (v := ?_) (a' := ?_) (Qbz 28 31) rfl rfl (by kernel_rfl) (fun _ _ _ h => h) (Or.inl ⟨by rfl, ?_⟩) ?_ ?_
                rotate_left
                ·intro w'
                 go_simp
                 with_reducible rfl
                rotate_left
                ·simp only [Act.put, Qp1, Qp2, Qp3, i64_w, i32_w]
                 rfl
                refine pure_ (i := 5) (N := some 109) (v := ?_) (a' := ?_) (Qbz 28 63) rfl rfl (by kernel_rfl) (fun _ _ _ h => h) (Or.inl ⟨by rfl, ?_⟩) ?_ ?_
                rotate_left
                ·intro w'
                 go_simp
                 with_reducible rfl
                rotate_left
                ·simp only [Act.put, Qp1, Qp2, Qp3, i64_w, i32_w]
                 rfl
                refine pure_ (i := 6) (N := some 110) (v := ?_) (a' := ?_) (Qbz 28 127) rfl rfl (by kernel_rfl) (fun _ _ _ h => h) (Or.inl ⟨by rfl, ?_⟩) ?_ ?_
                rotate_left
                ·intro w'
                 go_simp
                 with_reducible rfl
                rotate_left
                ·simp only [Act.put, Qp1, Qp2, Qp3, i64_w, i32_w]
                 rfl
                refine pure_ (i := 8) (N := some 112) (v := ?_) (a' := ?_) (Qbz 28 383) rfl rfl (by kernel_rfl) (fun _ _ _ h => h) (Or.inl ⟨by rfl, ?_⟩) ?_ ?_
                rotate_left
                ·intro w'
                 go_simp
                 with_reducible rfl
                rotate_left
                ·simp only [Act.put, Qp1, Qp2, Qp3, i64_w, i32_w]
                 rfl
                refine take_ (i := 7) (N := some 111) (v := ?_) (a' := ?_) (Qbz 28 511) rfl rfl (by kernel_rfl) (fun _ _ _ h => h) (Or.inl ⟨by rfl, ?_⟩) hHeld ?_ ?_
                rotate_left
                ·rintro w' ⟨s0, s1, s2, s3, s4⟩
                 go_simp
                 with_reducible rfl
                rotate_left
                ·simp only [Act.put, Qp1, Qp2, Qp3, i64_w, i32_w]
                 rfl
                refine pure_ (i := 9) (N := some 113) (v := ?_) (a' := ?_) (Qbz 28 1023) rfl rfl (by kernel_rfl) (fun _ _ _ h => h) (Or.inl ⟨by rfl, ?_⟩) ?_ ?_
                rotate_left
                ·intro w'
                 go_simp
                 with_reducible rfl
                rotate_left
                ·simp only [Act.put, Qp1, Qp2, Qp3, i64_w, i32_w]
                 rfl
                refine take_ (i := 10) (N := some 114) (v := ?_) (a' := ?_) (Qbz 28 2047) rfl rfl (by kernel_rfl) (fun _ _ _ h => h) (Or.inl ⟨by rfl, ?_⟩) hHeld ?_ ?_
                rotate_left
                ·rintro w' ⟨s0, s1, s2, s3, s4⟩
                 go_simp
                 with_reducible rfl
                rotate_left
                ·simp only [Act.put, Qp1, Qp2, Qp3, i64_w, i32_w]
                 rfl
                refine pure_ (i := 11) (N := some 115) (v := ?_) (a' := ?_) (Qbz 28 4095) rfl rfl (by kernel_rfl) (fun _ _ _ h => h) (Or.inl ⟨by rfl, ?_⟩) ?_ ?_
                rotate_left
                ·intro w'
                 go_simp
                 with_reducible rfl
                rotate_left
                ·simp only [Act.put, Qp1, Qp2, Qp3, i64_w, i32_w]
                 rfl
                refine pure_ (i := 12) (N := some 116) (v := ?_) (a' := ?_) (Qbz 28 8191) rfl rfl (by kernel_rfl) (fun _ _ _ h => h) (Or.inl ⟨by rfl, ?_⟩) ?_ ?_
                rotate_left
                ·intro w'
                 go_simp
                 with_reducible rfl
                rotate_left
                ·simp only [Act.put, Qp1, Qp2, Qp3, i64_w, i32_w]
                 rfl
                refine pure_ (i := 13) (N := some 117) (v := ?_) (a' := ?_) (Qbz 28 16383) rfl rfl (by kernel_rfl) (fun _ _ _ h => h) (Or.inl ⟨by rfl, ?_⟩) ?_ ?_
                rotate_left
                ·intro w'
                 go_simp
                 with_reducible rfl
                rotate_left
                ·simp only [Act.put, Qp1, Qp2, Qp3, i64_w, i32_w]
                 rfl
                refine pure_ (i := 15) (N := some 119) (v := ?_) (a' := ?_) (Qbz 28 49151) rfl rfl (by kernel_rfl) (fun _ _ _ h => h) (Or.inl ⟨by rfl, ?_⟩) ?_ ?_
                rotate_left
                ·intro w'
                 go_simp
                 with_reducible rfl
                rotate_left
                ·simp only [Act.put, Qp1, Qp2, Qp3, i64_w, i32_w]
                 rfl
                refine pure_ (i := 17) (N := some 121) (v := ?_) (a' := ?_) (Qbz 28 180223) rfl rfl (by kernel_rfl) (fun _ _ _ h => h) (Or.inl ⟨by rfl, ?_⟩) ?_ ?_
                rotate_left
                ·intro w'
                 go_simp
                 with_reducible rfl
                rotate_left
                ·simp only [Act.put, Qp1, Qp2, Qp3, i64_w, i32_w]
                 rfl
                refine take_ (i := 14) (N := some 118) (v := ?_) (a' := ?_) (Qbz 28 196607) rfl rfl (by kernel_rfl) (fun _ _ _ h => h) (Or.inl ⟨by rfl, ?_⟩) hHeld ?_ ?_
                rotate_left
                ·rintro w' ⟨s0, s1, s2, s3, s4⟩
                 go_simp
                 with_reducible rfl
                rotate_left
                ·simp only [Act.put, Qp1, Qp2, Qp3, i64_w, i32_w]
                 rfl
                refine take_ (i := 16) (N := some 120) (v := ?_) (a' := ?_) (Qbz 28 262143) rfl rfl (by kernel_rfl) (fun _ _ _ h => h) (Or.inl ⟨by rfl, ?_⟩) hHeld ?_ ?_
                rotate_left
                ·rintro w' ⟨s0, s1, s2, s3, s4⟩
                 go_simp
                 with_reducible rfl
                rotate_left
                ·simp only [Act.put, Qp1, Qp2, Qp3, i64_w, i32_w]
                 rfl
                refine pure_ (i := 18) (N := some 122) (v := ?_) (a' := ?_) (Qbz 28 524287) rfl rfl (by kernel_rfl) (fun _ _ _ h => h) (Or.inl ⟨by rfl, ?_⟩) ?_ ?_
                rotate_left
                ·intro w'
                 go_simp
                 with_reducible rfl
                rotate_left
                ·simp only [Act.put, Qp1, Qp2, Qp3, i64_w, i32_w]
                 rfl
                refine take_ (i := 19) (N := some 123) (v := ?_) (a' := ?_) (Qbz 28 1048575) rfl rfl (by kernel_rfl) (fun _ _ _ h => h) (Or.inl ⟨by rfl, ?_⟩) hHeld ?_ ?_
                rotate_left
                ·rintro w' ⟨s0, s1, s2, s3, s4⟩
                 go_simp
                 with_reducible rfl
                rotate_left
                ·simp only [Act.put, Qp1, Qp2, Qp3, i64_w, i32_w]
                 rfl
                refine pure_ (i := 20) (N := some 124) (v := ?_) (a' := ?_) (Qbz 28 2097151) rfl rfl (by kernel_rfl) (fun _ _ _ h => h) (Or.inl ⟨by rfl, ?_⟩) ?_ ?_
                rotate_left
                ·intro w'
                 go_simp
                 with_reducible rfl
                rotate_left
                ·simp only [Act.put, Qp1, Qp2, Qp3, i64_w, i32_w]
                 rfl
                refine take_ (i := 21) (N := some 125) (v := ?_) (a' := ?_) (Qbz 28 4194303) rfl rfl (by kernel_rfl) (fun _ _ _ h => h) (Or.inl ⟨by rfl, ?_⟩) hHeld ?_ ?_
                rotate_left
                ·rintro w' ⟨s0, s1, s2, s3, s4⟩
                 go_simp
                 with_reducible rfl
                rotate_left
                ·simp only [Act.put, Qp1, Qp2, Qp3, i64_w, i32_w]
                 rfl
                refine take_ (i := 22) (N := some 126) (v := ?_) (a' := ?_) (Qbz 28 8388607) rfl rfl (by kernel_rfl) (fun _ _ _ h => h) (Or.inl ⟨by rfl, ?_⟩) hHeld ?_ ?_
                rotate_left
                ·rintro w' ⟨s0, s1, s2, s3, s4⟩
                 go_simp
                 with_reducible rfl
                rotate_left
                ·simp only [Act.put, Qp1, Qp2, Qp3, i64_w, i32_w]
                 rfl
                refine pure_ (i := 23) (N := some 127) (v := ?_) (a' := ?_) (Qbz 28 16777215) rfl rfl (by kernel_rfl) (fun _ _ _ h => h) (Or.inl ⟨by rfl, ?_⟩) ?_ ?_
                rotate_left
                ·intro w'
                 go_simp
                 with_reducible rfl
                rotate_left
                ·simp only [Act.put, Qp1, Qp2, Qp3, i64_w, i32_w]
                 rfl
                refine pure_ (i := 24) (N := some 128) (v := ?_) (a' := ?_) (Qbz 28 33554431) rfl rfl (by kernel_rfl) (fun _ _ _ h => h) (Or.inl ⟨by rfl, ?_⟩) ?_ ?_
                rotate_left
                ·intro w'
                 go_simp
                 with_reducible rfl
                rotate_left
                ·simp only [Act.put, Qp1, Qp2, Qp3, i64_w, i32_w]
                 rfl
                refine pure_ (i := 25) (N := some 129) (v := ?_) (a' := ?_) (Qbz 28 67108863) rfl rfl (by kernel_rfl) (fun _ _ _ h => h) (Or.inl ⟨by rfl, ?_⟩) ?_ ?_
                rotate_left
                ·intro w'
                 go_simp
                 with_reducible rfl
                rotate_left
                ·simp only [Act.put, Qp1, Qp2, Qp3, i64_w, i32_w]
                 rfl
                refine pure_ (i := 26) (N := some 130) (v := ?_) (a' := ?_) (Qbz 28 134217727) rfl rfl (by kernel_rfl) (fun _ _ _ h => h) (Or.inl ⟨by rfl, ?_⟩) ?_ ?_
                rotate_left
                ·intro w'
                 go_simp
                 with_reducible rfl
                rotate_left
                ·simp only [Act.put, Qp1, Qp2, Qp3, i64_w, i32_w]
                 rfl
                refine pure_ (i := 27) (N := some 131) (v := ?_) (a' := ?_) (Qbz 28 268435455) rfl rfl (by kernel_rfl) (fun _ _ _ h => h) (Or.inl ⟨by rfl, ?_⟩) ?_ ?_
                rotate_left
                ·intro w'
                 go_simp
                 with_reducible rfl
                rotate_left
                ·simp only [Act.put, Qp1, Qp2, Qp3, i64_w, i32_w]
                 rfl
                refine done_ (by kernel_rfl) ?_
                go_wp2
                go_roundg gx
                case measure => omega
                case rel => exact ⟨i + 1, t, rfl, by go_num, by omega, ⟨HT4.out, by omega⟩, ⟨below_drew HB.out⟩⟩
            ·have hi1 : ((i : Int) < (B.length : Int)) = False := eq_false (by omega)
             have hi2 : decide ((i : Int) < (B.length : Int)) = false := decide_eq_false (by omega)
             obtain rfl : gk = 0 := by omega
             obtain ⟨ht, hti⟩ := HT.out
             simp only [topsF] at ht
             subst ht
             have ht := HT3.out
             clear HT HT3
             by_cases htp : t = 1
             ·subst htp
              rw [if_pos rfl] at ht
              have hx7 : ((1 : Int) != 1) = false := by decide
              obtain ⟨s, hs⟩ : ∃ s, G.getD v 0 = s := ⟨_, rfl⟩
              obtain ⟨adG, e4, hgg⟩ := Kd.at_int (Kd.C_below (Kd.C_below (Kd.C_below HRG.out HB7.out) HB9.out) HB.out) (v : Int) (by omega) (by rw [HL.out]; omega)
              subst e4
              have hsl := HG.out.row v
              rw [rd_gi, Int.toNat_natCast, hs] at hgg
              rw [hs] at ht hsl
              have hs7 : s < 128 := Nat.lt_of_lt_of_le hsl HN7.out
              have HWN := Aside0.mk (wnodes_all ⟨s, hs7⟩)
              obtain ⟨L, hL⟩ : ∃ L, els s 9 = L := ⟨_, rfl⟩
              have HLM : Aside0 (∀ u ∈ L, u < 62) := ⟨fun u hu => by
               rw [← hL] at hu
               have := (mem_els.1 hu).1
               omega⟩
              have HWN2 : Aside0 (width_nodes.f 10 (s : Int) = some (gi L)) := ⟨by rw [← hL]; exact HWN.out⟩
              rw [hL] at ht
              have hll : L.length ≤ 9 := by rw [← hL]; rw [els_length]; exact pc_le s 9
              have hfv : wr.cell? ⟨vB, 0, none⟩ = some (.int .i64 (v : Int)) := (blk_cell (blk_below HCV.out HB.out) 0).trans rfl
              have HND := Aside0.mk (width_nodes.calls 10 (s : Int) (gi L) wr (GL_below HGL.out (below_step HB7.out (below_step HB9.out HB.out))) HWN2.out)
              have HT5 := Aside0.mk ht
              have HLG := Aside0.mk (gi_length L)
              clear ht hL hs hsl hs7 HWN
              go_wp2_with (go_at_call 88; refine HND.out.mono ?_; rintro e w10 ⟨u5, rfl, hu, hb10⟩; obtain ⟨A5, c5, eu, hc5, hC5⟩ := Kd.R_reads hu; subst eu; have HC5 := Aside0.mk hC5; have HB10 := Aside0.mk hb10; clear hu hb10 hC5 hc5)
              rw [HLG.out]
              have HBT : Aside0 (Below w9.heap.size w9 w10) := ⟨below_step HB.out HB10.out⟩
              have HBOX9 := Aside0.mk (blk_below HBOX9.out HBT.out)
              have HCV9 := Aside0.mk (blk_below HCV.out HBT.out)
              have HB11 : Aside0 (Below w7.heap.size w7 w10) := ⟨below_step HB9.out HBT.out⟩
              clear HB HB10 HND hfv hgg
              have HCBOTH : Aside0 (∀ (uB u : Nat), u < 62 → ∀ W, Below w10.heap.size w10 W → W.cell? ⟨uB, 0, none⟩ = some (.int .i64 (u : Int)) → Calls Tryd.prog 85 #[.slice (some adB) B.length c0, .func (.func 89) #[] #[.pointer (some ⟨uB, 0, none⟩), .pointer (some ⟨vB, 0, none⟩)]] W fun e w' => e = .returned (.bool (B.any (bothB u v))) ∧ Below W.heap.size W w') := ⟨fun uB u hu W hW hc => contains_both (some adB) c0 B (bothB u v) uB vB W (Kd.C_below (Kd.C_below (Kd.C_below HR0.out HB7.out) HB11.out) hW) (by omega) (fun V hV x hx => by
               obtain ⟨j, hj, e⟩ := List.getElem_of_mem hx
               obtain ⟨_, _, q3, q4⟩ := HOK2.out j hj
               unfold rd at q3 q4
               rw [Int.toNat_natCast, List.getD_eq_getElem?_getD, List.getElem?_eq_getElem hj] at q3 q4
               rw [← e]
               obtain ⟨xn, hxn⟩ := Int.eq_ofNat_of_zero_le (show 0 ≤ B[j] from q3)
               have q5 : B[j] < 128 := q4
               rw [hxn] at q5 ⊢
               exact both1 uB vB u v xn hu (by omega) (by omega) V ((hV.cell (World.block_lt_of_cell? W _ hc)).trans hc) ((blk_cell (blk_below HCV9.out (below_step hW hV)) 0).trans rfl))⟩
              go_loopg [143] L.length (fun kq v143 w' => ∃ j : Nat, v143 = .int .i64 (j : Int) ∧ j + kq = L.length ∧ Aside0 ((nbF B v (L.drop j) && tl2 G B P gq (v + 1)) = R) ∧ Aside0 (Below w10.heap.size w10 w'))
              case atStart => exact ⟨0, rfl, by omega, HT5, ⟨Below.refl _ _⟩⟩
              case round =>
               clear HT5
               obtain ⟨j, rfl, hj, HT5, HB⟩ := hrel
               by_cases hjl : j < L.length
               ·have hj1 : ((j : Int) < (L.length : Int)) = True := eq_true (by omega)
                have hj2 : decide ((j : Int) < (L.length : Int)) = true := decide_eq_true (by omega)
                cases gk with
                | zero => omega
                | succ gy =>
                obtain ⟨ad5, e5, hg5⟩ := Kd.at_int (Kd.C_below HC5.out HB.out) (j : Int) (by omega) (by rw [HLG.out]; omega)
                subst e5
                have hra : L.getD j 0 = L[j] := by rw [List.getD_eq_getElem?_getD, List.getElem?_eq_getElem hjl]; rfl
                rw [rd_gi, hra, Int.toNat_natCast] at hg5
                have hu62 := HLM.out L[j] (List.getElem_mem hjl)
                have ht := HT5.out
                rw [List.drop_eq_getElem_cons hjl] at ht
                simp only [nbF] at ht
                generalize L[j] = u at *
                clear HT5 hra
                obtain ⟨an, han⟩ : ∃ b, B.any (bothB u v) = b := ⟨_, rfl⟩
                have HCBU : Aside0 (∀ uB W, Below wr.heap.size wr W → W.cell? ⟨uB, 0, none⟩ = some (.int .i64 (u : Int)) → Calls Tryd.prog 85 #[.slice (some adB) B.length c0, .func (.func 89) #[] #[.pointer (some ⟨uB, 0, none⟩), .pointer (some ⟨vB, 0, none⟩)]] W fun e w' => e = .returned (.bool an) ∧ Below W.heap.size W w') := ⟨fun uB W hW hc => by rw [← han]; exact HCBOTH.out uB u hu62 W (below_step HB.out hW) hc⟩
                rw [han] at ht
                clear han
                cases an
                ·obtain rfl : false = R := by simpa using ht
                 clear ht
                 go_wp2_with (first
               | ((with_reducible refine gate_dst (N := 15) rfl ?_); refine box_event ?hg (N := 15) ?hd (cs := #[.int .i64 0]) (t := 3) ?hr ?_; (case hd => rfl); (case hg => rfl); (case hr => first | (go_simp; done) | (go_simp; rfl)); intro uB hgu w12' hbox hb12; have HGU := Aside0.mk (show wr.heap.size ≤ uB by rw [hgu]; exact Nat.le_refl _); clear hgu; have hu0 : w12'.cell? ⟨uB, 0, none⟩ = some (.int .i64 0) := (blk_cell hbox 0).trans rfl; have huf := blk_frozen hbox 0; have hux0 : ∀ x : Value, (w12'.setCell ⟨uB, 0, none⟩ x).cell? ⟨xB, 0, none⟩ = some (.slice (some adB) B.length c0) := (fun x => (cell_sameT (heap_setT _ ⟨uB, 0, none⟩ x _ (by have := HGU.out; have := HB.out.size; have := blk_ltT HBOX9.out; show xB ≠ uB; omega))).trans ((blk_cell (blk_below (blk_below HBOX9.out HB.out) hb12) 0).trans rfl)); have HBU := Aside0.mk hbox; have HB12 := Aside0.mk hb12; have HBS : Aside0 (Below wr.heap.size wr (w12'.setCell ⟨uB, 0, none⟩ (.int .i64 (u : Int)))) := ⟨below_set hb12 HGU.out⟩; have HCB := Aside0.mk (HCBU.out uB _ HBS.out (by have := HGU.out; exact (blk_cell (blk_set hbox 0 (.int .i64 (u : Int))) 0).trans rfl)); clear hbox hb12)
               | (go_at_call 85; refine HCB.out.mono ?_; rintro e w13 ⟨rfl, hb13⟩; have HB13 := Aside0.mk (below_step HBS.out hb13); clear hb13))
                 go_ret
                 exact ⟨rfl, below_step HB7.out (below_step HB11.out (below_step HB.out HB13.out))⟩
                ·have HT6 : Aside0 ((nbF B v (L.drop (j + 1)) && tl2 G B P gq (v + 1)) = R) := ⟨by simpa using ht⟩
                 clear ht
                 go_wp2_with (first
               | ((with_reducible refine gate_dst (N := 15) rfl ?_); refine box_event ?hg (N := 15) ?hd (cs := #[.int .i64 0]) (t := 3) ?hr ?_; (case hd => rfl); (case hg => rfl); (case hr => first | (go_simp; done) | (go_simp; rfl)); intro uB hgu w12' hbox hb12; have HGU := Aside0.mk (show wr.heap.size ≤ uB by rw [hgu]; exact Nat.le_refl _); clear hgu; have hu0 : w12'.cell? ⟨uB, 0, none⟩ = some (.int .i64 0) := (blk_cell hbox 0).trans rfl; have huf := blk_frozen hbox 0; have hux0 : ∀ x : Value, (w12'.setCell ⟨uB, 0, none⟩ x).cell? ⟨xB, 0, none⟩ = some (.slice (some adB) B.length c0) := (fun x => (cell_sameT (heap_setT _ ⟨uB, 0, none⟩ x _ (by have := HGU.out; have := HB.out.size; have := blk_ltT HBOX9.out; show xB ≠ uB; omega))).trans ((blk_cell (blk_below (blk_below HBOX9.out HB.out) hb12) 0).trans rfl)); have HBU := Aside0.mk hbox; have HB12 := Aside0.mk hb12; have HBS : Aside0 (Below wr.heap.size wr (w12'.setCell ⟨uB, 0, none⟩ (.int .i64 (u : Int)))) := ⟨below_set hb12 HGU.out⟩; have HCB := Aside0.mk (HCBU.out uB _ HBS.out (by have := HGU.out; exact (blk_cell (blk_set hbox 0 (.int .i64 (u : Int))) 0).trans rfl)); clear hbox hb12)
               | (go_at_call 85; refine HCB.out.mono ?_; rintro e w13 ⟨rfl, hb13⟩; have HB13 := Aside0.mk (below_step HBS.out hb13); clear hb13))
                 go_roundg gy
                 case measure => omega
                 case rel => exact ⟨j + 1, by go_num, by omega, HT6, ⟨below_step HB.out HB13.out⟩⟩
               ·have hj1 : ((j : Int) < (L.length : Int)) = False := eq_false (by omega)
                have hj2 : decide ((j : Int) < (L.length : Int)) = false := decide_eq_false (by omega)
                obtain rfl : gk = 0 := by omega
                have ht := HT5.out
                rw [List.drop_eq_nil_of_le (by omega)] at ht
                simp only [nbF, Bool.true_and] at ht
                have HT6 := Aside0.mk ht
                clear ht HT5
                go_wp2
                go_roundg gq
                case measure => omega
                case rel => exact ⟨v + 1, by go_num, by omega, HT6, ⟨below_step HB11.out HB.out⟩⟩
             ·rw [if_neg htp] at ht
              subst ht
              have hx1 : ((t : Int) == 1) = false := by simp; omega
              have hx2 : ((t : Int) != 1) = true := by simp; omega
              have hx3 : (t = 1) = False := eq_false htp
              clear htp
              go_wp2
              go_ret
              exact ⟨rfl, below_step HB7.out (below_step HB9.out HB.out)⟩
          ·have hv1 : ((v : Int) < (G.length : Int)) = False := eq_false (by omega)
           have hv2 : decide ((v : Int) < (G.length : Int)) = false := decide_eq_false (by omega)
           obtain rfl : gk = 0 := by omega
           have ht := HT2.out
           simp only [tl2] at ht
           subst ht
           clear HT2
           go_wp2
           go_ret
           exact ⟨rfl, below_step HB7.out HB.out⟩
        ·rw [if_pos rfl] at hr
         subst hr
         clear hz1
         go_wp2_with (first
          | (go_at_call 84; refine (CAL2.out _ (Below.refl _ _)).mono ?_; rintro e w3 ⟨rfl, hb3⟩; have HB3 := Aside0.mk hb3; have hz3 : w3.cell? ⟨xB, 1, none⟩ = some (.slice A1 P.length c1) := (blk_cell (blk_below HBC.out hb3) 1).trans rfl; clear hb3)
          | (go_at_call 85; refine (CCY.out _ HB3.out).mono ?_; rintro e w4 ⟨rfl, hb4⟩; have HB4 := Aside0.mk (below_step HB3.out hb4); clear hb4))
         go_ret
         exact ⟨rfl, below_step HB7.out (below_step HB.out HB4.out)⟩
       ·rw [if_neg (by rw [HPA.out]; exact h2)] at hr
        subst hr
        have hx5 : ((ac : Int) == (PA : Int)) = false := by simp; omega
        have hx6 : ((ac : Int) != (PA : Int)) = true := by simp; omega
        clear h2 hbc
        go_wp2_with (go_at_call 84; refine (CAL2.out _ (Below.refl _ _)).mono ?_; rintro e w3 ⟨rfl, hb3⟩)
        go_ret
        exact ⟨rfl, below_step HB7.out (below_step HB.out hb3)⟩
      ·rw [if_neg h1] at hr
       subst hr
       have hx1 : ((ro : Int) == 1) = false := by simp; omega
       have hx2 : ((ro : Int) != 1) = true := by simp; omega
       have hx3 : (ro = 1) = False := eq_false h1
       clear h1 hbc
       go_wp2
       go_ret
       exact ⟨rfl, below_step HB7.out HB.out⟩
   ·rw [if_neg hpl] at hR
    subst hR
    have hd3 : ((P.length : Int) == (B.length : Int)) = false := by simp; omega
    have hd4 : ((P.length : Int) != (B.length : Int)) = true := by simp; omega
    clear hb1 hb30 hpl
    go_enter Tryd.func70, Tryd.ntmps70
    go_wp2_with (first | ((with_reducible refine gate_dst (N := 3) rfl ?_); refine box_event ?hg (N := 3) ?hd (cs := #[.slice A0 B.length c0, .slice A1 P.length c1]) (t := 74) ?hr ?_; (case hd => rfl); (case hg => rfl); (case hr => first | (go_simp; done) | (go_simp; rfl)); intro xB hga w7 hbox hb7; have HBOX := Aside0.mk hbox; have HB7 := Aside0.mk hb7; have hz0 : w7.cell? ⟨xB, 0, none⟩ = some (.slice A0 B.length c0) := (blk_cell hbox 0).trans rfl; have hz1 : w7.cell? ⟨xB, 1, none⟩ = some (.slice A1 P.length c1) := (blk_cell hbox 1).trans rfl; clear hbox hb7 hga))
    go_ret
    exact ⟨rfl, HB7.out⟩
def width_town_tree.f (g : List Int) (B P : List Int) : Option Bool := if chk 7 g = true then some (treeB (g.map Int.toNat) B P) else none
theorem width_town_tree.calls (Ag : Option Addr) (cg : Nat) (g : List Int) (A0 : Option Addr) (c0 : Nat) (B : List Int) (A1 : Option Addr) (c1 : Nat) (P : List Int) (r : Bool) (w : World) (hGL : GL w) (hrg : Kd.C (Kd.int .i64) w Ag g.length g) (hcg : g.length ≤ cg) (hr0 : Kd.C (Kd.int .i64) w A0 B.length B) (hc0 : B.length ≤ c0) (hr1 : Kd.C (Kd.int .i64) w A1 P.length P) (hc1 : P.length ≤ c1) (h : width_town_tree.f g B P = some r) :
  Calls Tryd.prog 70 #[.slice Ag g.length cg, .agg #[.slice A0 B.length c0, .slice A1 P.length c1]] w fun e w' => e = .returned (.bool r) ∧ Below w.heap.size w w' := by
 unfold width_town_tree.f at h
 by_cases hchk : chk 7 g = true
 ·rw [if_pos hchk] at h
  obtain ⟨G, rfl, hG⟩ := (chk_iff 7 (by omega) _).1 hchk
  rw [gi_toNat] at h
  rw [gi_length] at hcg ⊢
  exact tree_calls Ag cg G hG hcg A0 c0 B A1 c1 P r (Option.some.inj h) w hGL hrg hr0 hr1
 ·rw [if_neg hchk] at h
  cases h
end Go.Proofs.YtijfddobandcdaaDoor.X
end
section
namespace Go.Proofs.YtijfddobandcdaaDoor.X
open Go.RowKit YtijfddobandcdaaDoorW.PrintWords YtijfddobandcdaaDoorW.PrintLast YtijfddobandcdaaDoorW.PrintMore
attribute [local go_sem] max2_int min2_int max_two min_two max_three min_three max_four min_four
/-! ### width_read: function 68 -/
mutual
def width_read.j0 : Nat → List Int → Int → Bool → Option (List Int × Bool)
 | 0, _, _, _ => none
 | k + 1, x0, x4, x15 => if x15 = true then (some (([] : List Int), false)) else (width_read.l0 k x0 x4 x0 (x0.length : Int) 0)
def width_read.l0 : Nat → List Int → Int → List Int → Int → Int → Option (List Int × Bool)
 | 0, _, _, _, _, _ => none
 | k + 1, x0, x4, x16, x17, x18 => if x18 < x17 then (if 0 ≤ x18 then (if x18 < (x16.length : Int) then (if (rd x16 x18) < 0 then (width_read.j2 k x0 x4 x18 (rd x16 x18) x16 x17 x18 true) else (if 0 ≤ x4 then (if (rd x16 x18) ≥ (shl .i64 1 x4) then (width_read.j2 k x0 x4 x18 (rd x16 x18) x16 x17 x18 true) else (width_read.j2 k x0 x4 x18 (rd x16 x18) x16 x17 x18 ((Go.bits .and .i64 (shr .i64 (rd x16 x18) x18) 1) == 1))) else (none))) else (none)) else (none)) else (some (x0, true))
def width_read.j2 : Nat → List Int → Int → Int → Int → List Int → Int → Int → Bool → Option (List Int × Bool)
 | 0, _, _, _, _, _, _, _, _ => none
 | k + 1, x0, x4, x5, x6, x16, x17, x18, x37 => if x37 = true then (some (([] : List Int), false)) else (width_read.l1 k x0 x4 x5 x6 x16 x17 x18 x4 0)
def width_read.l1 : Nat → List Int → Int → Int → Int → List Int → Int → Int → Int → Int → Option (List Int × Bool)
 | 0, _, _, _, _, _, _, _, _, _ => none
 | k + 1, x0, x4, x5, x6, x16, x17, x18, x38, x39 => if x39 < x38 then (if 0 ≤ x39 then (if x39 < (x0.length : Int) then (if 0 ≤ x5 then (if (Go.bits .and .i64 (shr .i64 x6 x39) 1) = (Go.bits .and .i64 (shr .i64 (rd x0 x39) x5) 1) then (width_read.l1 k x0 x4 x5 x6 x16 x17 x18 x38 (wrap64 (x39 + 1))) else (some (([] : List Int), false))) else (none)) else (none)) else (none)) else (width_read.l0 k x0 x4 x16 x17 (wrap64 (x18 + 1)))
end
def width_read.f (k : Nat) (l0 : List Int) : Option (List Int × Bool) := if (l0.length : Int) < 1 then (width_read.j0 k l0 (l0.length : Int) true) else (width_read.j0 k l0 (l0.length : Int) (decide ((l0.length : Int) > 9)))
set_option maxHeartbeats 8000000 in
set_option maxRecDepth 100000 in
theorem width_read.calls (k : Nat) (P0_ : Nat → Prop) (A0 : Option Addr) (c0 : Nat) (l0 : List Int) (r1 : List Int) (r2 : Bool) (w : World) (hs0 : Kd.V (Kd.int .i64) 3 w w.heap.size (fun k_ => P0_ k_) (.slice A0 l0.length c0) l0) (h : width_read.f k l0 = some (r1, r2)) :
  Calls Tryd.prog 68 #[.slice A0 l0.length c0] w fun e w' => ∃ v0_ : Value, e = .returned (.tuple #[v0_, .bool r2]) ∧ Kd.V (Kd.int .i64) 3 w' w.heap.size (fun k_ => (P0_ k_ ∨ w.heap.size ≤ k_)) v0_ r1 ∧ Below w.heap.size w w' := by
 have HO0 := Aside0.mk (show Kd.V (Kd.int .i64) 3 w w.heap.size (fun k_ => (P0_ k_ ∨ w.heap.size ≤ k_)) (.slice A0 l0.length c0) l0 from Kd.V_mono hs0 (fun k_ hk => .inl hk))
 have HB := Aside0.mk (Below.refl w.heap.size w)
 have H : (if (l0.length : Int) < 1 then (width_read.j0 k l0 (l0.length : Int) true) else (width_read.j0 k l0 (l0.length : Int) (decide ((l0.length : Int) > 9)))) = some (r1, r2) := h
 clear h
 have HC2 := Aside0.mk H
 clear H
 go_enter Tryd.func68, Tryd.ntmps68
 go_upto_region 2 with (fail)
 repeat (go_quiet (fail); go_upto_region 2 with (fail))
 go_cut [15] (fun v15 wc => ∃ (kq : Nat) (x15_1 : Bool), v15 = .bool x15_1 ∧ Aside0 (width_read.j0 kq l0 (l0.length : Int) x15_1 = some (r1, r2)) ∧ Aside0 (kq ≤ k) ∧ Aside0 (Kd.V (Kd.int .i64) 3 wc w.heap.size (fun k_ => (P0_ k_ ∨ w.heap.size ≤ k_)) (.slice A0 l0.length c0) l0) ∧ Aside0 (Below w.heap.size w wc))
 case first =>
  have H := HC2.out
  clear HC2
  by_cases c3 : (l0.length : Int) < 1
  ·rw [if_pos c3] at H
   have c3b0 : decide ((l0.length : Int) < 1) = true := decide_eq_true c3
   have c3b1 : decide (l0.length < 1) = true := decide_eq_true (by omega)
   clear c3
   (first | rw [c3b0] | (simp only [i64_w, i32_w]; rw [c3b0]) | skip)
   have H' := Aside0.mk H
   clear H
   go_wp2
   repeat (go_quiet (fail); try go_wp2)
   go_meet
   case rel => exact ⟨_, (true), (by first | rfl | (simp; done) | (simp [*]; done)), H', ⟨by first | omega | exact Nat.le_refl _⟩, ⟨by (with_reducible repeat (first | apply Kd.V_alloc | apply Kd.V_drewN | apply Kd.V_drew)); exact HO0.out⟩, ⟨by repeat (first | (with_reducible first | exact HB.out | apply below_alloc | apply pw_below_drewN | apply below_drew1) | exact HB.out)⟩⟩
  ·rw [if_neg c3] at H
   have c3b0 : decide ((l0.length : Int) < 1) = false := decide_eq_false c3
   have c3b1 : decide (l0.length < 1) = false := decide_eq_false (by omega)
   clear c3
   (first | rw [c3b0] | (simp only [i64_w, i32_w]; rw [c3b0]) | skip)
   have H' := Aside0.mk H
   clear H
   go_wp2
   repeat (go_quiet (fail); try go_wp2)
   go_meet
   case rel => exact ⟨_, (decide ((l0.length : Int) > 9)), (by first | rfl | (simp; done) | (simp [*]; done)), H', ⟨by first | omega | exact Nat.le_refl _⟩, ⟨by (with_reducible repeat (first | apply Kd.V_alloc | apply Kd.V_drewN | apply Kd.V_drew)); exact HO0.out⟩, ⟨by repeat (first | (with_reducible first | exact HB.out | apply below_alloc | apply pw_below_drewN | apply below_drew1) | exact HB.out)⟩⟩
 case rest =>
  clear HC2
  try clear p2
  try clear c3
  try clear c3b0
  try clear c3b1
  obtain ⟨kq, x15_1, rfl, HA, HJ1, HO_0, HB⟩ := hcut
  cases kq with
  | zero => exact absurd HA.out (by simp [width_read.j0])
  | succ kj1 =>
   have H := HA.out
   clear HA
   simp only [width_read.j0] at H
   by_cases c4 : x15_1 = true
   ·subst c4
    have H1 : (some (([] : List Int), false)) = some (r1, r2) := by rw [if_pos rfl] at H; exact H
    clear H
    have H := H1
    clear H1
    simp only [Option.some.injEq, Prod.mk.injEq] at H
    obtain ⟨rfl, rfl⟩ := H
    go_wp2
    repeat (go_quiet (fail); try go_wp2)
    go_ret2
    exact ⟨_, by first | rfl | (simp [errW_none, errW_some] <;> rfl) | (simp [*, errW_none, errW_some] <;> rfl), Kd.V_nil _ _ _ _ _, by repeat (first | (with_reducible first | exact HB.out | apply below_alloc | apply pw_below_drewN | apply below_drew1) | exact HB.out)⟩
   ·replace c4 := Bool.eq_false_iff.mpr c4
    subst c4
    have H1 : (width_read.l0 kj1 l0 (l0.length : Int) l0 (l0.length : Int) 0) = some (r1, r2) := by rw [if_neg (show ¬ (false = true) by decide)] at H; exact H
    clear H
    have H := H1
    clear H1
    have H' := Aside0.mk H
    clear H
    go_wp2
    repeat (go_quiet (fail); try go_wp2)
    go_loopg [18] kj1 (fun kq v18 w' => ∃ (x18_2 : Int), v18 = .int .i64 x18_2 ∧ Aside0 (width_read.l0 kq l0 (l0.length : Int) l0 (l0.length : Int) x18_2 = some (r1, r2)) ∧ Aside0 (kq ≤ kj1) ∧ Aside0 (Kd.V (Kd.int .i64) 3 w' w.heap.size (fun k_ => (P0_ k_ ∨ w.heap.size ≤ k_)) (.slice A0 l0.length c0) l0) ∧ Aside0 (Kd.V (Kd.int .i64) 3 w' w.heap.size (fun k_ => (P0_ k_ ∨ w.heap.size ≤ k_)) (.slice A0 l0.length c0) l0) ∧ Aside0 (Below w.heap.size w w'))
    case atStart => exact ⟨(0), (by first | rfl | (simp; done) | (simp [*]; done)), H', ⟨Nat.le_refl _⟩, ⟨by (with_reducible repeat (first | apply Kd.V_alloc | apply Kd.V_drewN | apply Kd.V_drew)); exact HO_0.out⟩, ⟨by (with_reducible repeat (first | apply Kd.V_alloc | apply Kd.V_drewN | apply Kd.V_drew)); exact HO_0.out⟩, ⟨by repeat (first | (with_reducible first | exact HB.out | apply below_alloc | apply pw_below_drewN | apply below_drew1) | exact HB.out)⟩⟩
    case round =>
     clear H'
     try clear p2
     try clear c3
     try clear c3b0
     try clear c3b1
     try clear c4
     try clear p2
     obtain ⟨x18_2, rfl, HA, HK2, HO_0, HO_16, HB⟩ := hrel
     cases gk with
     | zero => exact absurd HA.out (by simp [width_read.l0])
     | succ k2 =>
      have H := HA.out
      clear HA
      simp only [width_read.l0] at H
      by_cases c5 : x18_2 < (l0.length : Int)
      ·rw [if_pos c5] at H
       have c5b0 : decide (x18_2 < (l0.length : Int)) = true := decide_eq_true c5
       clear c5
       by_cases c6 : 0 ≤ x18_2
       ·rw [if_pos c6] at H
        have c6b0 : decide (0 ≤ x18_2) = true := decide_eq_true c6
        clear c6
        by_cases c7 : x18_2 < (l0.length : Int)
        ·rw [if_pos c7] at H
         have c7b0 : decide (x18_2 < (l0.length : Int)) = true := decide_eq_true c7
         clear c7
         have HC8 := Aside0.mk H
         clear H
         have p625 : 0 ≤ (x18_2 : Int) := of_decide_eq_true (by first | (with_reducible assumption) | assumption)
         have q625 : x18_2 < (l0.length : Int) := of_decide_eq_true (by first | (with_reducible assumption) | assumption)
         obtain ⟨ad625, e625, hx625_0⟩ := Kd.at_int (Kd.V_reads' HO_16.out).2.2 x18_2 p625 q625
         cases e625
         replace p625 := eq_true p625
         replace q625 := eq_true q625
         go_upto_region 7 with (fail)
         repeat (go_quiet (fail); go_upto_region 7 with (fail))
         go_cut [37] (fun v37 wc => ∃ (kq : Nat) (x37_7 : Bool), v37 = .bool x37_7 ∧ Aside0 (width_read.j2 kq l0 (l0.length : Int) x18_2 (rd l0 x18_2) l0 (l0.length : Int) x18_2 x37_7 = some (r1, r2)) ∧ Aside0 (kq ≤ k2) ∧ Aside0 (Kd.V (Kd.int .i64) 3 wc w.heap.size (fun k_ => (P0_ k_ ∨ w.heap.size ≤ k_)) (.slice (some ad625) l0.length c0) l0) ∧ Aside0 (Kd.V (Kd.int .i64) 3 wc w.heap.size (fun k_ => (P0_ k_ ∨ w.heap.size ≤ k_)) (.slice (some ad625) l0.length c0) l0) ∧ Aside0 (Below w.heap.size w wc))
         case first =>
          have H := HC8.out
          clear HC8
          by_cases c9 : (rd l0 x18_2) < 0
          ·rw [if_pos c9] at H
           have c9b0 : decide ((rd l0 x18_2) < 0) = true := decide_eq_true c9
           clear c9
           (first | rw [c9b0] | (simp only [i64_w, i32_w]; rw [c9b0]) | skip)
           have H' := Aside0.mk H
           clear H
           go_wp2
           repeat (go_quiet (fail); try go_wp2)
           go_meet
           case rel => exact ⟨_, (true), (by first | rfl | (simp; done) | (simp [*]; done)), H', ⟨by have := HJ1.out; have := HK2.out; first | omega | exact Nat.le_refl _⟩, ⟨by (with_reducible repeat (first | apply Kd.V_alloc | apply Kd.V_drewN | apply Kd.V_drew)); exact HO_0.out⟩, ⟨by (with_reducible repeat (first | apply Kd.V_alloc | apply Kd.V_drewN | apply Kd.V_drew)); exact HO_16.out⟩, ⟨by repeat (first | (with_reducible first | exact HB.out | apply below_alloc | apply pw_below_drewN | apply below_drew1) | exact HB.out)⟩⟩
          ·rw [if_neg c9] at H
           have c9b0 : decide ((rd l0 x18_2) < 0) = false := decide_eq_false c9
           clear c9
           (first | rw [c9b0] | (simp only [i64_w, i32_w]; rw [c9b0]) | skip)
           by_cases c10 : 0 ≤ (l0.length : Int)
           ·rw [if_pos c10] at H
            have c10b0 := eq_true c10
            have c10b1 : decide (0 ≤ (l0.length : Int)) = true := decide_eq_true c10
            clear c10
            obtain ⟨ji11, hji11⟩ : ∃ j_ : Int, (shl .i64 1 (l0.length : Int)) = j_ := ⟨_, rfl⟩
            replace H : (if (rd l0 x18_2) ≥ (ji11) then (width_read.j2 k2 l0 (l0.length : Int) x18_2 (rd l0 x18_2) l0 (l0.length : Int) x18_2 true) else (width_read.j2 k2 l0 (l0.length : Int) x18_2 (rd l0 x18_2) l0 (l0.length : Int) x18_2 ((Go.bits .and .i64 (shr .i64 (rd l0 x18_2) x18_2) 1) == 1))) = some (r1, r2) := by first | (rw [hji11] at H; exact H) | (simp only [hji11] at H ⊢; exact H)
            have hji11_ : (IntKind.i64.wrap (1 * 2 ^ min (l0.length : Int).toNat 64)) = ji11 := hji11
            have hji11z : (l0.length : Int) ≤ 64 → (IntKind.i64.wrap (1 * 2 ^ (l0.length : Int).toNat)) = ji11 := shl_small hji11
            have hji11p : (IntKind.i64.wrap (1 * 2 ^ min l0.length 64)) = ji11 := hji11_
            have hji11q : (l0.length : Int) ≤ 64 → (IntKind.i64.wrap (1 * 2 ^ l0.length)) = ji11 := hji11z
            have hji11r : (IntKind.i64.wrap (2 ^ min l0.length 64)) = ji11 := by have h_ := hji11p; rw [Int.one_mul] at h_; exact h_
            have hji11s : (l0.length : Int) ≤ 64 → (IntKind.i64.wrap (2 ^ l0.length)) = ji11 := fun hle_ => by have h_ := hji11q hle_; rw [Int.one_mul] at h_; exact h_
            have hji11u : (IntKind.i64.wrap (2 ^ min (l0.length : Int).toNat 64)) = ji11 := by have h_ := hji11_; rw [Int.one_mul] at h_; exact h_
            have hji11v : (l0.length : Int) ≤ 64 → (IntKind.i64.wrap (2 ^ (l0.length : Int).toNat)) = ji11 := fun hle_ => by have h_ := hji11z hle_; rw [Int.one_mul] at h_; exact h_
            have hji11y : (wrap64 (1 * 2 ^ min (l0.length : Int).toNat 64)) = ji11 := (i64_w _).symm.trans hji11_
            have hji11x : (l0.length : Int) ≤ 64 → (wrap64 (1 * 2 ^ (l0.length : Int).toNat)) = ji11 := fun h_ => (i64_w _).symm.trans (hji11z h_)
            by_cases c12 : (rd l0 x18_2) ≥ (ji11)
            ·rw [if_pos c12] at H
             have c12b0 : decide ((ji11) ≤ (rd l0 x18_2)) = true := decide_eq_true c12
             clear c12
             have H' := Aside0.mk H
             clear H
             go_wp2
             repeat (go_quiet (fail); try go_wp2)
             go_meet
             case rel => exact ⟨_, (true), (by first | rfl | (simp; done) | (simp [*]; done)), H', ⟨by have := HJ1.out; have := HK2.out; first | omega | exact Nat.le_refl _⟩, ⟨by (with_reducible repeat (first | apply Kd.V_alloc | apply Kd.V_drewN | apply Kd.V_drew)); exact HO_0.out⟩, ⟨by (with_reducible repeat (first | apply Kd.V_alloc | apply Kd.V_drewN | apply Kd.V_drew)); exact HO_16.out⟩, ⟨by repeat (first | (with_reducible first | exact HB.out | apply below_alloc | apply pw_below_drewN | apply below_drew1) | exact HB.out)⟩⟩
            ·rw [if_neg c12] at H
             have c12b0 : decide ((ji11) ≤ (rd l0 x18_2)) = false := decide_eq_false c12
             clear c12
             have c13b0 := eq_true (of_decide_eq_true (by first | (with_reducible assumption) | assumption) : 0 ≤ x18_2)
             obtain ⟨ji14, hji14⟩ : ∃ j_ : Int, (shr .i64 (rd l0 x18_2) x18_2) = j_ := ⟨_, rfl⟩
             replace H : (width_read.j2 k2 l0 (l0.length : Int) x18_2 (rd l0 x18_2) l0 (l0.length : Int) x18_2 ((Go.bits .and .i64 (ji14) 1) == 1)) = some (r1, r2) := by first | (rw [hji14] at H; exact H) | (simp only [hji14] at H ⊢; exact H)
             have hji14_ : ((rd l0 x18_2) / 2 ^ min x18_2.toNat 64) = ji14 := hji14
             have hji14z : x18_2 ≤ 64 → ((rd l0 x18_2) / 2 ^ x18_2.toNat) = ji14 := shr_small hji14
             have H' := Aside0.mk H
             clear H
             go_wp2
             repeat (go_quiet (fail); try go_wp2)
             go_meet
             case rel => exact ⟨_, (((Go.bits .and .i64 (ji14) 1) == 1)), (by first | rfl | (simp; done) | (simp only [← hji14] <;> (first | rfl | simp)) | (simp [*]; done)), H', ⟨by have := HJ1.out; have := HK2.out; first | omega | exact Nat.le_refl _⟩, ⟨by (with_reducible repeat (first | apply Kd.V_alloc | apply Kd.V_drewN | apply Kd.V_drew)); exact HO_0.out⟩, ⟨by (with_reducible repeat (first | apply Kd.V_alloc | apply Kd.V_drewN | apply Kd.V_drew)); exact HO_16.out⟩, ⟨by repeat (first | (with_reducible first | exact HB.out | apply below_alloc | apply pw_below_drewN | apply below_drew1) | exact HB.out)⟩⟩
           ·rw [if_neg c10] at H
            exact absurd H (by simp)
         case rest =>
          clear HC8
          try clear c1
          try clear p2
          try clear c3
          try clear c3b0
          try clear c3b1
          try clear c4
          try clear c5
          try clear c5b0
          try clear c6
          try clear c6b0
          try clear p6
          try clear q6
          try clear hx6
          try clear c7
          try clear c7b0
          try clear c9
          try clear c9b0
          try clear c10
          try clear c10b0
          try clear c10b1
          try clear c12
          try clear c12b0
          try clear c13
          try clear c13b0
          try clear hx625_0
          try clear p2
          try clear p625
          try clear q625
          obtain ⟨kq, x37_7, rfl, HA, HJ7, HO_0, HO_16, HB⟩ := hcut
          cases kq with
          | zero => exact absurd HA.out (by simp [width_read.j2])
          | succ kj7 =>
           have H := HA.out
           clear HA
           simp only [width_read.j2] at H
           by_cases c15 : x37_7 = true
           ·subst c15
            have H1 : (some (([] : List Int), false)) = some (r1, r2) := by rw [if_pos rfl] at H; exact H
            clear H
            have H := H1
            clear H1
            simp only [Option.some.injEq, Prod.mk.injEq] at H
            obtain ⟨rfl, rfl⟩ := H
            go_wp2
            repeat (go_quiet (fail); try go_wp2)
            go_ret2
            exact ⟨_, by first | rfl | (simp [errW_none, errW_some] <;> rfl) | (simp [*, errW_none, errW_some] <;> rfl), Kd.V_nil _ _ _ _ _, by repeat (first | (with_reducible first | exact HB.out | apply below_alloc | apply pw_below_drewN | apply below_drew1) | exact HB.out)⟩
           ·replace c15 := Bool.eq_false_iff.mpr c15
            subst c15
            have H1 : (width_read.l1 kj7 l0 (l0.length : Int) x18_2 (rd l0 x18_2) l0 (l0.length : Int) x18_2 (l0.length : Int) 0) = some (r1, r2) := by rw [if_neg (show ¬ (false = true) by decide)] at H; exact H
            clear H
            have H := H1
            clear H1
            have H' := Aside0.mk H
            clear H
            go_wp2
            repeat (go_quiet (fail); try go_wp2)
            go_loopg [39] kj7 (fun kq v39 w' => ∃ (x39_4 : Int), v39 = .int .i64 x39_4 ∧ Aside0 (width_read.l1 kq l0 (l0.length : Int) x18_2 (rd l0 x18_2) l0 (l0.length : Int) x18_2 (l0.length : Int) x39_4 = some (r1, r2)) ∧ Aside0 (kq ≤ kj7) ∧ Aside0 (Kd.V (Kd.int .i64) 3 w' w.heap.size (fun k_ => (P0_ k_ ∨ w.heap.size ≤ k_)) (.slice (some ad625) l0.length c0) l0) ∧ Aside0 (Kd.V (Kd.int .i64) 3 w' w.heap.size (fun k_ => (P0_ k_ ∨ w.heap.size ≤ k_)) (.slice (some ad625) l0.length c0) l0) ∧ Aside0 (Below w.heap.size w w'))
            case atStart => exact ⟨(0), (by first | rfl | (simp; done) | (simp [*]; done)), H', ⟨Nat.le_refl _⟩, ⟨by (with_reducible repeat (first | apply Kd.V_alloc | apply Kd.V_drewN | apply Kd.V_drew)); exact HO_0.out⟩, ⟨by (with_reducible repeat (first | apply Kd.V_alloc | apply Kd.V_drewN | apply Kd.V_drew)); exact HO_16.out⟩, ⟨by repeat (first | (with_reducible first | exact HB.out | apply below_alloc | apply pw_below_drewN | apply below_drew1) | exact HB.out)⟩⟩
            case round =>
             clear H'
             try clear c1
             try clear p2
             try clear c3
             try clear c3b0
             try clear c3b1
             try clear c4
             try clear c5
             try clear c5b0
             try clear c6
             try clear c6b0
             try clear p6
             try clear q6
             try clear hx6
             try clear c7
             try clear c7b0
             try clear c9
             try clear c9b0
             try clear c10
             try clear c10b0
             try clear c10b1
             try clear c12
             try clear c12b0
             try clear c13
             try clear c13b0
             try clear c15
             try clear hx625_0
             try clear p2
             try clear p6
             try clear p625
             try clear q6
             try clear q625
             obtain ⟨x39_4, rfl, HA, HK4, HO_0, HO_16, HB⟩ := hrel
             cases gk with
             | zero => exact absurd HA.out (by simp [width_read.l1])
             | succ k4 =>
              have H := HA.out
              clear HA
              simp only [width_read.l1] at H
              by_cases c16 : x39_4 < (l0.length : Int)
              ·rw [if_pos c16] at H
               have c16b0 : decide (x39_4 < (l0.length : Int)) = true := decide_eq_true c16
               clear c16
               by_cases c17 : 0 ≤ x39_4
               ·rw [if_pos c17] at H
                have c17b0 := eq_true c17
                have c17b1 : decide (0 ≤ x39_4) = true := decide_eq_true c17
                clear c17
                obtain ⟨ji18, hji18⟩ : ∃ j_ : Int, (shr .i64 (rd l0 x18_2) x39_4) = j_ := ⟨_, rfl⟩
                replace H : (if x39_4 < (l0.length : Int) then (if 0 ≤ x18_2 then (if (Go.bits .and .i64 (ji18) 1) = (Go.bits .and .i64 (shr .i64 (rd l0 x39_4) x18_2) 1) then (width_read.l1 k4 l0 (l0.length : Int) x18_2 (rd l0 x18_2) l0 (l0.length : Int) x18_2 (l0.length : Int) (wrap64 (x39_4 + 1))) else (some (([] : List Int), false))) else (none)) else (none)) = some (r1, r2) := by first | (rw [hji18] at H; exact H) | (simp only [hji18] at H ⊢; exact H)
                have hji18_ : ((rd l0 x18_2) / 2 ^ min x39_4.toNat 64) = ji18 := hji18
                have hji18z : x39_4 ≤ 64 → ((rd l0 x18_2) / 2 ^ x39_4.toNat) = ji18 := shr_small hji18
                by_cases c19 : x39_4 < (l0.length : Int)
                ·rw [if_pos c19] at H
                 have c19b0 : decide (x39_4 < (l0.length : Int)) = true := decide_eq_true c19
                 clear c19
                 by_cases c20 : 0 ≤ x18_2
                 ·rw [if_pos c20] at H
                  have c20b0 := eq_true c20
                  have c20b1 : decide (0 ≤ x18_2) = true := decide_eq_true c20
                  clear c20
                  obtain ⟨ji21, hji21⟩ : ∃ j_ : Int, (shr .i64 (rd l0 x39_4) x18_2) = j_ := ⟨_, rfl⟩
                  replace H : (if (Go.bits .and .i64 (ji18) 1) = (Go.bits .and .i64 (ji21) 1) then (width_read.l1 k4 l0 (l0.length : Int) x18_2 (rd l0 x18_2) l0 (l0.length : Int) x18_2 (l0.length : Int) (wrap64 (x39_4 + 1))) else (some (([] : List Int), false))) = some (r1, r2) := by first | (rw [hji21] at H; exact H) | (simp only [hji21] at H ⊢; exact H)
                  have hji21_ : ((rd l0 x39_4) / 2 ^ min x18_2.toNat 64) = ji21 := hji21
                  have hji21z : x18_2 ≤ 64 → ((rd l0 x39_4) / 2 ^ x18_2.toNat) = ji21 := shr_small hji21
                  by_cases c22 : (Go.bits .and .i64 (ji18) 1) = (Go.bits .and .i64 (ji21) 1)
                  ·rw [if_pos c22] at H
                   have c22b0 : ((Go.bits .and .i64 (ji18) 1) == (Go.bits .and .i64 (ji21) 1)) = true := beq_iff_eq.mpr c22
                   have c22b1 : ((Go.bits .and .i64 (ji18) 1) != (Go.bits .and .i64 (ji21) 1)) = false := bne_eq_false_iff_eq.mpr c22
                   clear c22
                   have H' := Aside0.mk H
                   clear H
                   have p626 : 0 ≤ (x39_4 : Int) := of_decide_eq_true (by first | (with_reducible assumption) | assumption)
                   have q626 : x39_4 < (l0.length : Int) := of_decide_eq_true (by first | (with_reducible assumption) | assumption)
                   obtain ⟨ad626, e626, hx626_0⟩ := Kd.at_int (Kd.V_reads' HO_0.out).2.2 x39_4 p626 q626
                   obtain rfl : ad625 = ad626 := (by injection e626)
                   replace p626 := eq_true p626
                   replace q626 := eq_true q626
                   go_wp2
                   repeat (go_quiet (fail); try go_wp2)
                   go_roundg k4
                   case measure => have := HJ1.out; have := HK2.out; have := HJ7.out; have := HK4.out; omega
                   case rel => exact ⟨(wrap64 (x39_4 + 1)), (by first | rfl | (simp; done) | (simp [*]; done)), H', ⟨by have := HJ1.out; have := HK2.out; have := HJ7.out; have := HK4.out; omega⟩, ⟨by (with_reducible repeat (first | apply Kd.V_alloc | apply Kd.V_drewN | apply Kd.V_drew)); exact HO_0.out⟩, ⟨by (with_reducible repeat (first | apply Kd.V_alloc | apply Kd.V_drewN | apply Kd.V_drew)); exact HO_16.out⟩, ⟨by repeat (first | (with_reducible first | exact HB.out | apply below_alloc | apply pw_below_drewN | apply below_drew1) | exact HB.out)⟩⟩
                  ·rw [if_neg c22] at H
                   have c22b0 : ((Go.bits .and .i64 (ji18) 1) == (Go.bits .and .i64 (ji21) 1)) = false := beq_eq_false_iff_ne.mpr c22
                   have c22b1 : ((Go.bits .and .i64 (ji18) 1) != (Go.bits .and .i64 (ji21) 1)) = true := bne_iff_ne.mpr c22
                   simp only [Option.some.injEq, Prod.mk.injEq] at H
                   obtain ⟨rfl, rfl⟩ := H
                   have p626 : 0 ≤ (x39_4 : Int) := of_decide_eq_true (by first | (with_reducible assumption) | assumption)
                   have q626 : x39_4 < (l0.length : Int) := of_decide_eq_true (by first | (with_reducible assumption) | assumption)
                   obtain ⟨ad626, e626, hx626_0⟩ := Kd.at_int (Kd.V_reads' HO_0.out).2.2 x39_4 p626 q626
                   obtain rfl : ad625 = ad626 := (by injection e626)
                   replace p626 := eq_true p626
                   replace q626 := eq_true q626
                   go_wp2
                   repeat (go_quiet (fail); try go_wp2)
                   go_ret2
                   exact ⟨_, by first | rfl | (simp [errW_none, errW_some] <;> rfl) | (simp only [← hji18, ← hji21]; first | rfl | (simp [errW_none, errW_some] <;> rfl)) | (simp [*, errW_none, errW_some] <;> rfl), Kd.V_nil _ _ _ _ _, by repeat (first | (with_reducible first | exact HB.out | apply below_alloc | apply pw_below_drewN | apply below_drew1) | exact HB.out)⟩
                 ·rw [if_neg c20] at H
                  exact absurd H (by simp)
                ·rw [if_neg c19] at H
                 exact absurd H (by simp)
               ·rw [if_neg c17] at H
                exact absurd H (by simp)
              ·rw [if_neg c16] at H
               have c16b0 : decide (x39_4 < (l0.length : Int)) = false := decide_eq_false c16
               clear c16
               have H' := Aside0.mk H
               clear H
               go_wp2
               repeat (go_quiet (fail); try go_wp2)
               go_roundg k4
               case measure => have := HJ1.out; have := HK2.out; have := HJ7.out; have := HK4.out; omega
               case rel => exact ⟨(wrap64 (x18_2 + 1)), (by first | rfl | (simp; done) | (simp [*]; done)), H', ⟨by have := HJ1.out; have := HK2.out; have := HJ7.out; have := HK4.out; omega⟩, ⟨by (with_reducible repeat (first | apply Kd.V_alloc | apply Kd.V_drewN | apply Kd.V_drew)); exact HO_0.out⟩, ⟨by (with_reducible repeat (first | apply Kd.V_alloc | apply Kd.V_drewN | apply Kd.V_drew)); exact HO_16.out⟩, ⟨by repeat (first | (with_reducible first | exact HB.out | apply below_alloc | apply pw_below_drewN | apply below_drew1) | exact HB.out)⟩⟩
        ·rw [if_neg c7] at H
         exact absurd H (by simp)
       ·rw [if_neg c6] at H
        exact absurd H (by simp)
      ·rw [if_neg c5] at H
       have c5b0 : decide (x18_2 < (l0.length : Int)) = false := decide_eq_false c5
       clear c5
       simp only [Option.some.injEq, Prod.mk.injEq] at H
       obtain ⟨rfl, rfl⟩ := H
       go_wp2
       repeat (go_quiet (fail); try go_wp2)
       go_ret2
       exact ⟨_, by first | rfl | (simp [errW_none, errW_some] <;> rfl) | (simp [*, errW_none, errW_some] <;> rfl), by (with_reducible repeat (first | apply Kd.V_alloc | apply Kd.V_drewN | apply Kd.V_drew)); exact HO_0.out, by repeat (first | (with_reducible first | exact HB.out | apply below_alloc | apply pw_below_drewN | apply below_drew1) | exact HB.out)⟩
end Go.Proofs.YtijfddobandcdaaDoor.X
end
section
namespace Go.Proofs.YtijfddobandcdaaDoor.X
open Go.RowKit YtijfddobandcdaaDoorW.PrintWords YtijfddobandcdaaDoorW.PrintLast YtijfddobandcdaaDoorW.PrintMore
attribute [local go_sem] max2_int min2_int max_two min_two max_three min_three max_four min_four
/-! ### width_count: function 90 -/
def width_count.f (a0 : Int) : Option (Int) := (bits_OnesCount.f (IntKind.u64.wrap (a0))).bind fun t631 => (some t631)
set_option maxHeartbeats 8000000 in
set_option maxRecDepth 100000 in
theorem width_count.calls (a0 : Int) (r : Int) (w : World) (h : width_count.f a0 = some r) :
  Calls Tryd.prog 90 #[.int .i64 a0] w fun e w' => e = .returned (.int .i64 r) ∧ Drawn0 w w' := by
 have H : ((bits_OnesCount.f (IntKind.u64.wrap (a0))).bind fun t631 => (some t631)) = some r := h
 clear h
 replace H := Option.bind_eq_some_iff.mp H
 obtain ⟨t631, A20, H⟩ := H
 replace H : (some t631) = some r := H
 have A2 := Aside0.mk A20
 clear A20
 obtain rfl := Option.some.inj H
 go_enter Tryd.func90, Tryd.ntmps90
 go_wp2_with (first | ((with_reducible refine gate_callee (f := 77) rfl ?_); refine goesL_ (some 5) rfl rfl Tryd.func77 (by kernel_rfl) rfl #[.int .u64 (IntKind.u64.wrap (a0))] rfl (Qls) ?_; (with_reducible refine (bits_OnesCount.calls (IntKind.u64.wrap (a0)) t631 _ A2.out).mono ?_); rintro e w' ⟨rfl, ⟨nd, rfl⟩⟩; refine ⟨_, rfl, ?_⟩))
 go_ret
 exact ⟨by first | rfl | (simp; done) | (simp [*]; done), by repeat (first | exact Drawn0.refl _ | apply Drawn0.step)⟩
end Go.Proofs.YtijfddobandcdaaDoor.X
end
section
namespace Go.Proofs.YtijfddobandcdaaDoor.X
open Go.RowKit YtijfddobandcdaaDoorW.PrintWords YtijfddobandcdaaDoorW.PrintLast YtijfddobandcdaaDoorW.PrintMore
attribute [local go_sem] max2_int min2_int max_two min_two max_three min_three max_four min_four
/-! ### width_Tree_width: function 71 -/
def width_Tree_width.l0 : Nat → Int → List Int → Int → Int → Option (Int)
 | 0, _, _, _, _ => none
 | k + 1, x3, x7, x8, x9 => if x9 < x8 then (if 0 ≤ x9 then (if x9 < (x7.length : Int) then ((width_count.f (rd x7 x9)).bind fun t672 => (width_Tree_width.l0 k (mx x3 t672) x7 x8 (wrap64 (x9 + 1)))) else (none)) else (none)) else (some (wrap64 (x3 - 1)))
def width_Tree_width.f (k : Nat) (l0_0 : List Int) (l0_1 : List Int) : Option (Int) := width_Tree_width.l0 k 0 l0_0 (l0_0.length : Int) 0
set_option maxHeartbeats 8000000 in
set_option maxRecDepth 100000 in
theorem width_Tree_width.calls (k : Nat) (A0_0 : Option Addr) (c0_0 : Nat) (l0_0 : List Int) (A0_1 : Option Addr) (c0_1 : Nat) (l0_1 : List Int) (r : Int) (w : World) (hr0_0 : Kd.C (Kd.int .i64) w A0_0 l0_0.length l0_0) (hc0_0 : l0_0.length ≤ c0_0) (hr0_1 : Kd.C (Kd.int .i64) w A0_1 l0_1.length l0_1) (hc0_1 : l0_1.length ≤ c0_1) (h : width_Tree_width.f k l0_0 l0_1 = some r) :
  Calls Tryd.prog 71 #[.agg #[.slice A0_0 l0_0.length c0_0, .slice A0_1 l0_1.length c0_1]] w fun e w' => e = .returned (.int .i64 r) ∧ Below w.heap.size w w' := by
 have hu74 := Tryd.underlying74
 have HR0_0 := Aside0.mk hr0_0
 have HC0_0 := Aside0.mk hc0_0
 clear hr0_0 hc0_0
 have HR0_1 := Aside0.mk hr0_1
 have HC0_1 := Aside0.mk hc0_1
 clear hr0_1 hc0_1
 have HB := Aside0.mk (Below.refl w.heap.size w)
 have H : (width_Tree_width.l0 k 0 l0_0 (l0_0.length : Int) 0) = some r := h
 clear h
 have H' := Aside0.mk H
 clear H
 go_enter Tryd.func71, Tryd.ntmps71
 go_wp2_with (first | ((with_reducible refine gate_dst (N := 1) rfl ?_); refine box_event ?hg (N := 1) ?hd (cs := #[.slice A0_0 l0_0.length c0_0, .slice A0_1 l0_1.length c0_1]) (t := 74) ?hr ?_; (case hd => rfl); (case hg => rfl); (case hr => first | (go_simp; done) | (go_simp; rfl)); intro gb670 hg w2 hbox hb; have n0_ := Aside0.mk (below_step (Qaw) hb); have n1_ := Aside0.mk (hbox); have n2_ := Aside0.mk ((by rw [hg]; exact (below_size (Qaw)) : w.heap.size ≤ gb670)); have n3_ := Aside0.mk ((by rw [hg]; exact (below_size (Qaw)) : w.heap.size ≤ gb670)); clear HB; have HB := n0_; have BK670 := n1_; have GW670 := n2_; have GE670 := n3_; clear n0_ n1_ n2_ n3_; clear hb hbox hg; have hcz3_0 : w2.cell? ⟨gb670, 0, none⟩ = some (.slice A0_0 l0_0.length c0_0) := (blk_cell BK670.out 0).trans rfl; have hcz3_1 : w2.cell? ⟨gb670, 1, none⟩ = some (.slice A0_1 l0_1.length c0_1) := (blk_cell BK670.out 1).trans rfl; have hfz3_0 := blk_frozen BK670.out 0; have hfz3_1 := blk_frozen BK670.out 1))
 go_loopg [3, 9] k (fun kq v3 v9 w' => ∃ (x3_1 : Int) (x9_1 : Int), v3 = .int .i64 x3_1 ∧ v9 = .int .i64 x9_1 ∧ Aside0 (width_Tree_width.l0 kq x3_1 l0_0 (l0_0.length : Int) x9_1 = some r) ∧ Aside0 (kq ≤ k) ∧ Aside0 (w'.heap[gb670]? = some (.cells #[(.slice A0_0 l0_0.length c0_0), (.slice A0_1 l0_1.length c0_1)] 74 (0, 0))) ∧ Aside0 (Below w.heap.size w w'))
 case atStart => exact ⟨(0), (0), (by first | rfl | (simp; done) | (simp [*]; done)), (by first | rfl | (simp; done) | (simp [*]; done)), H', ⟨Nat.le_refl _⟩, ⟨by (with_reducible repeat (first | refine blk_drewN ?_ _ | refine blk_drew ?_ | refine blk_alloc ?_ _)); exact BK670.out⟩, ⟨by repeat (first | (with_reducible first | exact HB.out | apply below_alloc | apply pw_below_drewN | apply below_drew1 | refine below_set ?_ GE670.out) | exact HB.out)⟩⟩
 case round =>
  clear H'
  try clear p2
  try clear hcz3_0
  try clear hcz3_1
  try clear hfz3_0
  try clear hfz3_1
  obtain ⟨x3_1, x9_1, rfl, rfl, HA, HK1, BK670, HB⟩ := hrel
  cases gk with
  | zero => exact absurd HA.out (by simp [width_Tree_width.l0])
  | succ k1 =>
   have H := HA.out
   clear HA
   simp only [width_Tree_width.l0] at H
   by_cases c4 : x9_1 < (l0_0.length : Int)
   ·rw [if_pos c4] at H
    have c4b0 : decide (x9_1 < (l0_0.length : Int)) = true := decide_eq_true c4
    clear c4
    by_cases c5 : 0 ≤ x9_1
    ·rw [if_pos c5] at H
     have c5b0 : decide (0 ≤ x9_1) = true := decide_eq_true c5
     clear c5
     by_cases c6 : x9_1 < (l0_0.length : Int)
     ·rw [if_pos c6] at H
      have c6b0 : decide (x9_1 < (l0_0.length : Int)) = true := decide_eq_true c6
      clear c6
      replace H := Option.bind_eq_some_iff.mp H
      obtain ⟨t672, A70, H⟩ := H
      replace H : (width_Tree_width.l0 k1 (mx x3_1 t672) l0_0 (l0_0.length : Int) (wrap64 (x9_1 + 1))) = some r := H
      have A7 := Aside0.mk A70
      clear A70
      obtain ⟨ji8, hji8⟩ : ∃ j_ : Int, (mx x3_1 t672) = j_ := ⟨_, rfl⟩
      replace H : (width_Tree_width.l0 k1 ji8 l0_0 (l0_0.length : Int) (wrap64 (x9_1 + 1))) = some r := by first | (rw [hji8] at H; exact H) | (simp only [hji8] at H ⊢; exact H)
      (try rw [hji8] at A7)
      have hji8_ : (if x3_1 < t672 then t672 else x3_1) = ji8 := hji8
      have H' := Aside0.mk H
      clear H
      have p671 : 0 ≤ (x9_1 : Int) := of_decide_eq_true (by first | (with_reducible assumption) | assumption)
      have q671 : x9_1 < (l0_0.length : Int) := of_decide_eq_true (by first | (with_reducible assumption) | assumption)
      obtain ⟨ad671, e671, hx671_0⟩ := Kd.at_int HR0_0.out x9_1 p671 q671
      cases e671
      replace hx671_0 := (HB.out.cell (World.block_lt_of_cell? w _ hx671_0)).trans hx671_0
      replace p671 := eq_true p671
      replace q671 := eq_true q671
      go_wp2_with (first | ((with_reducible refine gate_callee (f := 90) rfl ?_); refine goesL_ (some 15) rfl rfl Tryd.func90 (by kernel_rfl) rfl #[.int .i64 (rd l0_0 x9_1)] rfl (Qls) ?_; (with_reducible refine (width_count.calls (rd l0_0 x9_1) t672 _ A7.out).mono ?_); rintro e w' ⟨rfl, ⟨nd, rfl⟩⟩; refine ⟨_, rfl, ?_⟩))
      go_roundg k1
      case measure => have := HK1.out; omega
      case rel => exact ⟨(ji8), (wrap64 (x9_1 + 1)), (by first | rfl | (simp; done) | (simp only [← hji8] <;> (first | rfl | simp)) | (simp [*]; done)), (by first | rfl | (simp; done) | (simp [*]; done)), H', ⟨by have := HK1.out; omega⟩, ⟨by (with_reducible repeat (first | refine blk_drewN ?_ _ | refine blk_drew ?_ | refine blk_alloc ?_ _)); exact BK670.out⟩, ⟨by repeat (first | (with_reducible first | exact HB.out | apply below_alloc | apply pw_below_drewN | apply below_drew1 | refine below_set ?_ GE670.out) | exact HB.out)⟩⟩
     ·rw [if_neg c6] at H
      exact absurd H (by simp)
    ·rw [if_neg c5] at H
     exact absurd H (by simp)
   ·rw [if_neg c4] at H
    have c4b0 : decide (x9_1 < (l0_0.length : Int)) = false := decide_eq_false c4
    clear c4
    obtain rfl := Option.some.inj H
    go_wp2
    go_ret
    exact ⟨by first | rfl | (simp [errW_none, errW_some] <;> rfl) | (simp [*, errW_none, errW_some] <;> rfl), by repeat (first | (with_reducible first | exact HB.out | apply below_alloc | apply pw_below_drewN | apply below_drew1 | refine below_set ?_ GE670.out) | exact HB.out)⟩
end Go.Proofs.YtijfddobandcdaaDoor.X
end
section
namespace Go.Proofs.YtijfddobandcdaaDoor.X
open Go.RowKit YtijfddobandcdaaDoorW.PrintWords YtijfddobandcdaaDoorW.PrintLast YtijfddobandcdaaDoorW.PrintMore
attribute [local go_sem] max2_int min2_int max_two min_two max_three min_three max_four min_four
/-! ### width_Check: function 46 -/
def width_Check.f (k : Nat) (l0 : List Int) (l1_0 : List Int) (l1_1 : List Int) : Option (Int × Bool × Int) := (width_read.f k l0).bind fun bt717 => (if bt717.2 = true then ((width_town_tree.f bt717.1 l1_0 l1_1).bind fun t721 => (if t721 = true then ((width_Tree_width.f k l1_0 l1_1).bind fun t722 => (some (t722, true, 0))) else (some (0, false, 0)))) else (some (0, false, 2)))
set_option maxHeartbeats 8000000 in
set_option maxRecDepth 100000 in
theorem width_Check.calls (k : Nat) (A0 : Option Addr) (c0 : Nat) (l0 : List Int) (A1_0 : Option Addr) (c1_0 : Nat) (l1_0 : List Int) (A1_1 : Option Addr) (c1_1 : Nat) (l1_1 : List Int) (r1 : Int) (r2 : Bool) (r3 : Int) (w : World) (hGL : GL w) (hr0 : Kd.C (Kd.int .i64) w A0 l0.length l0) (hc0 : l0.length ≤ c0) (hr1_0 : Kd.C (Kd.int .i64) w A1_0 l1_0.length l1_0) (hc1_0 : l1_0.length ≤ c1_0) (hr1_1 : Kd.C (Kd.int .i64) w A1_1 l1_1.length l1_1) (hc1_1 : l1_1.length ≤ c1_1) (h : width_Check.f k l0 l1_0 l1_1 = some (r1, r2, r3)) :
  Calls Tryd.prog 46 #[.slice A0 l0.length c0, .agg #[.slice A1_0 l1_0.length c1_0, .slice A1_1 l1_1.length c1_1]] w fun e w' => e = .returned (.tuple #[.int .i64 r1, .bool r2, .int .i64 r3]) ∧ Below w.heap.size w w' := by
 have HGL := Aside0.mk hGL
 clear hGL
 have hu74 := Tryd.underlying74
 have HR0 := Aside0.mk hr0
 have HC0 := Aside0.mk hc0
 clear hr0 hc0
 have HR1_0 := Aside0.mk hr1_0
 have HC1_0 := Aside0.mk hc1_0
 clear hr1_0 hc1_0
 have HR1_1 := Aside0.mk hr1_1
 have HC1_1 := Aside0.mk hc1_1
 clear hr1_1 hc1_1
 have HB := Aside0.mk (Below.refl w.heap.size w)
 have H : ((width_read.f k l0).bind fun bt717 => (if bt717.2 = true then ((width_town_tree.f bt717.1 l1_0 l1_1).bind fun t721 => (if t721 = true then ((width_Tree_width.f k l1_0 l1_1).bind fun t722 => (some (t722, true, 0))) else (some (0, false, 0)))) else (some (0, false, 2)))) = some (r1, r2, r3) := h
 clear h
 replace H := Option.bind_eq_some_iff.mp H
 obtain ⟨⟨t717, t720⟩, A30, H⟩ := H
 replace H : (if t720 = true then ((width_town_tree.f t717 l1_0 l1_1).bind fun t721 => (if t721 = true then ((width_Tree_width.f k l1_0 l1_1).bind fun t722 => (some (t722, true, 0))) else (some (0, false, 0)))) else (some (0, false, 2))) = some (r1, r2, r3) := H
 have A3 := Aside0.mk A30
 clear A30
 by_cases c4 : t720 = true
 ·subst c4
  have H1 : ((width_town_tree.f t717 l1_0 l1_1).bind fun t721 => (if t721 = true then ((width_Tree_width.f k l1_0 l1_1).bind fun t722 => (some (t722, true, 0))) else (some (0, false, 0)))) = some (r1, r2, r3) := by rw [if_pos rfl] at H; exact H
  clear H
  have H := H1
  clear H1
  replace H := Option.bind_eq_some_iff.mp H
  obtain ⟨t721, A50, H⟩ := H
  replace H : (if t721 = true then ((width_Tree_width.f k l1_0 l1_1).bind fun t722 => (some (t722, true, 0))) else (some (0, false, 0))) = some (r1, r2, r3) := H
  have A5 := Aside0.mk A50
  clear A50
  by_cases c6 : t721 = true
  ·subst c6
   have H1 : ((width_Tree_width.f k l1_0 l1_1).bind fun t722 => (some (t722, true, 0))) = some (r1, r2, r3) := by rw [if_pos rfl] at H; exact H
   clear H
   have H := H1
   clear H1
   replace H := Option.bind_eq_some_iff.mp H
   obtain ⟨t722, A70, H⟩ := H
   replace H : (some (t722, true, 0)) = some (r1, r2, r3) := H
   have A7 := Aside0.mk A70
   clear A70
   simp only [Option.some.injEq, Prod.mk.injEq] at H
   obtain ⟨rfl, rfl, rfl⟩ := H
   go_enter Tryd.func46, Tryd.ntmps46
   go_wp2_with (first | ((with_reducible refine gate_dst (N := 3) rfl ?_); refine box_event ?hg (N := 3) ?hd (cs := #[.slice A1_0 l1_0.length c1_0, .slice A1_1 l1_1.length c1_1]) (t := 74) ?hr ?_; (case hd => rfl); (case hg => rfl); (case hr => first | (go_simp; done) | (go_simp; rfl)); intro gb716 hg w8 hbox hb; have n0_ := Aside0.mk (below_step (Qaw) hb); have n1_ := Aside0.mk (hbox); have n2_ := Aside0.mk ((by rw [hg]; exact (below_size (Qaw)) : w.heap.size ≤ gb716)); have n3_ := Aside0.mk ((by rw [hg]; exact (below_size (Qaw)) : w.heap.size ≤ gb716)); clear HB; have HB := n0_; have BK716 := n1_; have GW716 := n2_; have GE716 := n3_; clear n0_ n1_ n2_ n3_; clear hb hbox hg) | ((with_reducible refine gate_callee (f := 68) rfl ?_); refine goesL_ (some 11) rfl rfl Tryd.func68 (by kernel_rfl) rfl #[.slice A0 l0.length c0] rfl (Qls) ?_; (with_reducible refine (width_read.calls k (fun k_ => k_ < w.heap.size) _ _ l0 t717 true _ ?side1 A3.out).mono ?_); (case side1 => exact Kd.V_mk HC0.out (Kd.F_below (Kd.C_F (Kd.heap_int .i64) HR0.out) (by repeat (first | (with_reducible first | exact HB.out | apply below_alloc | apply pw_below_drewN | apply below_drew1 | refine below_set ?_ GE716.out) | exact HB.out)))); rintro e w9 ⟨v718, rfl, ho0, hb⟩; refine ⟨_, rfl, ?_⟩; have n0_ := Aside0.mk (Kd.V_lower (Kd.V_mono (ok' := fun k_ => k_ ≠ gb716) ho0 (fun k_ hk_ => Or.elim hk_ (fun hs_ => fun e_ => Nat.not_le.2 hs_ (by rw [e_]; exact GW716.out)) (fun hn_ => (Kd.freshB (g := gb716) (o := .cells #[.slice A1_0 l1_0.length c1_0, .slice A1_1 l1_1.length c1_1] 74 (0, 0)) (by (with_reducible repeat (first | refine blk_drewN ?_ _ | refine blk_drew ?_ | refine blk_alloc ?_ _)); exact BK716.out) k_ hn_)))) (below_size (by repeat (first | (with_reducible first | exact HB.out | apply below_alloc | apply pw_below_drewN | apply below_drew1 | refine below_set ?_ GE716.out) | exact HB.out)))); have n1_ := Aside0.mk (blk_below (g := gb716) (o := .cells #[.slice A1_0 l1_0.length c1_0, .slice A1_1 l1_1.length c1_1] 74 (0, 0)) (by (with_reducible repeat (first | refine blk_drewN ?_ _ | refine blk_drew ?_ | refine blk_alloc ?_ _)); exact BK716.out) hb); have n2_ := Aside0.mk (below_step (by repeat (first | (with_reducible first | exact HB.out | apply below_alloc | apply pw_below_drewN | apply below_drew1 | refine below_set ?_ GE716.out) | exact HB.out)) hb); clear BK716; clear HB; have HO719 := n0_; have BK716 := n1_; have HB := n2_; clear n0_ n1_ n2_; (try clear hb); (try clear hb2); (try clear hk); (try clear hi); (try clear ho0); have hcz10_0 : w9.cell? ⟨gb716, 0, none⟩ = some (.slice A1_0 l1_0.length c1_0) := (blk_cell BK716.out 0).trans rfl; have hcz10_1 : w9.cell? ⟨gb716, 1, none⟩ = some (.slice A1_1 l1_1.length c1_1) := (blk_cell BK716.out 1).trans rfl; have hfz10_0 := blk_frozen BK716.out 0; have hfz10_1 := blk_frozen BK716.out 1; obtain ⟨Ao11, co11, eo11⟩ := Kd.V_slice HO719.out; subst eo11) | ((with_reducible refine gate_callee (f := 70) rfl ?_); refine goesL_ (some 18) rfl rfl Tryd.func70 (by kernel_rfl) rfl #[.slice Ao11 t717.length co11, .agg #[.slice A1_0 l1_0.length c1_0, .slice A1_1 l1_1.length c1_1]] rfl (Qls) ?_; (with_reducible refine (width_town_tree.calls (hGL := (Qlg)) _ _ t717 _ _ l1_0 _ _ l1_1 true _ ?side1 ?side2 ?side3 ?side4 ?side5 ?side6 A5.out).mono ?_); (case side1 => exact Qsc (Kd.V_reads' HO719.out).2.2); (case side2 => exact (Kd.V_reads' HO719.out).2.1); (case side3 => exact Qsc (Kd.C_below HR1_0.out HB.out)); (case side4 => exact HC1_0.out); (case side5 => exact Qsc (Kd.C_below HR1_1.out HB.out)); (case side6 => exact HC1_1.out); rintro e w12 ⟨rfl, hb⟩; refine ⟨_, rfl, ?_⟩; have n0_ := Aside0.mk (Kd.V_below (by (with_reducible repeat (first | apply Kd.V_alloc | apply Kd.V_drewN | apply Kd.V_drew)); exact HO719.out) hb); have n1_ := Aside0.mk (blk_below (g := gb716) (o := .cells #[.slice A1_0 l1_0.length c1_0, .slice A1_1 l1_1.length c1_1] 74 (0, 0)) (by (with_reducible repeat (first | refine blk_drewN ?_ _ | refine blk_drew ?_ | refine blk_alloc ?_ _)); exact BK716.out) hb); have n2_ := Aside0.mk (below_step (by repeat (first | (with_reducible first | exact HB.out | apply below_alloc | apply pw_below_drewN | apply below_drew1 | refine below_set ?_ GE716.out) | exact HB.out)) hb); clear HO719; clear BK716; clear HB; have HO719 := n0_; have BK716 := n1_; have HB := n2_; clear n0_ n1_ n2_; (try clear hb); (try clear hb2); (try clear hk); (try clear hi); have hcz13_0 : w12.cell? ⟨gb716, 0, none⟩ = some (.slice A1_0 l1_0.length c1_0) := (blk_cell BK716.out 0).trans rfl; have hcz13_1 : w12.cell? ⟨gb716, 1, none⟩ = some (.slice A1_1 l1_1.length c1_1) := (blk_cell BK716.out 1).trans rfl; have hfz13_0 := blk_frozen BK716.out 0; have hfz13_1 := blk_frozen BK716.out 1) | ((with_reducible refine gate_callee (f := 71) rfl ?_); refine goesL_ (some 21) rfl rfl Tryd.func71 (by kernel_rfl) rfl #[.agg #[.slice A1_0 l1_0.length c1_0, .slice A1_1 l1_1.length c1_1]] rfl (Qls) ?_; (with_reducible refine (width_Tree_width.calls k _ _ l1_0 _ _ l1_1 t722 _ ?side1 ?side2 ?side3 ?side4 A7.out).mono ?_); (case side1 => exact Qsc (Kd.C_below HR1_0.out HB.out)); (case side2 => exact HC1_0.out); (case side3 => exact Qsc (Kd.C_below HR1_1.out HB.out)); (case side4 => exact HC1_1.out); rintro e w14 ⟨rfl, hb⟩; refine ⟨_, rfl, ?_⟩; have n0_ := Aside0.mk (Kd.V_below (by (with_reducible repeat (first | apply Kd.V_alloc | apply Kd.V_drewN | apply Kd.V_drew)); exact HO719.out) hb); have n1_ := Aside0.mk (blk_below (g := gb716) (o := .cells #[.slice A1_0 l1_0.length c1_0, .slice A1_1 l1_1.length c1_1] 74 (0, 0)) (by (with_reducible repeat (first | refine blk_drewN ?_ _ | refine blk_drew ?_ | refine blk_alloc ?_ _)); exact BK716.out) hb); have n2_ := Aside0.mk (below_step (by repeat (first | (with_reducible first | exact HB.out | apply below_alloc | apply pw_below_drewN | apply below_drew1 | refine below_set ?_ GE716.out) | exact HB.out)) hb); clear HO719; clear BK716; clear HB; have HO719 := n0_; have BK716 := n1_; have HB := n2_; clear n0_ n1_ n2_; (try clear hb); (try clear hb2); (try clear hk); (try clear hi)))
   go_ret3
   exact ⟨by first | rfl | (simp [errW_none, errW_some] <;> rfl) | (simp [*, errW_none, errW_some] <;> rfl), by repeat (first | (with_reducible first | exact HB.out | apply below_alloc | apply pw_below_drewN | apply below_drew1 | refine below_set ?_ GE716.out) | exact HB.out)⟩
  ·replace c6 := Bool.eq_false_iff.mpr c6
   subst c6
   have H1 : (some (0, false, 0)) = some (r1, r2, r3) := by rw [if_neg (show ¬ (false = true) by decide)] at H; exact H
   clear H
   have H := H1
   clear H1
   simp only [Option.some.injEq, Prod.mk.injEq] at H
   obtain ⟨rfl, rfl, rfl⟩ := H
   go_enter Tryd.func46, Tryd.ntmps46
   go_wp2_with (first | ((with_reducible refine gate_dst (N := 3) rfl ?_); refine box_event ?hg (N := 3) ?hd (cs := #[.slice A1_0 l1_0.length c1_0, .slice A1_1 l1_1.length c1_1]) (t := 74) ?hr ?_; (case hd => rfl); (case hg => rfl); (case hr => first | (go_simp; done) | (go_simp; rfl)); intro gb716 hg w15 hbox hb; have n0_ := Aside0.mk (below_step (Qaw) hb); have n1_ := Aside0.mk (hbox); have n2_ := Aside0.mk ((by rw [hg]; exact (below_size (Qaw)) : w.heap.size ≤ gb716)); have n3_ := Aside0.mk ((by rw [hg]; exact (below_size (Qaw)) : w.heap.size ≤ gb716)); clear HB; have HB := n0_; have BK716 := n1_; have GW716 := n2_; have GE716 := n3_; clear n0_ n1_ n2_ n3_; clear hb hbox hg) | ((with_reducible refine gate_callee (f := 68) rfl ?_); refine goesL_ (some 11) rfl rfl Tryd.func68 (by kernel_rfl) rfl #[.slice A0 l0.length c0] rfl (Qls) ?_; (with_reducible refine (width_read.calls k (fun k_ => k_ < w.heap.size) _ _ l0 t717 true _ ?side1 A3.out).mono ?_); (case side1 => exact Kd.V_mk HC0.out (Kd.F_below (Kd.C_F (Kd.heap_int .i64) HR0.out) (by repeat (first | (with_reducible first | exact HB.out | apply below_alloc | apply pw_below_drewN | apply below_drew1 | refine below_set ?_ GE716.out) | exact HB.out)))); rintro e w16 ⟨v718, rfl, ho0, hb⟩; refine ⟨_, rfl, ?_⟩; have n0_ := Aside0.mk (Kd.V_lower (Kd.V_mono (ok' := fun k_ => k_ ≠ gb716) ho0 (fun k_ hk_ => Or.elim hk_ (fun hs_ => fun e_ => Nat.not_le.2 hs_ (by rw [e_]; exact GW716.out)) (fun hn_ => (Kd.freshB (g := gb716) (o := .cells #[.slice A1_0 l1_0.length c1_0, .slice A1_1 l1_1.length c1_1] 74 (0, 0)) (by (with_reducible repeat (first | refine blk_drewN ?_ _ | refine blk_drew ?_ | refine blk_alloc ?_ _)); exact BK716.out) k_ hn_)))) (below_size (by repeat (first | (with_reducible first | exact HB.out | apply below_alloc | apply pw_below_drewN | apply below_drew1 | refine below_set ?_ GE716.out) | exact HB.out)))); have n1_ := Aside0.mk (blk_below (g := gb716) (o := .cells #[.slice A1_0 l1_0.length c1_0, .slice A1_1 l1_1.length c1_1] 74 (0, 0)) (by (with_reducible repeat (first | refine blk_drewN ?_ _ | refine blk_drew ?_ | refine blk_alloc ?_ _)); exact BK716.out) hb); have n2_ := Aside0.mk (below_step (by repeat (first | (with_reducible first | exact HB.out | apply below_alloc | apply pw_below_drewN | apply below_drew1 | refine below_set ?_ GE716.out) | exact HB.out)) hb); clear BK716; clear HB; have HO719 := n0_; have BK716 := n1_; have HB := n2_; clear n0_ n1_ n2_; (try clear hb); (try clear hb2); (try clear hk); (try clear hi); (try clear ho0); have hcz17_0 : w16.cell? ⟨gb716, 0, none⟩ = some (.slice A1_0 l1_0.length c1_0) := (blk_cell BK716.out 0).trans rfl; have hcz17_1 : w16.cell? ⟨gb716, 1, none⟩ = some (.slice A1_1 l1_1.length c1_1) := (blk_cell BK716.out 1).trans rfl; have hfz17_0 := blk_frozen BK716.out 0; have hfz17_1 := blk_frozen BK716.out 1; obtain ⟨Ao18, co18, eo18⟩ := Kd.V_slice HO719.out; subst eo18) | ((with_reducible refine gate_callee (f := 70) rfl ?_); refine goesL_ (some 18) rfl rfl Tryd.func70 (by kernel_rfl) rfl #[.slice Ao18 t717.length co18, .agg #[.slice A1_0 l1_0.length c1_0, .slice A1_1 l1_1.length c1_1]] rfl (Qls) ?_; (with_reducible refine (width_town_tree.calls (hGL := (Qlg)) _ _ t717 _ _ l1_0 _ _ l1_1 false _ ?side1 ?side2 ?side3 ?side4 ?side5 ?side6 A5.out).mono ?_); (case side1 => exact Qsc (Kd.V_reads' HO719.out).2.2); (case side2 => exact (Kd.V_reads' HO719.out).2.1); (case side3 => exact Qsc (Kd.C_below HR1_0.out HB.out)); (case side4 => exact HC1_0.out); (case side5 => exact Qsc (Kd.C_below HR1_1.out HB.out)); (case side6 => exact HC1_1.out); rintro e w19 ⟨rfl, hb⟩; refine ⟨_, rfl, ?_⟩; have n0_ := Aside0.mk (Kd.V_below (by (with_reducible repeat (first | apply Kd.V_alloc | apply Kd.V_drewN | apply Kd.V_drew)); exact HO719.out) hb); have n1_ := Aside0.mk (blk_below (g := gb716) (o := .cells #[.slice A1_0 l1_0.length c1_0, .slice A1_1 l1_1.length c1_1] 74 (0, 0)) (by (with_reducible repeat (first | refine blk_drewN ?_ _ | refine blk_drew ?_ | refine blk_alloc ?_ _)); exact BK716.out) hb); have n2_ := Aside0.mk (below_step (by repeat (first | (with_reducible first | exact HB.out | apply below_alloc | apply pw_below_drewN | apply below_drew1 | refine below_set ?_ GE716.out) | exact HB.out)) hb); clear HO719; clear BK716; clear HB; have HO719 := n0_; have BK716 := n1_; have HB := n2_; clear n0_ n1_ n2_; (try clear hb); (try clear hb2); (try clear hk); (try clear hi)))
   go_ret3
   exact ⟨by first | rfl | (simp [errW_none, errW_some] <;> rfl) | (simp [*, errW_none, errW_some] <;> rfl), by repeat (first | (with_reducible first | exact HB.out | apply below_alloc | apply pw_below_drewN | apply below_drew1 | refine below_set ?_ GE716.out) | exact HB.out)⟩
 ·replace c4 := Bool.eq_false_iff.mpr c4
  subst c4
  have H1 : (some (0, false, 2)) = some (r1, r2, r3) := by rw [if_neg (show ¬ (false = true) by decide)] at H; exact H
  clear H
  have H := H1
  clear H1
  simp only [Option.some.injEq, Prod.mk.injEq] at H
  obtain ⟨rfl, rfl, rfl⟩ := H
  go_enter Tryd.func46, Tryd.ntmps46
  go_wp2_with (first | ((with_reducible refine gate_dst (N := 3) rfl ?_); refine box_event ?hg (N := 3) ?hd (cs := #[.slice A1_0 l1_0.length c1_0, .slice A1_1 l1_1.length c1_1]) (t := 74) ?hr ?_; (case hd => rfl); (case hg => rfl); (case hr => first | (go_simp; done) | (go_simp; rfl)); intro gb716 hg w20 hbox hb; have n0_ := Aside0.mk (below_step (Qaw) hb); have n1_ := Aside0.mk (hbox); have n2_ := Aside0.mk ((by rw [hg]; exact (below_size (Qaw)) : w.heap.size ≤ gb716)); have n3_ := Aside0.mk ((by rw [hg]; exact (below_size (Qaw)) : w.heap.size ≤ gb716)); clear HB; have HB := n0_; have BK716 := n1_; have GW716 := n2_; have GE716 := n3_; clear n0_ n1_ n2_ n3_; clear hb hbox hg) | ((with_reducible refine gate_callee (f := 68) rfl ?_); refine goesL_ (some 11) rfl rfl Tryd.func68 (by kernel_rfl) rfl #[.slice A0 l0.length c0] rfl (Qls) ?_; (with_reducible refine (width_read.calls k (fun k_ => k_ < w.heap.size) _ _ l0 t717 false _ ?side1 A3.out).mono ?_); (case side1 => exact Kd.V_mk HC0.out (Kd.F_below (Kd.C_F (Kd.heap_int .i64) HR0.out) (by repeat (first | (with_reducible first | exact HB.out | apply below_alloc | apply pw_below_drewN | apply below_drew1 | refine below_set ?_ GE716.out) | exact HB.out)))); rintro e w21 ⟨v718, rfl, ho0, hb⟩; refine ⟨_, rfl, ?_⟩; have n0_ := Aside0.mk (Kd.V_lower (Kd.V_mono (ok' := fun k_ => k_ ≠ gb716) ho0 (fun k_ hk_ => Or.elim hk_ (fun hs_ => fun e_ => Nat.not_le.2 hs_ (by rw [e_]; exact GW716.out)) (fun hn_ => (Kd.freshB (g := gb716) (o := .cells #[.slice A1_0 l1_0.length c1_0, .slice A1_1 l1_1.length c1_1] 74 (0, 0)) (by (with_reducible repeat (first | refine blk_drewN ?_ _ | refine blk_drew ?_ | refine blk_alloc ?_ _)); exact BK716.out) k_ hn_)))) (below_size (by repeat (first | (with_reducible first | exact HB.out | apply below_alloc | apply pw_below_drewN | apply below_drew1 | refine below_set ?_ GE716.out) | exact HB.out)))); have n1_ := Aside0.mk (blk_below (g := gb716) (o := .cells #[.slice A1_0 l1_0.length c1_0, .slice A1_1 l1_1.length c1_1] 74 (0, 0)) (by (with_reducible repeat (first | refine blk_drewN ?_ _ | refine blk_drew ?_ | refine blk_alloc ?_ _)); exact BK716.out) hb); have n2_ := Aside0.mk (below_step (by repeat (first | (with_reducible first | exact HB.out | apply below_alloc | apply pw_below_drewN | apply below_drew1 | refine below_set ?_ GE716.out) | exact HB.out)) hb); clear BK716; clear HB; have HO719 := n0_; have BK716 := n1_; have HB := n2_; clear n0_ n1_ n2_; (try clear hb); (try clear hb2); (try clear hk); (try clear hi); (try clear ho0)))
  go_ret3
  exact ⟨by first | rfl | (simp [errW_none, errW_some] <;> rfl) | (simp [*, errW_none, errW_some] <;> rfl), by repeat (first | (with_reducible first | exact HB.out | apply below_alloc | apply pw_below_drewN | apply below_drew1 | refine below_set ?_ GE716.out) | exact HB.out)⟩
end Go.Proofs.YtijfddobandcdaaDoor.X
end
