/- Part 4 of what WidthTrees rests on: contracts of the functions that it reaches, and what they compute, in plain words. -/
import Derived.Test.YtoffehihicabcaaDoorZWidthTrees3
import Derived.Test.YtoffehihicabcaaDoorZWidthTrees1
import Derived.Test.YtoffehihicabcaaDoorZWidthTrees2
import Derived.Test.YtoffehihicabcaaDoorZWidthTrees0
import Derived.Outline
import Derived.ChangeSlices
import Derived.ChangeArms
import Derived.WideShapes
set_option linter.unusedVariables false
set_option linter.unusedSimpArgs false
section
namespace Go.Proofs.YtoffehihicabcaaDoor.X
open Go.RowKit YtoffehihicabcaaDoorW.PrintWords YtoffehihicabcaaDoorW.PrintLast YtoffehihicabcaaDoorW.PrintMore YtoffehihicabcaaDoor.T
def upI (P : List Int) (a : Int) : Int := if a < 0 then a else rd P a
def upN (P : List Int) : Nat → Int → Int
 | 0, a => a
 | d + 1, a => upN P d (upI P a)
theorem upN_neg (P : List Int) {a : Int} (h : a < 0) : ∀ d, upN P d a = a
 | 0 => rfl
 | d + 1 => by rw [upN, upI, if_pos h, upN_neg P h d]
theorem cycB_up (P : List Int) : ∀ d a, cycB P d a = decide (0 ≤ upN P d a)
 | 0, a => rfl
 | d + 1, a => by
  rw [cycB, upN, upI]
  by_cases h : a < 0
  ·rw [if_pos h, if_pos h, upN_neg P h d]
   simp; omega
  ·rw [if_neg h, if_neg h, cycB_up P d]
theorem upN_add (P : List Int) : ∀ (d e : Nat) (a : Int), upN P (d + e) a = upN P e (upN P d a)
 | 0, e, a => by rw [Nat.zero_add]; rfl
 | d + 1, e, a => by rw [show d + 1 + e = (d + e) + 1 by omega, upN, upN_add P d e, upN]
def rootsF (P : List Int) : Nat → Nat → Nat → Nat
 | 0, _, t => t
 | d + 1, i, t => rootsF P d (i + 1) (if rd P (i : Int) < 0 then t + 1 else t)
def unionF (B : List Int) : Nat → Nat → Nat → Nat
 | 0, _, t => t
 | d + 1, i, t => unionF B d (i + 1) (t ||| (rd B (i : Int)).toNat)
def mostF (B : List Int) : Nat → Nat → Nat → Nat
 | 0, _, t => t
 | d + 1, i, t => mostF B d (i + 1) (max t (pc (rd B (i : Int)).toNat 9))
def InT (G : List Nat) (B P : List Int) (n i : Nat) : Prop := -1 ≤ rd P (i : Int) ∧ rd P (i : Int) < (n : Int) ∧ 0 ≤ rd B (i : Int) ∧ rd B (i : Int) < ((2 ^ G.length : Nat) : Int)
structure TD (G : List Nat) (B P : List Int) : Prop where
 pos : 1 ≤ B.length
 most : B.length ≤ 30
 len : P.length = B.length
 inn : ∀ i, i < B.length → InT G B P B.length i
 root : rootsF P B.length 0 0 = 1
 acyc : ∀ i : Nat, i < B.length → upN P B.length (i : Int) < 0
 tops : ∀ v, v < G.length → topsF B P v B.length 0 0 = 1
 edge : ∀ v u, Adj G v u → ∃ i : Nat, i < B.length ∧ bitI (rd B (i : Int)) v = true ∧ bitI (rd B (i : Int)) u = true
theorem tl1_eq (G : List Nat) (B P : List Int) (n : Nat) : ∀ (d i ro ac : Nat), (∀ j, i ≤ j → j < i + d → InT G B P n j) → tl1 B P n (2 ^ G.length - 1) d i ro ac = some (rootsF P d i ro, unionF B d i ac)
 | 0, i, ro, ac, _ => rfl
 | d + 1, i, ro, ac, h => by
  obtain ⟨h1, h2, h3, h4⟩ := h i (Nat.le_refl _) (by omega)
  have := Nat.two_pow_pos G.length
  rw [tl1, if_neg (by omega), if_neg (by omega), if_neg (by omega), if_neg (by omega), tl1_eq G B P n d (i + 1) _ _ fun j hj hj2 => h j (by omega) (by omega)]
  rfl
theorem tl1_in (G : List Nat) (B P : List Int) (n : Nat) {d i ro ac : Nat} {r : Nat × Nat} (h : tl1 B P n (2 ^ G.length - 1) d i ro ac = some r) (j : Nat) (h1 : i ≤ j) (h2 : j < i + d) : InT G B P n j := by
 have := tl1_ok B P n _ d i ro ac r h j h1 h2
 have := Nat.two_pow_pos G.length
 exact ⟨by omega, by omega, by omega, by omega⟩
theorem unionF_bit (B : List Int) (v : Nat) : ∀ (d i t : Nat), bset (unionF B d i t) v ↔ bset t v ∨ ∃ j, i ≤ j ∧ j < i + d ∧ bitI (rd B (j : Int)) v = true
 | 0, i, t => ⟨fun h => .inl h, fun h => by
   rcases h with h | ⟨j, h1, h2, _⟩
   ·exact h
   ·omega⟩
 | d + 1, i, t => by
  rw [unionF, unionF_bit B v d (i + 1)]
  have e : bset (t ||| (rd B (i : Int)).toNat) v ↔ bset t v ∨ bitI (rd B (i : Int)) v = true := by
   unfold bset bitI
   rw [Nat.testBit_or, Bool.or_eq_true]
  rw [e]
  constructor
  ·rintro ((h | h) | ⟨j, h1, h2, h3⟩)
   ·exact .inl h
   ·exact .inr ⟨i, Nat.le_refl _, by omega, h⟩
   ·exact .inr ⟨j, by omega, by omega, h3⟩
  ·rintro (h | ⟨j, h1, h2, h3⟩)
   ·exact .inl (.inl h)
   ·by_cases e : j = i
    ·subst e; exact .inl (.inr h3)
    ·exact .inr ⟨j, by omega, by omega, h3⟩
theorem unionF_lt (B : List Int) {N : Nat} : ∀ (d i t : Nat), t < 2 ^ N → (∀ j, i ≤ j → j < i + d → 0 ≤ rd B (j : Int) ∧ rd B (j : Int) < ((2 ^ N : Nat) : Int)) → unionF B d i t < 2 ^ N
 | 0, i, t, h, _ => h
 | d + 1, i, t, h, hb => by
  rw [unionF]
  have := hb i (Nat.le_refl _) (by omega)
  exact unionF_lt B d (i + 1) _ (Nat.or_lt_two_pow h (by omega)) fun j h1 h2 => hb j (by omega) (by omega)
theorem topsF_none (B P : List Int) (v : Nat) : ∀ (d i t : Nat), (∀ j, i ≤ j → j < i + d → bitI (rd B (j : Int)) v = false) → topsF B P v d i t = t
 | 0, i, t, _ => rfl
 | d + 1, i, t, h => by
  rw [topsF, h i (Nat.le_refl _) (by omega), topsF_none B P v d (i + 1) _ fun j h1 h2 => h j (by omega) (by omega)]
  simp
theorem nbF_iff (B : List Int) (v : Nat) : ∀ l : List Nat, nbF B v l = true ↔ ∀ u ∈ l, ∃ i : Nat, i < B.length ∧ bitI (rd B (i : Int)) v = true ∧ bitI (rd B (i : Int)) u = true
 | [] => by simp [nbF]
 | u :: l => by
  rw [nbF, Bool.and_eq_true, nbF_iff B v l, List.any_eq_true]
  have e : (∃ x ∈ B, bothB u v x = true) ↔ ∃ i : Nat, i < B.length ∧ bitI (rd B (i : Int)) v = true ∧ bitI (rd B (i : Int)) u = true := by
   constructor
   ·rintro ⟨x, hx, h⟩
    obtain ⟨i, hi, rfl⟩ := List.mem_iff_getElem.1 hx
    have hr : rd B (i : Int) = B[i] := by unfold rd; rw [Int.toNat_natCast, List.getD_eq_getElem?_getD, List.getElem?_eq_getElem hi]; rfl
    unfold bothB at h
    rw [Bool.and_eq_true] at h
    exact ⟨i, hi, by rw [hr]; exact h.2, by rw [hr]; exact h.1⟩
   ·rintro ⟨i, hi, h1, h2⟩
    have hr : rd B (i : Int) = B[i] := by unfold rd; rw [Int.toNat_natCast, List.getD_eq_getElem?_getD, List.getElem?_eq_getElem hi]; rfl
    rw [hr] at h1 h2
    exact ⟨B[i], List.getElem_mem hi, by unfold bothB; rw [Bool.and_eq_true]; exact ⟨h2, h1⟩⟩
  rw [e]
  simp
theorem tl2_iff (G : List Nat) (B P : List Int) : ∀ (d v : Nat), tl2 G B P d v = true ↔ ∀ u, v ≤ u → u < v + d → topsF B P u B.length 0 0 = 1 ∧ nbF B u (els (G.getD u 0) 9) = true
 | 0, v => by
  rw [tl2]
  exact ⟨fun _ u h1 h2 => by omega, fun _ => rfl⟩
 | d + 1, v => by
  rw [tl2]
  constructor
  ·intro h u h1 h2
   by_cases ht : topsF B P v B.length 0 0 = 1
   ·rw [if_pos ht, Bool.and_eq_true, tl2_iff G B P d (v + 1)] at h
    by_cases e : u = v
    ·subst e; exact ⟨ht, h.1⟩
    ·exact h.2 u (by omega) (by omega)
   ·rw [if_neg ht] at h; cases h
  ·intro h
   obtain ⟨h1, h2⟩ := h v (Nat.le_refl _) (by omega)
   rw [if_pos h1, h2, Bool.true_and, tl2_iff G B P d (v + 1)]
   exact fun u h3 h4 => h u (by omega) (by omega)
theorem up_within {P : List Int} {n : Nat} (hP : ∀ i, i < n → rd P (i : Int) < (n : Int)) {i : Nat} (hi : i < n) {m : Nat} (hm : upN P m (i : Int) < 0) : upN P n (i : Int) < 0 := by
 apply Classical.byContradiction
 intro hno
 have stay : ∀ d e : Nat, upN P d (i : Int) < 0 → upN P (d + e) (i : Int) < 0 := fun d e h => by rw [upN_add, upN_neg P h]; exact h
 have hin : ∀ d, d ≤ n → ∃ j : Nat, upN P d (i : Int) = (j : Int) ∧ j < n := by
  intro d
  induction d with
  | zero => intro _; exact ⟨i, rfl, hi⟩
  | succ d ih =>
   intro hd
   obtain ⟨j, h1, h2⟩ := ih (by omega)
   have h3 : upN P (d + 1) (i : Int) = rd P (j : Int) := by
    rw [upN_add P d 1, h1]
    show upI P (j : Int) = _
    rw [upI, if_neg (by omega)]
   have h4 : ¬ upN P (d + 1) (i : Int) < 0 := fun h => hno (by
    have := stay (d + 1) (n - (d + 1)) h
    rwa [show d + 1 + (n - (d + 1)) = n by omega] at this)
   have := hP j h2
   exact ⟨(rd P (j : Int)).toNat, by rw [h3] at h4 ⊢; omega, by rw [h3] at h4; omega⟩
 obtain ⟨a, b, hab, hb, e⟩ : ∃ a b, a < b ∧ b ≤ n ∧ upN P a (i : Int) = upN P b (i : Int) := by
  apply Classical.byContradiction
  intro hx
  have hnd : ((List.range (n + 1)).map fun d => (upN P d (i : Int)).toNat).Nodup := by
   refine List.pairwise_map.2 (List.Pairwise.imp_of_mem (fun {a b} ha hb hlt e => hx ⟨a, b, hlt, by have := List.mem_range.1 hb; omega, ?_⟩) List.pairwise_lt_range)
   obtain ⟨j, h1, _⟩ := hin a (by have := List.mem_range.1 ha; omega)
   obtain ⟨j', h1', _⟩ := hin b (by have := List.mem_range.1 hb; omega)
   rw [h1, h1'] at e ⊢
   have e2 : j = j' := by simpa using e
   rw [e2]
  have := nodup_le hnd (m := List.range n) fun x hx => by
   obtain ⟨d, hd, rfl⟩ := List.mem_map.1 hx
   obtain ⟨j, h1, h2⟩ := hin d (by have := List.mem_range.1 hd; omega)
   rw [h1]
   exact List.mem_range.2 (by simpa using h2)
  simp at this
  omega
 have round : ∀ k, upN P (a + k * (b - a)) (i : Int) = upN P a (i : Int) := by
  intro k
  induction k with
  | zero => simp
  | succ k ih =>
   rw [show a + (k + 1) * (b - a) = (a + k * (b - a)) + (b - a) by rw [Nat.succ_mul]; omega, upN_add, ih, ← upN_add, show a + (b - a) = b by omega, ← e]
 obtain ⟨j, h1, h2⟩ := hin a (by omega)
 have h3 := round m
 have h4 : m ≤ a + m * (b - a) := by
  have : m * 1 ≤ m * (b - a) := Nat.mul_le_mul_left m (by omega)
  omega
 have h5 := stay m (a + m * (b - a) - m) hm
 rw [show m + (a + m * (b - a) - m) = a + m * (b - a) by omega, h3, h1] at h5
 omega
theorem rd_mem {P : List Int} {i : Nat} (hi : i < P.length) : rd P (i : Int) = P[i] := by unfold rd; rw [Int.toNat_natCast, List.getD_eq_getElem?_getD, List.getElem?_eq_getElem hi]; rfl
theorem acyc_iff {P : List Int} {n : Nat} (hl : P.length = n) (hP : ∀ i, i < n → rd P (i : Int) < (n : Int)) : P.any (cycB P n) = false ↔ ∀ i : Nat, i < n → upN P n (i : Int) < 0 := by
 rw [List.any_eq_false]
 have up1 : ∀ i : Nat, upN P n (rd P (i : Int)) = upN P (n + 1) (i : Int) := fun i => by
  rw [upN, upI, if_neg (by omega)]
 constructor
 ·intro h i hi
  have h1 := h (rd P (i : Int)) (by rw [rd_mem (by omega)]; exact List.getElem_mem _)
  rw [cycB_up] at h1
  have h2 : upN P (n + 1) (i : Int) < 0 := by rw [← up1]; simpa using h1
  exact up_within hP hi h2
 ·intro h x hx
  obtain ⟨i, hi, rfl⟩ := List.mem_iff_getElem.1 hx
  rw [cycB_up, ← rd_mem hi, up1, show n + 1 = n + 1 from rfl, upN_add P n 1]
  have := h i (by omega)
  show ¬ decide (0 ≤ upI P (upN P n (i : Int))) = true
  rw [upI, if_pos this]
  simp; omega
theorem treeB_iff {G : List Nat} (hG : Gr 9 G) (B P : List Int) : treeB G B P = true ↔ TD G B P := by
 have hn := hG.most
 have h0 := Nat.two_pow_pos G.length
 unfold treeB
 constructor
 ·intro h
  by_cases h1 : B.length < 1
  ·rw [if_pos h1] at h; cases h
  rw [if_neg h1] at h
  by_cases h2 : 30 < B.length
  ·rw [if_pos h2] at h; cases h
  rw [if_neg h2] at h
  by_cases h3 : P.length = B.length
  ·rw [if_pos h3] at h
   cases ht : tl1 B P B.length (2 ^ G.length - 1) B.length 0 0 0 with
   | none => rw [ht] at h; cases h
   | some r =>
    rw [ht] at h
    have hin : ∀ i, i < B.length → InT G B P B.length i := fun i hi => tl1_in G B P B.length ht i (Nat.zero_le _) (by omega)
    rw [tl1_eq G B P B.length B.length 0 0 0 fun j _ hj => hin j (by omega)] at ht
    obtain rfl := Option.some.inj ht
    simp only [treeB2] at h
    by_cases h4 : rootsF P B.length 0 0 = 1
    ·rw [if_pos h4] at h
     by_cases h5 : unionF B B.length 0 0 = 2 ^ G.length - 1
     ·rw [if_pos h5] at h
      by_cases h6 : P.any (cycB P P.length) = true
      ·rw [if_pos h6] at h; cases h
      ·rw [if_neg h6, tl2_iff] at h
       rw [h3] at h6
       refine ⟨by omega, by omega, h3, hin, h4, (acyc_iff h3 fun i hi => (hin i hi).2.1).1 (by simpa using h6), fun v hv => (h v (Nat.zero_le _) (by omega)).1, fun v u hvu => ?_⟩
       have hv := hG.adj_lt' hvu
       have hu := hG.adj_lt hvu
       exact (nbF_iff B v _).1 (h v (Nat.zero_le _) (by omega)).2 u (mem_els.2 ⟨by omega, hvu⟩)
     ·rw [if_neg h5] at h; cases h
    ·rw [if_neg h4] at h; cases h
  ·rw [if_neg h3] at h; cases h
 ·intro h
  have e1 := h.pos
  have e2 := h.most
  rw [if_neg (by omega), if_neg (by omega), if_pos h.len, tl1_eq G B P B.length B.length 0 0 0 fun j _ hj => h.inn j (by omega)]
  have hun : unionF B B.length 0 0 = 2 ^ G.length - 1 := Nat.eq_of_testBit_eq fun v => by
   have h1 := unionF_bit B v B.length 0 0
   have h2 := all_bit G.length v
   have h3 : bset (unionF B B.length 0 0) v ↔ bset (2 ^ G.length - 1) v := by
    rw [h1, h2]
    constructor
    ·intro h4
     have h5 : unionF B B.length 0 0 < 2 ^ G.length := unionF_lt B B.length 0 0 h0 fun j _ hj => ⟨(h.inn j (by omega)).2.2.1, (h.inn j (by omega)).2.2.2⟩
     exact bit_lt h5 (h1.2 h4)
    ·intro hv
     apply Classical.byContradiction
     intro h4
     have h5 := h.tops v hv
     rw [topsF_none B P v B.length 0 0 fun j _ hj => by
      cases hb : bitI (rd B (j : Int)) v
      ·rfl
      ·exact absurd (.inr ⟨j, Nat.zero_le _, by omega, hb⟩) h4] at h5
     cases h5
   unfold bset at h3
   exact Bool.eq_iff_iff.2 h3
  simp only [treeB2]
  have hac := (acyc_iff h.len fun i hi => (h.inn i hi).2.1).2 h.acyc
  rw [if_pos h.root, if_pos hun, h.len, if_neg (by rw [hac]; simp), tl2_iff]
  intro v _ hv
  refine ⟨h.tops v (by omega), (nbF_iff B v _).2 fun u hu => h.edge v u (mem_els.1 hu).2⟩
def metF (B : List Int) (v : Nat) : Nat → Nat → Nat → Nat
 | 0, _, t => t
 | d + 1, i, t => metF B v d (i + 1) (if bitI (rd B (i : Int)) v then t ||| (rd B (i : Int)).toNat else t)
theorem metF_bit (B : List Int) (v u : Nat) : ∀ (d i t : Nat), bset (metF B v d i t) u ↔ bset t u ∨ ∃ j, i ≤ j ∧ j < i + d ∧ bitI (rd B (j : Int)) v = true ∧ bitI (rd B (j : Int)) u = true
 | 0, i, t => ⟨fun h => .inl h, fun h => by
   rcases h with h | ⟨j, h1, h2, _⟩
   ·exact h
   ·omega⟩
 | d + 1, i, t => by
  rw [metF, metF_bit B v u d (i + 1)]
  have e : bset (if bitI (rd B (i : Int)) v then t ||| (rd B (i : Int)).toNat else t) u ↔ bset t u ∨ (bitI (rd B (i : Int)) v = true ∧ bitI (rd B (i : Int)) u = true) := by
   by_cases hb : bitI (rd B (i : Int)) v = true
   ·rw [if_pos hb]
    unfold bset bitI at *
    rw [Nat.testBit_or, Bool.or_eq_true]
    simp [hb]
   ·rw [if_neg hb]
    simp [hb]
  rw [e]
  constructor
  ·rintro ((h | h) | ⟨j, h1, h2, h3⟩)
   ·exact .inl h
   ·exact .inr ⟨i, Nat.le_refl _, by omega, h⟩
   ·exact .inr ⟨j, by omega, by omega, h3⟩
  ·rintro (h | ⟨j, h1, h2, h3⟩)
   ·exact .inl (.inl h)
   ·by_cases e : j = i
    ·subst e; exact .inl (.inr h3)
    ·exact .inr ⟨j, by omega, by omega, h3⟩
section
variable {G : List Nat} (hG : Gr 9 G) {B P : List Int} {n : Nat} (hB : B.length = n) (hP : P.length = n) (hn : n ≤ 30)
include hG hB hP hn
theorem isTree_l4 (hin : ∀ i, i < n → InT G B P n i) (m v : Nat) (hv : v < G.length) (X : Int × Bool)
  (hbad : (topsF B P v n 0 0 ≠ 1 ∨ ∃ u, Adj G v u ∧ ¬ bset (metF B v n 0 0) u) → X = (0, false))
  (hgood : topsF B P v n 0 0 = 1 → (∀ u, Adj G v u → bset (metF B v n 0 0) u) → Ev (fun k => lampblackref02_IsTree.l3 k (gi G) (m : Int) (G.length : Int) ((v + 1 : Nat) : Int) B P) X) :
  ∀ d i t a, i + d = n → t ≤ i → a < 2 ^ G.length → topsF B P v d i t = topsF B P v n 0 0 → metF B v d i a = metF B v n 0 0 →
   Ev (fun k => lampblackref02_IsTree.l4 k (gi G) (m : Int) (v : Int) (t : Int) (a : Int) (G.length : Int) (v : Int) B (n : Int) (i : Int) B P) X := by
 have hg9 := hG.most
 have h29 : 2 ^ G.length ≤ 2 ^ 9 := Nat.pow_le_pow_right (by omega) hg9
 intro d
 induction d with
 | zero =>
  intro i t a hi ht ha h1 h2
  rw [topsF] at h1
  rw [metF] at h2
  have hrow := hG.lt v hv
  by_cases h3 : t = 1
  ·have hr : rd (gi G) (v : Int) = ((G.getD v 0 : Nat) : Int) := rd_gi G v
   have hd := b_andNot (G.getD v 0) a (by omega) (by omega)
   by_cases h4 : ∀ u, Adj G v u → bset (metF B v n 0 0) u
   ·have h0 : diff (G.getD v 0) a = 0 := Nat.eq_of_testBit_eq fun u => by
     rw [diff_testBit, Nat.zero_testBit]
     cases hb : (G.getD v 0).testBit u
     ·rfl
     ·have := h4 u hb
      rw [← h2] at this
      unfold bset at this
      rw [this]; rfl
    refine Ev.step (fun k => ?_) (hgood (by omega) h4)
    rw [lampblackref02_IsTree.l4, if_neg (by omega), if_pos (by omega), if_pos (by omega), if_pos (by rw [gi_length]; omega), hr, hd, h0, if_pos (by omega), wrap_succ v (by omega)]
   ·rw [hbad (.inr (by
     apply Classical.byContradiction
     intro hno
     exact h4 fun u hu => Classical.byContradiction fun hx => hno ⟨u, hu, hx⟩))]
    have h0 : diff (G.getD v 0) a ≠ 0 := fun h => h4 fun u hu => by
     have h5 := diff_testBit (G.getD v 0) a u
     rw [h, Nat.zero_testBit] at h5
     have h6 : (G.getD v 0).testBit u = true := hu
     rw [h6] at h5
     rw [← h2]
     unfold bset
     simpa using h5
    refine Ev.step (f := fun _ => some (0, false)) (fun k => ?_) (Ev.some rfl)
    rw [lampblackref02_IsTree.l4, if_neg (by omega), if_pos (by omega), if_pos (by omega), if_pos (by rw [gi_length]; omega), hr, hd, if_neg (by omega)]
  ·rw [hbad (.inl (by omega))]
   refine Ev.step (f := fun _ => some (0, false)) (fun k => ?_) (Ev.some rfl)
   rw [lampblackref02_IsTree.l4, if_neg (by omega), if_neg (by omega)]
 | succ d ih =>
  intro i t a hi ht ha h1 h2
  have hil : i < n := by omega
  obtain ⟨p1, p2, b1, b2⟩ := hin i hil
  rw [topsF] at h1
  rw [metF] at h2
  obtain ⟨b, hb⟩ : ∃ b : Nat, rd B (i : Int) = (b : Int) := ⟨(rd B (i : Int)).toNat, by omega⟩
  have hbt : (rd B (i : Int)).toNat = b := by omega
  have hbl : b < 2 ^ G.length := by omega
  have hbi : bitI (rd B (i : Int)) v = b.testBit v := by unfold bitI; rw [hbt]
  rw [hbi] at h1 h2
  rw [hbt] at h2
  cases hbv : b.testBit v
  ·rw [hbv] at h1 h2
   simp at h1 h2
   refine Ev.step (fun k => ?_) (ih (i + 1) t a (by omega) (by omega) ha h1 h2)
   rw [lampblackref02_IsTree.l4, if_pos (by omega), if_pos (by omega), if_pos (by omega), if_pos (by omega), hb, if_pos ((bit_zero b v (by omega) (by omega)).2 hbv), wrap_succ i (by omega)]
  ·rw [hbv] at h1 h2
   simp only [Bool.true_and, if_true] at h1 h2
   have hor := b_or a b (by omega) (by omega)
   have hal : a ||| b < 2 ^ G.length := Nat.or_lt_two_pow ha hbl
   have hnz : ¬ Go.bits .and .i64 (shr .i64 (b : Int) (v : Int)) 1 = 0 := fun h => by
    rw [bit_zero b v (by omega) (by omega), hbv] at h; cases h
   by_cases hp : rd P (i : Int) < 0
   ·rw [decide_eq_true hp, Bool.true_or, if_pos rfl] at h1
    refine Ev.step (fun k => ?_) (ih (i + 1) (t + 1) (a ||| b) (by omega) (by omega) hal h1 h2)
    rw [lampblackref02_IsTree.l4, if_pos (by omega), if_pos (by omega), if_pos (by omega), if_pos (by omega), hb, if_neg hnz, if_pos (by omega), if_pos hp, hor, wrap_succ i (by omega), wrap_succ t (by omega)]
   ·rw [decide_eq_false hp, Bool.false_or] at h1
    obtain ⟨q, hq⟩ : ∃ q : Nat, rd P (i : Int) = (q : Int) := ⟨(rd P (i : Int)).toNat, by omega⟩
    have hqn : q < n := by omega
    obtain ⟨_, _, c1, c2⟩ := hin q hqn
    obtain ⟨c, hc⟩ : ∃ c : Nat, rd B (q : Int) = (c : Int) := ⟨(rd B (q : Int)).toNat, by omega⟩
    have hcl : c < 2 ^ G.length := by omega
    have hci : bitI (rd B (q : Int)) v = c.testBit v := by unfold bitI; rw [hc]; rfl
    rw [hq, hci] at h1
    cases hcv : c.testBit v
    ·rw [hcv] at h1
     simp only [Bool.not_false, if_true] at h1
     refine Ev.step (fun k => ?_) (ih (i + 1) (t + 1) (a ||| b) (by omega) (by omega) hal h1 h2)
     rw [lampblackref02_IsTree.l4, if_pos (by omega), if_pos (by omega), if_pos (by omega), if_pos (by omega), hb, if_neg hnz, if_pos (by omega), if_neg hp, hq, if_pos (by omega), if_pos (by omega), hc, if_pos ((bit_zero c v (by omega) (by omega)).2 hcv), hor, wrap_succ i (by omega), wrap_succ t (by omega)]
    ·rw [hcv] at h1
     simp only [Bool.not_true, Bool.false_eq_true, if_false] at h1
     refine Ev.step (fun k => ?_) (ih (i + 1) t (a ||| b) (by omega) (by omega) hal h1 h2)
     rw [lampblackref02_IsTree.l4, if_pos (by omega), if_pos (by omega), if_pos (by omega), if_pos (by omega), hb, if_neg hnz, if_pos (by omega), if_neg hp, hq, if_pos (by omega), if_pos (by omega), hc, if_neg (fun h => by rw [bit_zero c v (by omega) (by omega), hcv] at h; cases h), hor, wrap_succ i (by omega)]
theorem isTree_l3 (hin : ∀ i, i < n → InT G B P n i) (m : Nat) (hm : m ≤ 9) (X : Int × Bool)
  (hbad : (∃ v, v < G.length ∧ (topsF B P v n 0 0 ≠ 1 ∨ ∃ u, Adj G v u ∧ ¬ bset (metF B v n 0 0) u)) → X = (0, false))
  (hgood : (∀ v, v < G.length → topsF B P v n 0 0 = 1 ∧ ∀ u, Adj G v u → bset (metF B v n 0 0) u) → X = ((m : Int) - 1, true)) :
  ∀ d v, v + d = G.length → (∀ u, u < v → topsF B P u n 0 0 = 1 ∧ ∀ w, Adj G u w → bset (metF B u n 0 0) w) → Ev (fun k => lampblackref02_IsTree.l3 k (gi G) (m : Int) (G.length : Int) (v : Int) B P) X := by
 have hg9 := hG.most
 intro d
 induction d with
 | zero =>
  intro v hv hbe
  rw [hgood fun u hu => hbe u (by omega)]
  refine Ev.step (f := fun _ => some (wrap64 ((m : Int) - 1), true)) (fun k => by rw [lampblackref02_IsTree.l3, if_neg (by omega)]) (Ev.some ?_)
  rw [w64_small _ (by omega) (by omega)]
 | succ d ih =>
  intro v hv hbe
  refine Ev.step (fun k => by rw [lampblackref02_IsTree.l3, if_pos (by omega), hB]) ?_
  refine isTree_l4 hG hB hP hn hin m v (by omega) X (fun h => hbad ⟨v, by omega, h⟩) (fun h1 h2 => ih (v + 1) (by omega) fun u hu => ?_) n 0 0 0 (by omega) (Nat.le_refl _) (Nat.two_pow_pos _) rfl rfl
  by_cases e : u = v
  ·subst e; exact ⟨h1, h2⟩
  ·exact hbe u (by omega)
omit hG in
theorem isTree_l2 (hin : ∀ i, i < n → InT G B P n i) (ro m i : Nat) (hi : i < n) (X : Int × Bool)
  (hbad : ¬ upN P n (i : Int) < 0 → X = (0, false))
  (hgood : upN P n (i : Int) < 0 → Ev (fun k => lampblackref02_IsTree.l1 k (gi G) (n : Int) (ro : Int) (m : Int) (n : Int) ((i + 1 : Nat) : Int) B P) X) :
  ∀ d j a, j + d = n → a < (n : Int) → upN P d a = upN P n (i : Int) → Ev (fun k => lampblackref02_IsTree.l2 k (gi G) (n : Int) (ro : Int) (m : Int) a (n : Int) (i : Int) (n : Int) (j : Int) B P) X := by
 intro d
 induction d with
 | zero =>
  intro j a hj ha h
  rw [upN] at h
  by_cases h0 : a < 0
  ·refine Ev.step (fun k => ?_) (hgood (by omega))
   rw [lampblackref02_IsTree.l2, if_neg (by omega), if_neg (by omega), wrap_succ i (by omega)]
  ·rw [hbad (by omega)]
   refine Ev.step (f := fun _ => some (0, false)) (fun k => ?_) (Ev.some rfl)
   rw [lampblackref02_IsTree.l2, if_neg (by omega), if_pos (by omega)]
 | succ d ih =>
  intro j a hj ha h
  rw [upN, upI] at h
  by_cases h0 : a < 0
  ·rw [if_pos h0] at h
   refine Ev.step (fun k => ?_) (ih (j + 1) a (by omega) ha h)
   rw [lampblackref02_IsTree.l2, if_pos (by omega), if_neg (by omega), wrap_succ j (by omega)]
  ·rw [if_neg h0] at h
   have h2 := (hin a.toNat (by omega)).2.1
   rw [show ((a.toNat : Nat) : Int) = a by omega] at h2
   refine Ev.step (fun k => ?_) (ih (j + 1) (rd P a) (by omega) h2 h)
   rw [lampblackref02_IsTree.l2, if_pos (by omega), if_pos (by omega), if_pos (by omega), if_pos (by omega), wrap_succ j (by omega)]
omit hG in
theorem isTree_l1 (hin : ∀ i, i < n → InT G B P n i) (ro m : Nat) (X : Int × Bool)
  (hbad : ((∃ i : Nat, i < n ∧ ¬ upN P n (i : Int) < 0) ∨ ro ≠ 1) → X = (0, false))
  (hgood : (∀ i : Nat, i < n → upN P n (i : Int) < 0) → ro = 1 → Ev (fun k => lampblackref02_IsTree.l3 k (gi G) (m : Int) (G.length : Int) 0 B P) X) :
  ∀ d i, i + d = n → (∀ j : Nat, j < i → upN P n (j : Int) < 0) → Ev (fun k => lampblackref02_IsTree.l1 k (gi G) (n : Int) (ro : Int) (m : Int) (n : Int) (i : Int) B P) X := by
 intro d
 induction d with
 | zero =>
  intro i hi hbe
  by_cases h1 : ro = 1
  ·refine Ev.step (fun k => ?_) (hgood (fun j hj => hbe j (by omega)) h1)
   rw [lampblackref02_IsTree.l1, if_neg (by omega), if_pos (by omega), gi_length]
  ·rw [hbad (.inr h1)]
   refine Ev.step (f := fun _ => some (0, false)) (fun k => ?_) (Ev.some rfl)
   rw [lampblackref02_IsTree.l1, if_neg (by omega), if_neg (by omega)]
 | succ d ih =>
  intro i hi hbe
  refine Ev.step (fun k => by rw [lampblackref02_IsTree.l1, if_pos (by omega)]) ?_
  refine isTree_l2 hB hP hn hin ro m i (by omega) X (fun h => hbad (.inl ⟨i, by omega, h⟩)) (fun h => ih (i + 1) (by omega) fun j hj => ?_) n 0 (i : Int) (by omega) (by omega) rfl
  by_cases e : j = i
  ·subst e; exact h
  ·exact hbe j (by omega)
theorem isTree_l0 (X : Int × Bool) (hbad : (∃ i, i < n ∧ ¬ InT G B P n i) → X = (0, false)) (RO MO : Nat)
  (hgood : (∀ i, i < n → InT G B P n i) → Ev (fun k => lampblackref02_IsTree.l1 k (gi G) (n : Int) (RO : Int) (MO : Int) (n : Int) 0 B P) X) :
  ∀ d i ro m, i + d = n → ro ≤ i → rootsF P d i ro = RO → mostF B d i m = MO → (∀ j, j < i → InT G B P n j) → Ev (fun k => lampblackref02_IsTree.l0 k (gi G) (n : Int) (ro : Int) (m : Int) P (n : Int) (i : Int) B P) X := by
 have hg9 := hG.most
 have h29 : 2 ^ G.length ≤ 2 ^ 9 := Nat.pow_le_pow_right (by omega) hg9
 intro d
 induction d with
 | zero =>
  intro i ro m hi hro h1 h2 hbe
  rw [rootsF] at h1
  rw [mostF] at h2
  subst h1 h2
  exact Ev.step (fun k => by rw [lampblackref02_IsTree.l0, if_neg (by omega), hP]) (hgood fun j hj => hbe j (by omega))
 | succ d ih =>
  intro i ro m hi hro h1 h2 hbe
  have hil : i < n := by omega
  have hs := s_one G.length (by omega)
  have bad : ¬ InT G B P n i → Ev (fun k => lampblackref02_IsTree.j2 k (gi G) (n : Int) (ro : Int) (m : Int) (i : Int) (rd P (i : Int)) P (n : Int) (i : Int) true B P) X := fun h => by
   rw [hbad ⟨i, hil, h⟩]
   exact Ev.step (f := fun _ => some (0, false)) (fun k => by rw [lampblackref02_IsTree.j2, if_pos rfl]) (Ev.some rfl)
  by_cases p1 : rd P (i : Int) < -1
  ·refine Ev.step (fun k => ?_) (bad fun h => by have := h.1; omega)
   rw [lampblackref02_IsTree.l0, if_pos (by omega), if_pos (by omega), if_pos (by omega), if_pos p1]
  by_cases p2 : rd P (i : Int) ≥ (n : Int)
  ·refine Ev.step (fun k => ?_) (bad fun h => by have := h.2.1; omega)
   rw [lampblackref02_IsTree.l0, if_pos (by omega), if_pos (by omega), if_pos (by omega), if_neg p1, if_pos p2]
  by_cases b1 : rd B (i : Int) < 0
  ·refine Ev.step (fun k => ?_) (bad fun h => by have := h.2.2.1; omega)
   rw [lampblackref02_IsTree.l0, if_pos (by omega), if_pos (by omega), if_pos (by omega), if_neg p1, if_neg p2, if_pos (by omega), if_pos b1]
  by_cases b2 : rd B (i : Int) ≥ ((2 ^ G.length : Nat) : Int)
  ·refine Ev.step (fun k => ?_) (bad fun h => by have := h.2.2.2; omega)
   rw [lampblackref02_IsTree.l0, if_pos (by omega), if_pos (by omega), if_pos (by omega), if_neg p1, if_neg p2, if_pos (by omega), if_neg b1, gi_length, hs, decide_eq_true b2]
  ·have hin : InT G B P n i := ⟨by omega, by omega, by omega, by omega⟩
   obtain ⟨b, hb⟩ : ∃ b : Nat, rd B (i : Int) = (b : Int) := ⟨(rd B (i : Int)).toNat, by omega⟩
   have hbt : (rd B (i : Int)).toNat = b := by omega
   rw [rootsF] at h1
   rw [mostF, hbt] at h2
   have hbe2 : ∀ j, j < i + 1 → InT G B P n j := fun j hj => by
    by_cases e : j = i
    ·subst e; exact hin
    ·exact hbe j (by omega)
   have hsz := size_ev b (by omega)
   refine Ev.step (fun k => by rw [lampblackref02_IsTree.l0, if_pos (by omega), if_pos (by omega), if_pos (by omega), if_neg p1, if_neg p2, if_pos (by omega), if_neg b1, gi_length, hs, decide_eq_false b2]) ?_
   refine Ev.step (fun k => by rw [lampblackref02_IsTree.j2, if_neg (by simp), if_pos (by omega), if_pos (by omega), hb]) (Ev.bind hsz ?_)
   by_cases hp : rd P (i : Int) < 0
   ·rw [if_pos hp] at h1
    refine Ev.if_pos hp ?_
    rw [mx_nat, wrap_succ i (by omega), wrap_succ ro (by omega)]
    exact ih (i + 1) (ro + 1) _ (by omega) (by omega) h1 h2 hbe2
   ·rw [if_neg hp] at h1
    refine Ev.if_neg hp ?_
    rw [mx_nat, wrap_succ i (by omega)]
    exact ih (i + 1) ro _ (by omega) (by omega) h1 h2 hbe2
end
theorem mostF_le (B : List Int) : ∀ (d i t : Nat), t ≤ 9 → mostF B d i t ≤ 9
 | 0, i, t, h => h
 | d + 1, i, t, h => by
  rw [mostF]
  have := pc_le (rd B (i : Int)).toNat 9
  exact mostF_le B d (i + 1) _ (by omega)
theorem refIsTree_ev {G : List Nat} (hG : Gr 9 G) (B P : List Int) : ∃ r : Int × Bool, Ev (fun k => lampblackref02_IsTree.f k (gi G) B P) r ∧ ((TD G B P ∧ r = ((mostF B B.length 0 0 : Int) - 1, true)) ∨ (¬ TD G B P ∧ r = (0, false))) := by
 have no : ∀ b : Bool, b = true → Ev (fun k => lampblackref02_IsTree.j0 k (gi G) (B.length : Int) b B P) (0, false) := fun b hb => by
  rw [hb]
  exact Ev.step (f := fun _ => some (0, false)) (fun k => by rw [lampblackref02_IsTree.j0, if_pos rfl]) (Ev.some rfl)
 unfold lampblackref02_IsTree.f
 by_cases h1 : B.length < 1
 ·exact ⟨_, Ev.if_pos (by omega) (no true rfl), .inr ⟨fun h => by have := h.pos; omega, rfl⟩⟩
 by_cases h2 : 30 < B.length
 ·exact ⟨_, Ev.if_neg (by omega) (Ev.if_pos (by omega) (no true rfl)), .inr ⟨fun h => by have := h.most; omega, rfl⟩⟩
 by_cases h3 : P.length = B.length
 ·obtain ⟨r, hr⟩ : ∃ r : Int × Bool, (TD G B P ∧ r = ((mostF B B.length 0 0 : Int) - 1, true)) ∨ (¬ TD G B P ∧ r = (0, false)) := by
   by_cases h : TD G B P
   ·exact ⟨_, .inl ⟨h, rfl⟩⟩
   ·exact ⟨_, .inr ⟨h, rfl⟩⟩
  have hbad : ¬ TD G B P → r = (0, false) := fun h => by
   rcases hr with hr | hr
   ·exact absurd hr.1 h
   ·exact hr.2
  have hgood : TD G B P → r = ((mostF B B.length 0 0 : Int) - 1, true) := fun h => by
   rcases hr with hr | hr
   ·exact hr.2
   ·exact absurd h hr.1
  refine ⟨r, Ev.if_neg (by omega) (Ev.if_neg (by omega) ?_), hr⟩
  have hne : ((P.length : Int) != (B.length : Int)) = false := by rw [h3]; simp
  rw [hne]
  refine Ev.step (fun k => by rw [lampblackref02_IsTree.j0, if_neg (by simp), h3]) ?_
  refine isTree_l0 hG rfl h3 (by omega) r (fun ⟨i, hi, h⟩ => hbad fun ht => h (ht.inn i hi)) (rootsF P B.length 0 0) (mostF B B.length 0 0) (fun hin => ?_) B.length 0 0 0 (by omega) (Nat.le_refl _) rfl rfl (fun _ h => by omega)
  refine isTree_l1 (G := G) rfl h3 (by omega) hin _ _ r (fun h => hbad fun ht => ?_) (fun hac hro => ?_) B.length 0 (by omega) (fun _ h => by omega)
  ·rcases h with ⟨i, hi, h⟩ | h
   ·exact h (ht.acyc i hi)
   ·exact h ht.root
  ·have hedge : ∀ v u, bset (metF B v B.length 0 0) u ↔ ∃ i : Nat, i < B.length ∧ bitI (rd B (i : Int)) v = true ∧ bitI (rd B (i : Int)) u = true := fun v u => by
    rw [metF_bit]
    constructor
    ·rintro (h | ⟨j, _, h2, h3⟩)
     ·simp [bset] at h
     ·exact ⟨j, by omega, h3⟩
    ·rintro ⟨j, h2, h3⟩
     exact .inr ⟨j, Nat.zero_le _, by omega, h3⟩
   refine isTree_l3 hG rfl h3 (by omega) hin _ (mostF_le B _ 0 0 (by omega)) r (fun ⟨v, hv, h⟩ => hbad fun ht => ?_) (fun h => hgood ?_) G.length 0 (by omega) (fun _ h => by omega)
   ·rcases h with h | ⟨u, hu, h⟩
    ·exact h (ht.tops v hv)
    ·exact h ((hedge v u).2 (ht.edge v u hu))
   ·exact ⟨by omega, by omega, h3, hin, hro, hac, fun v hv => (h v hv).1, fun v u hvu => (hedge v u).1 ((h v (hG.adj_lt' hvu)).2 u hvu)⟩
 ·refine ⟨_, Ev.if_neg (by omega) (Ev.if_neg (by omega) (no _ ?_)), .inr ⟨fun h => h3 h.len, rfl⟩⟩
  simp; omega
end Go.Proofs.YtoffehihicabcaaDoor.X
end
section
namespace Go.Proofs.YtoffehihicabcaaDoor.X
open Go.RowKit YtoffehihicabcaaDoorW.PrintWords YtoffehihicabcaaDoorW.PrintLast YtoffehihicabcaaDoorW.PrintMore
attribute [local go_sem] max2_int min2_int max_two min_two max_three min_three max_four min_four
noncomputable section
mutual
def lampblackref02_Order.l0 : Nat → List Int → List Int → List Int → Int → Int → Int → Option (List Int)
 | 0, _, _, _, _, _, _ => none
 | k + 1, x0, x3, x4, x5, x10, x11 => if x11 < x10 then (lampblackref02_Order.l1 k x0 x3 x4 x5 x10 x11 (x0.length : Int) 0) else (some x4)
def lampblackref02_Order.l1 : Nat → List Int → List Int → List Int → Int → Int → Int → Int → Int → Option (List Int)
 | 0, _, _, _, _, _, _, _, _ => none
 | k + 1, x0, x3, x4, x5, x10, x11, x14, x15 => if x15 < x14 then (if 0 ≤ x15 then (if (Go.bits .and .i64 (shr .i64 x5 x15) 1) = 0 then ((lampblackref02_turn.f k x0 x5 x15).bind fun t363 => (if 0 ≤ (Go.bits .or .i64 x5 (shl .i64 1 x15)) then (if (Go.bits .or .i64 x5 (shl .i64 1 x15)) < (x3.length : Int) then (if 0 < (x3.length : Int) then (if (mx t363 (rd x3 (Go.bits .or .i64 x5 (shl .i64 1 x15)))) ≤ (rd x3 0) then (if x4.length < 17592186044416 then (lampblackref02_Order.l0 k x0 x3 (x4 ++ [x15]) (Go.bits .or .i64 x5 (shl .i64 1 x15)) x10 (wrap64 (x11 + 1))) else (none)) else (lampblackref02_Order.l1 k x0 x3 x4 x5 x10 x11 x14 (wrap64 (x15 + 1)))) else (none)) else (none)) else (none))) else (lampblackref02_Order.l1 k x0 x3 x4 x5 x10 x11 x14 (wrap64 (x15 + 1)))) else (none)) else (lampblackref02_Order.l0 k x0 x3 x4 x5 x10 (wrap64 (x11 + 1)))
end
end
noncomputable section
def lampblackref02_Along.l0 : Nat → List Int → Int → Int → List Int → Int → Int → Option (Int)
 | 0, _, _, _, _, _, _ => none
 | k + 1, x0, x5, x6, x9, x10, x11 => if x11 < x10 then (if 0 ≤ x11 then (if x11 < (x9.length : Int) then ((lampblackref02_turn.f k x0 x6 (rd x9 x11)).bind fun t371 => (if 0 ≤ (rd x9 x11) then (lampblackref02_Along.l0 k x0 (mx x5 t371) (Go.bits .or .i64 x6 (shl .i64 1 (rd x9 x11))) x9 x10 (wrap64 (x11 + 1))) else (none))) else (none)) else (none)) else (some x5)
end
noncomputable section
def lampblackref02_IsOrder.l0 : Nat → List Int → Int → Int → List Int → Int → Int → Option (Bool)
 | 0, _, _, _, _, _, _ => none
 | k + 1, x0, x1, x5, x8, x9, x10 => if x10 < x9 then (if 0 ≤ x10 then (if x10 < (x8.length : Int) then (if (rd x8 x10) < 0 then (some false) else (if (rd x8 x10) ≥ x1 then (some false) else (if 0 ≤ (rd x8 x10) then (if (Go.bits .and .i64 (shr .i64 x5 (rd x8 x10)) 1) = 1 then (some false) else (lampblackref02_IsOrder.l0 k x0 x1 (Go.bits .or .i64 x5 (shl .i64 1 (rd x8 x10))) x8 x9 (wrap64 (x10 + 1)))) else (none)))) else (none)) else (none)) else (some ((x0.length : Int) == x1))
end
noncomputable section
def width_town_isOrder.l0 : Nat → List Int → List Int → Int → List Int → Int → Int → Option (Bool)
 | 0, _, _, _, _, _, _ => none
 | k + 1, x0, x1, x5, x8, x9, x10 => if x10 < x9 then (if 0 ≤ x10 then (if x10 < (x8.length : Int) then (if (rd x8 x10) < 0 then (some false) else (if (rd x8 x10) ≥ (x0.length : Int) then (some false) else (if 0 ≤ (rd x8 x10) then (width_town_isOrder.l0 k x0 x1 (Go.bits .or .i64 x5 (shl .i64 1 (rd x8 x10))) x8 x9 (wrap64 (x10 + 1))) else (none)))) else (none)) else (none)) else (if (x1.length : Int) = (x0.length : Int) then ((width_town_all.f x0).bind fun t335 => (some (x5 == t335))) else (some false))
end
noncomputable section
mutual
def width_Along.j0 : Nat → List Int → List Int → Bool → Option (Int × Int)
 | 0, _, _, _ => none
 | k + 1, x1, x6, x24 => if x24 = true then (some (0, 2)) else (width_Along.l0 k x6 0 0 x1 (x1.length : Int) 0)
def width_Along.l0 : Nat → List Int → Int → Int → List Int → Int → Int → Option (Int × Int)
 | 0, _, _, _, _, _, _ => none
 | k + 1, x6, x8, x9, x25, x26, x27 => if x27 < x26 then (if 0 ≤ x27 then (if x27 < (x25.length : Int) then ((width_town_degree.f k x6 (rd x25 x27) x8).bind fun t342 => (if 0 ≤ (rd x25 x27) then (width_Along.l0 k x6 (Go.bits .or .i64 x8 (shl .i64 1 (rd x25 x27))) (mx x9 t342) x25 x26 (wrap64 (x27 + 1))) else (none))) else (none)) else (none)) else (some (x9, 0))
end
end
noncomputable section
end
end Go.Proofs.YtoffehihicabcaaDoor.X
end
section
namespace Go.Proofs.YtoffehihicabcaaDoor.X
open Go.RowKit YtoffehihicabcaaDoorW.PrintWords YtoffehihicabcaaDoorW.PrintLast YtoffehihicabcaaDoorW.PrintMore YtoffehihicabcaaDoor.T
theorem dg_le {G : List Nat} (hG : Gr 9 G) (gone v : Nat) : dg G gone v ≤ G.length := by
 unfold dg
 rw [pc_nine (nbset_lt hG _ _) hG.most]
 exact pc_le _ _
theorem canB_big {G : List Nat} (hG : Gr 9 G) {k : Nat} (hk : G.length ≤ k) : ∀ d gone, pc (lft G gone) 9 = d → gone < 2 ^ G.length → canB G k gone = true := by
 have hn := hG.most
 intro d
 induction d with
 | zero =>
  intro gone hd hg
  by_cases hne : gone = 2 ^ G.length - 1
  ·rw [hne]; exact canB_all k
  ·exact absurd hd (pc_pos (lft_small hn gone) (lft_ne hg hne))
 | succ d ih =>
  intro gone hd hg
  by_cases hne : gone = 2 ^ G.length - 1
  ·rw [hne]; exact canB_all k
  ·obtain ⟨v, hv⟩ := some_bit (lft_ne hg hne)
   have := pc_lft hn hv
   exact (canB_true hn hg hne).2 ⟨v, hv, Nat.le_trans (dg_le hG gone v) hk, ih _ (by omega) (or_in hg hv)⟩
theorem turn_ev {G : List Nat} (hG : Gr 9 G) {gone v : Nat} (hg : gone < 2 ^ G.length) (hv : v < G.length) : Ev (fun k => lampblackref02_turn.f k (gi G) (gone : Int) (v : Int)) ((dg G gone v : Nat) : Int) := by
 have hn := hG.most
 have hp : 2 ^ v < 2 ^ G.length := Nat.pow_lt_pow_right (by omega) hv
 have hA := Around_lt hG (conset G (2 ^ v) (gone ||| 2 ^ v))
 have hd : diff (Around G (conset G (2 ^ v) (gone ||| 2 ^ v))) gone < 2 ^ G.length := Nat.lt_of_le_of_lt (diff_le _ _) hA
 unfold lampblackref02_turn.f
 refine Ev.if_pos (by omega) ?_
 simp only [s_one v (by omega), b_or gone (2 ^ v) (big (small G hn hg)) (big (small G hn hp))]
 refine Ev.bind (reached_ev 9 G hG (by omega) _ v (or_lt hg hp) hv) ?_
 refine Ev.bind (refAround G hG _ (conset_lt G _ _)) ?_
 simp only [b_andNot _ gone (big (small G hn hA)) (big (small G hn hg)), b_andNot _ (2 ^ v) (big (small G hn hd)) (big (small G hn hp))]
 exact Ev.bind (size_ev _ (small G hn (nbset_lt hG gone v))) (Ev.some rfl)
def RS (G : List Nat) (S x : Nat) : Prop := ∀ k, x ≤ k ↔ canB G k S = true
def GoodR (G : List Nat) (r : List Int) : Prop := ∃ W : List Nat, r = gi W ∧ W.length = 2 ^ G.length ∧ ∀ S, S < 2 ^ G.length → RS G S (W.getD S 0)
theorem rest_l1 {G : List Nat} (hG : Gr 9 G) (S : Nat) (hS : S < 2 ^ G.length) (hne : S ≠ 2 ^ G.length - 1)
  (cont : ∀ W : List Nat, W.length = 2 ^ G.length → (∀ T, S ≤ T → T < 2 ^ G.length → RS G T (W.getD T 0)) → ∃ r, Ev (fun k => lampblackref02_rest.l0 k (gi G) (G.length : Int) (gi W) (wrap64 ((S : Int) - 1))) r ∧ GoodR G r) :
  ∀ d v (W : List Nat), v + d = G.length → W.length = 2 ^ G.length → (∀ T, S < T → T < 2 ^ G.length → RS G T (W.getD T 0)) →
   (∀ k, W.getD S 0 ≤ k ↔ G.length ≤ k ∨ ∃ u, u < v ∧ bset (lft G S) u ∧ dg G S u ≤ k ∧ canB G k (S ||| 2 ^ u) = true) →
   ∃ r, Ev (fun k => lampblackref02_rest.l1 k (gi G) (G.length : Int) (gi W) (S : Int) (G.length : Int) (v : Int)) r ∧ GoodR G r := by
 have hn := hG.most
 have h29 : 2 ^ G.length ≤ 2 ^ 9 := Nat.pow_le_pow_right (by omega) hn
 intro d
 induction d with
 | zero =>
  intro v W hv hW hT hc
  have hRS : RS G S (W.getD S 0) := by
   intro k
   rw [hc k]
   by_cases hk : G.length ≤ k
   ·exact ⟨fun _ => canB_big hG hk _ S rfl hS, fun _ => .inl hk⟩
   ·rw [canB_true hn hS hne]
    constructor
    ·rintro (h | ⟨u, _, h1, h2, h3⟩)
     ·exact (hk h).elim
     ·exact ⟨u, h1, h2, h3⟩
    ·rintro ⟨u, h1, h2, h3⟩
     exact .inr ⟨u, by have := ((lft_bit G S u).1 h1).1; omega, h1, h2, h3⟩
  obtain ⟨r, h1, h2⟩ := cont W hW (fun T hT1 hT2 => by
   by_cases e : T = S
   ·subst e; exact hRS
   ·exact hT T (by omega) hT2)
  exact ⟨r, Ev.step (fun k => by rw [lampblackref02_rest.l1, if_neg (by omega)]) h1, h2⟩
 | succ d ih =>
  intro v W hv hW hT hc
  have hvn : v < G.length := by omega
  have hgl := gi_length W
  by_cases hb : S.testBit v = true
  ·have hnl : ¬ bset (lft G S) v := fun h => ((lft_bit G S v).1 h).2 hb
   obtain ⟨r, h1, h2⟩ := ih (v + 1) W (by omega) hW hT (fun k => by
    rw [hc k]
    constructor
    ·rintro (h | ⟨u, hu, h⟩)
     ·exact .inl h
     ·exact .inr ⟨u, by omega, h⟩
    ·rintro (h | ⟨u, hu, h⟩)
     ·exact .inl h
     ·by_cases e : u = v
      ·subst e; exact absurd h.1 hnl
      ·exact .inr ⟨u, by omega, h⟩)
   refine ⟨r, Ev.step (fun k => ?_) h1, h2⟩
   rw [lampblackref02_rest.l1, if_pos (by omega), if_pos (by omega), if_neg (by rw [bit_zero S v (by omega) (by omega), hb]; simp), wrap_succ v (by omega)]
  ·have hb' : S.testBit v = false := by simpa using hb
   have hlb : bset (lft G S) v := (lft_bit G S v).2 ⟨hvn, hb⟩
   have hor := or_in hS hlb
   have hgt : S < S ||| 2 ^ v := by
    have h1 : S ≤ S ||| 2 ^ v := Nat.left_le_or
    have h2 : S ≠ S ||| 2 ^ v := fun e => by
     have : bset (S ||| 2 ^ v) v := (or_bit S v v).2 (.inr rfl)
     rw [← e] at this
     exact hb this
    omega
   have hRv := hT _ hgt hor
   have hp : 2 ^ v < 2 ^ G.length := Nat.pow_lt_pow_right (by omega) hvn
   obtain ⟨r, h1, h2⟩ := ih (v + 1) (W.set S (min (W.getD S 0) (max (dg G S v) (W.getD (S ||| 2 ^ v) 0)))) (by omega) (by rw [List.length_set, hW]) (fun T hT1 hT2 => by
    rw [getD_set W S T _ (by omega), if_neg (by omega)]
    exact hT T hT1 hT2) (fun k => by
    have emm : ∀ a b c : Nat, min a (max b c) ≤ k ↔ a ≤ k ∨ (b ≤ k ∧ c ≤ k) := fun a b c => by omega
    rw [getD_set W S S _ (by omega), if_pos rfl, emm, hc k, hRv k]
    constructor
    ·rintro ((h | ⟨u, hu, h⟩) | ⟨h3, h4⟩)
     ·exact .inl h
     ·exact .inr ⟨u, by omega, h⟩
     ·exact .inr ⟨v, by omega, hlb, h3, h4⟩
    ·rintro (h | ⟨u, hu, h3, h4, h5⟩)
     ·exact .inl (.inl h)
     ·by_cases e : u = v
      ·subst e; exact .inr ⟨h4, h5⟩
      ·exact .inl (.inr ⟨u, by omega, h3, h4, h5⟩))
   have e1 : Go.bits .or .i64 (S : Int) (shl .i64 1 (v : Int)) = ((S ||| 2 ^ v : Nat) : Int) := by
    rw [s_one v (by omega), b_or S (2 ^ v) (by omega) (by omega)]
   refine ⟨r, Ev.step (f := fun k => (lampblackref02_turn.f k (gi G) (S : Int) (v : Int)).bind fun t => if 0 ≤ ((S ||| 2 ^ v : Nat) : Int) then (if ((S ||| 2 ^ v : Nat) : Int) < ((gi W).length : Int) then lampblackref02_rest.l1 k (gi G) (G.length : Int) ((gi W).set (S : Int).toNat (mn (rd (gi W) (S : Int)) (mx t (rd (gi W) ((S ||| 2 ^ v : Nat) : Int))))) (S : Int) (G.length : Int) ((v + 1 : Nat) : Int) else none) else none) (fun k => ?_) (Ev.bind (turn_ev hG hS hvn) (Ev.if_pos (by omega) (Ev.if_pos (by omega) ?_))), h2⟩
   ·rw [lampblackref02_rest.l1, if_pos (by omega), if_pos (by omega), if_pos ((bit_zero S v (by omega) (by omega)).2 hb'), if_pos (by omega), if_pos (by omega), e1, wrap_succ v (by omega)]
   ·simp only [rd_gi, mx_nat, mn_nat, Int.toNat_natCast, gi_set]
    exact h1
theorem rest_l0 {G : List Nat} (hG : Gr 9 G) : ∀ d (W : List Nat), d + 1 ≤ 2 ^ G.length → W.length = 2 ^ G.length → (∀ T, d ≤ T → T < 2 ^ G.length → RS G T (W.getD T 0)) →
  ∃ r, Ev (fun k => lampblackref02_rest.l0 k (gi G) (G.length : Int) (gi W) ((d : Int) - 1)) r ∧ GoodR G r := by
 have hn := hG.most
 have h29 : 2 ^ G.length ≤ 2 ^ 9 := Nat.pow_le_pow_right (by omega) hn
 intro d
 induction d with
 | zero =>
  intro W hd hW hT
  exact ⟨gi W, Ev.step (f := fun _ => some (gi W)) (fun k => by rw [lampblackref02_rest.l0, if_neg (by omega)]) (Ev.some rfl), W, rfl, hW, fun S hS => hT S (by omega) hS⟩
 | succ d ih =>
  intro W hd hW hT
  have hgl := gi_length W
  have e0 : (((d + 1 : Nat) : Int) - 1) = (d : Int) := by omega
  rw [e0]
  have hlen2 : (W.set d G.length).length = 2 ^ G.length := by rw [List.length_set, hW]
  obtain ⟨r, h1, h2⟩ := rest_l1 hG d (by omega) (by omega) (fun W' hW' hT' => by
   obtain ⟨r, h1, h2⟩ := ih W' (by omega) hW' hT'
   refine ⟨r, ?_, h2⟩
   rw [w64_small _ (by omega) (by omega)]
   exact h1) G.length 0 (W.set d G.length) (by omega) hlen2 (fun T hT1 hT2 => by
    rw [getD_set W d T _ (by omega), if_neg (by omega)]
    exact hT T (by omega) hT2) (fun k => by
    rw [getD_set W d d _ (by omega), if_pos rfl]
    exact ⟨fun h => .inl h, fun h => by
     rcases h with h | ⟨u, hu, _⟩
     ·exact h
     ·omega⟩)
  refine ⟨r, Ev.step (fun k => ?_) h1, h2⟩
  rw [lampblackref02_rest.l0, if_pos (by omega), if_pos (by omega), if_pos (by omega), Int.toNat_natCast, gi_set, gi_length]
  rfl
theorem rest_ev {G : List Nat} (hG : Gr 9 G) : ∃ r, Ev (fun k => lampblackref02_rest.f k (gi G)) r ∧ GoodR G r := by
 have hn := hG.most
 have h29 : 2 ^ G.length ≤ 2 ^ 9 := Nat.pow_le_pow_right (by omega) hn
 have h1 : 2 ^ 1 ≤ 2 ^ G.length := Nat.pow_le_pow_right (by omega) hG.pos
 obtain ⟨r, e1, e2⟩ := rest_l0 hG (2 ^ G.length - 1) (List.replicate (2 ^ G.length) 0) (by omega) (by simp) (fun T hT1 hT2 => by
  obtain rfl : T = 2 ^ G.length - 1 := by omega
  intro k
  rw [canB_all k]
  have : (List.replicate (2 ^ G.length) 0).getD (2 ^ G.length - 1) 0 = 0 := by
   rw [List.getD_eq_getElem?_getD, List.getElem?_replicate]
   split <;> rfl
  rw [this]
  simp)
 refine ⟨r, ?_, e2⟩
 unfold lampblackref02_rest.f
 rw [gi_length, s_one G.length (by omega)]
 refine Ev.if_pos (by omega) (Ev.if_pos (by omega) ?_)
 have e3 : wrap64 (((2 ^ G.length : Nat) : Int) - 2) = ((2 ^ G.length - 1 : Nat) : Int) - 1 := by
  rw [w64_small _ (by omega) (by omega)]; omega
 have e4 : List.replicate ((2 ^ G.length : Nat) : Int).toNat (0 : Int) = gi (List.replicate (2 ^ G.length) 0) := by
  rw [Int.toNat_natCast]; simp [gi]
 rw [e3, e4]
 exact e1
theorem rest_zero {G : List Nat} (hG : Gr 9 G) {W : Nat} (hW : IsWidth G W) {x : Nat} (h : RS G 0 x) : x = W := by
 have hn := hG.most
 refine IsWidth.uniq (G := G) (fun k => ?_) hW
 rw [h k, canB_zero hn hG]
theorem refWidth_ev {G : List Nat} (hG : Gr 9 G) {W : Nat} (hW : IsWidth G W) : Ev (fun k => lampblackref02_Width.f k (gi G)) (W : Int) := by
 obtain ⟨r, h1, R, rfl, h2, h3⟩ := rest_ev hG
 have h0 := Nat.two_pow_pos G.length
 unfold lampblackref02_Width.f
 refine Ev.bind h1 (Ev.if_pos (by rw [gi_length]; omega) (Ev.some ?_))
 have := rest_zero hG hW (h3 0 h0)
 rw [← this]
 exact rd_gi R 0
theorem next_find {G : List Nat} (hn : G.length ≤ 9) {k gone x : Nat} (hx : (els (lft G gone) 9).find? (nextP G k gone) = some x) :
  bset (lft G gone) x ∧ nextP G k gone x = true ∧ ∀ v, v < x → bset (lft G gone) v → nextP G k gone v = false := by
 refine ⟨(mem_els.1 (List.mem_of_find?_eq_some hx)).2, List.find?_some hx, fun v hv hb => ?_⟩
 obtain ⟨_, la, lb, h1, h2⟩ := List.find?_eq_some_iff_append.1 hx
 have hm : v ∈ els (lft G gone) 9 := mem_els.2 ⟨bit_lt (lft_small hn gone) hb, hb⟩
 have hs : (els (lft G gone) 9).Pairwise (· < ·) := List.Pairwise.filter _ List.pairwise_lt_range
 rw [h1] at hm hs
 rcases List.mem_append.1 hm with hm | hm
 ·simpa using h2 v hm
 ·rcases List.mem_cons.1 hm with rfl | hm
  ·omega
  ·have := (List.pairwise_append.1 hs).2.1
   have := (List.pairwise_cons.1 this).1 v hm
   omega
theorem lft_zero_pc {G : List Nat} (hn : G.length ≤ 9) : pc (lft G 0) 9 = G.length := by
 have e : lft G 0 = 2 ^ G.length - 1 := eq_bits fun j => by rw [lft_bit, all_bit]; simp [bset]
 rw [e]
 have : ∀ i : Fin 10, pc (2 ^ i.val - 1) 9 = i.val := by decide
 exact this ⟨G.length, by omega⟩
noncomputable def alongN (G : List Nat) : List Nat → Nat → Nat → Nat
 | [], _, o => o
 | v :: l, gone, o => alongN G l (gone ||| 2 ^ v) (max o (dg G gone v))
def goneAt (O : List Nat) (i : Nat) : Nat := lset (O.take i)
noncomputable def higher (G O : List Nat) (i : Nat) : Nat := nbset G (goneAt O i) (O.getD i 0)
noncomputable def bagAt (G O : List Nat) (i : Nat) : Nat := higher G O i ||| 2 ^ O.getD i 0
noncomputable def parFrom (G O : List Nat) (i : Nat) : Nat → Nat → Int
 | 0, _ => if i + 1 = O.length then -1 else ((i + 1 : Nat) : Int)
 | d + 1, k => if (higher G O i).testBit (O.getD k 0) then (k : Int) else parFrom G O i d (k + 1)
noncomputable def parAt (G O : List Nat) (i : Nat) : Int := parFrom G O i (O.length - (i + 1)) (i + 1)
noncomputable def bagsL (G O : List Nat) (i : Nat) : List Int := (List.range i).map fun j => ((bagAt G O j : Nat) : Int)
noncomputable def parsL (G O : List Nat) (i : Nat) : List Int := (List.range i).map (parAt G O)
theorem bagsL_succ (G O : List Nat) (i : Nat) : bagsL G O (i + 1) = bagsL G O i ++ [((bagAt G O i : Nat) : Int)] := by simp [bagsL, List.range_succ]
theorem parsL_succ (G O : List Nat) (i : Nat) : parsL G O (i + 1) = parsL G O i ++ [parAt G O i] := by simp [parsL, List.range_succ]
theorem goneAt_succ (O : List Nat) {i : Nat} (hi : i < O.length) : goneAt O (i + 1) = goneAt O i ||| 2 ^ O.getD i 0 := by
 unfold goneAt
 rw [List.take_succ_eq_append_getElem hi, lset_snoc, List.getD_eq_getElem?_getD, List.getElem?_eq_getElem hi]
 rfl
section
variable {G O : List Nat} (hG : Gr 9 G) (hO : ∀ v ∈ O, v < G.length) (hl : O.length ≤ 9)
include hG hO hl
omit hG hl in
theorem o_in {i : Nat} (hi : i < O.length) : O.getD i 0 < G.length := by
 rw [List.getD_eq_getElem?_getD, List.getElem?_eq_getElem hi]
 exact hO _ (List.getElem_mem hi)
omit hG hl in
theorem gone_lt (i : Nat) : goneAt O i < 2 ^ G.length := lset_lt fun v hv => hO v (List.mem_of_mem_take hv)
omit hl in
theorem bag_lt {i : Nat} (hi : i < O.length) : bagAt G O i < 2 ^ G.length := Nat.or_lt_two_pow (nbset_lt hG _ _) (Nat.pow_lt_pow_right (by omega) (o_in hO hi))
theorem decomp_l1 (i : Nat) (hi : i < O.length) (X : List Int × List Int) (g0 : Int)
  (next : Ev (fun k => width_town_decompose.l0 k (gi G) (gi O) g0 (gi O) (O.length : Int) ((i + 1 : Nat) : Int) (bagsL G O (i + 1)) (parsL G O (i + 1))) X) :
  ∀ d k, k + d = O.length → parFrom G O i d k = parAt G O i → Ev (fun m => width_town_decompose.l1 m (gi G) (gi O) g0 ((higher G O i : Nat) : Int) ((i + 1 : Nat) : Int) (k : Int) (gi O) (O.length : Int) (i : Int) (bagsL G O (i + 1)) (parsL G O i)) X := by
 have hn := hG.most
 have h29 : 2 ^ G.length ≤ 2 ^ 9 := Nat.pow_le_pow_right (by omega) hn
 have hgl := gi_length O
 have hpl : (parsL G O i).length = i := by simp [parsL]
 rw [parsL_succ] at next
 intro d
 induction d with
 | zero =>
  intro k hk hp
  rw [parFrom] at hp
  by_cases h : i + 1 = O.length
  ·rw [if_pos h] at hp
   refine Ev.step (fun m => ?_) next
   rw [width_town_decompose.l1, if_neg (by omega), if_pos (by omega), if_pos (by omega), wrap_succ i (by omega), ← hp]
  ·rw [if_neg h] at hp
   refine Ev.step (fun m => ?_) next
   rw [width_town_decompose.l1, if_neg (by omega), if_neg (by omega), if_pos (by omega), wrap_succ i (by omega), ← hp]
 | succ d ih =>
  intro k hk hp
  have hkl : k < O.length := by omega
  have hv := o_in hO hkl
  rw [parFrom] at hp
  have hr : rd (gi O) (k : Int) = ((O.getD k 0 : Nat) : Int) := rd_gi O k
  have hh : higher G O i < 2 ^ G.length := nbset_lt hG _ _
  generalize O.getD k 0 = u at *
  by_cases hb : (higher G O i).testBit u = true
  ·rw [if_pos hb] at hp
   refine Ev.step (fun m => ?_) next
   rw [width_town_decompose.l1, if_pos (by omega), if_pos (by omega), hr, if_pos (by omega), if_pos ((bit_one _ u (by omega) (by omega)).2 hb), if_neg (by omega), if_pos (by omega), wrap_succ i (by omega), ← hp]
  ·rw [if_neg hb] at hp
   refine Ev.step (fun m => ?_) (ih (k + 1) (by omega) hp)
   rw [width_town_decompose.l1, if_pos (by omega), if_pos (by omega), hr, if_pos (by omega), if_neg (fun h => hb ((bit_one _ u (by omega) (by omega)).1 h)), wrap_succ k (by omega)]
theorem decomp_l0 : ∀ d i, i + d = O.length → Ev (fun m => width_town_decompose.l0 m (gi G) (gi O) ((goneAt O i : Nat) : Int) (gi O) (O.length : Int) (i : Int) (bagsL G O i) (parsL G O i)) (bagsL G O O.length, parsL G O O.length) := by
 have hn := hG.most
 have h29 : 2 ^ G.length ≤ 2 ^ 9 := Nat.pow_le_pow_right (by omega) hn
 have hgl := gi_length O
 intro d
 induction d with
 | zero =>
  intro i hi
  obtain rfl : i = O.length := by omega
  exact Ev.step (f := fun _ => some (bagsL G O O.length, parsL G O O.length)) (fun m => by rw [width_town_decompose.l0, if_neg (by omega)]) (Ev.some rfl)
 | succ d ih =>
  intro i hi
  have hil : i < O.length := by omega
  have hv := o_in hO hil
  have hbl : (bagsL G O i).length = i := by simp [bagsL]
  have hr : rd (gi O) (i : Int) = ((O.getD i 0 : Nat) : Int) := rd_gi O i
  have hg := gone_lt (G := G) hO i
  have hgs := goneAt_succ O hil
  have next := ih (i + 1) (by omega)
  have hbs := bagsL_succ G O i
  have hbag : bagAt G O i = higher G O i ||| 2 ^ O.getD i 0 := rfl
  have hhd : higher G O i = diff (diff (Around G (conset G (2 ^ O.getD i 0) (goneAt O i ||| 2 ^ O.getD i 0))) (goneAt O i)) (2 ^ O.getD i 0) := rfl
  have hl1 := decomp_l1 hG hO hl i hil _ _ next (O.length - (i + 1)) (i + 1) (by omega) rfl
  rw [hgs] at hl1
  rw [hbs, hbag] at hl1
  generalize O.getD i 0 = u at *
  generalize goneAt O i = gn at *
  have hp : 2 ^ u < 2 ^ G.length := Nat.pow_lt_pow_right (by omega) hv
  have hc := conset_lt G (2 ^ u) (gn ||| 2 ^ u)
  have hA := Around_lt hG (conset G (2 ^ u) (gn ||| 2 ^ u))
  have hd : diff (Around G (conset G (2 ^ u) (gn ||| 2 ^ u))) gn < 2 ^ G.length := Nat.lt_of_le_of_lt (diff_le _ _) hA
  have hd2 : diff (diff (Around G (conset G (2 ^ u) (gn ||| 2 ^ u))) gn) (2 ^ u) < 2 ^ G.length := Nat.lt_of_le_of_lt (diff_le _ _) hd
  have e1 := s_one u (by omega)
  have e2 := b_or gn (2 ^ u) (by omega) (by omega)
  have e3 := b_andNot _ gn (show Around G (conset G (2 ^ u) (gn ||| 2 ^ u)) < 2 ^ 62 by omega) (by omega)
  have e4 := b_andNot _ (2 ^ u) (show diff (Around G (conset G (2 ^ u) (gn ||| 2 ^ u))) gn < 2 ^ 62 by omega) (by omega)
  rw [hhd] at hl1
  have e5 := b_or _ (2 ^ u) (show diff (diff (Around G (conset G (2 ^ u) (gn ||| 2 ^ u))) gn) (2 ^ u) < 2 ^ 62 by omega) (by omega)
  refine Ev.step (fun m => by rw [width_town_decompose.l0, if_pos (by omega), if_pos (by omega), if_pos (by omega), hr, if_pos (by omega), e1, e2, wrap_succ i (by omega)]) (Ev.bind (part_ev G hG _ _ hp (or_lt hg hp)) (Ev.bind (around_ev G hG _ hc) ?_))
  refine Ev.if_pos (by omega) ?_
  rw [e3, e4, e5]
  exact hl1
end
theorem decompose_ev {G : List Nat} (hG : Gr 9 G) {W : Nat} (hW : IsWidth G W) (hO : ∀ v ∈ ordL G W, v < G.length) (hl : (ordL G W).length ≤ 9) : Ev (fun k => width_town_decompose.f k (gi G)) (bagsL G (ordL G W) (ordL G W).length, parsL G (ordL G W) (ordL G W).length) := by
 unfold width_town_decompose.f
 have h : width_town_order.f (gi G) = some (gi (ordL G W)) := by
  unfold width_town_order.f
  rw [if_pos ((chk_iff 9 (by omega) _).2 ⟨G, rfl, hG⟩), gi_toNatO, (widthN_is hG).uniq hW]
 refine Ev.bind1 h ?_
 ·rw [gi_length]
  exact decomp_l0 hG hO hl (ordL G W).length 0 (by omega)
theorem way_trans {adj : Nat → Nat → Prop} {S : Nat → Prop} {a x u : Nat} (h : T.Way adj S a x) (hx : S x) (k : T.Way adj S x u) : T.Way adj S a u := by
 induction k with
 | one e => exact .more h hx e
 | more _ hy e ih => exact .more ih hy e
theorem way_symm {adj : Nat → Nat → Prop} (hs : ∀ x y, adj x y → adj y x) {S : Nat → Prop} {v u : Nat} (h : T.Way adj S v u) : T.Way adj S u v := by
 induction h with
 | one e => exact .one (hs _ _ e)
 | more _ hx e ih => exact way_trans (.one (hs _ _ e)) hx ih
theorem way_mono {adj : Nat → Nat → Prop} {S S' : Nat → Prop} (hS : ∀ x, S x → S' x) {v u : Nat} (h : T.Way adj S v u) : T.Way adj S' v u := by
 induction h with
 | one e => exact .one e
 | more _ hx e ih => exact .more ih (hS _ hx) e
structure OrdL (G O : List Nat) : Prop where
 nd : O.Nodup
 inn : ∀ v ∈ O, v < G.length
 len : O.length = G.length
section
variable {G O : List Nat} (hG : Gr 9 G) (h : OrdL G O)
include hG h
omit hG in
theorem o_at {v : Nat} (hv : v < G.length) : ∃ p, p < O.length ∧ O.getD p 0 = v := by
 have hm := covers_of_nodup h.len h.nd h.inn v hv
 obtain ⟨p, hp, e⟩ := List.mem_iff_getElem.1 hm
 exact ⟨p, hp, by rw [List.getD_eq_getElem?_getD, List.getElem?_eq_getElem hp]; exact e⟩
omit hG in
theorem o_inj {p q : Nat} (hp : p < O.length) (hq : q < O.length) (e : O.getD p 0 = O.getD q 0) : p = q := by
 simp only [List.getD_eq_getElem?_getD, List.getElem?_eq_getElem hp, List.getElem?_eq_getElem hq, Option.getD_some] at e
 exact (List.getElem_inj h.nd).1 e
omit hG in
theorem gone_bit {p i : Nat} (hp : p < O.length) : bset (goneAt O i) (O.getD p 0) ↔ p < i := by
 unfold goneAt
 rw [lset_bit, List.mem_take_iff_getElem]
 constructor
 ·rintro ⟨j, hj, e⟩
  have hj2 : j < O.length := by omega
  have : j = p := o_inj h hj2 hp (by rw [List.getD_eq_getElem?_getD, List.getElem?_eq_getElem hj2]; exact e)
  omega
 ·intro hi
  exact ⟨p, by omega, by rw [List.getD_eq_getElem?_getD, List.getElem?_eq_getElem hp]; rfl⟩
theorem higher_bit {i : Nat} (hi : i < O.length) (u : Nat) : bset (higher G O i) u ↔ Nb (Adj G) (bset (goneAt O i)) (O.getD i 0) u := by
 unfold higher
 exact nbset_bit hG (h.inn _ (by rw [List.getD_eq_getElem?_getD, List.getElem?_eq_getElem hi]; exact List.getElem_mem hi)) u
theorem bag_bit {i p : Nat} (hi : i < O.length) (hp : p < O.length) : bset (bagAt G O i) (O.getD p 0) ↔ p = i ∨ (i < p ∧ bset (higher G O i) (O.getD p 0)) := by
 unfold bagAt
 rw [or_bit]
 constructor
 ·rintro (hb | e)
  ·have hn := (higher_bit hG h hi _).1 hb
   have h1 : ¬ p < i := fun hlt => hn.2.1 ((gone_bit h hp).2 hlt)
   have h2 : p ≠ i := fun e => hn.2.2 (by rw [e])
   exact .inr ⟨by omega, hb⟩
  ·exact .inl (o_inj h hp hi e)
 ·rintro (rfl | ⟨_, hb⟩)
  ·exact .inr rfl
  ·exact .inl hb
omit hG h in
theorem par_spec (i : Nat) : ∀ d k, k + d = O.length → i < k → (∃ j : Nat, parFrom G O i d k = (j : Int) ∧ k ≤ j ∧ j < O.length ∧ bset (higher G O i) (O.getD j 0) ∧ ∀ m, k ≤ m → m < j → ¬ bset (higher G O i) (O.getD m 0)) ∨
  ((∀ m, k ≤ m → m < O.length → ¬ bset (higher G O i) (O.getD m 0)) ∧ parFrom G O i d k = if i + 1 = O.length then -1 else ((i + 1 : Nat) : Int))
 | 0, k, hk, hik => .inr ⟨fun m h1 h2 => by omega, rfl⟩
 | d + 1, k, hk, hik => by
  rw [parFrom]
  by_cases hb : (higher G O i).testBit (O.getD k 0) = true
  ·rw [if_pos hb]
   exact .inl ⟨k, rfl, Nat.le_refl _, by omega, hb, fun m h1 h2 => by omega⟩
  ·rw [if_neg hb]
   rcases par_spec i d (k + 1) (by omega) (by omega) with ⟨j, h1, h2, h3, h4, h5⟩ | ⟨h1, h2⟩
   ·refine .inl ⟨j, h1, by omega, h3, h4, fun m h6 h7 => ?_⟩
    by_cases e : m = k
    ·subst e; exact hb
    ·exact h5 m (by omega) h7
   ·refine .inr ⟨fun m h6 h7 => ?_, h2⟩
    by_cases e : m = k
    ·subst e; exact hb
    ·exact h1 m (by omega) h7
omit hG h in
theorem par_rng {i : Nat} (hi : i < O.length) : (i + 1 = O.length ∧ parAt G O i = -1) ∨ ∃ j : Nat, parAt G O i = (j : Int) ∧ i < j ∧ j < O.length := by
 unfold parAt
 rcases par_spec (G := G) (O := O) i (O.length - (i + 1)) (i + 1) (by omega) (by omega) with ⟨j, h1, h2, h3, _⟩ | ⟨_, h2⟩
 ·exact .inr ⟨j, h1, by omega, h3⟩
 ·by_cases e : i + 1 = O.length
  ·rw [if_pos e] at h2; exact .inl ⟨e, h2⟩
  ·rw [if_neg e] at h2; exact .inr ⟨i + 1, h2, by omega, by omega⟩
omit hG h in
theorem bags_rd {i n : Nat} (hi : i < n) : rd (bagsL G O n) (i : Int) = ((bagAt G O i : Nat) : Int) := by
 unfold rd bagsL
 rw [Int.toNat_natCast, List.getD_eq_getElem?_getD, List.getElem?_map, List.getElem?_range hi]
 rfl
omit hG h in
theorem pars_rd {i n : Nat} (hi : i < n) : rd (parsL G O n) (i : Int) = parAt G O i := by
 unfold rd parsL
 rw [Int.toNat_natCast, List.getD_eq_getElem?_getD, List.getElem?_map, List.getElem?_range hi]
 rfl
omit hG h in
theorem bags_bit {i n v : Nat} (hi : i < n) : bitI (rd (bagsL G O n) (i : Int)) v = (bagAt G O i).testBit v := by
 rw [bags_rd hi]; rfl
omit hG h in
theorem roots_one : ∀ d i t, i + d = O.length → 0 < d → rootsF (parsL G O O.length) d i t = t + 1
 | 0, i, t, hi, h0 => by omega
 | d + 1, i, t, hi, _ => by
  rw [rootsF, pars_rd (by omega)]
  rcases par_rng (G := G) (O := O) (i := i) (by omega) with ⟨e, hp⟩ | ⟨j, hp, h1, h2⟩
  ·obtain rfl : d = 0 := by omega
   rw [hp, if_pos (by omega), rootsF]
  ·rw [hp, if_neg (by omega)]
   exact roots_one d (i + 1) t (by omega) (by omega)
omit hG h in
theorem up_out : ∀ d (i : Nat), i < O.length → O.length ≤ i + d → upN (parsL G O O.length) d (i : Int) < 0
 | 0, i, hi, hd => by omega
 | d + 1, i, hi, hd => by
  rw [upN, upI, if_neg (by omega), pars_rd hi]
  rcases par_rng (G := G) (O := O) hi with ⟨_, hp⟩ | ⟨j, hp, h1, h2⟩
  ·rw [hp, upN_neg _ (by omega)]; omega
  ·rw [hp]
   exact up_out d j h2 (by omega)
omit hG h in
theorem tops_one (B P : List Int) (v p : Nat) : ∀ (d i t : Nat), (∀ j : Nat, i ≤ j → j < i + d → ((bitI (rd B (j : Int)) v && (decide (rd P (j : Int) < 0) || !bitI (rd B (rd P (j : Int))) v)) = true ↔ j = p)) → topsF B P v d i t = t + (if i ≤ p ∧ p < i + d then 1 else 0)
 | 0, i, t, hc => by
  rw [topsF, if_neg (by omega)]
  rfl
 | d + 1, i, t, hc => by
  rw [topsF, tops_one B P v p d (i + 1) _ fun j h1 h2 => hc j (by omega) (by omega)]
  have hi := hc i (Nat.le_refl _) (by omega)
  by_cases e : i = p
  ·rw [if_pos (hi.2 e), if_neg (by omega), if_pos (by omega)]
  ·rw [if_neg (fun hx => e (hi.1 hx))]
   by_cases e2 : i ≤ p ∧ p < i + (d + 1)
   ·rw [if_pos (by omega), if_pos e2]
   ·rw [if_neg (by omega), if_neg e2]
theorem decomp_td : TD G (bagsL G O O.length) (parsL G O O.length) := by
 have hn := hG.most
 have hp0 := hG.pos
 have hl := h.len
 have hbl : (bagsL G O O.length).length = O.length := by simp [bagsL]
 have hpl : (parsL G O O.length).length = O.length := by simp [parsL]
 refine ⟨by omega, by omega, by omega, fun i hi => ?_, ?_, fun i hi => ?_, fun v hv => ?_, fun v u hvu => ?_⟩
 ·rw [hbl] at hi ⊢
  have hb := bag_lt hG h.inn hi
  unfold InT
  rw [pars_rd hi, bags_rd hi]
  rcases par_rng (G := G) (O := O) hi with ⟨_, hp⟩ | ⟨j, hp, h1, h2⟩
  ·rw [hp]; omega
  ·rw [hp]; omega
 ·rw [hbl, roots_one (G := G) (O := O) O.length 0 0 (by omega) (by omega)]
 ·rw [hbl] at hi ⊢
  exact up_out (G := G) (O := O) O.length i hi (by omega)
 ·obtain ⟨p, hp, e⟩ := o_at h hv
  rw [hbl, tops_one _ _ v p O.length 0 0 fun j _ hj => ?_, if_pos (by omega)]
  have hjl : j < O.length := by omega
  rw [bags_bit hjl, pars_rd hjl, ← e]
  have hbj := bag_bit hG h hjl hp
  unfold bset at hbj
  rw [Bool.and_eq_true, hbj]
  have par_bit : ∀ k : Nat, k < O.length → bitI (rd (bagsL G O O.length) (k : Int)) (O.getD p 0) = (bagAt G O k).testBit (O.getD p 0) := fun k hk => bags_bit hk
  constructor
  ·rintro ⟨rfl | ⟨hlt, hb⟩, htop⟩
   ·rfl
   ·-- the parent holds the node, too
    exfalso
    rcases par_spec (G := G) (O := O) j (O.length - (j + 1)) (j + 1) (by omega) (by omega) with ⟨k, h1, h2, h3, h4, h5⟩ | ⟨h1, _⟩
    ·have hpk : parAt G O j = (k : Int) := h1
     rw [hpk, par_bit k h3] at htop
     have hkp : k ≤ p := Nat.le_of_not_lt fun hx => h5 p (by omega) hx hb
     have hbk : (bagAt G O k).testBit (O.getD p 0) = true := (bag_bit hG h h3 hp).2 (by
      by_cases ekp : k = p
      ·exact .inl ekp.symm
      ·refine .inr ⟨by omega, (higher_bit hG h h3 _).2 ⟨?_, fun hx => ?_, fun hx => ?_⟩⟩
       ·have w1 := ((higher_bit hG h hjl _).1 h4).1
        have w2 := ((higher_bit hG h hjl _).1 hb).1
        have sub : ∀ x, bset (goneAt O j) x → bset (goneAt O k) x := fun x hx => by
         have hxn : x < G.length := bit_lt (gone_lt (G := G) h.inn j) hx
         obtain ⟨q, hq, eq⟩ := o_at h hxn
         rw [← eq] at hx ⊢
         rw [gone_bit h hq] at hx ⊢
         omega
        have hj2 : bset (goneAt O k) (O.getD j 0) := (gone_bit h hjl).2 (by omega)
        exact way_trans (way_symm (fun x y e => hG.adj_symm e) (way_mono sub w1)) hj2 (way_mono sub w2)
       ·have := (gone_bit h hp).1 hx; omega
       ·have := o_inj h hp h3 hx; omega)
     rw [hbk] at htop
     simp at htop
     omega
    ·exact h1 p (by omega) hp hb
  ·rintro rfl
   refine ⟨.inl rfl, ?_⟩
   rcases par_rng (G := G) (O := O) hjl with ⟨_, hpj⟩ | ⟨k, hpk, h1, h2⟩
   ·rw [hpj]; rfl
   ·rw [hpk, par_bit k h2]
    have : (bagAt G O k).testBit (O.getD j 0) = false := by
     cases hb : (bagAt G O k).testBit (O.getD j 0)
     ·rfl
     ·rcases (bag_bit hG h h2 hjl).1 hb with e | ⟨e, _⟩ <;> omega
    rw [this]
    simp
 ·have hv := hG.adj_lt' hvu
  have hu := hG.adj_lt hvu
  obtain ⟨p, hp, ep⟩ := o_at h hv
  obtain ⟨q, hq, eq⟩ := o_at h hu
  have hne : p ≠ q := fun e => by
   rw [e, eq] at ep
   rw [ep] at hvu
   exact hG.adj_irr hvu
  rw [hbl]
  rcases Nat.lt_or_gt_of_ne hne with hlt | hlt
  ·refine ⟨p, hp, ?_, ?_⟩
   ·rw [bags_bit hp, ← ep]; exact (bag_bit hG h hp hp).2 (.inl rfl)
   ·rw [bags_bit hp, ← eq]
    refine (bag_bit hG h hp hq).2 (.inr ⟨hlt, (higher_bit hG h hp _).2 ⟨.one (by rw [ep, eq]; exact hvu), fun hx => ?_, fun hx => ?_⟩⟩)
    ·have := (gone_bit h hq).1 hx; omega
    ·have := o_inj h hq hp hx; omega
  ·refine ⟨q, hq, ?_, ?_⟩
   ·rw [bags_bit hq, ← ep]
    refine (bag_bit hG h hq hp).2 (.inr ⟨hlt, (higher_bit hG h hq _).2 ⟨.one (by rw [ep, eq]; exact hG.adj_symm hvu), fun hx => ?_, fun hx => ?_⟩⟩)
    ·have := (gone_bit h hp).1 hx; omega
    ·have := o_inj h hp hq hx; omega
   ·rw [bags_bit hq, ← eq]; exact (bag_bit hG h hq hq).2 (.inl rfl)
theorem bag_pc {i : Nat} (hi : i < O.length) : pc (bagAt G O i) 9 = dg G (goneAt O i) (O.getD i 0) + 1 := by
 have hb := bag_lt hG h.inn hi
 have h5 := Nat.lt_of_lt_of_le hb (show 2 ^ G.length ≤ 2 ^ 9 from Nat.pow_le_pow_right (by omega) hG.most)
 have hbit : bset (bagAt G O i) (O.getD i 0) := (or_bit _ _ _).2 (.inr rfl)
 rw [pc_drop h5 hbit]
 congr 1
 unfold dg
 congr 1
 apply eq_bits
 intro j
 rw [diff_bset, two_pow_bit]
 unfold bagAt
 rw [or_bit]
 constructor
 ·rintro ⟨h1 | h1, h2⟩
  ·exact h1
  ·exact absurd h1 h2
 ·intro h1
  exact ⟨.inl h1, ((higher_bit hG h hi _).1 h1).2.2⟩
theorem most_along : ∀ d i o t, i + d = O.length → (t = o + 1 ∨ (t = 0 ∧ o = 0 ∧ 0 < d)) → mostF (bagsL G O O.length) d i t = alongN G (O.drop i) (goneAt O i) o + 1
 | 0, i, o, t, hi, ht => by
  rw [List.drop_eq_nil_of_le (by omega), mostF, alongN]
  omega
 | d + 1, i, o, t, hi, ht => by
  have hil : i < O.length := by omega
  have hr : ((rd (bagsL G O O.length) (i : Int)).toNat) = bagAt G O i := by rw [bags_rd hil]; rfl
  have hoi : O[i] = O.getD i 0 := by rw [List.getD_eq_getElem?_getD, List.getElem?_eq_getElem hil]; rfl
  rw [mostF, hr, bag_pc hG h hil, List.drop_eq_getElem_cons hil, alongN, hoi, ← goneAt_succ O hil]
  exact most_along d (i + 1) _ _ (by omega) (.inl (by omega))
end
theorem treeWidth_l0 (B P : List Int) (hB : ∀ i, i < B.length → 0 ≤ rd B (i : Int) ∧ rd B (i : Int) < 512) (hl : B.length ≤ 30) : ∀ d i m, i + d = B.length → m ≤ 9 → Ev (fun k => width_Tree_width.l0 k (m : Nat) B (B.length : Int) (i : Int)) ((mostF B d i m : Int) - 1) := by
 intro d
 induction d with
 | zero =>
  intro i m hi hm
  rw [mostF]
  refine Ev.step (f := fun _ => some (wrap64 ((m : Int) - 1))) (fun k => by rw [width_Tree_width.l0, if_neg (by omega)]) (Ev.some ?_)
  rw [w64_small _ (by omega) (by omega)]
 | succ d ih =>
  intro i m hi hm
  obtain ⟨b1, b2⟩ := hB i (by omega)
  obtain ⟨b, hb⟩ : ∃ b : Nat, rd B (i : Int) = (b : Int) := ⟨(rd B (i : Int)).toNat, by omega⟩
  have hbt : (rd B (i : Int)).toNat = b := by omega
  have hpc := pc_le b 9
  rw [mostF, hbt]
  refine Ev.step (fun k => by rw [width_Tree_width.l0, if_pos (by omega), if_pos (by omega), if_pos (by omega), hb, wrap_succ i (by omega)]) (Ev.bind1 (count_eq b (by omega)) ?_)
  rw [mx_nat]
  exact ih (i + 1) _ (by omega) (by omega)
theorem treeWidth_ev {G : List Nat} (hG : Gr 9 G) {B P : List Int} (h : TD G B P) : Ev (fun k => width_Tree_width.f k B P) ((mostF B B.length 0 0 : Int) - 1) := by
 have h29 : 2 ^ G.length ≤ 2 ^ 9 := Nat.pow_le_pow_right (by omega) hG.most
 unfold width_Tree_width.f
 exact treeWidth_l0 B P (fun i hi => by have := h.inn i hi; exact ⟨this.2.2.1, by have := this.2.2.2; omega⟩) h.most B.length 0 0 (by omega) (by omega)
def RestL (G : List Nat) (gone : Nat) (l : List Nat) : Prop := l.Nodup ∧ ∀ u, u ∈ l ↔ bset (lft G gone) u
theorem RestL.tail {G : List Nat} {gone v : Nat} {l : List Nat} (h : RestL G gone (v :: l)) : RestL G (gone ||| 2 ^ v) l := by
 obtain ⟨h1, h2⟩ := h
 rw [List.nodup_cons] at h1
 refine ⟨h1.2, fun u => ?_⟩
 rw [lft_or, diff_bset, two_pow_bit, ← h2 u, List.mem_cons]
 constructor
 ·intro hu; exact ⟨.inr hu, fun e => h1.1 (e ▸ hu)⟩
 ·rintro ⟨rfl | hu, hne⟩
  ·exact absurd rfl hne
  ·exact hu
theorem alongN_ge (G : List Nat) : ∀ (l : List Nat) (gone o : Nat), o ≤ alongN G l gone o
 | [], gone, o => Nat.le_refl _
 | v :: l, gone, o => by
  rw [alongN]
  have := alongN_ge G l (gone ||| 2 ^ v) (max o (dg G gone v))
  omega
section
variable {G : List Nat} (hn : G.length ≤ 9)
include hn
theorem can_of_along {m : Nat} : ∀ (l : List Nat) (gone o : Nat), RestL G gone l → gone < 2 ^ G.length → alongN G l gone o ≤ m → canB G m gone = true
 | [], gone, o, h, hg, ha => by
  have : gone = 2 ^ G.length - 1 := Classical.byContradiction fun hne => by
   obtain ⟨v, hv⟩ := some_bit (lft_ne hg hne)
   have := (h.2 v).2 hv
   cases this
  rw [this]; exact canB_all m
 | v :: l, gone, o, h, hg, ha => by
  have hv := (h.2 v).1 List.mem_cons_self
  have hne : gone ≠ 2 ^ G.length - 1 := fun e => by rw [e, lft_all] at hv; simp [bset] at hv
  rw [alongN] at ha
  have h1 := alongN_ge G l (gone ||| 2 ^ v) (max o (dg G gone v))
  exact (canB_true hn hg hne).2 ⟨v, hv, by omega, can_of_along l _ _ h.tail (or_in hg hv) ha⟩
theorem find_next {k gone : Nat} (hg : gone < 2 ^ G.length) (hne : gone ≠ 2 ^ G.length - 1) (hc : canB G k gone = true) : ∃ x, (els (lft G gone) 9).find? (nextP G k gone) = some x := by
 obtain ⟨v, h1, h2, h3⟩ := (canB_true hn hg hne).1 hc
 have hm : v ∈ els (lft G gone) 9 := mem_els.2 ⟨bit_lt (lft_small hn gone) h1, h1⟩
 cases hf : (els (lft G gone) 9).find? (nextP G k gone) with
 | some x => exact ⟨x, rfl⟩
 | none =>
  have := List.find?_eq_none.1 hf v hm
  unfold nextP at this
  rw [h3, decide_eq_true h2] at this
  simp at this
theorem ordD_is {k : Nat} : ∀ d gone, pc (lft G gone) 9 = d → gone < 2 ^ G.length → canB G k gone = true → RestL G gone (ordD G k d gone) ∧ ∀ o, alongN G (ordD G k d gone) gone o ≤ max o k := by
 intro d
 induction d with
 | zero =>
  intro gone hd hg hc
  have : gone = 2 ^ G.length - 1 := Classical.byContradiction fun hne => pc_pos (lft_small hn gone) (lft_ne hg hne) hd
  rw [ordD]
  refine ⟨⟨List.nodup_nil, fun u => ?_⟩, fun o => by rw [alongN]; omega⟩
  rw [this, lft_all]
  simp [bset]
 | succ d ih =>
  intro gone hd hg hc
  have hne : gone ≠ 2 ^ G.length - 1 := fun h => by rw [h, lft_all] at hd; simp [pc] at hd
  obtain ⟨x, hx⟩ := find_next hn hg hne hc
  obtain ⟨h1, h2, h3⟩ := next_find hn hx
  have hpc := pc_lft hn h1
  unfold nextP at h2
  rw [Bool.and_eq_true, decide_eq_true_eq] at h2
  obtain ⟨⟨i1, i2⟩, i3⟩ := ih (gone ||| 2 ^ x) (by omega) (or_in hg h1) h2.2
  rw [ordD, hx]
  refine ⟨⟨?_, fun u => ?_⟩, fun o => ?_⟩
  ·show (x :: ordD G k d (gone ||| 2 ^ x)).Nodup
   refine List.nodup_cons.2 ⟨fun hm => ?_, i1⟩
   have := (i2 x).1 hm
   rw [lft_or, diff_bset, two_pow_bit] at this
   exact this.2 rfl
  ·show u ∈ x :: ordD G k d (gone ||| 2 ^ x) ↔ _
   rw [List.mem_cons, i2 u, lft_or, diff_bset, two_pow_bit]
   constructor
   ·rintro (rfl | h)
    ·exact h1
    ·exact h.1
   ·intro h
    by_cases e : u = x
    ·exact .inl e
    ·exact .inr ⟨h, e⟩
  ·show alongN G (x :: ordD G k d (gone ||| 2 ^ x)) gone o ≤ max o k
   rw [alongN]
   have := i3 (max o (dg G gone x))
   omega
end
theorem ordL_is {G : List Nat} (hG : Gr 9 G) {W : Nat} (hW : IsWidth G W) : (ordL G W).Nodup ∧ (∀ v ∈ ordL G W, v < G.length) ∧ (ordL G W).length = G.length ∧ alongN G (ordL G W) 0 0 = W := by
 have hn := hG.most
 have h2n := Nat.two_pow_pos G.length
 have hc0 : canB G W 0 = true := (canB_zero hn hG).2 ((hW W).1 (Nat.le_refl _))
 obtain ⟨⟨o1, o2⟩, o3⟩ := ordD_is hn (k := W) G.length 0 (lft_zero_pc hn) h2n hc0
 have oin : ∀ v ∈ ordL G W, v < G.length := fun v hv => ((lft_bit G 0 v).1 ((o2 v).1 hv)).1
 have olen : (ordL G W).length = G.length := by
  refine Nat.le_antisymm (by have := nodup_le o1 (m := List.range G.length) fun v hv => List.mem_range.2 (oin v hv); rw [List.length_range] at this; exact this) ?_
  have := nodup_le (List.nodup_range (n := G.length)) (m := ordL G W) fun v hv => (o2 v).2 ((lft_bit G 0 v).2 ⟨List.mem_range.1 hv, by simp [bset]⟩)
  simpa using this
 refine ⟨o1, oin, olen, Nat.le_antisymm (by have := o3 0; unfold ordL; omega) ?_⟩
 have := can_of_along hn (ordL G W) 0 0 ⟨o1, o2⟩ h2n (Nat.le_refl _)
 exact (hW _).2 ((canB_zero hn hG).1 this)
end Go.Proofs.YtoffehihicabcaaDoor.X
end
section
namespace Go.Proofs.YtoffehihicabcaaDoor.X
open Go.RowKit YtoffehihicabcaaDoorW.PrintWords YtoffehihicabcaaDoorW.PrintLast YtoffehihicabcaaDoorW.PrintMore
attribute [local go_sem] max2_int min2_int max_two min_two max_three min_three max_four min_four
noncomputable section
mutual
def lampblackref02_IsBramble.l0 : Nat → List Int → List Int → List Int → Int → Int → Option (Bool)
 | 0, _, _, _, _, _ => none
 | k + 1, x0, x1, x9, x10, x11 => if x11 < x10 then (if 0 ≤ x11 then (if x11 < (x9.length : Int) then (if x11 ≥ 200 then (lampblackref02_IsBramble.j1 k x0 x1 x11 (rd x9 x11) x9 x10 x11 true) else ((lampblackref02_Connected.f k x0 (rd x9 x11)).bind fun t296 => (lampblackref02_IsBramble.j1 k x0 x1 x11 (rd x9 x11) x9 x10 x11 (!t296)))) else (none)) else (none)) else (some (decide ((x1.length : Int) > 0)))
def lampblackref02_IsBramble.j1 : Nat → List Int → List Int → Int → Int → List Int → Int → Int → Bool → Option (Bool)
 | 0, _, _, _, _, _, _, _, _ => none
 | k + 1, x0, x1, x5, x6, x9, x10, x11, x23 => if x23 = true then (some false) else (if 0 ≤ x5 then (if x5 ≤ (x1.length : Int) then (lampblackref02_IsBramble.l1 k x0 x1 x6 x9 x10 x11 (x1.take (x5 : Int).toNat) ((x1.take (x5 : Int).toNat).length : Int) 0) else (none)) else (none))
def lampblackref02_IsBramble.l1 : Nat → List Int → List Int → Int → List Int → Int → Int → List Int → Int → Int → Option (Bool)
 | 0, _, _, _, _, _, _, _, _, _ => none
 | k + 1, x0, x1, x6, x9, x10, x11, x26, x27, x28 => if x28 < x27 then (if 0 ≤ x28 then (if x28 < (x26.length : Int) then ((lampblackref02_Touch.f k x0 x6 (rd x26 x28)).bind fun t299 => (if t299 = true then (lampblackref02_IsBramble.l1 k x0 x1 x6 x9 x10 x11 x26 x27 (wrap64 (x28 + 1))) else (some false))) else (none)) else (none)) else (lampblackref02_IsBramble.l0 k x0 x1 x9 x10 (wrap64 (x11 + 1)))
end
end
noncomputable section
mutual
def lampblackref02_Cover.l0 : Nat → List Int → Int → Int → Int → Option (Int)
 | 0, _, _, _, _ => none
 | k + 1, x1, x5, x16, x17 => if x17 < x16 then ((lampblackref02_Size.f k x17).bind fun t300 => ((lampblackref02_Size.f k x5).bind fun t301 => (lampblackref02_Cover.l1 k x1 x5 x17 (decide (t300 < t301)) x16 x17 x1 (x1.length : Int) 0))) else (some x5)
def lampblackref02_Cover.l1 : Nat → List Int → Int → Int → Bool → Int → Int → List Int → Int → Int → Option (Int)
 | 0, _, _, _, _, _, _, _, _, _ => none
 | k + 1, x1, x5, x6, x7, x16, x17, x25, x26, x27 => if x27 < x26 then (if 0 ≤ x27 then (if x27 < (x25.length : Int) then (if x7 = true then (lampblackref02_Cover.l1 k x1 x5 x6 ((Go.bits .and .i64 (rd x25 x27) x6) != 0) x16 x17 x25 x26 (wrap64 (x27 + 1))) else (lampblackref02_Cover.l1 k x1 x5 x6 false x16 x17 x25 x26 (wrap64 (x27 + 1)))) else (none)) else (none)) else (if x7 = true then (lampblackref02_Cover.l0 k x1 x6 x16 (wrap64 (x17 + 1))) else (lampblackref02_Cover.l0 k x1 x5 x16 (wrap64 (x17 + 1))))
end
end
noncomputable section
end
noncomputable section
end
end Go.Proofs.YtoffehihicabcaaDoor.X
end
section
namespace Go.Proofs.YtoffehihicabcaaDoor.Pure
open Go.RowKit YtoffehihicabcaaDoorW.PrintWords YtoffehihicabcaaDoorW.PrintLast YtoffehihicabcaaDoorW.PrintMore YtoffehihicabcaaDoor.T YtoffehihicabcaaDoor.X
theorem list_any (l : List Int) : lampblacklaw02_list.f l = some (l.take 210) := by
 have hm : mn (l.length : Int) 210 = ((min l.length 210 : Nat) : Int) := mn_nat l.length 210
 have ht : l.take (min l.length 210) = l.take 210 := by
  by_cases h : l.length ≤ 210
  ·rw [List.take_of_length_le (by omega), List.take_of_length_le h]
  ·rw [Nat.min_eq_right (by omega)]
 unfold lampblacklaw02_list.f slices_Clone_int_int.f
 simp only [hm, Int.toNat_natCast]
 rw [if_pos (by omega), if_pos (by omega), ht]
 simp only [Option.bind_some, List.nil_append]
 rw [if_pos (by rw [List.length_take, List.length_nil]; omega)]
 rfl
theorem Of_eq (B P : List Int) : lampblacklaw02_Of.f B P = some (B.take 210, P.take 210) := by
 unfold lampblacklaw02_Of.f
 rw [list_any, list_any]
 rfl
theorem td_cut {G : List Nat} (B P : List Int) : (TD G (B.take 210) (P.take 210) ∧ B.take 210 = B ∧ P.take 210 = P) ∨ (¬ TD G (B.take 210) (P.take 210) ∧ ¬ TD G B P) ∨ (B.take 210 = B ∧ P.take 210 = P) := by
 by_cases hb : B.length ≤ 210
 ·by_cases hp : P.length ≤ 210
  ·exact .inr (.inr ⟨List.take_of_length_le hb, List.take_of_length_le hp⟩)
  ·refine .inr (.inl ⟨fun h => ?_, fun h => ?_⟩)
   ·have h1 := h.len; have h2 := h.most
    rw [List.length_take, List.length_take] at h1
    rw [List.length_take] at h2
    omega
   ·have h1 := h.len; have h2 := h.most; omega
 ·refine .inr (.inl ⟨fun h => ?_, fun h => ?_⟩)
  ·have h2 := h.most
   rw [List.length_take] at h2
   omega
  ·have h2 := h.most; omega
theorem td_take {G : List Nat} (B P : List Int) : (TD G (B.take 210) (P.take 210) ↔ TD G B P) ∧ (TD G B P → B.take 210 = B ∧ P.take 210 = P) := by
 rcases td_cut (G := G) B P with ⟨h, h1, h2⟩ | ⟨h1, h2⟩ | ⟨h1, h2⟩
 ·rw [h1, h2]; exact ⟨Iff.rfl, fun _ => ⟨rfl, rfl⟩⟩
 ·exact ⟨⟨fun h => absurd h h1, fun h => absurd h h2⟩, fun h => absurd h h2⟩
 ·rw [h1, h2]; exact ⟨Iff.rfl, fun _ => ⟨rfl, rfl⟩⟩
theorem Check_ev {G : List Nat} (hG : Gr 9 G) (B P : List Int) : ∃ r : Int × Bool × Int, Ev (fun k => width_Check.f k (gi G) B P) r ∧ ((TD G B P ∧ r = ((mostF B B.length 0 0 : Int) - 1, true, 0)) ∨ (¬ TD G B P ∧ r = (0, false, 0))) := by
 have hn := hG.most
 have h1 : Ev (fun k => width_read.f k (gi G)) (gi G, true) := by
  have h := read_ev (gi G) (by rw [gi_length]; omega)
  rw [(chk_iff 9 (by omega) _).2 ⟨G, rfl, hG⟩] at h
  exact h
 have ht : width_town_tree.f (gi G) B P = some (treeB G B P) := by
  unfold width_town_tree.f
  rw [if_pos ((chk_iff 9 (by omega) _).2 ⟨G, rfl, hG⟩), gi_toNatO]
 unfold width_Check.f
 by_cases h : TD G B P
 ·rw [(treeB_iff hG B P).2 h] at ht
  exact ⟨_, Ev.bind h1 (Ev.if_pos rfl (Ev.bind1 ht (Ev.if_pos rfl (Ev.bind (treeWidth_ev hG h) (Ev.some rfl))))), .inl ⟨h, rfl⟩⟩
 ·have hf : treeB G B P = false := by
   cases hb : treeB G B P
   ·rfl
   ·exact absurd ((treeB_iff hG B P).1 hb) h
  rw [hf] at ht
  exact ⟨_, Ev.bind h1 (Ev.if_pos rfl (Ev.bind1 ht (Ev.if_neg (by simp) (Ev.some rfl)))), .inr ⟨h, rfl⟩⟩
theorem Check_bad (g B P : List Int) (hl : g.length < 2 ^ 60) (h : chk 9 g = false) : Ev (fun k => width_Check.f k g B P) (0, false, 2) := by
 have h1 := read_ev g hl
 rw [h] at h1
 unfold width_Check.f
 exact Ev.bind h1 (Ev.if_neg (by simp) (Ev.some rfl))
theorem Decompose_ev {G : List Nat} (hG : Gr 9 G) {W : Nat} (hW : IsWidth G W) : Ev (fun k => width_Decompose.f k (gi G)) (bagsL G (ordL G W) (ordL G W).length, parsL G (ordL G W) (ordL G W).length, 0) := by
 have hn := hG.most
 obtain ⟨o1, o2, o3, _⟩ := ordL_is hG hW
 have h1 : Ev (fun k => width_read.f k (gi G)) (gi G, true) := by
  have h := read_ev (gi G) (by rw [gi_length]; omega)
  rw [(chk_iff 9 (by omega) _).2 ⟨G, rfl, hG⟩] at h
  exact h
 unfold width_Decompose.f
 exact Ev.bind h1 (Ev.if_pos rfl (Ev.bind (decompose_ev hG hW o2 (by omega)) (Ev.some rfl)))
theorem Decompose_bad (g : List Int) (hl : g.length < 2 ^ 60) (h : chk 9 g = false) : Ev (fun k => width_Decompose.f k g) ([], [], 2) := by
 have h1 := read_ev g hl
 rw [h] at h1
 unfold width_Decompose.f
 exact Ev.bind h1 (Ev.if_neg (by simp) (Ev.some rfl))
theorem trees_law (g B P : List Int) (hg : g.length < 2 ^ 44) : Ev (fun k => lampblacklaw02_WidthTrees.f k g B P) true := by
 obtain ⟨h, e, e1, e2, e3⟩ := few_eq g hg
 have hv := valid_ev g (by omega)
 unfold lampblacklaw02_WidthTrees.f
 refine Ev.bind1 e ?_
 by_cases hc : chk 9 g = true
 ·obtain ⟨G, rfl, hG⟩ := (chk_iff 9 (by omega) _).1 hc
  rw [e1 hc] at e ⊢
  rw [hc] at hv
  have hn := hG.most
  obtain ⟨W, hW⟩ := width_exists hG
  have hW := hW.1
  obtain ⟨o1, o2, o3, o4⟩ := ordL_is hG hW
  have hO : OrdL G (ordL G W) := ⟨o1, o2, o3⟩
  have htd := decomp_td hG hO
  have hmost : mostF (bagsL G (ordL G W) (ordL G W).length) (ordL G W).length 0 0 = W + 1 := by
   have := most_along hG hO (ordL G W).length 0 0 0 (by omega) (.inr ⟨rfl, rfl, by have := hG.pos; omega⟩)
   rw [this, List.drop_zero]
   show alongN G (ordL G W) 0 0 + 1 = _
   rw [o4]
  obtain ⟨r1, hr1, hr1'⟩ := Check_ev hG (B.take 210) (P.take 210)
  obtain ⟨r2, hr2, hr2'⟩ := refIsTree_ev hG (bagsL G (ordL G W) (ordL G W).length) (parsL G (ordL G W) (ordL G W).length)
  obtain ⟨r3, hr3, hr3'⟩ := refIsTree_ev hG B P
  have hbl : (bagsL G (ordL G W) (ordL G W).length).length = (ordL G W).length := by simp [bagsL]
  have h2 : r2 = ((W : Int), true) := by
   rcases hr2' with ⟨_, h2⟩ | ⟨h2, _⟩
   ·rw [h2, hbl, hmost]
    congr 1
    omega
   ·exact absurd htd h2
  obtain ⟨t1, t2⟩ := td_take (G := G) B P
  have h13 : r1.1 = r3.1 ∧ r1.2.1 = r3.2 ∧ r1.2.2 = 0 := by
   rcases hr1' with ⟨a, rfl⟩ | ⟨a, rfl⟩ <;> rcases hr3' with ⟨b, rfl⟩ | ⟨b, rfl⟩
   ·rw [(t2 b).1]; exact ⟨rfl, rfl, rfl⟩
   ·exact absurd (t1.1 a) b
   ·exact absurd (t1.2 b) a
   ·exact ⟨rfl, rfl, rfl⟩
  subst h2
  refine Ev.bind (Decompose_ev hG hW) (Ev.bind1 e (Ev.bind1 (Of_eq B P) (Ev.bind hr1 (Ev.bind hv (Ev.if_pos rfl (Ev.bind1 (show lampblacklaw02_own.f (bagsL G (ordL G W) (ordL G W).length) (parsL G (ordL G W) (ordL G W).length) = some (bagsL G (ordL G W) (ordL G W).length, parsL G (ordL G W) (ordL G W).length) from rfl) (Ev.bind hr2 (Ev.bind hr3 (Ev.if_pos rfl (Ev.if_pos rfl (Ev.bind (refWidth_ev hG hW) (Ev.if_pos rfl (Ev.if_pos h13.1 (Ev.if_pos (by rw [h13.2.1]; simp) (Ev.if_pos h13.2.2 (Ev.bind awake_ev (Ev.some rfl)))))))))))))))))
 ·have hc' : chk 9 g = false := by simpa using hc
  rw [hc'] at hv
  exact Ev.bind (Decompose_bad h (by omega) (e2 hc')) (Ev.bind1 e (Ev.bind1 (Of_eq B P) (Ev.bind (Check_bad h _ _ (by omega) (e2 hc')) (Ev.bind hv (Ev.if_neg (by simp) (Ev.bind1 (show lampblacklaw02_none.f [] [] = some true from by decide +kernel) (Ev.if_pos rfl (Ev.if_pos rfl (Ev.if_neg (by simp) (Ev.if_pos rfl (Ev.if_pos rfl (Ev.bind awake_ev (Ev.some rfl)))))))))))))
theorem WidthTrees : ∀ (l0 l1 l2 : List Int), l0.length ≤ maxLen → l0.length * 8 ≤ 140737488351232 → (∀ x ∈ l0, (Lit.int .i64 x).wf = true) → l1.length ≤ maxLen → l2.length ≤ maxLen → ∃ k, lampblacklaw02_WidthTrees.f k l0 l1 l2 = some true := by
 intro g B P _ hg _ _ _
 exact Ev.rounds (trees_law g B P (by omega))
end Go.Proofs.YtoffehihicabcaaDoor.Pure
end
section
namespace Go.Proofs.YtoffehihicabcaaDoor.X
open Go.RowKit Go.ChangeShapes Go.WideShapes
def RowI (w : World) (a : Option Addr) (len cap : Nat) (zs : List Int) : Prop :=
 (a = none ∧ len = 0 ∧ cap = 0 ∧ zs = []) ∨ ∃ x, a = some x ∧ len ≤ cap ∧ cap ≤ maxLen ∧ zs.length = cap ∧ (∀ i, i < zs.length → w.cell? (x.add i) = some (.int .i64 (zs.getD i 0))) ∧ ∀ n ∈ zs, (Lit.int .i64 n).wf = true
section
variable {H : Type} {enc : TypeId × Value → H} {P : Program} {w : World} {base : Nat} {spare : Nat → Bool} {held : Bool}
theorem open_rowI {t e : TypeId} {fuel : Nat} {c : Value} {x : DataW H × List MemPlace} (hsp : ∀ b, spare b = true) (ht : P.underlying t = some (.slice e)) (he : P.underlying e = some (.int .i64)) (hc : P.cellsOf e = 1)
  (h : DataW.trod enc P w base spare held fuel t [c] = some x) : ∃ a len cap zs, c = .slice a len cap ∧ RowI w a len cap zs := by
 rcases open_ints ht he hc h with ⟨hcs, _⟩ | ⟨ad, l, cp, zs, hcs, _, hl, hm, hz, _, hcell, hwz⟩
 ·simp at hcs
  exact ⟨none, 0, 0, [], hcs, .inl ⟨rfl, rfl, rfl, rfl⟩⟩
 ·simp at hcs
  exact ⟨some ad, l, cp, zs, hcs, .inr ⟨ad, rfl, hl, hm, by rw [hz, hsp]; rfl, hcell, hwz⟩⟩
theorem open_tree {t : TypeId} (e : TypeId) {f0 f1 : Field} {v : Value} {d : DataW H} {ps : List MemPlace} (hsp : ∀ b, spare b = true) (ht : P.underlying t = some (.struct #[f0, f1])) (h0 : P.underlying f0.type = some (.slice e)) (h1 : P.underlying f1.type = some (.slice e)) (he : P.underlying e = some (.int .i64)) (hc : P.cellsOf e = 1)
  (hC : P.cellsOf t = 2) (o0 : f0.offset = 0) (o1 : f1.offset = 1) (c0 : P.cellsOf f0.type = 1) (c1 : P.cellsOf f1.type = 1) (hv : ∃ cs, v = .agg cs ∧ cs.size = P.cellsOf t) (h : DataW.Trod enc P w base spare held t v d ps) :
  ∃ a0 n0 k0 z0 a1 n1 k1 z1, v = .agg #[.slice a0 n0 k0, .slice a1 n1 k1] ∧ RowI w a0 n0 k0 z0 ∧ RowI w a1 n1 k1 z1 := by
 obtain ⟨cs, rfl, hs⟩ := hv
 obtain ⟨fuel, hf⟩ := h
 obtain ⟨xs, n, _, _, hl, hxl, hf⟩ := DataW.trod_struct ht hf
 rw [hC] at hs
 obtain ⟨l⟩ := cs
 match l, hs with
 | [u0, u1], _ =>
  have g0 := hf 0 f0 rfl
  have g1 := hf 1 f1 rfl
  rw [o0, c0] at g0
  rw [o1, c1] at g1
  have y0 : xs[0]? = some (xs[0]'(by rw [hxl]; show 0 < 2; omega)) := List.getElem?_eq_getElem _
  have y1 : xs[1]? = some (xs[1]'(by rw [hxl]; show 1 < 2; omega)) := List.getElem?_eq_getElem _
  obtain ⟨a0, n0, k0, z0, e0, r0⟩ := open_rowI (c := u0) hsp h0 he hc (g0.trans y0)
  obtain ⟨a1, n1, k1, z1, e1, r1⟩ := open_rowI (c := u1) hsp h1 he hc (g1.trans y1)
  subst e0
  subst e1
  exact ⟨a0, n0, k0, z0, a1, n1, k1, z1, rfl, r0, r1⟩
end
end Go.Proofs.YtoffehihicabcaaDoor.X
end
