/- Part 3 of what WidthCovers rests on: contracts of the functions that it reaches, and what they compute, in plain words. -/
import Derived.Test.YtoffehihicabcaaDoorWMore
import Derived.Laws.BitsLemmas
import Derived.Test.YtoffehihicabcaaDoorZWidthCovers1
import Derived.Test.YtoffehihicabcaaDoorZWidthCovers0
import Derived.Test.YtoffehihicabcaaDoorZWidthCovers2
section
/- Sets as numbers: what Go's bit operations on an int come to, for numbers below 2^62. -/
namespace Go.Proofs.YtoffehihicabcaaDoor.T
open Go.RowKit Go.Proofs.YtoffehihicabcaaDoorW.PrintWords Go.Proofs.YtoffehihicabcaaDoorW.PrintLast Go.Proofs.YtoffehihicabcaaDoorW.PrintMore

/-- a without b. -/
def diff (a b : Nat) : Nat := a ^^^ (a &&& b)
theorem diff_testBit (a b i : Nat) : (diff a b).testBit i = (a.testBit i && !b.testBit i) := by
  unfold diff; simp; cases a.testBit i <;> cases b.testBit i <;> rfl
theorem diff_le (a b : Nat) : diff a b ≤ a := by
  have h : diff a b &&& a = diff a b := by
    apply Nat.eq_of_testBit_eq; intro i; simp [diff_testBit]
    cases a.testBit i <;> simp
  rw [← h]; exact Nat.and_le_right
theorem or_lt {a b j : Nat} (ha : a < 2 ^ j) (hb : b < 2 ^ j) : a ||| b < 2 ^ j := Nat.or_lt_two_pow ha hb

theorem i64_small (n : Int) (h0 : 0 ≤ n) (h1 : n < 2 ^ 62) : IntKind.i64.wrap n = n := by rw [IntKind.wrap_i64]; omega
theorem w64_small (n : Int) (h0 : -(2 ^ 62) ≤ n) (h1 : n < 2 ^ 62) : wrap64 n = n := by unfold wrap64; omega
theorem u64_small (n : Int) (h0 : 0 ≤ n) (h1 : n < 2 ^ 62) : IntKind.u64.wrap n = n := by rw [IntKind.wrap_u64]; omega
theorem u64_low (a : Nat) (ha : a < 2 ^ 62) : (BitVec.ofInt 64 (a : Int)).toNat = a := by
  rw [BitVec.ofInt_natCast, BitVec.toNat_ofNat]; exact Nat.mod_eq_of_lt (by omega)

theorem b_and (a b : Nat) (ha : a < 2 ^ 62) (hb : b < 2 ^ 62) : Go.bits .and .i64 (a : Int) (b : Int) = ((a &&& b : Nat) : Int) := by
  have hx : a &&& b < 2 ^ 62 := Nat.and_lt_two_pow _ hb
  show IntKind.i64.wrap ((BitVec.ofInt 64 (a : Int) &&& BitVec.ofInt 64 (b : Int)).toNat : Int) = _
  rw [BitVec.toNat_and, u64_low a ha, u64_low b hb]
  exact i64_small _ (by omega) (by omega)
theorem b_or (a b : Nat) (ha : a < 2 ^ 62) (hb : b < 2 ^ 62) : Go.bits .or .i64 (a : Int) (b : Int) = ((a ||| b : Nat) : Int) := by
  have hx : a ||| b < 2 ^ 62 := Nat.or_lt_two_pow ha hb
  show IntKind.i64.wrap ((BitVec.ofInt 64 (a : Int) ||| BitVec.ofInt 64 (b : Int)).toNat : Int) = _
  rw [BitVec.toNat_or, u64_low a ha, u64_low b hb]
  exact i64_small _ (by omega) (by omega)
theorem b_andNot (a b : Nat) (ha : a < 2 ^ 62) (hb : b < 2 ^ 62) : Go.bits .andNot .i64 (a : Int) (b : Int) = ((diff a b : Nat) : Int) := by
  have hx : diff a b < 2 ^ 62 := Nat.lt_of_le_of_lt (diff_le a b) ha
  show IntKind.i64.wrap ((BitVec.ofInt 64 (a : Int) &&& ~~~ BitVec.ofInt 64 (b : Int)).toNat : Int) = _
  have e : (BitVec.ofInt 64 (a : Int) &&& ~~~ BitVec.ofInt 64 (b : Int)).toNat = diff a b := by
    apply Nat.eq_of_testBit_eq
    intro i
    rw [diff_testBit, BitVec.testBit_toNat, BitVec.getLsbD_and, BitVec.getLsbD_not, ← BitVec.testBit_toNat, ← BitVec.testBit_toNat, u64_low a ha, u64_low b hb]
    by_cases hi : i < 64
    · simp [hi]
    · have : a.testBit i = false := Nat.testBit_lt_two_pow (Nat.lt_of_lt_of_le ha (Nat.pow_le_pow_right (by omega) (by omega)))
      simp [this]
  rw [e]
  exact i64_small _ (by omega) (by omega)
theorem s_one (i : Nat) (hi : i < 62) : shl .i64 1 (i : Int) = ((2 ^ i : Nat) : Int) := by
  have h1 : 2 ^ i < 2 ^ 62 := Nat.pow_lt_pow_right (by omega) hi
  unfold shl
  rw [show min (i : Int).toNat IntKind.i64.bits = i by simp [IntKind.bits]; omega, Int.one_mul]
  rw [show ((2 : Int) ^ i) = ((2 ^ i : Nat) : Int) by simp]
  exact i64_small _ (Int.natCast_nonneg _) (by omega)
theorem s_shl (a i : Nat) (h : a * 2 ^ i < 2 ^ 62) (hi : i < 62) : shl .i64 (a : Int) (i : Int) = ((a * 2 ^ i : Nat) : Int) := by
  unfold shl
  rw [show min (i : Int).toNat IntKind.i64.bits = i by simp [IntKind.bits]; omega]
  rw [show ((a : Int) * (2 : Int) ^ i) = ((a * 2 ^ i : Nat) : Int) by simp]
  exact i64_small _ (Int.natCast_nonneg _) (by omega)
theorem s_shr (a i : Nat) (hi : i < 62) : shr .i64 (a : Int) (i : Int) = ((a / 2 ^ i : Nat) : Int) := by
  unfold shr
  rw [show min (i : Int).toNat IntKind.i64.bits = i by simp [IntKind.bits]; omega]
  simp
/-- 'set >> i & 1': is i in the set? -/
theorem bit_at (a i : Nat) (ha : a < 2 ^ 62) (hi : i < 62) : Go.bits .and .i64 (shr .i64 (a : Int) (i : Int)) 1 = ((a.testBit i).toNat : Int) := by
  rw [s_shr a i hi]
  have h1 : a / 2 ^ i < 2 ^ 62 := Nat.lt_of_le_of_lt (Nat.div_le_self _ _) ha
  have := b_and (a / 2 ^ i) 1 h1 (by omega)
  rw [show ((1 : Nat) : Int) = 1 from rfl] at this
  rw [this, Nat.and_one_is_mod, Nat.testBit_eq_decide_div_mod_eq]
  by_cases h : a / 2 ^ i % 2 = 1
  · simp [h]
  · have : a / 2 ^ i % 2 = 0 := by omega
    simp [this]
theorem bit_one (a i : Nat) (ha : a < 2 ^ 62) (hi : i < 62) : Go.bits .and .i64 (shr .i64 (a : Int) (i : Int)) 1 = 1 ↔ a.testBit i = true := by
  rw [bit_at a i ha hi]; cases a.testBit i <;> simp
theorem bit_zero (a i : Nat) (ha : a < 2 ^ 62) (hi : i < 62) : Go.bits .and .i64 (shr .i64 (a : Int) (i : Int)) 1 = 0 ↔ a.testBit i = false := by
  rw [bit_at a i ha hi]; cases a.testBit i <;> simp

/-- A list of numbers, as the program's. -/
def gi (l : List Nat) : List Int := l.map fun (x : Nat) => (x : Int)
theorem gi_length (l : List Nat) : (gi l).length = l.length := by simp [gi]
theorem rd_gi (l : List Nat) (i : Nat) : rd (gi l) (i : Int) = ((l.getD i 0 : Nat) : Int) := by
  unfold rd gi
  simp only [Int.toNat_natCast, List.getD_eq_getElem?_getD, List.getElem?_map]
  cases l[i]? <;> rfl
theorem gi_set (l : List Nat) (i x : Nat) : (gi l).set i (x : Int) = gi (l.set i x) := by simp [gi, List.map_set]
theorem gi_append (l m : List Nat) : gi l ++ gi m = gi (l ++ m) := by simp [gi]
theorem gi_nonneg (l : List Int) (h : ∀ x ∈ l, 0 ≤ x) : ∃ m : List Nat, l = gi m := by
  refine ⟨l.map Int.toNat, ?_⟩
  unfold gi
  rw [List.map_map]
  conv => lhs; rw [← List.map_id l]
  apply List.map_congr_left
  intro x hx
  have := h x hx
  simp; omega
theorem testBit_ge {a n i : Nat} (h : a < 2 ^ n) (hi : n ≤ i) : a.testBit i = false := Nat.testBit_lt_two_pow (Nat.lt_of_lt_of_le h (Nat.pow_le_pow_right (by omega) hi))
end Go.Proofs.YtoffehihicabcaaDoor.T
end
section
/- Small words for loops over indices, and for what holds from some number of rounds on. -/
set_option linter.unusedVariables false
namespace Go.Proofs.YtoffehihicabcaaDoor.T
open Go.RowKit Go.Proofs.YtoffehihicabcaaDoorW.PrintWords Go.Proofs.YtoffehihicabcaaDoorW.PrintLast Go.Proofs.YtoffehihicabcaaDoorW.PrintMore

/-- p holds of i, i + 1, .., n - 1. -/
def allFrom (p : Nat → Bool) (n : Nat) : Nat → Nat → Bool
  | 0, _ => true
  | d + 1, i => p i && allFrom p n d (i + 1)
theorem allFrom_iff (p : Nat → Bool) (n : Nat) : ∀ d i, allFrom p n d i = true ↔ ∀ j, i ≤ j → j < i + d → p j = true
  | 0, i => by simp only [allFrom]; exact ⟨fun _ j h1 h2 => by omega, fun _ => trivial⟩
  | d + 1, i => by
    simp only [allFrom, Bool.and_eq_true, allFrom_iff p n d (i + 1)]
    constructor
    · rintro ⟨h0, h⟩ j h1 h2
      by_cases e : j = i
      · subst e; exact h0
      · exact h j (by omega) (by omega)
    · intro h
      exact ⟨h i (by omega) (by omega), fun j h1 h2 => h j (by omega) (by omega)⟩
/-- the bit of any int, as Go tells it -/
def ibit (x : Int) (i : Nat) : Int := Go.bits .and .i64 (shr .i64 x (i : Int)) 1
theorem ibit_nat (a i : Nat) (ha : a < 2 ^ 62) (hi : i < 62) : ibit (a : Int) i = ((a.testBit i).toNat : Int) := bit_at a i ha hi
theorem wrap_succ (i : Nat) (h : i < 2 ^ 61) : wrap64 ((i : Int) + 1) = ((i + 1 : Nat) : Int) := by
  rw [w64_small _ (by omega) (by omega)]; omega
theorem wrap_pred (i : Nat) (h : i < 2 ^ 61) (h0 : 0 < i) : wrap64 ((i : Int) - 1) = ((i - 1 : Nat) : Int) := by
  rw [w64_small _ (by omega) (by omega)]; omega
theorem Ev.uniq {α : Type} {g : Nat → Option α} {a b : α} (h : Ev g a) (h' : Ev g b) : a = b := by
  obtain ⟨K, h⟩ := h
  obtain ⟨K', h'⟩ := h'
  have h1 := h (max K K') (by omega)
  have h2 := h' (max K K') (by omega)
  rw [h1] at h2
  exact Option.some.inj h2
theorem Ev.bind1 {α β : Type} {g : Option α} {f : Nat → α → Option β} {a : α} {r : β} (h : g = some a) (k : Ev (fun n => f n a) r) : Ev (fun n => g.bind (f n)) r := by subst h; exact k
theorem Ev.some {α : Type} {r r' : α} (h : r = r') : Ev (fun _ => some r) r' := by subst h; exact Ev.now r
theorem Ev.if_pos {α : Type} {c : Prop} [Decidable c] {g f : Nat → Option α} {r : α} (h : c) (k : Ev g r) : Ev (fun n => if c then g n else f n) r := by
  refine Ev.congr (fun n => ?_) k
  rw [_root_.if_pos h]
theorem Ev.if_neg {α : Type} {c : Prop} [Decidable c] {g f : Nat → Option α} {r : α} (h : ¬ c) (k : Ev f r) : Ev (fun n => if c then g n else f n) r := by
  refine Ev.congr (fun n => ?_) k
  rw [_root_.if_neg h]
/-- A test that both ways serve. -/
theorem Ev.ite {α : Type} {c : Prop} [Decidable c] {g f : Nat → Option α} {r : α} (h1 : c → Ev g r) (h2 : ¬ c → Ev f r) : Ev (fun n => if c then g n else f n) r := by
  by_cases h : c
  · exact Ev.if_pos h (h1 h)
  · exact Ev.if_neg h (h2 h)
end Go.Proofs.YtoffehihicabcaaDoor.T
end
section
/- Graphs as lists of numbers: what it is to be valid; sets of nodes as numbers. -/
set_option linter.unusedVariables false
namespace Go.Proofs.YtoffehihicabcaaDoor.T
open Go.RowKit Go.Proofs.YtoffehihicabcaaDoorW.PrintWords Go.Proofs.YtoffehihicabcaaDoorW.PrintLast Go.Proofs.YtoffehihicabcaaDoorW.PrintMore

/-- What the program asks of row i of a graph. -/
def rowOk (g : List Int) (i : Nat) : Bool :=
  !decide (rd g (i : Int) < 0) && !decide (rd g (i : Int) ≥ shl .i64 1 (g.length : Int)) && !(ibit (rd g (i : Int)) i == 1) &&
    allFrom (fun j => decide (ibit (rd g (i : Int)) j = ibit (rd g (j : Int)) i)) g.length g.length 0
/-- A valid graph of at most m nodes. -/
def chk (m : Nat) (g : List Int) : Bool := decide (1 ≤ g.length) && decide (g.length ≤ m) && allFrom (rowOk g) g.length g.length 0

/-- A graph: the rows are sets of nodes, none has itself, and neighbours are so both ways. -/
structure Gr (m : Nat) (G : List Nat) : Prop where
  pos : 1 ≤ G.length
  most : G.length ≤ m
  lt : ∀ i, i < G.length → G.getD i 0 < 2 ^ G.length
  irr : ∀ i, i < G.length → (G.getD i 0).testBit i = false
  symm : ∀ i j, i < G.length → j < G.length → (G.getD i 0).testBit j = (G.getD j 0).testBit i

theorem chk_iff (m : Nat) (hm : m ≤ 13) (g : List Int) : chk m g = true ↔ ∃ G, g = gi G ∧ Gr m G := by
  have p62 : ∀ n : Nat, n ≤ 13 → 2 ^ n < 2 ^ 62 := fun n hn => Nat.pow_lt_pow_right (by omega) (by omega)
  constructor
  · intro h
    simp only [chk, Bool.and_eq_true, decide_eq_true_eq, allFrom_iff] at h
    obtain ⟨⟨h1, h2⟩, h3⟩ := h
    have hn : g.length ≤ 13 := by omega
    have hrow : ∀ i, i < g.length → (0 ≤ rd g (i : Int) ∧ rd g (i : Int) < ((2 ^ g.length : Nat) : Int)) ∧ ibit (rd g (i : Int)) i ≠ 1 ∧ ∀ j, j < g.length → ibit (rd g (i : Int)) j = ibit (rd g (j : Int)) i := by
      intro i hi
      have := h3 i (by omega) (by omega)
      simp only [rowOk, Bool.and_eq_true, Bool.not_eq_true', decide_eq_false_iff_not, beq_eq_false_iff_ne, allFrom_iff, decide_eq_true_eq] at this
      obtain ⟨⟨⟨a, b⟩, c⟩, d⟩ := this
      rw [s_one _ (by omega)] at b
      exact ⟨⟨by omega, by omega⟩, c, fun j hj => d j (by omega) (by omega)⟩
    obtain ⟨G, rfl⟩ := gi_nonneg g (fun x hx => by
      obtain ⟨i, hi, rfl⟩ := List.getElem_of_mem hx
      have := (hrow i hi).1.1
      unfold rd at this
      rw [Int.toNat_natCast, List.getD_eq_getElem?_getD, List.getElem?_eq_getElem hi] at this
      exact this)
    simp only [gi_length, rd_gi] at hrow h1 h2 hn
    have hlt : ∀ i, i < G.length → G.getD i 0 < 2 ^ G.length := fun i hi => by have := (hrow i hi).1.2; omega
    refine ⟨G, rfl, h1, h2, hlt, fun i hi => ?_, fun i j hi hj => ?_⟩
    · have := (hrow i hi).2.1
      rw [ibit_nat _ _ (Nat.lt_trans (hlt i hi) (p62 _ hn)) (by omega)] at this
      cases hb : (G.getD i 0).testBit i
      · rfl
      · rw [hb] at this; exact (this rfl).elim
    · have := (hrow i hi).2.2 j hj
      rw [ibit_nat _ _ (Nat.lt_trans (hlt i hi) (p62 _ hn)) (by omega), ibit_nat _ _ (Nat.lt_trans (hlt j hj) (p62 _ hn)) (by omega)] at this
      cases ha : (G.getD i 0).testBit j <;> cases hb : (G.getD j 0).testBit i <;> rw [ha, hb] at this <;> simp_all
  · rintro ⟨G, rfl, hG⟩
    have hn : G.length ≤ 13 := Nat.le_trans hG.most hm
    simp only [chk, Bool.and_eq_true, decide_eq_true_eq, allFrom_iff, gi_length]
    refine ⟨⟨hG.pos, hG.most⟩, fun i _ hi => ?_⟩
    have hi : i < G.length := by omega
    simp only [rowOk, Bool.and_eq_true, Bool.not_eq_true', decide_eq_false_iff_not, beq_eq_false_iff_ne, allFrom_iff, decide_eq_true_eq, rd_gi, gi_length]
    rw [s_one _ (by omega)]
    have hl := hG.lt i hi
    refine ⟨⟨⟨by omega, by omega⟩, ?_⟩, fun j _ hj => ?_⟩
    · rw [ibit_nat _ _ (Nat.lt_trans hl (p62 _ hn)) (by omega), hG.irr i hi]; simp
    · have hj : j < G.length := by omega
      rw [ibit_nat _ _ (Nat.lt_trans hl (p62 _ hn)) (by omega), ibit_nat _ _ (Nat.lt_trans (hG.lt j hj) (p62 _ hn)) (by omega), hG.symm i j hi hj]

/-- Neighbours. -/
def Adj (G : List Nat) (u w : Nat) : Prop := (G.getD u 0).testBit w = true
theorem getD_out (G : List Nat) (i : Nat) (h : G.length ≤ i) : G.getD i 0 = 0 := by
  rw [List.getD_eq_getElem?_getD, List.getElem?_eq_none h]; rfl
theorem Gr.row {m : Nat} {G : List Nat} (h : Gr m G) (i : Nat) : G.getD i 0 < 2 ^ G.length := by
  by_cases hi : i < G.length
  · exact h.lt i hi
  · rw [getD_out G i (by omega)]; exact Nat.two_pow_pos _
theorem Gr.adj_lt {m : Nat} {G : List Nat} (h : Gr m G) {u w : Nat} (a : Adj G u w) : w < G.length := by
  apply Classical.byContradiction
  intro hw
  unfold Adj at a
  rw [testBit_ge (h.row u) (by omega)] at a
  cases a
theorem Gr.adj_lt' {m : Nat} {G : List Nat} (h : Gr m G) {u w : Nat} (a : Adj G u w) : u < G.length := by
  apply Classical.byContradiction
  intro hu
  unfold Adj at a
  rw [getD_out G u (by omega)] at a
  simp at a
theorem Gr.adj_symm {m : Nat} {G : List Nat} (h : Gr m G) {u w : Nat} (a : Adj G u w) : Adj G w u := by
  have h1 := h.adj_lt a
  have h2 := h.adj_lt' a
  unfold Adj at *
  rw [← h.symm u w h2 h1]; exact a
theorem Gr.adj_irr {m : Nat} {G : List Nat} (h : Gr m G) {u : Nat} : ¬ Adj G u u := by
  intro a
  have h2 := h.adj_lt' a
  unfold Adj at a
  rw [h.irr u h2] at a
  cases a

/-- The neighbours of the nodes of a set: some nodes' rows, joined. -/
def around (G : List Nat) (s : Nat) : Nat → Nat
  | 0 => 0
  | d + 1 => around G s d ||| (if s.testBit d then G.getD d 0 else 0)
theorem around_bit (G : List Nat) (s : Nat) : ∀ d j, (around G s d).testBit j = true ↔ ∃ i, i < d ∧ s.testBit i = true ∧ Adj G i j
  | 0, j => by simp [around]
  | d + 1, j => by
    simp only [around, Nat.testBit_or, Bool.or_eq_true, around_bit G s d]
    constructor
    · rintro (⟨i, h1, h2⟩ | h)
      · exact ⟨i, by omega, h2⟩
      · by_cases hs : s.testBit d = true
        · rw [if_pos hs] at h; exact ⟨d, by omega, hs, h⟩
        · rw [if_neg hs] at h; simp at h
    · rintro ⟨i, h1, h2, h3⟩
      by_cases e : i = d
      · subst e; rw [if_pos h2]; exact .inr h3
      · exact .inl ⟨i, by omega, h2, h3⟩
/-- .. of all its nodes. -/
def Around (G : List Nat) (s : Nat) : Nat := around G s G.length
theorem Around_bit {m : Nat} {G : List Nat} (h : Gr m G) (s j : Nat) : (Around G s).testBit j = true ↔ ∃ i, s.testBit i = true ∧ Adj G i j := by
  unfold Around
  rw [around_bit]
  exact ⟨fun ⟨i, _, h2⟩ => ⟨i, h2⟩, fun ⟨i, h1, h2⟩ => ⟨i, h.adj_lt' h2, h1, h2⟩⟩
theorem lt_of_bits {x n : Nat} (h : ∀ j, x.testBit j = true → j < n) : x < 2 ^ n := by
  apply Nat.lt_pow_two_of_testBit
  intro i hi
  cases hb : x.testBit i
  · rfl
  · have := h i hb; omega
theorem bit_lt {x n j : Nat} (h : x < 2 ^ n) (hb : x.testBit j = true) : j < n := by
  apply Classical.byContradiction
  intro hj
  rw [testBit_ge h (by omega)] at hb
  cases hb
theorem Around_lt {m : Nat} {G : List Nat} (h : Gr m G) (s : Nat) : Around G s < 2 ^ G.length :=
  lt_of_bits fun j hj => by obtain ⟨i, _, h2⟩ := (Around_bit h s j).1 hj; exact h.adj_lt h2
theorem eq_of_bits {a b : Nat} (h : ∀ j, a.testBit j = true ↔ b.testBit j = true) : a = b := by
  apply Nat.eq_of_testBit_eq
  intro i
  have := h i
  cases ha : a.testBit i <;> cases hb : b.testBit i <;> simp_all

/-- What is connected with the nodes of s within w. -/
inductive Con (adj : Nat → Nat → Prop) (w : Nat → Prop) (s : Nat → Prop) : Nat → Prop
  | base {u : Nat} : s u → Con adj w s u
  | step {x u : Nat} : Con adj w s x → adj x u → w u → Con adj w s u
def bset (x : Nat) (i : Nat) : Prop := x.testBit i = true
end Go.Proofs.YtoffehihicabcaaDoor.T
end
section
/- Elimination orders of graphs, in plain Lean: a node less, an edge less, two neighbours made one. No program is in sight. -/
set_option linter.unusedVariables false
namespace Go.Proofs.YtoffehihicabcaaDoor.T

/-- At most k numbers have the property. -/
def AtMost (k : Nat) (P : Nat → Prop) : Prop := ∃ l : List Nat, l.length ≤ k ∧ ∀ u, P u → u ∈ l

theorem AtMost.mono {k k' : Nat} {P Q : Nat → Prop} (h : AtMost k P) (hk : k ≤ k') (hq : ∀ u, Q u → P u) : AtMost k' Q := by
  obtain ⟨l, hl, hp⟩ := h
  exact ⟨l, Nat.le_trans hl hk, fun u hu => hp u (hq u hu)⟩
theorem AtMost.map {k : Nat} {P Q : Nat → Prop} (f : Nat → Nat) (h : AtMost k P) (hq : ∀ u, Q u → ∃ x, P x ∧ f x = u) : AtMost k Q := by
  obtain ⟨l, hl, hp⟩ := h
  refine ⟨l.map f, by simpa using hl, fun u hu => ?_⟩
  obtain ⟨x, hx, rfl⟩ := hq u hu
  exact List.mem_map_of_mem (hp x hx)
theorem AtMost.succ {k : Nat} {P Q : Nat → Prop} (h : AtMost k P) (a : Nat) (hq : ∀ u, Q u → P u ∨ u = a) : AtMost (k + 1) Q := by
  obtain ⟨l, hl, hp⟩ := h
  refine ⟨a :: l, by simp; omega, fun u hu => ?_⟩
  rcases hq u hu with h | h
  · exact List.mem_cons_of_mem _ (hp u h)
  · subst h
    exact List.mem_cons_self
theorem AtMost.below {n : Nat} {P : Nat → Prop} (h : ∀ u, P u → u < n) : AtMost n P := ⟨List.range n, by simp, fun u hu => List.mem_range.2 (h u hu)⟩

/-- Nodes to which a way leads from v whose other nodes are in S. -/
inductive Way (adj : Nat → Nat → Prop) (S : Nat → Prop) (v : Nat) : Nat → Prop
  | one {u : Nat} : adj v u → Way adj S v u
  | more {x u : Nat} : Way adj S v x → S x → adj x u → Way adj S v u

/-- The neighbours that v has at its turn, S gone before. -/
def Nb (adj : Nat → Nat → Prop) (S : Nat → Prop) (v u : Nat) : Prop := Way adj S v u ∧ ¬ S u ∧ u ≠ v

/-- S can be eliminated, no node with more than k neighbours at its turn. -/
inductive Elim (V : Nat → Prop) (adj : Nat → Nat → Prop) (k : Nat) : (Nat → Prop) → Prop
  | nil : Elim V adj k (fun _ => False)
  | snoc {S : Nat → Prop} (v : Nat) : Elim V adj k S → V v → ¬ S v → AtMost k (Nb adj S v) → Elim V adj k (fun u => S u ∨ u = v)

theorem Elim.ext {V : Nat → Prop} {adj : Nat → Nat → Prop} {k : Nat} {S S' : Nat → Prop} (h : Elim V adj k S) (e : ∀ u, S u ↔ S' u) : Elim V adj k S' := by
  have : S = S' := funext fun u => propext (e u)
  subst this
  exact h
theorem Elim.mono {V : Nat → Prop} {adj : Nat → Nat → Prop} {k k' : Nat} {S : Nat → Prop} (h : Elim V adj k S) (hk : k ≤ k') : Elim V adj k' S := by
  induction h with
  | nil => exact .nil
  | snoc v _ hv hs ha ih => exact .snoc v ih hv hs (ha.mono hk fun _ h => h)
theorem Elim.sub {V : Nat → Prop} {adj : Nat → Nat → Prop} {k : Nat} {S : Nat → Prop} (h : Elim V adj k S) : ∀ u, S u → V u := by
  induction h with
  | nil => intro u hu; exact hu.elim
  | snoc v _ hv _ _ ih =>
    intro u hu
    rcases hu with hu | hu
    · exact ih u hu
    · subst hu; exact hv

theorem Way.inside {adj : Nat → Nat → Prop} {S W : Nat → Prop} (hW : ∀ u w, adj u w → W w) {v u : Nat} (h : Way adj S v u) : W u := by
  cases h with
  | one h => exact hW _ _ h
  | more _ _ h => exact hW _ _ h

/-- A graph that lies in another one (by φ, which ψ undoes) has no greater width. -/
theorem Elim.part {V W : Nat → Prop} {adj adj' : Nat → Nat → Prop} {k : Nat} (φ ψ : Nat → Nat) (hψ : ∀ u, ψ (φ u) = u)
    (hW : ∀ u w, adj' u w → W w) (hadj : ∀ u w, adj' u w → adj (φ u) (φ w)) {S : Nat → Prop} (h : Elim V adj k S) :
    Elim W adj' k (fun u => W u ∧ S (φ u)) := by
  have hinj : ∀ a b, φ a = φ b → a = b := fun a b e => by rw [← hψ a, ← hψ b, e]
  induction h with
  | nil => exact Elim.nil.ext fun u => ⟨fun h => h.elim, fun h => h.2⟩
  | @snoc S v _ hv hs ha ih =>
    by_cases hp : ∃ u, W u ∧ φ u = v
    · obtain ⟨u, hu, rfl⟩ := hp
      refine (Elim.snoc u ih hu (fun h => hs h.2) ?_).ext ?_
      · refine ha.map ψ fun w hw => ⟨φ w, ⟨?_, ?_, ?_⟩, hψ w⟩
        · have key : ∀ x, Way adj' (fun u => W u ∧ S (φ u)) u x → Way adj S (φ u) (φ x) := by
            intro x hx
            induction hx with
            | one h => exact .one (hadj _ _ h)
            | more _ hS h ih => exact .more ih hS.2 (hadj _ _ h)
          exact key w hw.1
        · intro hSw
          exact hw.2.1 ⟨hw.1.inside hW, hSw⟩
        · intro e
          exact hw.2.2 (hinj _ _ e)
      · intro x
        constructor
        · rintro (h | h)
          · exact ⟨h.1, .inl h.2⟩
          · subst h; exact ⟨hu, .inr rfl⟩
        · rintro ⟨h1, h2 | h2⟩
          · exact .inl ⟨h1, h2⟩
          · exact .inr (hinj _ _ h2)
    · refine ih.ext fun u => ⟨fun h => ⟨h.1, .inl h.2⟩, fun h => ⟨h.1, ?_⟩⟩
      rcases h.2 with h2 | h2
      · exact h2
      · exact (hp ⟨u, h.1, h2⟩).elim

/-- A node more raises the width by at most one: H is G without a, by φ. -/
theorem Elim.more {V W : Nat → Prop} {adj adj' : Nat → Nat → Prop} {k : Nat} (a : Nat) (φ : Nat → Nat) (hinj : ∀ x y, φ x = φ y → x = y)
    (hV : ∀ u, V u ↔ u = a ∨ ∃ x, W x ∧ φ x = u) (ha : ∀ x, φ x ≠ a)
    (hin : ∀ u w, adj u w → V w) (hadj : ∀ u w, adj (φ u) (φ w) → adj' u w) {S : Nat → Prop} (h : Elim W adj' k S) :
    Elim V adj (k + 1) (fun u => ∃ x, S x ∧ φ x = u) := by
  induction h with
  | nil => exact Elim.nil.ext fun u => ⟨fun h => h.elim, fun ⟨_, h, _⟩ => h⟩
  | @snoc S v hS hv hs hm ih =>
    refine (Elim.snoc (φ v) ih ((hV _).2 (.inr ⟨v, hv, rfl⟩)) (fun ⟨x, hx, e⟩ => hs (hinj _ _ e ▸ hx)) ?_).ext ?_
    · refine AtMost.succ (P := fun u => ∃ w, Nb adj' S v w ∧ φ w = u) (hm.map φ fun u ⟨w, hw, e⟩ => ⟨w, hw, e⟩) a ?_
      rintro u ⟨hu, hnu, hne⟩
      have key : ∀ y, Way adj (fun u => ∃ x, S x ∧ φ x = u) (φ v) y → ∀ x, φ x = y → Way adj' S v x := by
        intro y hy
        induction hy with
        | one h => rintro x rfl; exact .one (hadj _ _ h)
        | more _ hS h ih =>
          rintro x rfl
          obtain ⟨z, hz, rfl⟩ := hS
          exact .more (ih z rfl) hz (hadj _ _ h)
      rcases (hV u).1 (hu.inside hin) with e | ⟨x, hx, rfl⟩
      · exact .inr e
      · refine .inl ⟨x, ⟨key _ hu x rfl, fun h => hnu ⟨x, h, rfl⟩, fun e => hne (by rw [e])⟩, rfl⟩
    · intro u
      constructor
      · rintro (⟨x, hx, e⟩ | h)
        · exact ⟨x, .inl hx, e⟩
        · exact ⟨v, .inr rfl, h.symm⟩
      · rintro ⟨x, hx | hx, e⟩
        · exact .inl ⟨x, hx, e⟩
        · subst hx; exact .inr e.symm

/-- .. and the whole graph, a last. -/
theorem Elim.more_all {V W : Nat → Prop} {adj adj' : Nat → Nat → Prop} {k : Nat} (a : Nat) (φ : Nat → Nat) (hinj : ∀ x y, φ x = φ y → x = y)
    (hV : ∀ u, V u ↔ u = a ∨ ∃ x, W x ∧ φ x = u) (ha : ∀ x, φ x ≠ a)
    (hin : ∀ u w, adj u w → V w) (hadj : ∀ u w, adj (φ u) (φ w) → adj' u w) (h : Elim W adj' k W) : Elim V adj (k + 1) V := by
  refine (Elim.snoc a (Elim.more a φ hinj hV ha hin hadj h) ((hV a).2 (.inl rfl)) (fun ⟨x, _, e⟩ => ha x e) ?_).ext ?_
  · refine ⟨[], by simp, ?_⟩
    rintro u ⟨hu, hn, hne⟩
    rcases (hV u).1 (hu.inside hin) with e | e
    · exact (hne e).elim
    · exact (hn e).elim
  · intro u
    rw [hV]
    exact ⟨fun h => h.symm, fun h => h.symm⟩

/-- Two neighbours made one: b goes into a. -/
def glue (a b x : Nat) : Nat := if x = b then a else x

theorem Elim.contract {V : Nat → Prop} {adj adj' : Nat → Nat → Prop} {k : Nat} (a b : Nat) (hab : adj a b) (hba : adj b a) (hne : a ≠ b) (hVa : V a)
    (hadj : ∀ u w, adj' u w → u ≠ w ∧ ∃ x y, glue a b x = u ∧ glue a b y = w ∧ adj x y) {S : Nat → Prop} (h : Elim V adj k S) :
    Elim (fun u => V u ∧ u ≠ b) adj' k (fun u => u ≠ b ∧ ∀ x, glue a b x = u → S x) := by
  have ga : glue a b a = a := by unfold glue; rw [if_neg hne]
  have gb : glue a b b = a := by unfold glue; rw [if_pos rfl]
  have gx : ∀ x, x ≠ b → glue a b x = x := fun x h => by unfold glue; rw [if_neg h]
  have gn : ∀ x, glue a b x ≠ b := fun x => by unfold glue; split <;> omega
  have pre : ∀ x u, glue a b x = u → u ≠ a → x = u := fun x u h hu => by
    by_cases e : x = b
    · subst e; rw [gb] at h; omega
    · rw [gx x e] at h; exact h
  have pre2 : ∀ x, glue a b x = a → x = a ∨ x = b := fun x h => by
    by_cases e : x = b
    · exact .inr e
    · rw [gx x e] at h; exact .inl h
  induction h with
  | nil => exact Elim.nil.ext fun u => ⟨fun h => h.elim, fun h => by
      by_cases e : u = a
      · subst e; exact h.2 u ga
      · exact h.2 u (gx u h.1)⟩
  | @snoc S v _ hv hs hm ih =>
    -- ways in the smaller graph come of ways in the greater one
    have stepS : ∀ s x, Way adj S s x → S x → ∀ y, glue a b y = glue a b x → Way adj S s y := by
      intro s x hx hSx y e
      by_cases exy : x = y
      · subst exy; exact hx
      · by_cases hya : glue a b x = a
        · rcases pre2 x hya with rfl | rfl <;> rcases pre2 y (e.trans hya) with rfl | rfl
          · exact hx
          · exact .more hx hSx hab
          · exact .more hx hSx hba
          · exact hx
        · have h1 := pre x _ rfl hya
          have h2 := pre y _ e (by rw [← e] at hya; rw [e] at hya; exact hya)
          exact (exy (h1.trans h2.symm)).elim
    by_cases hcase : (v = a ∧ S b) ∨ (v = b ∧ S a) ∨ (v ≠ a ∧ v ≠ b)
    · -- the node of v goes
      have hgv : glue a b v ≠ b := gn v
      have hVg : V (glue a b v) := by
        by_cases e : v = b
        · rw [e, gb]; exact hVa
        · rw [gx v e]; exact hv
      -- from each preimage of v's node there is a way from v, of what is gone
      have start : ∀ y, glue a b y = glue a b v → y = v ∨ (S y ∧ Way adj S v y) := by
        intro y e
        rcases hcase with ⟨rfl, hb⟩ | ⟨rfl, ha'⟩ | ⟨h1, h2⟩
        · rw [ga] at e
          rcases pre2 y e with h | h
          · exact .inl h
          · subst h; exact .inr ⟨hb, .one hab⟩
        · rw [gb] at e
          rcases pre2 y e with h | h
          · subst h; exact .inr ⟨ha', .one hba⟩
          · exact .inl h
        · rw [gx v h2] at e
          exact .inl (pre y v e h1)
      have key : ∀ w, Way adj' (fun u => u ≠ b ∧ ∀ x, glue a b x = u → S x) (glue a b v) w → ∃ x, glue a b x = w ∧ Way adj S v x := by
        intro w hw
        induction hw with
        | one h =>
          obtain ⟨_, x, y, hx, hy, hxy⟩ := hadj _ _ h
          rcases start x hx with rfl | ⟨h1, h2⟩
          · exact ⟨y, hy, .one hxy⟩
          · exact ⟨y, hy, .more h2 h1 hxy⟩
        | more _ hS h ih =>
          obtain ⟨z, hz, hwz⟩ := ih
          obtain ⟨_, x, y, hx, hy, hxy⟩ := hadj _ _ h
          have hSz := hS.2 z hz
          have hSx := hS.2 x hx
          exact ⟨y, hy, .more (stepS v z hwz hSz x (hx.trans hz.symm)) hSx hxy⟩
      refine (Elim.snoc (glue a b v) ih ⟨hVg, hgv⟩ (fun h => hs (h.2 v rfl)) ?_).ext ?_
      · refine hm.map (glue a b) fun w hw => ?_
        obtain ⟨hw1, hw2, hw3⟩ := hw
        obtain ⟨x, hx, hwx⟩ := key w hw1
        have hwb : w ≠ b := hx ▸ gn x
        by_cases hSx : S x
        · -- another preimage is not gone
          have : ∃ y, glue a b y = w ∧ ¬ S y := Classical.byContradiction fun hno => hw2 ⟨hwb, fun y hy => Classical.byContradiction fun h => hno ⟨y, hy, h⟩⟩
          obtain ⟨y, hy, hSy⟩ := this
          exact ⟨y, ⟨stepS v x hwx hSx y (hy.trans hx.symm), hSy, fun e => hw3 (by rw [← hy, e])⟩, hy⟩
        · exact ⟨x, ⟨hwx, hSx, fun e => hw3 (by rw [← hx, e])⟩, hx⟩
      · intro u
        constructor
        · rintro (⟨h1, h2⟩ | rfl)
          · exact ⟨h1, fun x hx => .inl (h2 x hx)⟩
          · refine ⟨hgv, fun x hx => ?_⟩
            rcases start x hx with h | h
            · exact .inr h
            · exact .inl h.1
        · rintro ⟨h1, h2⟩
          by_cases e : u = glue a b v
          · exact .inr e
          · refine .inl ⟨h1, fun x hx => ?_⟩
            rcases h2 x hx with h | h
            · exact h
            · subst h; exact (e hx.symm).elim
    · -- the other one is still there: nothing goes
      refine ih.ext fun u => ⟨fun h => ⟨h.1, fun x hx => .inl (h.2 x hx)⟩, fun h => ⟨h.1, fun x hx => ?_⟩⟩
      rcases h.2 x hx with h' | h'
      · exact h'
      · subst h'
        exfalso
        apply hcase
        by_cases e1 : x = a
        · refine .inl ⟨e1, ?_⟩
          subst e1
          rw [ga] at hx
          subst hx
          rcases h.2 b gb with h | h
          · exact h
          · exact (hne h.symm).elim
        · by_cases e2 : x = b
          · subst e2
            rw [gb] at hx
            subst hx
            rcases h.2 a ga with h | h
            · exact .inr (.inl ⟨rfl, h⟩)
            · exact (hne h).elim
          · exact .inr (.inr ⟨e1, e2⟩)
end Go.Proofs.YtoffehihicabcaaDoor.T
end
section
/- Sets of nodes as numbers: how many they have, what is connected with them, the neighbours of a node at its turn. -/
set_option linter.unusedVariables false
namespace Go.Proofs.YtoffehihicabcaaDoor.T
open Go.RowKit Go.Proofs.YtoffehihicabcaaDoorW.PrintWords Go.Proofs.YtoffehihicabcaaDoorW.PrintLast Go.Proofs.YtoffehihicabcaaDoorW.PrintMore

/-- The set of the numbers below n with a property. -/
noncomputable def ofSet (P : Nat → Prop) : Nat → Nat
  | 0 => 0
  | d + 1 => ofSet P d ||| (@ite _ (P d) (Classical.propDecidable _) (2 ^ d) 0)
theorem ofSet_bit (P : Nat → Prop) : ∀ n j, bset (ofSet P n) j ↔ j < n ∧ P j
  | 0, j => by simp [ofSet, bset]
  | d + 1, j => by
    have ih := ofSet_bit P d j
    unfold bset at *
    simp only [ofSet, Nat.testBit_or, Bool.or_eq_true, ih]
    by_cases h : P d
    · rw [if_pos h, Nat.testBit_two_pow, decide_eq_true_eq]
      constructor
      · rintro (h1 | h1)
        · exact ⟨by omega, h1.2⟩
        · subst h1; exact ⟨by omega, h⟩
      · rintro ⟨h1, h2⟩
        by_cases e : d = j
        · exact .inr e
        · exact .inl ⟨by omega, h2⟩
    · rw [if_neg h]
      simp
      intro h1
      constructor
      · intro _; omega
      · intro _
        by_cases e : j = d
        · subst e; exact (h h1).elim
        · omega
theorem ofSet_lt (P : Nat → Prop) (n : Nat) : ofSet P n < 2 ^ n := lt_of_bits fun j hj => ((ofSet_bit P n j).1 hj).1
theorem eq_ofSet {P : Nat → Prop} {n x : Nat} (hx : x < 2 ^ n) (h : ∀ j, bset x j ↔ P j) : x = ofSet P n :=
  eq_of_bits fun j => by
    have := ofSet_bit P n j
    unfold bset at *
    rw [this, ← h j]
    exact ⟨fun hb => ⟨bit_lt hx hb, hb⟩, fun hb => hb.2⟩

/-- How many elements below n a set has. -/
def pc (x : Nat) : Nat → Nat
  | 0 => 0
  | d + 1 => pc x d + (x.testBit d).toNat
theorem pc_le (x : Nat) : ∀ n, pc x n ≤ n
  | 0 => Nat.le_refl _
  | d + 1 => by have := pc_le x d; simp only [pc]; cases x.testBit d <;> simp <;> omega
theorem pc_mono {x y : Nat} : ∀ n, (∀ j, j < n → x.testBit j = true → y.testBit j = true) → pc x n ≤ pc y n
  | 0, _ => Nat.le_refl _
  | d + 1, h => by
    have ih := pc_mono d (fun j hj => h j (by omega))
    have := h d (by omega)
    simp only [pc]
    cases hx : x.testBit d <;> cases hy : y.testBit d <;> simp_all <;> omega
theorem pc_lt {x y : Nat} (i : Nat) : ∀ n, (∀ j, j < n → x.testBit j = true → y.testBit j = true) → i < n → x.testBit i = false → y.testBit i = true → pc x n < pc y n
  | 0, _, hi, _, _ => by omega
  | d + 1, h, hi, h1, h2 => by
    simp only [pc]
    by_cases e : i = d
    · subst e
      have ih := pc_mono i (fun j hj => h j (by omega))
      rw [h1, h2]; simp; omega
    · have ih := pc_lt i d (fun j hj => h j (by omega)) (by omega) h1 h2
      have := h d (by omega)
      cases hx : x.testBit d <;> cases hy : y.testBit d <;> simp_all <;> omega
/-- The elements below n. -/
def els (x : Nat) (n : Nat) : List Nat := (List.range n).filter fun i => x.testBit i
theorem els_length (x : Nat) : ∀ n, (els x n).length = pc x n
  | 0 => rfl
  | d + 1 => by
    have ih := els_length x d
    unfold els at *
    rw [List.range_succ, List.filter_append, List.length_append, ih]
    simp only [pc]
    cases h : x.testBit d <;> simp [h]
theorem mem_els {x n j : Nat} : j ∈ els x n ↔ j < n ∧ x.testBit j = true := by unfold els; simp
theorem els_nodup (x n : Nat) : (els x n).Nodup := List.Pairwise.filter _ List.nodup_range
theorem nodup_le {l m : List Nat} (h : l.Nodup) (hs : ∀ x ∈ l, x ∈ m) : l.length ≤ m.length := by
  induction l generalizing m with
  | nil => simp
  | cons a l ih =>
    obtain ⟨h1, h2⟩ := List.nodup_cons.1 h
    have ha := hs a List.mem_cons_self
    have := ih (m := m.erase a) h2 (fun x hx => by
      have hxa : x ≠ a := fun e => h1 (e ▸ hx)
      exact (List.mem_erase_of_ne hxa).2 (hs x (List.mem_cons_of_mem _ hx)))
    rw [List.length_erase_of_mem ha] at this
    have : 0 < m.length := List.length_pos_of_mem ha
    simp only [List.length_cons]
    omega
theorem atMost_pc {x n k : Nat} (hx : x < 2 ^ n) : AtMost k (bset x) ↔ pc x n ≤ k := by
  rw [← els_length]
  constructor
  · rintro ⟨l, hl, h⟩
    exact Nat.le_trans (nodup_le (els_nodup x n) fun j hj => h j (mem_els.1 hj).2) hl
  · intro h
    exact ⟨els x n, h, fun j hj => mem_els.2 ⟨bit_lt hx hj, hj⟩⟩

/-- What is connected with s within w, as a set. -/
noncomputable def conset (G : List Nat) (s w : Nat) : Nat := ofSet (Con (Adj G) (bset w) (bset s)) G.length
theorem Con.inside {adj : Nat → Nat → Prop} {w s : Nat → Prop} {u : Nat} (h : Con adj w s u) : s u ∨ w u := by
  cases h with
  | base h => exact .inl h
  | step _ _ h => exact .inr h
theorem Con.mono {adj : Nat → Nat → Prop} {w s w' s' : Nat → Prop} (hw : ∀ u, w u → w' u) (hs : ∀ u, s u → s' u) {u : Nat} (h : Con adj w s u) : Con adj w' s' u := by
  induction h with
  | base h => exact .base (hs _ h)
  | step _ a h ih => exact .step ih a (hw _ h)
theorem conset_bit {m : Nat} {G : List Nat} (hG : Gr m G) {s : Nat} (w : Nat) (hs : s < 2 ^ G.length) (j : Nat) : bset (conset G s w) j ↔ Con (Adj G) (bset w) (bset s) j := by
  unfold conset
  rw [ofSet_bit]
  refine ⟨fun h => h.2, fun h => ⟨?_, h⟩⟩
  cases h with
  | base h => exact bit_lt hs h
  | step _ a _ => exact hG.adj_lt a
theorem conset_lt (G : List Nat) (s w : Nat) : conset G s w < 2 ^ G.length := ofSet_lt _ _
/-- A set that has s and is closed, and has nothing else, is that. -/
theorem conset_eq {m : Nat} {G : List Nat} (hG : Gr m G) {s w x : Nat} (hs : s < 2 ^ G.length) (hx : x < 2 ^ G.length) (h1 : ∀ j, bset s j → bset x j)
    (h2 : ∀ j, bset x j → Con (Adj G) (bset w) (bset s) j) (h3 : ∀ i j, bset x i → Adj G i j → bset w j → bset x j) : x = conset G s w :=
  eq_ofSet hx fun j => ⟨h2 j, fun h => by
    induction h with
    | base h => exact h1 _ h
    | step _ a h ih => exact h3 _ _ ih a h⟩

/-- The neighbours that v has at its turn, as a set: the program's way to tell them. -/
noncomputable def nbset (G : List Nat) (gone v : Nat) : Nat := diff (diff (Around G (conset G (2 ^ v) (gone ||| 2 ^ v))) gone) (2 ^ v)
theorem two_pow_bit (v j : Nat) : bset (2 ^ v) j ↔ j = v := by
  unfold bset; rw [Nat.testBit_two_pow, decide_eq_true_eq]; exact ⟨fun h => h.symm, fun h => h.symm⟩
theorem diff_bset (a b j : Nat) : bset (diff a b) j ↔ bset a j ∧ ¬ bset b j := by
  unfold bset; rw [diff_testBit]; cases a.testBit j <;> cases b.testBit j <;> simp
theorem or_bset (a b j : Nat) : bset (a ||| b) j ↔ bset a j ∨ bset b j := by unfold bset; simp
theorem and_bset (a b j : Nat) : bset (a &&& b) j ↔ bset a j ∧ bset b j := by unfold bset; simp
theorem nbset_bit {m : Nat} {G : List Nat} (hG : Gr m G) {gone v : Nat} (hv : v < G.length) (j : Nat) : bset (nbset G gone v) j ↔ Nb (Adj G) (bset gone) v j := by
  have hp : 2 ^ v < 2 ^ G.length := Nat.pow_lt_pow_right (by omega) hv
  unfold nbset
  rw [diff_bset, diff_bset, two_pow_bit]
  have h1 : bset (Around G (conset G (2 ^ v) (gone ||| 2 ^ v))) j ↔ Way (Adj G) (bset gone) v j := by
    have : bset (Around G (conset G (2 ^ v) (gone ||| 2 ^ v))) j ↔ ∃ i, Con (Adj G) (bset (gone ||| 2 ^ v)) (bset (2 ^ v)) i ∧ Adj G i j := by
      unfold bset at *
      rw [Around_bit hG]
      exact ⟨fun ⟨i, h1, h2⟩ => ⟨i, (conset_bit hG _ hp i).1 h1, h2⟩, fun ⟨i, h1, h2⟩ => ⟨i, (conset_bit hG _ hp i).2 h1, h2⟩⟩
    rw [this]
    constructor
    · rintro ⟨i, hi, ha⟩
      have key : ∀ i, Con (Adj G) (bset (gone ||| 2 ^ v)) (bset (2 ^ v)) i → i = v ∨ (Way (Adj G) (bset gone) v i ∧ bset gone i) := by
        intro i hi
        induction hi with
        | base h => exact .inl ((two_pow_bit v _).1 h)
        | @step x u _ a h ih =>
          by_cases e : u = v
          · exact .inl e
          · have hg : bset gone u := by
              rcases (or_bset _ _ _).1 h with h | h
              · exact h
              · exact (e ((two_pow_bit v u).1 h)).elim
            refine .inr ⟨?_, hg⟩
            rcases ih with ih | ih
            · subst ih; exact .one a
            · exact .more ih.1 ih.2 a
      rcases key i hi with h | h
      · subst h; exact .one ha
      · exact .more h.1 h.2 ha
    · intro h
      have key : ∀ x, Way (Adj G) (bset gone) v x → bset gone x → Con (Adj G) (bset (gone ||| 2 ^ v)) (bset (2 ^ v)) x := by
        intro x hx
        induction hx with
        | one a => intro hg; exact .step (.base ((two_pow_bit v v).2 rfl)) a ((or_bset _ _ _).2 (.inl hg))
        | more _ hS a ih => intro hg; exact .step (ih hS) a ((or_bset _ _ _).2 (.inl hg))
      cases h with
      | one a => exact ⟨v, .base ((two_pow_bit v v).2 rfl), a⟩
      | more hx hS a => exact ⟨_, key _ hx hS, a⟩
  rw [h1]
  unfold Nb
  exact ⟨fun ⟨⟨a, b⟩, c⟩ => ⟨a, b, c⟩, fun ⟨a, b, c⟩ => ⟨⟨a, b⟩, c⟩⟩
theorem nbset_lt {m : Nat} {G : List Nat} (hG : Gr m G) (gone v : Nat) : nbset G gone v < 2 ^ G.length :=
  Nat.lt_of_le_of_lt (diff_le _ _) (Nat.lt_of_le_of_lt (diff_le _ _) (Around_lt hG _))
end Go.Proofs.YtoffehihicabcaaDoor.T
end
section
/- The references' own words: IsGraph, Reached. -/
set_option linter.unusedVariables false
namespace Go.Proofs.YtoffehihicabcaaDoor.X
open Go.RowKit Go.Proofs.YtoffehihicabcaaDoorW.PrintWords Go.Proofs.YtoffehihicabcaaDoorW.PrintLast Go.Proofs.YtoffehihicabcaaDoorW.PrintMore Go.Proofs.YtoffehihicabcaaDoor.T

theorem isGraph_l1 (m : Nat) (g : List Int) (hn : g.length ≤ 13) (i : Nat) (hi : i < g.length) (r : Bool)
    (hrest : Ev (fun k => lampblackref01_IsGraph.l0 k g (m : Int) g (g.length : Int) ((i + 1 : Nat) : Int)) r) :
    ∀ d j, j + d = g.length → Ev (fun k => lampblackref01_IsGraph.l1 k g (m : Int) (i : Int) (rd g (i : Int)) g (g.length : Int) (i : Int) (g.length : Int) (j : Int))
      (allFrom (fun j => decide (ibit (rd g (i : Int)) j = ibit (rd g (j : Int)) i)) g.length d j && r) := by
  intro d
  induction d with
  | zero =>
    intro j hj
    refine Ev.step (fun k => ?_) hrest
    rw [lampblackref01_IsGraph.l1, if_neg (by omega), wrap_succ i (by omega)]
  | succ d ih =>
    intro j hj
    simp only [allFrom]
    by_cases hb : ibit (rd g (i : Int)) j = ibit (rd g (j : Int)) i
    · refine Ev.step (f := fun k => lampblackref01_IsGraph.l1 k g (m : Int) (i : Int) (rd g (i : Int)) g (g.length : Int) (i : Int) (g.length : Int) ((j + 1 : Nat) : Int)) (fun k => ?_) ?_
      · rw [lampblackref01_IsGraph.l1, if_pos (by omega), if_pos (by omega), if_pos (by omega), if_pos (by omega), wrap_succ j (by omega)]
        exact if_pos hb
      · have := ih (j + 1) (by omega)
        simpa [hb] using this
    · refine Ev.step (f := fun _ => some false) (fun k => ?_) (Ev.some (by simp [hb]))
      rw [lampblackref01_IsGraph.l1, if_pos (by omega), if_pos (by omega), if_pos (by omega), if_pos (by omega)]
      exact if_neg hb

theorem isGraph_l0 (m : Nat) (hm : m ≤ 13) (g : List Int) (h1 : 1 ≤ g.length) (hn : g.length ≤ m) :
    ∀ d i, i + d = g.length → Ev (fun k => lampblackref01_IsGraph.l0 k g (m : Int) g (g.length : Int) (i : Int)) (allFrom (rowOk g) g.length d i) := by
  intro d
  induction d with
  | zero =>
    intro i hi
    refine Ev.step (f := fun _ => some true) (fun k => ?_) (Ev.some (by simp [allFrom]))
    rw [lampblackref01_IsGraph.l0, if_neg (by omega), if_pos (by omega), decide_eq_true (by omega)]
  | succ d ih =>
    intro i hi
    have stop : ∀ k, lampblackref01_IsGraph.j1 (k + 1) g (m : Int) (i : Int) (rd g (i : Int)) g (g.length : Int) (i : Int) true = some false := fun k => by
      rw [lampblackref01_IsGraph.j1, if_pos rfl]
    simp only [allFrom, rowOk]
    by_cases h1' : rd g (i : Int) < 0
    · refine Ev.step (fun k => ?_) (f := fun k => lampblackref01_IsGraph.j1 k g (m : Int) (i : Int) (rd g (i : Int)) g (g.length : Int) (i : Int) true) ?_
      · rw [lampblackref01_IsGraph.l0, if_pos (by omega), if_pos (by omega), if_pos (by omega), if_neg (by omega), if_pos h1']
      · exact Ev.step stop (Ev.some (by simp [h1']))
    · by_cases h2 : rd g (i : Int) ≥ shl .i64 1 (g.length : Int)
      · refine Ev.step (fun k => ?_) (f := fun k => lampblackref01_IsGraph.j1 k g (m : Int) (i : Int) (rd g (i : Int)) g (g.length : Int) (i : Int) true) ?_
        · rw [lampblackref01_IsGraph.l0, if_pos (by omega), if_pos (by omega), if_pos (by omega), if_neg (by omega), if_neg h1', if_pos h2]
        · exact Ev.step stop (Ev.some (by simp [h2]))
      · refine Ev.step (fun k => ?_) (f := fun k => lampblackref01_IsGraph.j1 k g (m : Int) (i : Int) (rd g (i : Int)) g (g.length : Int) (i : Int) (ibit (rd g (i : Int)) i == 1)) ?_
        · rw [lampblackref01_IsGraph.l0, if_pos (by omega), if_pos (by omega), if_pos (by omega), if_neg (by omega), if_neg h1', if_neg h2]
          rfl
        · by_cases h3 : (ibit (rd g (i : Int)) i == 1) = true
          · simp only [h3]
            exact Ev.step stop (Ev.some (by simp))
          · refine Ev.step (fun k => by rw [lampblackref01_IsGraph.j1, if_neg h3]) ?_
            have := isGraph_l1 m g (by omega) i (by omega) _ (ih (i + 1) (by omega)) g.length 0 (by omega)
            have h3' : (ibit (rd g (i : Int)) i == 1) = false := by simpa using h3
            simp only [h1', h2, h3', decide_false, Bool.not_false, Bool.true_and]
            exact this

theorem isGraph_ev (m : Nat) (hm : m ≤ 13) (g : List Int) (hg : g.length < 2 ^ 60) : Ev (fun k => lampblackref01_IsGraph.f k g (m : Int)) (chk m g) := by
  unfold lampblackref01_IsGraph.f
  by_cases h1 : 1 ≤ g.length
  · by_cases h2 : g.length ≤ m
    · have := isGraph_l0 m hm g h1 h2 g.length 0 (by omega)
      simpa [chk, h1, h2] using this
    · refine Ev.step (f := fun k => lampblackref01_IsGraph.j1 k g (m : Int) 0 (rd g 0) g (g.length : Int) 0 true) (fun k => ?_) (Ev.step (f := fun _ => some false) (fun k => ?_) (Ev.some (by simp [chk, h2])))
      · rw [lampblackref01_IsGraph.l0, if_pos (by omega), if_pos (by omega), if_pos (by omega), if_pos (by omega)]
      · rw [lampblackref01_IsGraph.j1, if_pos rfl]
  · refine Ev.step (f := fun _ => some false) (fun k => ?_) (Ev.some (by simp [chk, h1]))
    rw [lampblackref01_IsGraph.l0, if_neg (by omega), if_neg (by omega)]

/-- One round over all nodes: the set only grows, by what is connected; and if it stays, it is closed. -/
theorem reached_l1 (m : Nat) (G : List Nat) (hG : Gr m G) (hm : m ≤ 13) (w : Nat) (hw : w < 2 ^ G.length) (c : Nat) (x0 : Nat) (Q : Int → Prop)
    (cont : ∀ x' : Nat, x' < 2 ^ G.length → (∀ j, bset x0 j → bset x' j) → (∀ s, (∀ j, bset x0 j → Con (Adj G) (bset w) s j) → ∀ j, bset x' j → Con (Adj G) (bset w) s j) → (∀ i j, bset x0 i → Adj G i j → bset w j → bset x' j) →
      ∃ r, Ev (fun k => lampblackref01_Reached.l0 k (gi G) (w : Int) (x' : Int) (G.length : Int) ((c + 1 : Nat) : Int)) r ∧ Q r) (hc : c < 2 ^ 50) :
    ∀ d i (x : Nat), i + d = G.length → x < 2 ^ G.length → (∀ j, bset x0 j → bset x j) → (∀ s, (∀ j, bset x0 j → Con (Adj G) (bset w) s j) → ∀ j, bset x j → Con (Adj G) (bset w) s j) →
      (∀ i' j, i' < i → bset x0 i' → Adj G i' j → bset w j → bset x j) →
      ∃ r, Ev (fun k => lampblackref01_Reached.l1 k (gi G) (w : Int) (x : Int) (G.length : Int) (c : Int) (G.length : Int) (i : Int)) r ∧ Q r := by
  have p62 : ∀ y : Nat, y < 2 ^ G.length → y < 2 ^ 62 := fun y hy => Nat.lt_trans hy (Nat.pow_lt_pow_right (by omega) (by have := hG.most; omega))
  have hmost := hG.most
  intro d
  induction d with
  | zero =>
    intro i x hi hx h1 h2 h3
    obtain ⟨r, e1, e2⟩ := cont x hx h1 h2 (fun i' j hi' ha hj => h3 i' j (by have := hG.adj_lt' ha; omega) hi' ha hj)
    refine ⟨r, Ev.step (fun k => ?_) e1, e2⟩
    rw [lampblackref01_Reached.l1, if_neg (by omega), wrap_succ c (by omega)]
  | succ d ih =>
    intro i x hi hx h1 h2 h3
    by_cases hb : x.testBit i = true
    · have hrow := hG.row i
      have hA : G.getD i 0 &&& w < 2 ^ G.length := Nat.lt_of_le_of_lt Nat.and_le_left hrow
      obtain ⟨r, e1, e2⟩ := ih (i + 1) (x ||| (G.getD i 0 &&& w)) (by omega) (or_lt hx hA) (fun j hj => (or_bset _ _ _).2 (.inl (h1 j hj)))
        (fun s hs j hj => by
          rcases (or_bset _ _ _).1 hj with h | h
          · exact h2 s hs j h
          · obtain ⟨ha, hb'⟩ := (and_bset _ _ _).1 h
            exact .step (h2 s hs i hb) ha hb')
        (fun i' j hi' hx0 ha hj => by
          by_cases e : i' = i
          · subst e; exact (or_bset _ _ _).2 (.inr ((and_bset _ _ _).2 ⟨ha, hj⟩))
          · exact (or_bset _ _ _).2 (.inl (h3 i' j (by omega) hx0 ha hj)))
      refine ⟨r, Ev.step (fun k => ?_) e1, e2⟩
      rw [lampblackref01_Reached.l1, if_pos (by omega), if_pos (by omega), if_pos ((bit_one x i (p62 x hx) (by omega)).2 hb), if_pos (by rw [gi_length]; omega), rd_gi,
        b_and _ _ (p62 _ hrow) (p62 _ hw), b_or _ _ (p62 _ hx) (p62 _ hA), wrap_succ i (by omega)]
    · obtain ⟨r, e1, e2⟩ := ih (i + 1) x (by omega) hx h1 h2
        (fun i' j hi' hx0 ha hj => by
          by_cases e : i' = i
          · subst e; exact (hb (h1 _ hx0)).elim
          · exact h3 i' j (by omega) hx0 ha hj)
      refine ⟨r, Ev.step (fun k => ?_) e1, e2⟩
      rw [lampblackref01_Reached.l1, if_pos (by omega), if_pos (by omega), if_neg (fun h => hb ((bit_one x i (p62 x hx) (by omega)).1 h)), wrap_succ i (by omega)]

theorem reached_l0 (m : Nat) (G : List Nat) (hG : Gr m G) (hm : m ≤ 13) (w v : Nat) (hw : w < 2 ^ G.length) (hv : v < G.length) :
    ∀ d c (x : Nat), c + d = G.length → x < 2 ^ G.length → bset x v → (∀ j, bset x j → Con (Adj G) (bset w) (bset (2 ^ v)) j) →
      ((∀ i j, bset x i → Adj G i j → bset w j → bset x j) ∨ c + 1 ≤ pc x G.length) →
      ∃ r, Ev (fun k => lampblackref01_Reached.l0 k (gi G) (w : Int) (x : Int) (G.length : Int) (c : Int)) r ∧ r = ((conset G (2 ^ v) w : Nat) : Int) := by
  have hp : 2 ^ v < 2 ^ G.length := Nat.pow_lt_pow_right (by omega) hv
  have hmost := hG.most
  intro d
  induction d with
  | zero =>
    intro c x hc hx hv' h1 h2
    refine ⟨(x : Int), Ev.step (f := fun _ => some (x : Int)) (fun k => ?_) (Ev.some rfl), ?_⟩
    · rw [lampblackref01_Reached.l0, if_neg (by omega)]
    · have hcl : ∀ i j, bset x i → Adj G i j → bset w j → bset x j := by
        rcases h2 with h | h
        · exact h
        · have := pc_le x G.length; omega
      congr 1
      exact conset_eq hG hp hx (fun j hj => by rw [(two_pow_bit v j).1 hj]; exact hv') h1 hcl
  | succ d ih =>
    intro c x hc hx hv' h1 h2
    obtain ⟨r, e1, e2⟩ := reached_l1 m G hG hm w hw c x (fun r => r = ((conset G (2 ^ v) w : Nat) : Int))
      (fun x' hx' g1 g2 g3 => by
        refine ih (c + 1) x' (by omega) hx' (g1 v hv') (g2 _ h1) ?_
        by_cases hcl : ∀ i j, bset x i → Adj G i j → bset w j → bset x j
        · -- closed: nothing came
          refine .inl fun i j hi ha hj => ?_
          have key : ∀ u, Con (Adj G) (bset w) (bset x) u → bset x u := fun u hu => by
            induction hu with
            | base h => exact h
            | step _ a b ih => exact hcl _ _ ih a b
          have this : ∀ j, bset x' j → bset x j := fun j hj => key j (g2 (bset x) (fun j hj => .base hj) j hj)
          exact g1 _ (hcl i j (this i hi) ha hj)
        · right
          have hcount : c + 1 ≤ pc x G.length := h2.resolve_left hcl
          have : ∃ i j, bset x i ∧ Adj G i j ∧ bset w j ∧ ¬ bset x j := Classical.byContradiction fun hno => hcl fun i j a b c => Classical.byContradiction fun h => hno ⟨i, j, a, b, c, h⟩
          obtain ⟨i, j, a, b, c', h⟩ := this
          have hj : x.testBit j = false := by unfold bset at h; simpa using h
          have := pc_lt (x := x) (y := x') j G.length (fun q _ hq => g1 q hq) (hG.adj_lt b) hj (g3 i j a b c')
          omega) (by omega) G.length 0 x (by omega) hx (fun _ h => h) (fun s hs j hj => hs j hj) (fun i' j hi' => by omega)
    refine ⟨r, Ev.step (fun k => ?_) e1, e2⟩
    rw [lampblackref01_Reached.l0, if_pos (by omega), gi_length]
    rfl

/-- What is reached from a node within a set: what is connected with it. -/
theorem reached_ev (m : Nat) (G : List Nat) (hG : Gr m G) (hm : m ≤ 13) (w v : Nat) (hw : w < 2 ^ G.length) (hv : v < G.length) :
    Ev (fun k => lampblackref01_Reached.f k (gi G) (w : Int) (v : Int)) ((conset G (2 ^ v) w : Nat) : Int) := by
  have hp : 2 ^ v < 2 ^ G.length := Nat.pow_lt_pow_right (by omega) hv
  have hmost := hG.most
  have h1 : 1 ≤ pc (2 ^ v) G.length := by
    have := pc_lt (x := 0) (y := 2 ^ v) v G.length (fun j _ h => by simp at h) hv (by simp) ((two_pow_bit v v).2 rfl)
    omega
  obtain ⟨r, e1, e2⟩ := reached_l0 m G hG hm w v hw hv G.length 0 (2 ^ v) (by omega) hp ((two_pow_bit v v).2 rfl) (fun j hj => .base hj) (.inr h1)
  subst e2
  unfold lampblackref01_Reached.f
  refine Ev.if_pos (by omega) ?_
  rw [s_one v (by omega), gi_length]
  exact e1
end Go.Proofs.YtoffehihicabcaaDoor.X
end
section
/- The width of a graph: the least k with which all nodes can be eliminated; its step from a set to the set without a node. -/
set_option linter.unusedVariables false
namespace Go.Proofs.YtoffehihicabcaaDoor.T
open Go.RowKit Go.Proofs.YtoffehihicabcaaDoorW.PrintWords Go.Proofs.YtoffehihicabcaaDoorW.PrintLast Go.Proofs.YtoffehihicabcaaDoorW.PrintMore

def ElimG (G : List Nat) (k S : Nat) : Prop := Elim (fun u => u < G.length) (Adj G) k (bset S)
theorem elimG_zero (G : List Nat) (k : Nat) : ElimG G k 0 := Elim.nil.ext fun u => by simp [bset]
theorem elimG_step {m : Nat} {G : List Nat} (hG : Gr m G) {k S : Nat} (hS : S < 2 ^ G.length) (h0 : S ≠ 0) :
    ElimG G k S ↔ ∃ v, bset S v ∧ ElimG G k (diff S (2 ^ v)) ∧ pc (nbset G (diff S (2 ^ v)) v) G.length ≤ k := by
  have nb : ∀ v, bset S v → (AtMost k (Nb (Adj G) (bset (diff S (2 ^ v))) v) ↔ pc (nbset G (diff S (2 ^ v)) v) G.length ≤ k) := fun v hv => by
    rw [← atMost_pc (nbset_lt hG _ _)]
    have e : bset (nbset G (diff S (2 ^ v)) v) = Nb (Adj G) (bset (diff S (2 ^ v))) v := funext fun j => propext (nbset_bit hG (bit_lt hS hv) j)
    rw [e]
  constructor
  · intro h
    unfold ElimG at h
    generalize hT : bset S = T at h
    cases h with
    | nil =>
      exfalso
      apply h0
      apply Nat.eq_of_testBit_eq
      intro i
      have : ¬ bset S i := by rw [hT]; exact id
      unfold bset at this
      simpa using this
    | @snoc S' v h1 hv hs ha =>
      have hv' : bset S v := by rw [hT]; exact .inr rfl
      have e : S' = bset (diff S (2 ^ v)) := funext fun u => propext (by
        rw [diff_bset, hT, two_pow_bit]
        constructor
        · intro h; exact ⟨.inl h, fun e => hs (e ▸ h)⟩
        · rintro ⟨h | h, h'⟩
          · exact h
          · exact (h' h).elim)
      subst e
      exact ⟨v, by rw [← hT]; exact hv', h1, (nb v hv').1 ha⟩
  · rintro ⟨v, hv, h1, h2⟩
    refine (Elim.snoc v h1 (bit_lt hS hv) (fun h => ?_) ((nb v hv).2 h2)).ext fun u => ?_
    · rw [diff_bset] at h
      exact h.2 ((two_pow_bit v v).2 rfl)
    · rw [diff_bset, two_pow_bit]
      constructor
      · rintro (h | h)
        · exact h.1
        · subst h; exact hv
      · intro h
        by_cases e : u = v
        · exact .inr e
        · exact .inl ⟨h, e⟩
theorem diff_lt {S v : Nat} (h : bset S v) : diff S (2 ^ v) < S := by
  have h1 := diff_le S (2 ^ v)
  have h2 : diff S (2 ^ v) ≠ S := fun e => by
    have := (diff_bset S (2 ^ v) v).1 (by rw [e]; exact h)
    exact this.2 ((two_pow_bit v v).2 rfl)
  omega
theorem some_bit {S : Nat} (h : S ≠ 0) : ∃ v, bset S v := by
  apply Classical.byContradiction
  intro hn
  apply h
  apply Nat.eq_of_testBit_eq
  intro i
  have : ¬ bset S i := fun hi => hn ⟨i, hi⟩
  unfold bset at this
  simpa using this
theorem elimG_big {m : Nat} {G : List Nat} (hG : Gr m G) {k : Nat} (hk : G.length ≤ k) : ∀ S, S < 2 ^ G.length → ElimG G k S := by
  intro S
  induction S using Nat.strongRecOn with
  | _ S ih =>
    intro hS
    by_cases h0 : S = 0
    · subst h0; exact elimG_zero G k
    · obtain ⟨v, hv⟩ := some_bit h0
      have hd := diff_lt hv
      exact (elimG_step hG hS h0).2 ⟨v, hv, ih _ hd (by omega), Nat.le_trans (pc_le _ _) hk⟩
theorem pc_more {x n : Nat} (hx : x < 2 ^ n) : ∀ d, pc x (n + d) = pc x n
  | 0 => rfl
  | d + 1 => by
    rw [← Nat.add_assoc]
    simp only [pc]
    rw [pc_more hx d, testBit_ge hx (by omega)]
    rfl
theorem pc_nine {x n : Nat} (hx : x < 2 ^ n) (hn : n ≤ 9) : pc x 9 = pc x n := by
  have := pc_more hx (9 - n)
  rwa [show n + (9 - n) = 9 by omega] at this

/-- W is the width of G. -/
def IsWidth (G : List Nat) (W : Nat) : Prop := ∀ k, W ≤ k ↔ ElimG G k (2 ^ G.length - 1)
theorem IsWidth.uniq {G : List Nat} {a b : Nat} (h : IsWidth G a) (h' : IsWidth G b) : a = b := by
  have h1 := (h b).2 ((h' b).1 (Nat.le_refl _))
  have h2 := (h' a).2 ((h a).1 (Nat.le_refl _))
  omega
theorem all_bit (n u : Nat) : bset (2 ^ n - 1) u ↔ u < n := by
  unfold bset; rw [Nat.testBit_two_pow_sub_one, decide_eq_true_eq]
theorem elimG_all {G : List Nat} {k : Nat} : ElimG G k (2 ^ G.length - 1) ↔ Elim (fun u => u < G.length) (Adj G) k (fun u => u < G.length) := by
  unfold ElimG
  have e : bset (2 ^ G.length - 1) = fun u => u < G.length := funext fun u => propext (all_bit _ u)
  rw [e]
theorem isWidth_iff {G : List Nat} {W : Nat} : IsWidth G W ↔ ∀ k, W ≤ k ↔ Elim (fun u => u < G.length) (Adj G) k (fun u => u < G.length) :=
  ⟨fun h k => (h k).trans elimG_all, fun h k => (h k).trans elimG_all.symm⟩
theorem width_exists {m : Nat} {G : List Nat} (hG : Gr m G) : ∃ W, IsWidth G W ∧ W ≤ G.length := by
  have h2 := Nat.two_pow_pos G.length
  have hall : ElimG G G.length (2 ^ G.length - 1) := elimG_big hG (Nat.le_refl _) _ (by omega)
  have key : ∀ n, ElimG G n (2 ^ G.length - 1) → ∃ W, IsWidth G W ∧ W ≤ n := by
    intro n
    induction n with
    | zero => intro h; exact ⟨0, fun k => ⟨fun _ => Elim.mono h (Nat.zero_le k), fun _ => Nat.zero_le k⟩, Nat.le_refl _⟩
    | succ n ih =>
      intro h
      by_cases h' : ElimG G n (2 ^ G.length - 1)
      · obtain ⟨W, h1, h2⟩ := ih h'; exact ⟨W, h1, by omega⟩
      · refine ⟨n + 1, fun k => ⟨fun hk => Elim.mono h hk, fun hk => ?_⟩, Nat.le_refl _⟩
        apply Classical.byContradiction
        intro hlt
        exact h' (Elim.mono hk (by omega))
  exact key _ hall
end Go.Proofs.YtoffehihicabcaaDoor.T
end
section
/- What read tells: a graph that is valid, or nothing. -/
set_option linter.unusedVariables false
namespace Go.Proofs.YtoffehihicabcaaDoor.X
open Go.RowKit Go.Proofs.YtoffehihicabcaaDoorW.PrintWords Go.Proofs.YtoffehihicabcaaDoorW.PrintLast Go.Proofs.YtoffehihicabcaaDoorW.PrintMore Go.Proofs.YtoffehihicabcaaDoor.T

theorem read_l1 (g : List Int) (hn : g.length ≤ 9) (i : Nat) (hi : i < g.length) (r : List Int × Bool)
    (hrest : Ev (fun k => width_read.l0 k g (g.length : Int) g (g.length : Int) ((i + 1 : Nat) : Int)) r) :
    ∀ d j, j + d = g.length → Ev (fun k => width_read.l1 k g (g.length : Int) (i : Int) (rd g (i : Int)) g (g.length : Int) (i : Int) (g.length : Int) (j : Int))
      (cond (allFrom (fun j => decide (ibit (rd g (i : Int)) j = ibit (rd g (j : Int)) i)) g.length d j) r (([] : List Int), false)) := by
  intro d
  induction d with
  | zero =>
    intro j hj
    refine Ev.step (fun k => ?_) hrest
    rw [width_read.l1, if_neg (by omega), wrap_succ i (by omega)]
  | succ d ih =>
    intro j hj
    simp only [allFrom]
    by_cases hb : ibit (rd g (i : Int)) j = ibit (rd g (j : Int)) i
    · refine Ev.step (f := fun k => width_read.l1 k g (g.length : Int) (i : Int) (rd g (i : Int)) g (g.length : Int) (i : Int) (g.length : Int) ((j + 1 : Nat) : Int)) (fun k => ?_) ?_
      · rw [width_read.l1, if_pos (by omega), if_pos (by omega), if_pos (by omega), if_pos (by omega), wrap_succ j (by omega)]
        exact if_pos hb
      · have := ih (j + 1) (by omega)
        simpa [hb] using this
    · refine Ev.step (f := fun _ => some (([] : List Int), false)) (fun k => ?_) (Ev.some (by simp [hb]))
      rw [width_read.l1, if_pos (by omega), if_pos (by omega), if_pos (by omega), if_pos (by omega)]
      exact if_neg hb

theorem read_l0 (g : List Int) (hn : g.length ≤ 9) :
    ∀ d i, i + d = g.length → Ev (fun k => width_read.l0 k g (g.length : Int) g (g.length : Int) (i : Int)) (cond (allFrom (rowOk g) g.length d i) (g, true) (([] : List Int), false)) := by
  intro d
  induction d with
  | zero =>
    intro i hi
    refine Ev.step (f := fun _ => some (g, true)) (fun k => ?_) (Ev.some (by simp [allFrom]))
    rw [width_read.l0, if_neg (by omega)]
  | succ d ih =>
    intro i hi
    have stop : ∀ k, width_read.j2 (k + 1) g (g.length : Int) (i : Int) (rd g (i : Int)) g (g.length : Int) (i : Int) true = some (([] : List Int), false) := fun k => by
      rw [width_read.j2, if_pos rfl]
    simp only [allFrom, rowOk]
    by_cases h1 : rd g (i : Int) < 0
    · refine Ev.step (fun k => ?_) (f := fun k => width_read.j2 k g (g.length : Int) (i : Int) (rd g (i : Int)) g (g.length : Int) (i : Int) true) ?_
      · rw [width_read.l0, if_pos (by omega), if_pos (by omega), if_pos (by omega), if_pos h1]
      · exact Ev.step stop (Ev.some (by simp [h1]))
    · by_cases h2 : rd g (i : Int) ≥ shl .i64 1 (g.length : Int)
      · refine Ev.step (fun k => ?_) (f := fun k => width_read.j2 k g (g.length : Int) (i : Int) (rd g (i : Int)) g (g.length : Int) (i : Int) true) ?_
        · rw [width_read.l0, if_pos (by omega), if_pos (by omega), if_pos (by omega), if_neg h1, if_pos (by omega), if_pos h2]
        · exact Ev.step stop (Ev.some (by simp [h2]))
      · refine Ev.step (fun k => ?_) (f := fun k => width_read.j2 k g (g.length : Int) (i : Int) (rd g (i : Int)) g (g.length : Int) (i : Int) (ibit (rd g (i : Int)) i == 1)) ?_
        · rw [width_read.l0, if_pos (by omega), if_pos (by omega), if_pos (by omega), if_neg h1, if_pos (by omega), if_neg h2]
          rfl
        · by_cases h3 : (ibit (rd g (i : Int)) i == 1) = true
          · simp only [h3]
            exact Ev.step stop (Ev.some (by simp))
          · refine Ev.step (fun k => by rw [width_read.j2, if_neg h3]) ?_
            have := read_l1 g hn i (by omega) _ (ih (i + 1) (by omega)) g.length 0 (by omega)
            have h3' : (ibit (rd g (i : Int)) i == 1) = false := by simpa using h3
            simp only [h1, h2, h3', decide_false, Bool.not_false, Bool.true_and]
            cases h4 : allFrom (fun j => decide (ibit (rd g (i : Int)) j = ibit (rd g (j : Int)) i)) g.length g.length 0
            · simpa [h4] using this
            · simpa [h4] using this

theorem read_ev (g : List Int) (hg : g.length < 2 ^ 60) : Ev (fun k => width_read.f k g) (cond (chk 9 g) (g, true) (([] : List Int), false)) := by
  have stop : ∀ k, width_read.j0 (k + 1) g (g.length : Int) true = some (([] : List Int), false) := fun k => by
    rw [width_read.j0, if_pos rfl]
  by_cases h1 : g.length < 1
  · refine Ev.congr (f := fun k => width_read.j0 k g (g.length : Int) true) (fun k => ?_) (Ev.step stop (Ev.some ?_))
    · rw [width_read.f, if_pos (by omega)]
    · have : ¬ 1 ≤ g.length := by omega
      simp [chk, this]
  · refine Ev.congr (f := fun k => width_read.j0 k g (g.length : Int) (decide ((g.length : Int) > 9))) (fun k => ?_) ?_
    · rw [width_read.f, if_neg (by omega)]
    · by_cases h2 : g.length ≤ 9
      · have e : decide ((g.length : Int) > 9) = false := decide_eq_false (by omega)
        rw [e]
        refine Ev.step (fun k => by rw [width_read.j0, if_neg (by simp)]) ?_
        have := read_l0 g h2 g.length 0 (by omega)
        have h3 : decide (1 ≤ g.length) = true := decide_eq_true (by omega)
        simpa [chk, h2, h3] using this
      · have e : decide ((g.length : Int) > 9) = true := decide_eq_true (by omega)
        rw [e]
        refine Ev.step stop (Ev.some ?_)
        simp [chk, h2]
end Go.Proofs.YtoffehihicabcaaDoor.X
end
section
/- nodes, count, around, part, degree: what they compute, in plain words. -/
set_option linter.unusedVariables false
namespace Go.Proofs.YtoffehihicabcaaDoor.X
open Go.RowKit Go.Proofs.YtoffehihicabcaaDoorW.PrintWords Go.Proofs.YtoffehihicabcaaDoorW.PrintLast Go.Proofs.YtoffehihicabcaaDoorW.PrintMore Go.Proofs.YtoffehihicabcaaDoor.T

theorem nodes_all : ∀ x : Fin 512, width_nodes.f 12 (x.val : Int) = some (gi (els x.val 9)) := by decide +kernel
theorem nodes_ev (x : Nat) (hx : x < 512) : Ev (fun k => width_nodes.f k (x : Int)) (gi (els x 9)) :=
  Ev.of (width_nodes.mono _) (nodes_all ⟨x, hx⟩)
theorem count_all : ∀ x : Fin 512, width_count.f (x.val : Int) = some (pc x.val 9 : Int) := by decide +kernel
theorem count_eq (x : Nat) (hx : x < 512) : width_count.f (x : Int) = some (pc x 9 : Int) := count_all ⟨x, hx⟩
theorem low_all : ∀ x : Fin 512, 0 < x.val → ∃ v : Fin 9, Go.bits .and .i64 (x.val : Int) (wrap64 (-(x.val : Int))) = ((2 ^ v.val : Nat) : Int) ∧ x.val.testBit v.val = true := by decide +kernel
theorem low_ev (x : Nat) (hx : x < 512) (h0 : 0 < x) : ∃ v, v < 9 ∧ Go.bits .and .i64 (x : Int) (wrap64 (-(x : Int))) = ((2 ^ v : Nat) : Int) ∧ x.testBit v = true := by
  obtain ⟨v, h1, h2⟩ := low_all ⟨x, hx⟩ h0
  exact ⟨v.val, v.isLt, h1, h2⟩

theorem small (G : List Nat) (h : G.length ≤ 9) {x : Nat} (hx : x < 2 ^ G.length) : x < 512 := Nat.lt_of_lt_of_le hx (show 2 ^ G.length ≤ 2 ^ 9 from Nat.pow_le_pow_right (by omega) h)
theorem big {x : Nat} (h : x < 512) : x < 2 ^ 62 := by omega

theorem around_l0 (G : List Nat) (hG : Gr 9 G) (L : List Nat) (hL : ∀ x ∈ L, x < G.length) (hLl : L.length ≤ 100) : ∀ d i (o : Nat), i + d = L.length → o < 2 ^ G.length →
    ∃ r : Nat, Ev (fun k => width_town_around.l0 k (gi G) (o : Int) (gi L) (L.length : Int) (i : Int)) (r : Int) ∧ r < 2 ^ G.length ∧ ∀ j, bset r j ↔ bset o j ∨ ∃ x, x ∈ L.drop i ∧ Adj G x j := by
  intro d
  induction d with
  | zero =>
    intro i o hi ho
    refine ⟨o, Ev.step (f := fun _ => some (o : Int)) (fun k => ?_) (Ev.some rfl), ho, fun j => ?_⟩
    · rw [width_town_around.l0, if_neg (by omega)]
    · rw [List.drop_eq_nil_of_le (by omega)]; simp
  | succ d ih =>
    intro i o hi ho
    have hi' : i < L.length := by omega
    have hm := hL _ (List.getElem_mem hi')
    have hr : rd (gi L) (i : Int) = ((L[i] : Nat) : Int) := by rw [rd_gi, List.getD_eq_getElem?_getD, List.getElem?_eq_getElem hi']; rfl
    have hrow := hG.row L[i]
    have ho2 : o ||| G.getD L[i] 0 < 2 ^ G.length := or_lt ho hrow
    obtain ⟨r, h1, h2, h3⟩ := ih (i + 1) (o ||| G.getD L[i] 0) (by omega) ho2
    refine ⟨r, Ev.step (fun k => ?_) h1, h2, fun j => ?_⟩
    · rw [width_town_around.l0, if_pos (by omega), if_pos (by omega), if_pos (by rw [gi_length]; omega), hr, if_pos (by omega), if_pos (by rw [gi_length]; omega), rd_gi,
        b_or _ _ (big (small G hG.most ho)) (big (small G hG.most hrow)), wrap_succ i (by omega)]
    · rw [h3, or_bset, List.drop_eq_getElem_cons hi']
      constructor
      · rintro ((h | h) | ⟨x, hx, ha⟩)
        · exact .inl h
        · exact .inr ⟨_, List.mem_cons_self, h⟩
        · exact .inr ⟨x, List.mem_cons_of_mem _ hx, ha⟩
      · rintro (h | ⟨x, hx, ha⟩)
        · exact .inl (.inl h)
        · rcases List.mem_cons.1 hx with h | h
          · subst h; exact .inl (.inr ha)
          · exact .inr ⟨x, h, ha⟩

theorem around_ev (G : List Nat) (hG : Gr 9 G) (s : Nat) (hs : s < 2 ^ G.length) : Ev (fun k => width_town_around.f k (gi G) (s : Int)) ((Around G s : Nat) : Int) := by
  have hs5 := small G hG.most hs
  obtain ⟨r, h1, h2, h3⟩ := around_l0 G hG (els s 9) (fun x hx => bit_lt hs (mem_els.1 hx).2) (by rw [els_length]; have := pc_le s 9; omega) (els s 9).length 0 0 (by omega) (Nat.two_pow_pos _)
  have e : r = Around G s := eq_of_bits fun j => by
    have hh := h3 j
    rw [Around_bit hG]
    unfold bset at hh
    rw [hh]
    constructor
    · rintro (h | ⟨x, hx, ha⟩)
      · simp at h
      · exact ⟨x, (mem_els.1 hx).2, ha⟩
    · rintro ⟨x, hx, ha⟩
      exact .inr ⟨x, mem_els.2 ⟨Nat.lt_of_lt_of_le (bit_lt hs hx) hG.most, hx⟩, ha⟩
  subst e
  refine Ev.bind (nodes_ev s hs5) ?_
  rw [gi_length]
  exact h1

theorem part_l0 (G : List Nat) (hG : Gr 9 G) (s w : Nat) (hs : s < 2 ^ G.length) (hw : w < 2 ^ G.length) : ∀ d x, 2 ^ G.length - x = d → x < 2 ^ G.length → (∀ j, bset s j → bset x j) → (∀ j, bset x j → Con (Adj G) (bset w) (bset s) j) →
    Ev (fun k => width_town_part.l0 k (gi G) (x : Int) (w : Int)) ((conset G s w : Nat) : Int) := by
  intro d
  induction d using Nat.strongRecOn with
  | _ d ih =>
    intro x hd hx h1 h2
    have hA := Around_lt hG x
    have hb : Go.bits .or .i64 (x : Int) (Go.bits .and .i64 ((Around G x : Nat) : Int) (w : Int)) = ((x ||| (Around G x &&& w) : Nat) : Int) := by
      rw [b_and _ _ (big (small G hG.most hA)) (big (small G hG.most hw)), b_or _ _ (big (small G hG.most hx)) (Nat.lt_of_le_of_lt Nat.and_le_left (big (small G hG.most hA)))]
    have hy : x ||| (Around G x &&& w) < 2 ^ G.length := or_lt hx (Nat.lt_of_le_of_lt Nat.and_le_left hA)
    refine Ev.step (fun k => by rw [width_town_part.l0]) (Ev.bind (around_ev G hG x hx) ?_)
    simp only [hb]
    by_cases e : x ||| (Around G x &&& w) = x
    · refine Ev.if_pos (by rw [e]) (Ev.some ?_)
      congr 1
      refine conset_eq hG hs hx h1 h2 fun i j hi ha hj => ?_
      rw [← e, or_bset, and_bset]
      exact .inr ⟨(Around_bit hG x j).2 ⟨i, hi, ha⟩, hj⟩
    · refine Ev.if_neg (by omega) ?_
      have hle : x ≤ x ||| (Around G x &&& w) := Nat.left_le_or
      refine ih (2 ^ G.length - (x ||| (Around G x &&& w))) (by omega) _ rfl hy (fun j hj => (or_bset _ _ _).2 (.inl (h1 j hj))) fun j hj => ?_
      rcases (or_bset _ _ _).1 hj with h | h
      · exact h2 j h
      · obtain ⟨ha, hw'⟩ := (and_bset _ _ _).1 h
        obtain ⟨i, hi, hij⟩ := (Around_bit hG x j).1 ha
        exact .step (h2 i hi) hij hw'
theorem part_ev (G : List Nat) (hG : Gr 9 G) (s w : Nat) (hs : s < 2 ^ G.length) (hw : w < 2 ^ G.length) : Ev (fun k => width_town_part.f k (gi G) (s : Int) (w : Int)) ((conset G s w : Nat) : Int) :=
  part_l0 G hG s w hs hw _ s rfl hs (fun _ h => h) (fun _ h => .base h)

theorem degree_ev (G : List Nat) (hG : Gr 9 G) (gone v : Nat) (hg : gone < 2 ^ G.length) (hv : v < G.length) :
    Ev (fun k => width_town_degree.f k (gi G) (v : Int) (gone : Int)) ((pc (nbset G gone v) 9 : Nat) : Int) := by
  have hp : 2 ^ v < 2 ^ G.length := Nat.pow_lt_pow_right (by omega) hv
  have hn := hG.most
  have hc := conset_lt G (2 ^ v) (gone ||| 2 ^ v)
  have hA := Around_lt hG (conset G (2 ^ v) (gone ||| 2 ^ v))
  have hd : diff (Around G (conset G (2 ^ v) (gone ||| 2 ^ v))) gone < 2 ^ G.length := Nat.lt_of_le_of_lt (diff_le _ _) hA
  unfold width_town_degree.f
  refine Ev.if_pos (by omega) ?_
  simp only [s_one v (by omega), b_or gone (2 ^ v) (big (small G hn hg)) (big (small G hn hp))]
  refine Ev.bind (part_ev G hG _ _ hp (or_lt hg hp)) ?_
  refine Ev.bind (around_ev G hG _ hc) ?_
  simp only [b_andNot _ gone (big (small G hn hA)) (big (small G hn hg)), b_andNot _ (2 ^ v) (big (small G hn hd)) (big (small G hn hp))]
  exact Ev.bind1 (count_eq _ (small G hn (nbset_lt hG gone v))) (Ev.some rfl)

theorem all_eq (G : List Nat) (h : G.length ≤ 9) : width_town_all.f (gi G) = some ((2 ^ G.length - 1 : Nat) : Int) := by
  unfold width_town_all.f
  have h1 : 2 ^ G.length ≤ 2 ^ 9 := Nat.pow_le_pow_right (by omega) h
  have h2 := Nat.two_pow_pos G.length
  rw [gi_length, s_one _ (by omega), w64_small _ (by omega) (by omega)]
  congr 1
  omega
end Go.Proofs.YtoffehihicabcaaDoor.X
end
section
/- widths, width, Width: the width of a valid graph. -/
set_option linter.unusedVariables false
namespace Go.Proofs.YtoffehihicabcaaDoor.X
open Go.RowKit Go.Proofs.YtoffehihicabcaaDoorW.PrintWords Go.Proofs.YtoffehihicabcaaDoorW.PrintLast Go.Proofs.YtoffehihicabcaaDoorW.PrintMore Go.Proofs.YtoffehihicabcaaDoor.T

/-- x is the least width of an order that begins with S. -/
def PS (G : List Nat) (S x : Nat) : Prop := ∀ k, x ≤ k ↔ ElimG G k S
theorem mx_nat (a b : Nat) : mx (a : Int) (b : Int) = ((max a b : Nat) : Int) := by unfold mx; split <;> omega
theorem mn_nat (a b : Nat) : mn (a : Int) (b : Int) = ((min a b : Nat) : Int) := by unfold mn; split <;> omega
/-- The list of widths is right, and so is what comes of it. -/
def Good (G : List Nat) (r : List Int) : Prop := ∃ W : List Nat, r = gi W ∧ W.length = 2 ^ G.length ∧ ∀ S, S < 2 ^ G.length → PS G S (W.getD S 0)

theorem getD_set (W : List Nat) (i j x : Nat) (hi : i < W.length) : (W.set i x).getD j 0 = if j = i then x else W.getD j 0 := by
  simp only [List.getD_eq_getElem?_getD, List.getElem?_set]
  by_cases h : i = j
  · subst h; simp [hi]
  · rw [if_neg h, if_neg (fun e => h e.symm)]

theorem widths_l1 (G : List Nat) (hG : Gr 9 G) (S : Nat) (hS : S < 2 ^ G.length) (h0 : S ≠ 0)
    (cont : ∀ W : List Nat, W.length = 2 ^ G.length → (∀ T, T < S + 1 → PS G T (W.getD T 0)) → ∃ r, Ev (fun k => width_town_widths.l0 k (gi G) (gi W) ((S + 1 : Nat) : Int)) r ∧ Good G r) :
    ∀ d i (W : List Nat), i + d = (els S 9).length → W.length = 2 ^ G.length → (∀ T, T < S → PS G T (W.getD T 0)) →
      (∀ k, W.getD S 0 ≤ k ↔ G.length ≤ k ∨ ∃ v, v ∈ (els S 9).take i ∧ ElimG G k (diff S (2 ^ v)) ∧ pc (nbset G (diff S (2 ^ v)) v) 9 ≤ k) →
      ∃ r, Ev (fun k => width_town_widths.l1 k (gi G) (gi W) (S : Int) (gi (els S 9)) ((els S 9).length : Int) (i : Int)) r ∧ Good G r := by
  have hS5 := small G hG.most hS
  have h29 : 2 ^ G.length ≤ 2 ^ 9 := Nat.pow_le_pow_right (by omega) hG.most
  have hn := hG.most
  have hlen : (els S 9).length ≤ 9 := by rw [els_length]; exact pc_le _ _
  intro d
  induction d with
  | zero =>
    intro i W hi hW hT hc
    have hPS : PS G S (W.getD S 0) := by
      intro k
      rw [hc k]
      by_cases hk : G.length ≤ k
      · exact ⟨fun _ => elimG_big hG hk S hS, fun _ => .inl hk⟩
      · rw [elimG_step hG hS h0]
        have e : (els S 9).take i = els S 9 := List.take_of_length_le (by omega)
        rw [e]
        constructor
        · rintro (h | ⟨v, hv, h1, h2⟩)
          · exact (hk h).elim
          · exact ⟨v, (mem_els.1 hv).2, h1, by rwa [← pc_nine (nbset_lt hG _ _) hn]⟩
        · rintro ⟨v, hv, h1, h2⟩
          exact .inr ⟨v, mem_els.2 ⟨Nat.lt_of_lt_of_le (bit_lt hS hv) hn, hv⟩, h1, by rwa [pc_nine (nbset_lt hG _ _) hn]⟩
    obtain ⟨r, h1, h2⟩ := cont W hW (fun T hT' => by
      by_cases e : T = S
      · subst e; exact hPS
      · exact hT T (by omega))
    refine ⟨r, Ev.step (fun k => ?_) h1, h2⟩
    rw [width_town_widths.l1, if_neg (by omega), wrap_succ S (by omega)]
  | succ d ih =>
    intro i W hi hW hT hc
    have hi' : i < (els S 9).length := by omega
    have hmem := List.getElem_mem hi'
    have hv := (mem_els.1 hmem).2
    have hvn := bit_lt hS hv
    have hr : rd (gi (els S 9)) (i : Int) = (((els S 9)[i] : Nat) : Int) := by rw [rd_gi, List.getD_eq_getElem?_getD, List.getElem?_eq_getElem hi']; rfl
    generalize hev : (els S 9)[i] = v at hr hv hvn hmem
    have hp : 2 ^ v < 2 ^ G.length := Nat.pow_lt_pow_right (by omega) hvn
    have hd : diff S (2 ^ v) < S := diff_lt hv
    have hdl : diff S (2 ^ v) < 2 ^ G.length := by omega
    have hdeg := degree_ev G hG (diff S (2 ^ v)) v hdl hvn
    obtain ⟨r, h1, h2⟩ := ih (i + 1) (W.set S (min (W.getD S 0) (max (W.getD (diff S (2 ^ v)) 0) (pc (nbset G (diff S (2 ^ v)) v) 9)))) (by omega) (by simpa using hW)
      (fun T hT' => by
        rw [getD_set W _ _ _ (by omega), if_neg (by omega)]
        exact hT T hT')
      (fun k => by
        rw [getD_set W _ _ _ (by omega), if_pos rfl]
        have hps := hT _ hd k
        have htake : (els S 9).take (i + 1) = (els S 9).take i ++ [v] := by rw [List.take_succ_eq_append_getElem hi', hev]
        rw [htake]
        constructor
        · intro h
          by_cases hk : W.getD S 0 ≤ k
          · rcases (hc k).1 hk with h | ⟨u, hu, h3⟩
            · exact .inl h
            · exact .inr ⟨u, List.mem_append_left _ hu, h3⟩
          · refine .inr ⟨v, List.mem_append_right _ (List.mem_singleton.2 rfl), hps.1 (by omega), by omega⟩
        · rintro (h | ⟨u, hu, h3, h4⟩)
          · have := (hc k).2 (.inl h); omega
          · rcases List.mem_append.1 hu with hu | hu
            · have := (hc k).2 (.inr ⟨u, hu, h3, h4⟩); omega
            · obtain rfl := List.mem_singleton.1 hu
              have := hps.2 h3
              omega)
    refine ⟨r, Ev.step (f := fun k => (width_town_degree.f k (gi G) (v : Int) ((diff S (2 ^ v) : Nat) : Int)).bind fun t => width_town_widths.l1 k (gi G) ((gi W).set (S : Int).toNat (mn (rd (gi W) (S : Int)) (mx (rd (gi W) ((diff S (2 ^ v) : Nat) : Int)) t))) (S : Int) (gi (els S 9)) ((els S 9).length : Int) ((i + 1 : Nat) : Int)) (fun k => ?_) (Ev.bind hdeg ?_), h2⟩
    · rw [width_town_widths.l1, if_pos (by omega), if_pos (by omega), if_pos (by rw [gi_length]; omega), if_pos (by omega), if_pos (by rw [gi_length]; omega), hr, if_pos (by omega), s_one v (by omega),
        b_andNot S (2 ^ v) (big hS5) (big (small G hn hp)), if_pos (by omega), if_pos (by rw [gi_length]; omega), wrap_succ i (by omega)]
    · simp only [rd_gi, mx_nat, mn_nat, Int.toNat_natCast, gi_set]
      exact h1

theorem widths_l0 (G : List Nat) (hG : Gr 9 G) : ∀ d S (W : List Nat), S + d = 2 ^ G.length → 0 < S → W.length = 2 ^ G.length → (∀ T, T < S → PS G T (W.getD T 0)) →
    ∃ r, Ev (fun k => width_town_widths.l0 k (gi G) (gi W) (S : Int)) r ∧ Good G r := by
  have h29 : 2 ^ G.length ≤ 2 ^ 9 := Nat.pow_le_pow_right (by omega) hG.most
  intro d
  induction d with
  | zero =>
    intro S W hS h0 hW hT
    refine ⟨gi W, Ev.step (f := fun _ => some (gi W)) (fun k => ?_) (Ev.some rfl), W, rfl, hW, fun T h => hT T (by omega)⟩
    rw [width_town_widths.l0, if_neg (by rw [gi_length]; omega)]
  | succ d ih =>
    intro S W hS h0 hW hT
    have hSn : S < 2 ^ G.length := by omega
    have hS5 := small G hG.most hSn
    obtain ⟨r, h1, h2⟩ := widths_l1 G hG S hSn (by omega) (fun W' hW' hT' => ih (S + 1) W' (by omega) (by omega) hW' hT') (els S 9).length 0 (W.set S G.length) (by omega) (by simpa using hW)
      (fun T hT' => by
        rw [getD_set W _ _ _ (by omega), if_neg (by omega)]
        exact hT T hT')
      (fun k => by
        rw [getD_set W _ _ _ (by omega), if_pos rfl]
        simp)
    refine ⟨r, Ev.step (fun k => by rw [width_town_widths.l0, if_pos (by rw [gi_length]; omega), if_pos (by omega)]) (Ev.bind (nodes_ev S hS5) ?_), h2⟩
    simp only [Int.toNat_natCast, gi_length]
    have e : (gi W).set S (G.length : Int) = gi (W.set S G.length) := gi_set W S G.length
    rw [e]
    exact h1

theorem widths_ev (G : List Nat) (hG : Gr 9 G) : ∃ r, Ev (fun k => width_town_widths.f k (gi G)) r ∧ Good G r := by
  have h29 : 2 ^ G.length ≤ 2 ^ 9 := Nat.pow_le_pow_right (by omega) hG.most
  have h2p := Nat.two_pow_pos G.length
  have hn := hG.most
  obtain ⟨r, h1, h2⟩ := widths_l0 G hG (2 ^ G.length - 1) 1 (List.replicate (2 ^ G.length) 0) (by omega) (by omega) (by simp)
    (fun T hT k => by
      have : T = 0 := by omega
      subst this
      have e : (List.replicate (2 ^ G.length) 0).getD 0 0 = 0 := by
        rw [List.getD_eq_getElem?_getD, List.getElem?_replicate]; split <;> rfl
      rw [e]
      exact ⟨fun _ => elimG_zero G k, fun _ => Nat.zero_le k⟩)
  refine ⟨r, Ev.congr (fun k => ?_) h1, h2⟩
  unfold width_town_widths.f
  rw [gi_length, s_one _ (by omega), if_pos (by omega), Int.toNat_natCast, if_pos (by omega)]
  have e : List.replicate (2 ^ G.length) (0 : Int) = gi (List.replicate (2 ^ G.length) 0) := by simp [gi]
  rw [e]
  rfl

theorem width_ev (G : List Nat) (hG : Gr 9 G) : ∃ W : Nat, IsWidth G W ∧ Ev (fun k => width_town_width.f k (gi G)) (W : Int) := by
  have h2p := Nat.two_pow_pos G.length
  obtain ⟨r, h1, W, rfl, hW, hg⟩ := widths_ev G hG
  refine ⟨W.getD (2 ^ G.length - 1) 0, hg _ (by omega), ?_⟩
  unfold width_town_width.f
  refine Ev.bind h1 (Ev.bind1 (all_eq G hG.most) ?_)
  refine Ev.if_pos (by omega) (Ev.if_pos (by rw [gi_length]; omega) (Ev.some ?_))
  rw [rd_gi]

/-- Width of what is valid, and of what is not. -/
theorem Width_ev (G : List Nat) (hG : Gr 9 G) : ∃ W : Nat, IsWidth G W ∧ Ev (fun k => width_Width.f k (gi G)) ((W : Int), 0) := by
  obtain ⟨W, h1, h2⟩ := width_ev G hG
  have hc : chk 9 (gi G) = true := (chk_iff 9 (by omega) _).2 ⟨G, rfl, hG⟩
  have hr := read_ev (gi G) (by rw [gi_length]; have := hG.most; omega)
  rw [hc] at hr
  refine ⟨W, h1, ?_⟩
  unfold width_Width.f
  exact Ev.bind hr (Ev.if_pos rfl (Ev.bind h2 (Ev.some rfl)))
theorem Width_bad (g : List Int) (hl : g.length < 2 ^ 60) (h : chk 9 g = false) : Ev (fun k => width_Width.f k g) (0, 2) := by
  have hr := read_ev g hl
  rw [h] at hr
  unfold width_Width.f
  exact Ev.bind hr (Ev.if_neg (by simp) (Ev.some rfl))
theorem awake_ev : Ev (fun k => lampblacklaw02_awake.f k) true := Ev.of (lampblacklaw02_awake.mono) (k := 40) (by decide +kernel)
end Go.Proofs.YtoffehihicabcaaDoor.X
end
section
-- by ownprint.py (wip/tool), over the kit's print
namespace Go.Proofs.YtoffehihicabcaaDoor.X
open Go.RowKit Go.Proofs.YtoffehihicabcaaDoorW.PrintWords Go.Proofs.YtoffehihicabcaaDoorW.PrintLast Go.Proofs.YtoffehihicabcaaDoorW.PrintMore
attribute [local go_sem] max2_int min2_int max_two min_two max_three min_three max_four min_four
set_option linter.unusedVariables false
set_option linter.unusedSimpArgs false

/-! ### width_Touch: function 22 -/
def width_Touch.f (k : Nat) (l0 : List Int) (a1 : Int) (a2 : Int) : Option (Bool × Int) := (width_read.f k l0).bind fun bt206 => (if bt206.2 = true then ((width_town_set.f bt206.1 a1).bind fun t210 => (if t210 = true then ((width_town_set.f bt206.1 a2).bind fun t211 => (if t211 = true then ((width_town_connected.f k bt206.1 a1).bind fun t212 => (if t212 = true then ((width_town_connected.f k bt206.1 a2).bind fun t213 => (if t213 = true then ((width_town_touch.f k bt206.1 a1 a2).bind fun t214 => (some (t214, 0))) else (some (false, 2)))) else (some (false, 2)))) else (some (false, 2)))) else (some (false, 2)))) else (some (false, 2)))
theorem width_Touch.mono : ∀ a0 a1 a2 k, LeO (width_Touch.f k a0 a1 a2) (width_Touch.f (k + 1) a0 a1 a2) := by
  intro a0 a1 a2 k
  unfold width_Touch.f
  repeat' first
      | (with_reducible exact width_read.mono _ _)
      | (with_reducible exact width_town_connected.mono _ _ _)
      | (with_reducible exact width_town_touch.mono _ _ _ _)
      | (with_reducible exact LeO.refl _)
      | (with_reducible exact LeO.none _)
      | (with_reducible refine LeO.ite ?_ ?_)
      | (with_reducible refine LeO.bind ?_ (fun _ => ?_))
      | exact width_read.mono _ _
      | exact width_town_connected.mono _ _ _
      | exact width_town_touch.mono _ _ _ _
      | exact LeO.none _
      | refine LeO.ite ?_ ?_
      | refine LeO.bind ?_ (fun _ => ?_)
set_option maxHeartbeats 8000000 in
set_option maxRecDepth 100000 in
theorem width_Touch.calls (k : Nat) (A0 : Option Addr) (c0 : Nat) (l0 : List Int) (a1 : Int) (a2 : Int) (r1 : Bool) (r2 : Int) (w : World) (hGL : GL w) (hr0 : Kd.C (Kd.int .i64) w A0 l0.length l0) (hc0 : l0.length ≤ c0) (h : width_Touch.f k l0 a1 a2 = some (r1, r2)) :
    Calls Tryd.prog 22 #[.slice A0 l0.length c0, .int .i64 a1, .int .i64 a2] w fun e w' => e = .returned (.tuple #[.bool r1, .int .i64 r2]) ∧ Below w.heap.size w w' := by
  have HGL := Aside0.mk hGL
  clear hGL
  have HR0 := Aside0.mk hr0
  have HC0 := Aside0.mk hc0
  clear hr0 hc0
  have HB := Aside0.mk (Below.refl w.heap.size w)
  have H : ((width_read.f k l0).bind fun bt206 => (if bt206.2 = true then ((width_town_set.f bt206.1 a1).bind fun t210 => (if t210 = true then ((width_town_set.f bt206.1 a2).bind fun t211 => (if t211 = true then ((width_town_connected.f k bt206.1 a1).bind fun t212 => (if t212 = true then ((width_town_connected.f k bt206.1 a2).bind fun t213 => (if t213 = true then ((width_town_touch.f k bt206.1 a1 a2).bind fun t214 => (some (t214, 0))) else (some (false, 2)))) else (some (false, 2)))) else (some (false, 2)))) else (some (false, 2)))) else (some (false, 2)))) = some (r1, r2) := h
  clear h
  replace H := Option.bind_eq_some_iff.mp H
  obtain ⟨⟨t206, t209⟩, A40, H⟩ := H
  replace H : (if t209 = true then ((width_town_set.f t206 a1).bind fun t210 => (if t210 = true then ((width_town_set.f t206 a2).bind fun t211 => (if t211 = true then ((width_town_connected.f k t206 a1).bind fun t212 => (if t212 = true then ((width_town_connected.f k t206 a2).bind fun t213 => (if t213 = true then ((width_town_touch.f k t206 a1 a2).bind fun t214 => (some (t214, 0))) else (some (false, 2)))) else (some (false, 2)))) else (some (false, 2)))) else (some (false, 2)))) else (some (false, 2))) = some (r1, r2) := H
  have A4 := Aside0.mk A40
  clear A40
  by_cases c5 : t209 = true
  · subst c5
    have H1 : ((width_town_set.f t206 a1).bind fun t210 => (if t210 = true then ((width_town_set.f t206 a2).bind fun t211 => (if t211 = true then ((width_town_connected.f k t206 a1).bind fun t212 => (if t212 = true then ((width_town_connected.f k t206 a2).bind fun t213 => (if t213 = true then ((width_town_touch.f k t206 a1 a2).bind fun t214 => (some (t214, 0))) else (some (false, 2)))) else (some (false, 2)))) else (some (false, 2)))) else (some (false, 2)))) = some (r1, r2) := by rw [if_pos rfl] at H; exact H
    clear H
    have H := H1
    clear H1
    replace H := Option.bind_eq_some_iff.mp H
    obtain ⟨t210, A60, H⟩ := H
    replace H : (if t210 = true then ((width_town_set.f t206 a2).bind fun t211 => (if t211 = true then ((width_town_connected.f k t206 a1).bind fun t212 => (if t212 = true then ((width_town_connected.f k t206 a2).bind fun t213 => (if t213 = true then ((width_town_touch.f k t206 a1 a2).bind fun t214 => (some (t214, 0))) else (some (false, 2)))) else (some (false, 2)))) else (some (false, 2)))) else (some (false, 2))) = some (r1, r2) := H
    have A6 := Aside0.mk A60
    clear A60
    by_cases c7 : t210 = true
    · subst c7
      have H1 : ((width_town_set.f t206 a2).bind fun t211 => (if t211 = true then ((width_town_connected.f k t206 a1).bind fun t212 => (if t212 = true then ((width_town_connected.f k t206 a2).bind fun t213 => (if t213 = true then ((width_town_touch.f k t206 a1 a2).bind fun t214 => (some (t214, 0))) else (some (false, 2)))) else (some (false, 2)))) else (some (false, 2)))) = some (r1, r2) := by rw [if_pos rfl] at H; exact H
      clear H
      have H := H1
      clear H1
      replace H := Option.bind_eq_some_iff.mp H
      obtain ⟨t211, A80, H⟩ := H
      replace H : (if t211 = true then ((width_town_connected.f k t206 a1).bind fun t212 => (if t212 = true then ((width_town_connected.f k t206 a2).bind fun t213 => (if t213 = true then ((width_town_touch.f k t206 a1 a2).bind fun t214 => (some (t214, 0))) else (some (false, 2)))) else (some (false, 2)))) else (some (false, 2))) = some (r1, r2) := H
      have A8 := Aside0.mk A80
      clear A80
      by_cases c9 : t211 = true
      · subst c9
        have H1 : ((width_town_connected.f k t206 a1).bind fun t212 => (if t212 = true then ((width_town_connected.f k t206 a2).bind fun t213 => (if t213 = true then ((width_town_touch.f k t206 a1 a2).bind fun t214 => (some (t214, 0))) else (some (false, 2)))) else (some (false, 2)))) = some (r1, r2) := by rw [if_pos rfl] at H; exact H
        clear H
        have H := H1
        clear H1
        replace H := Option.bind_eq_some_iff.mp H
        obtain ⟨t212, A100, H⟩ := H
        replace H : (if t212 = true then ((width_town_connected.f k t206 a2).bind fun t213 => (if t213 = true then ((width_town_touch.f k t206 a1 a2).bind fun t214 => (some (t214, 0))) else (some (false, 2)))) else (some (false, 2))) = some (r1, r2) := H
        have A10 := Aside0.mk A100
        clear A100
        by_cases c11 : t212 = true
        · subst c11
          have H1 : ((width_town_connected.f k t206 a2).bind fun t213 => (if t213 = true then ((width_town_touch.f k t206 a1 a2).bind fun t214 => (some (t214, 0))) else (some (false, 2)))) = some (r1, r2) := by rw [if_pos rfl] at H; exact H
          clear H
          have H := H1
          clear H1
          replace H := Option.bind_eq_some_iff.mp H
          obtain ⟨t213, A120, H⟩ := H
          replace H : (if t213 = true then ((width_town_touch.f k t206 a1 a2).bind fun t214 => (some (t214, 0))) else (some (false, 2))) = some (r1, r2) := H
          have A12 := Aside0.mk A120
          clear A120
          by_cases c13 : t213 = true
          · subst c13
            have H1 : ((width_town_touch.f k t206 a1 a2).bind fun t214 => (some (t214, 0))) = some (r1, r2) := by rw [if_pos rfl] at H; exact H
            clear H
            have H := H1
            clear H1
            replace H := Option.bind_eq_some_iff.mp H
            obtain ⟨t214, A140, H⟩ := H
            replace H : (some (t214, 0)) = some (r1, r2) := H
            have A14 := Aside0.mk A140
            clear A140
            simp only [Option.some.injEq, Prod.mk.injEq] at H
            obtain ⟨rfl, rfl⟩ := H
            go_enter Tryd.func22, Tryd.ntmps22
            go_wp2_with (first | ((with_reducible refine gate_callee (f := 59) rfl ?_); refine goesL_ (some 12) rfl rfl Tryd.func59 (by kernel_rfl) rfl #[.slice A0 l0.length c0] rfl (by (try simp only [List.map_toArray, List.map_cons, List.map_nil]); first | done | rfl | (simp only [List.length_drop, List.length_take]; rfl)) ?_; (with_reducible refine (width_read.calls k (fun k_ => k_ < w.heap.size) _ _ l0 t206 true _ ?side1 A4.out).mono ?_); (case side1 => exact Kd.V_mk HC0.out (Kd.F_below (Kd.C_F (Kd.heap_int .i64) HR0.out) (by repeat (first | (with_reducible first | exact HB.out | apply below_alloc | apply pw_below_drewN | apply below_drew1) | exact HB.out)))); rintro e w15 ⟨v207, rfl, ho0, hb⟩; refine ⟨_, rfl, ?_⟩; have n0_ := Aside0.mk (Kd.V_lower (Kd.V_mono (ok' := fun k_ => True) ho0 (fun k_ hk_ => trivial)) (below_size (by repeat (first | (with_reducible first | exact HB.out | apply below_alloc | apply pw_below_drewN | apply below_drew1) | exact HB.out)))); have n1_ := Aside0.mk (below_step (by repeat (first | (with_reducible first | exact HB.out | apply below_alloc | apply pw_below_drewN | apply below_drew1) | exact HB.out)) hb); clear HB; have HO208 := n0_; have HB := n1_; clear n0_ n1_; (try clear hb); (try clear hb2); (try clear hk); (try clear hi); (try clear ho0); obtain ⟨Ao16, co16, eo16⟩ := Kd.V_slice HO208.out; subst eo16) | (go_at_call 62; (with_reducible refine (width_town_set.calls _ _ t206 a1 true _ ?side1 ?side2 A6.out).mono ?_); (case side1 => repeat (first | exact (Kd.V_reads' HO208.out).2.2 | (with_reducible refine Kd.C_alloc ?_ _) | (with_reducible refine Kd.C_drewN ?_ _) | (with_reducible refine Kd.C_drew ?_))); (case side2 => exact (Kd.V_reads' HO208.out).2.1); rintro e w' ⟨rfl, ⟨nd, rfl⟩⟩) | (go_at_call 62; (with_reducible refine (width_town_set.calls _ _ t206 a2 true _ ?side1 ?side2 A8.out).mono ?_); (case side1 => repeat (first | exact (Kd.V_reads' HO208.out).2.2 | (with_reducible refine Kd.C_alloc ?_ _) | (with_reducible refine Kd.C_drewN ?_ _) | (with_reducible refine Kd.C_drew ?_))); (case side2 => exact (Kd.V_reads' HO208.out).2.1); rintro e w' ⟨rfl, ⟨nd, rfl⟩⟩) | (go_at_call 63; (with_reducible refine (width_town_connected.calls (hGL := (by repeat (first | (with_reducible exact HGL.out) | (with_reducible exact GL_below HGL.out HB.out) | (with_reducible refine GL_alloc ?_ _) | (with_reducible refine GL_drewN ?_ _) | (with_reducible refine GL_drew ?_)))) k _ _ t206 a1 true _ ?side1 ?side2 A10.out).mono ?_); (case side1 => repeat (first | exact (Kd.V_reads' HO208.out).2.2 | (with_reducible refine Kd.C_alloc ?_ _) | (with_reducible refine Kd.C_drewN ?_ _) | (with_reducible refine Kd.C_drew ?_))); (case side2 => exact (Kd.V_reads' HO208.out).2.1); rintro e w17 ⟨rfl, hb⟩; have n0_ := Aside0.mk (Kd.V_below (by (with_reducible repeat (first | apply Kd.V_alloc | apply Kd.V_drewN | apply Kd.V_drew)); exact HO208.out) hb); have n1_ := Aside0.mk (below_step (by repeat (first | (with_reducible first | exact HB.out | apply below_alloc | apply pw_below_drewN | apply below_drew1) | exact HB.out)) hb); clear HO208; clear HB; have HO208 := n0_; have HB := n1_; clear n0_ n1_; (try clear hb); (try clear hb2); (try clear hk); (try clear hi)) | (go_at_call 63; (with_reducible refine (width_town_connected.calls (hGL := (by repeat (first | (with_reducible exact HGL.out) | (with_reducible exact GL_below HGL.out HB.out) | (with_reducible refine GL_alloc ?_ _) | (with_reducible refine GL_drewN ?_ _) | (with_reducible refine GL_drew ?_)))) k _ _ t206 a2 true _ ?side1 ?side2 A12.out).mono ?_); (case side1 => repeat (first | exact (Kd.V_reads' HO208.out).2.2 | (with_reducible refine Kd.C_alloc ?_ _) | (with_reducible refine Kd.C_drewN ?_ _) | (with_reducible refine Kd.C_drew ?_))); (case side2 => exact (Kd.V_reads' HO208.out).2.1); rintro e w18 ⟨rfl, hb⟩; have n0_ := Aside0.mk (Kd.V_below (by (with_reducible repeat (first | apply Kd.V_alloc | apply Kd.V_drewN | apply Kd.V_drew)); exact HO208.out) hb); have n1_ := Aside0.mk (below_step (by repeat (first | (with_reducible first | exact HB.out | apply below_alloc | apply pw_below_drewN | apply below_drew1) | exact HB.out)) hb); clear HO208; clear HB; have HO208 := n0_; have HB := n1_; clear n0_ n1_; (try clear hb); (try clear hb2); (try clear hk); (try clear hi)) | ((with_reducible refine gate_callee (f := 64) rfl ?_); refine goesL_ (some 44) rfl rfl Tryd.func64 (by kernel_rfl) rfl #[.slice Ao16 t206.length co16, .int .i64 a1, .int .i64 a2] rfl (by (try simp only [List.map_toArray, List.map_cons, List.map_nil]); first | done | rfl | (simp only [List.length_drop, List.length_take]; rfl)) ?_; (with_reducible refine (width_town_touch.calls (hGL := (by repeat (first | (with_reducible exact HGL.out) | (with_reducible exact GL_below HGL.out HB.out) | (with_reducible refine GL_alloc ?_ _) | (with_reducible refine GL_drewN ?_ _) | (with_reducible refine GL_drew ?_)))) k _ _ t206 a1 a2 t214 _ ?side1 ?side2 A14.out).mono ?_); (case side1 => repeat (first | exact (Kd.V_reads' HO208.out).2.2 | (with_reducible refine Kd.C_alloc ?_ _) | (with_reducible refine Kd.C_drewN ?_ _) | (with_reducible refine Kd.C_drew ?_))); (case side2 => exact (Kd.V_reads' HO208.out).2.1); rintro e w19 ⟨rfl, hb⟩; refine ⟨_, rfl, ?_⟩; have n0_ := Aside0.mk (Kd.V_below (by (with_reducible repeat (first | apply Kd.V_alloc | apply Kd.V_drewN | apply Kd.V_drew)); exact HO208.out) hb); have n1_ := Aside0.mk (below_step (by repeat (first | (with_reducible first | exact HB.out | apply below_alloc | apply pw_below_drewN | apply below_drew1) | exact HB.out)) hb); clear HO208; clear HB; have HO208 := n0_; have HB := n1_; clear n0_ n1_; (try clear hb); (try clear hb2); (try clear hk); (try clear hi)))
            go_ret2
            exact ⟨by first | rfl | (simp [errW_none, errW_some] <;> rfl) | (simp [*, errW_none, errW_some] <;> rfl), by repeat (first | (with_reducible first | exact HB.out | apply below_alloc | apply pw_below_drewN | apply below_drew1) | exact HB.out)⟩
          · replace c13 := Bool.eq_false_iff.mpr c13
            subst c13
            have H1 : (some (false, 2)) = some (r1, r2) := by rw [if_neg (show ¬ (false = true) by decide)] at H; exact H
            clear H
            have H := H1
            clear H1
            simp only [Option.some.injEq, Prod.mk.injEq] at H
            obtain ⟨rfl, rfl⟩ := H
            go_enter Tryd.func22, Tryd.ntmps22
            go_wp2_with (first | ((with_reducible refine gate_callee (f := 59) rfl ?_); refine goesL_ (some 12) rfl rfl Tryd.func59 (by kernel_rfl) rfl #[.slice A0 l0.length c0] rfl (by (try simp only [List.map_toArray, List.map_cons, List.map_nil]); first | done | rfl | (simp only [List.length_drop, List.length_take]; rfl)) ?_; (with_reducible refine (width_read.calls k (fun k_ => k_ < w.heap.size) _ _ l0 t206 true _ ?side1 A4.out).mono ?_); (case side1 => exact Kd.V_mk HC0.out (Kd.F_below (Kd.C_F (Kd.heap_int .i64) HR0.out) (by repeat (first | (with_reducible first | exact HB.out | apply below_alloc | apply pw_below_drewN | apply below_drew1) | exact HB.out)))); rintro e w20 ⟨v207, rfl, ho0, hb⟩; refine ⟨_, rfl, ?_⟩; have n0_ := Aside0.mk (Kd.V_lower (Kd.V_mono (ok' := fun k_ => True) ho0 (fun k_ hk_ => trivial)) (below_size (by repeat (first | (with_reducible first | exact HB.out | apply below_alloc | apply pw_below_drewN | apply below_drew1) | exact HB.out)))); have n1_ := Aside0.mk (below_step (by repeat (first | (with_reducible first | exact HB.out | apply below_alloc | apply pw_below_drewN | apply below_drew1) | exact HB.out)) hb); clear HB; have HO208 := n0_; have HB := n1_; clear n0_ n1_; (try clear hb); (try clear hb2); (try clear hk); (try clear hi); (try clear ho0); obtain ⟨Ao21, co21, eo21⟩ := Kd.V_slice HO208.out; subst eo21) | (go_at_call 62; (with_reducible refine (width_town_set.calls _ _ t206 a1 true _ ?side1 ?side2 A6.out).mono ?_); (case side1 => repeat (first | exact (Kd.V_reads' HO208.out).2.2 | (with_reducible refine Kd.C_alloc ?_ _) | (with_reducible refine Kd.C_drewN ?_ _) | (with_reducible refine Kd.C_drew ?_))); (case side2 => exact (Kd.V_reads' HO208.out).2.1); rintro e w' ⟨rfl, ⟨nd, rfl⟩⟩) | (go_at_call 62; (with_reducible refine (width_town_set.calls _ _ t206 a2 true _ ?side1 ?side2 A8.out).mono ?_); (case side1 => repeat (first | exact (Kd.V_reads' HO208.out).2.2 | (with_reducible refine Kd.C_alloc ?_ _) | (with_reducible refine Kd.C_drewN ?_ _) | (with_reducible refine Kd.C_drew ?_))); (case side2 => exact (Kd.V_reads' HO208.out).2.1); rintro e w' ⟨rfl, ⟨nd, rfl⟩⟩) | (go_at_call 63; (with_reducible refine (width_town_connected.calls (hGL := (by repeat (first | (with_reducible exact HGL.out) | (with_reducible exact GL_below HGL.out HB.out) | (with_reducible refine GL_alloc ?_ _) | (with_reducible refine GL_drewN ?_ _) | (with_reducible refine GL_drew ?_)))) k _ _ t206 a1 true _ ?side1 ?side2 A10.out).mono ?_); (case side1 => repeat (first | exact (Kd.V_reads' HO208.out).2.2 | (with_reducible refine Kd.C_alloc ?_ _) | (with_reducible refine Kd.C_drewN ?_ _) | (with_reducible refine Kd.C_drew ?_))); (case side2 => exact (Kd.V_reads' HO208.out).2.1); rintro e w22 ⟨rfl, hb⟩; have n0_ := Aside0.mk (Kd.V_below (by (with_reducible repeat (first | apply Kd.V_alloc | apply Kd.V_drewN | apply Kd.V_drew)); exact HO208.out) hb); have n1_ := Aside0.mk (below_step (by repeat (first | (with_reducible first | exact HB.out | apply below_alloc | apply pw_below_drewN | apply below_drew1) | exact HB.out)) hb); clear HO208; clear HB; have HO208 := n0_; have HB := n1_; clear n0_ n1_; (try clear hb); (try clear hb2); (try clear hk); (try clear hi)) | (go_at_call 63; (with_reducible refine (width_town_connected.calls (hGL := (by repeat (first | (with_reducible exact HGL.out) | (with_reducible exact GL_below HGL.out HB.out) | (with_reducible refine GL_alloc ?_ _) | (with_reducible refine GL_drewN ?_ _) | (with_reducible refine GL_drew ?_)))) k _ _ t206 a2 false _ ?side1 ?side2 A12.out).mono ?_); (case side1 => repeat (first | exact (Kd.V_reads' HO208.out).2.2 | (with_reducible refine Kd.C_alloc ?_ _) | (with_reducible refine Kd.C_drewN ?_ _) | (with_reducible refine Kd.C_drew ?_))); (case side2 => exact (Kd.V_reads' HO208.out).2.1); rintro e w23 ⟨rfl, hb⟩; have n0_ := Aside0.mk (Kd.V_below (by (with_reducible repeat (first | apply Kd.V_alloc | apply Kd.V_drewN | apply Kd.V_drew)); exact HO208.out) hb); have n1_ := Aside0.mk (below_step (by repeat (first | (with_reducible first | exact HB.out | apply below_alloc | apply pw_below_drewN | apply below_drew1) | exact HB.out)) hb); clear HO208; clear HB; have HO208 := n0_; have HB := n1_; clear n0_ n1_; (try clear hb); (try clear hb2); (try clear hk); (try clear hi)))
            go_ret2
            exact ⟨by first | rfl | (simp [errW_none, errW_some] <;> rfl) | (simp [*, errW_none, errW_some] <;> rfl), by repeat (first | (with_reducible first | exact HB.out | apply below_alloc | apply pw_below_drewN | apply below_drew1) | exact HB.out)⟩
        · replace c11 := Bool.eq_false_iff.mpr c11
          subst c11
          have H1 : (some (false, 2)) = some (r1, r2) := by rw [if_neg (show ¬ (false = true) by decide)] at H; exact H
          clear H
          have H := H1
          clear H1
          simp only [Option.some.injEq, Prod.mk.injEq] at H
          obtain ⟨rfl, rfl⟩ := H
          go_enter Tryd.func22, Tryd.ntmps22
          go_wp2_with (first | ((with_reducible refine gate_callee (f := 59) rfl ?_); refine goesL_ (some 12) rfl rfl Tryd.func59 (by kernel_rfl) rfl #[.slice A0 l0.length c0] rfl (by (try simp only [List.map_toArray, List.map_cons, List.map_nil]); first | done | rfl | (simp only [List.length_drop, List.length_take]; rfl)) ?_; (with_reducible refine (width_read.calls k (fun k_ => k_ < w.heap.size) _ _ l0 t206 true _ ?side1 A4.out).mono ?_); (case side1 => exact Kd.V_mk HC0.out (Kd.F_below (Kd.C_F (Kd.heap_int .i64) HR0.out) (by repeat (first | (with_reducible first | exact HB.out | apply below_alloc | apply pw_below_drewN | apply below_drew1) | exact HB.out)))); rintro e w24 ⟨v207, rfl, ho0, hb⟩; refine ⟨_, rfl, ?_⟩; have n0_ := Aside0.mk (Kd.V_lower (Kd.V_mono (ok' := fun k_ => True) ho0 (fun k_ hk_ => trivial)) (below_size (by repeat (first | (with_reducible first | exact HB.out | apply below_alloc | apply pw_below_drewN | apply below_drew1) | exact HB.out)))); have n1_ := Aside0.mk (below_step (by repeat (first | (with_reducible first | exact HB.out | apply below_alloc | apply pw_below_drewN | apply below_drew1) | exact HB.out)) hb); clear HB; have HO208 := n0_; have HB := n1_; clear n0_ n1_; (try clear hb); (try clear hb2); (try clear hk); (try clear hi); (try clear ho0); obtain ⟨Ao25, co25, eo25⟩ := Kd.V_slice HO208.out; subst eo25) | (go_at_call 62; (with_reducible refine (width_town_set.calls _ _ t206 a1 true _ ?side1 ?side2 A6.out).mono ?_); (case side1 => repeat (first | exact (Kd.V_reads' HO208.out).2.2 | (with_reducible refine Kd.C_alloc ?_ _) | (with_reducible refine Kd.C_drewN ?_ _) | (with_reducible refine Kd.C_drew ?_))); (case side2 => exact (Kd.V_reads' HO208.out).2.1); rintro e w' ⟨rfl, ⟨nd, rfl⟩⟩) | (go_at_call 62; (with_reducible refine (width_town_set.calls _ _ t206 a2 true _ ?side1 ?side2 A8.out).mono ?_); (case side1 => repeat (first | exact (Kd.V_reads' HO208.out).2.2 | (with_reducible refine Kd.C_alloc ?_ _) | (with_reducible refine Kd.C_drewN ?_ _) | (with_reducible refine Kd.C_drew ?_))); (case side2 => exact (Kd.V_reads' HO208.out).2.1); rintro e w' ⟨rfl, ⟨nd, rfl⟩⟩) | (go_at_call 63; (with_reducible refine (width_town_connected.calls (hGL := (by repeat (first | (with_reducible exact HGL.out) | (with_reducible exact GL_below HGL.out HB.out) | (with_reducible refine GL_alloc ?_ _) | (with_reducible refine GL_drewN ?_ _) | (with_reducible refine GL_drew ?_)))) k _ _ t206 a1 false _ ?side1 ?side2 A10.out).mono ?_); (case side1 => repeat (first | exact (Kd.V_reads' HO208.out).2.2 | (with_reducible refine Kd.C_alloc ?_ _) | (with_reducible refine Kd.C_drewN ?_ _) | (with_reducible refine Kd.C_drew ?_))); (case side2 => exact (Kd.V_reads' HO208.out).2.1); rintro e w26 ⟨rfl, hb⟩; have n0_ := Aside0.mk (Kd.V_below (by (with_reducible repeat (first | apply Kd.V_alloc | apply Kd.V_drewN | apply Kd.V_drew)); exact HO208.out) hb); have n1_ := Aside0.mk (below_step (by repeat (first | (with_reducible first | exact HB.out | apply below_alloc | apply pw_below_drewN | apply below_drew1) | exact HB.out)) hb); clear HO208; clear HB; have HO208 := n0_; have HB := n1_; clear n0_ n1_; (try clear hb); (try clear hb2); (try clear hk); (try clear hi)))
          go_ret2
          exact ⟨by first | rfl | (simp [errW_none, errW_some] <;> rfl) | (simp [*, errW_none, errW_some] <;> rfl), by repeat (first | (with_reducible first | exact HB.out | apply below_alloc | apply pw_below_drewN | apply below_drew1) | exact HB.out)⟩
      · replace c9 := Bool.eq_false_iff.mpr c9
        subst c9
        have H1 : (some (false, 2)) = some (r1, r2) := by rw [if_neg (show ¬ (false = true) by decide)] at H; exact H
        clear H
        have H := H1
        clear H1
        simp only [Option.some.injEq, Prod.mk.injEq] at H
        obtain ⟨rfl, rfl⟩ := H
        go_enter Tryd.func22, Tryd.ntmps22
        go_wp2_with (first | ((with_reducible refine gate_callee (f := 59) rfl ?_); refine goesL_ (some 12) rfl rfl Tryd.func59 (by kernel_rfl) rfl #[.slice A0 l0.length c0] rfl (by (try simp only [List.map_toArray, List.map_cons, List.map_nil]); first | done | rfl | (simp only [List.length_drop, List.length_take]; rfl)) ?_; (with_reducible refine (width_read.calls k (fun k_ => k_ < w.heap.size) _ _ l0 t206 true _ ?side1 A4.out).mono ?_); (case side1 => exact Kd.V_mk HC0.out (Kd.F_below (Kd.C_F (Kd.heap_int .i64) HR0.out) (by repeat (first | (with_reducible first | exact HB.out | apply below_alloc | apply pw_below_drewN | apply below_drew1) | exact HB.out)))); rintro e w27 ⟨v207, rfl, ho0, hb⟩; refine ⟨_, rfl, ?_⟩; have n0_ := Aside0.mk (Kd.V_lower (Kd.V_mono (ok' := fun k_ => True) ho0 (fun k_ hk_ => trivial)) (below_size (by repeat (first | (with_reducible first | exact HB.out | apply below_alloc | apply pw_below_drewN | apply below_drew1) | exact HB.out)))); have n1_ := Aside0.mk (below_step (by repeat (first | (with_reducible first | exact HB.out | apply below_alloc | apply pw_below_drewN | apply below_drew1) | exact HB.out)) hb); clear HB; have HO208 := n0_; have HB := n1_; clear n0_ n1_; (try clear hb); (try clear hb2); (try clear hk); (try clear hi); (try clear ho0); obtain ⟨Ao28, co28, eo28⟩ := Kd.V_slice HO208.out; subst eo28) | (go_at_call 62; (with_reducible refine (width_town_set.calls _ _ t206 a1 true _ ?side1 ?side2 A6.out).mono ?_); (case side1 => repeat (first | exact (Kd.V_reads' HO208.out).2.2 | (with_reducible refine Kd.C_alloc ?_ _) | (with_reducible refine Kd.C_drewN ?_ _) | (with_reducible refine Kd.C_drew ?_))); (case side2 => exact (Kd.V_reads' HO208.out).2.1); rintro e w' ⟨rfl, ⟨nd, rfl⟩⟩) | (go_at_call 62; (with_reducible refine (width_town_set.calls _ _ t206 a2 false _ ?side1 ?side2 A8.out).mono ?_); (case side1 => repeat (first | exact (Kd.V_reads' HO208.out).2.2 | (with_reducible refine Kd.C_alloc ?_ _) | (with_reducible refine Kd.C_drewN ?_ _) | (with_reducible refine Kd.C_drew ?_))); (case side2 => exact (Kd.V_reads' HO208.out).2.1); rintro e w' ⟨rfl, ⟨nd, rfl⟩⟩))
        go_ret2
        exact ⟨by first | rfl | (simp [errW_none, errW_some] <;> rfl) | (simp [*, errW_none, errW_some] <;> rfl), by repeat (first | (with_reducible first | exact HB.out | apply below_alloc | apply pw_below_drewN | apply below_drew1) | exact HB.out)⟩
    · replace c7 := Bool.eq_false_iff.mpr c7
      subst c7
      have H1 : (some (false, 2)) = some (r1, r2) := by rw [if_neg (show ¬ (false = true) by decide)] at H; exact H
      clear H
      have H := H1
      clear H1
      simp only [Option.some.injEq, Prod.mk.injEq] at H
      obtain ⟨rfl, rfl⟩ := H
      go_enter Tryd.func22, Tryd.ntmps22
      go_wp2_with (first | ((with_reducible refine gate_callee (f := 59) rfl ?_); refine goesL_ (some 12) rfl rfl Tryd.func59 (by kernel_rfl) rfl #[.slice A0 l0.length c0] rfl (by (try simp only [List.map_toArray, List.map_cons, List.map_nil]); first | done | rfl | (simp only [List.length_drop, List.length_take]; rfl)) ?_; (with_reducible refine (width_read.calls k (fun k_ => k_ < w.heap.size) _ _ l0 t206 true _ ?side1 A4.out).mono ?_); (case side1 => exact Kd.V_mk HC0.out (Kd.F_below (Kd.C_F (Kd.heap_int .i64) HR0.out) (by repeat (first | (with_reducible first | exact HB.out | apply below_alloc | apply pw_below_drewN | apply below_drew1) | exact HB.out)))); rintro e w29 ⟨v207, rfl, ho0, hb⟩; refine ⟨_, rfl, ?_⟩; have n0_ := Aside0.mk (Kd.V_lower (Kd.V_mono (ok' := fun k_ => True) ho0 (fun k_ hk_ => trivial)) (below_size (by repeat (first | (with_reducible first | exact HB.out | apply below_alloc | apply pw_below_drewN | apply below_drew1) | exact HB.out)))); have n1_ := Aside0.mk (below_step (by repeat (first | (with_reducible first | exact HB.out | apply below_alloc | apply pw_below_drewN | apply below_drew1) | exact HB.out)) hb); clear HB; have HO208 := n0_; have HB := n1_; clear n0_ n1_; (try clear hb); (try clear hb2); (try clear hk); (try clear hi); (try clear ho0); obtain ⟨Ao30, co30, eo30⟩ := Kd.V_slice HO208.out; subst eo30) | (go_at_call 62; (with_reducible refine (width_town_set.calls _ _ t206 a1 false _ ?side1 ?side2 A6.out).mono ?_); (case side1 => repeat (first | exact (Kd.V_reads' HO208.out).2.2 | (with_reducible refine Kd.C_alloc ?_ _) | (with_reducible refine Kd.C_drewN ?_ _) | (with_reducible refine Kd.C_drew ?_))); (case side2 => exact (Kd.V_reads' HO208.out).2.1); rintro e w' ⟨rfl, ⟨nd, rfl⟩⟩))
      go_ret2
      exact ⟨by first | rfl | (simp [errW_none, errW_some] <;> rfl) | (simp [*, errW_none, errW_some] <;> rfl), by repeat (first | (with_reducible first | exact HB.out | apply below_alloc | apply pw_below_drewN | apply below_drew1) | exact HB.out)⟩
  · replace c5 := Bool.eq_false_iff.mpr c5
    subst c5
    have H1 : (some (false, 2)) = some (r1, r2) := by rw [if_neg (show ¬ (false = true) by decide)] at H; exact H
    clear H
    have H := H1
    clear H1
    simp only [Option.some.injEq, Prod.mk.injEq] at H
    obtain ⟨rfl, rfl⟩ := H
    go_enter Tryd.func22, Tryd.ntmps22
    go_wp2_with (first | ((with_reducible refine gate_callee (f := 59) rfl ?_); refine goesL_ (some 12) rfl rfl Tryd.func59 (by kernel_rfl) rfl #[.slice A0 l0.length c0] rfl (by (try simp only [List.map_toArray, List.map_cons, List.map_nil]); first | done | rfl | (simp only [List.length_drop, List.length_take]; rfl)) ?_; (with_reducible refine (width_read.calls k (fun k_ => k_ < w.heap.size) _ _ l0 t206 false _ ?side1 A4.out).mono ?_); (case side1 => exact Kd.V_mk HC0.out (Kd.F_below (Kd.C_F (Kd.heap_int .i64) HR0.out) (by repeat (first | (with_reducible first | exact HB.out | apply below_alloc | apply pw_below_drewN | apply below_drew1) | exact HB.out)))); rintro e w31 ⟨v207, rfl, ho0, hb⟩; refine ⟨_, rfl, ?_⟩; have n0_ := Aside0.mk (Kd.V_lower (Kd.V_mono (ok' := fun k_ => True) ho0 (fun k_ hk_ => trivial)) (below_size (by repeat (first | (with_reducible first | exact HB.out | apply below_alloc | apply pw_below_drewN | apply below_drew1) | exact HB.out)))); have n1_ := Aside0.mk (below_step (by repeat (first | (with_reducible first | exact HB.out | apply below_alloc | apply pw_below_drewN | apply below_drew1) | exact HB.out)) hb); clear HB; have HO208 := n0_; have HB := n1_; clear n0_ n1_; (try clear hb); (try clear hb2); (try clear hk); (try clear hi); (try clear ho0)))
    go_ret2
    exact ⟨by first | rfl | (simp [errW_none, errW_some] <;> rfl) | (simp [*, errW_none, errW_some] <;> rfl), by repeat (first | (with_reducible first | exact HB.out | apply below_alloc | apply pw_below_drewN | apply below_drew1) | exact HB.out)⟩

end Go.Proofs.YtoffehihicabcaaDoor.X
end
section
/- Connected sets, and whether two sets touch: the program's word and the reference's are one. -/
set_option linter.unusedVariables false
namespace Go.Proofs.YtoffehihicabcaaDoor.X
open Go.RowKit Go.Proofs.YtoffehihicabcaaDoorW.PrintWords Go.Proofs.YtoffehihicabcaaDoorW.PrintLast Go.Proofs.YtoffehihicabcaaDoorW.PrintMore Go.Proofs.YtoffehihicabcaaDoor.T

/-- The least element of a set. -/
def low (a : Nat) : Nat := (els a 9).headD 0
theorem low_neg : ∀ x : Fin 512, 0 < x.val → Go.bits .and .i64 (x.val : Int) (wrap64 (-(x.val : Int))) = ((2 ^ low x.val : Nat) : Int) := by decide +kernel
theorem low_bits : ∀ x : Fin 512, 0 < x.val → x.val.testBit (low x.val) = true ∧ ∀ i : Fin 9, i.val < low x.val → x.val.testBit i.val = false := by decide +kernel
theorem size_all : ∀ x : Fin 512, lampblackref02_Size.f 12 (x.val : Int) = some (pc x.val 9 : Int) := by decide +kernel
theorem size_ev (x : Nat) (hx : x < 512) : Ev (fun k => lampblackref02_Size.f k (x : Int)) ((pc x 9 : Nat) : Int) := Ev.of (lampblackref02_Size.mono _) (size_all ⟨x, hx⟩)

/-- Is a a connected set of nodes? -/
noncomputable def conn (G : List Nat) (a : Int) : Bool := decide (0 < a) && decide (a < ((2 ^ G.length : Nat) : Int)) && decide (conset G (2 ^ low a.toNat) a.toNat = a.toNat)
theorem low_lt {G : List Nat} {a : Nat} (h0 : 0 < a) (h : a < 2 ^ G.length) (hn : G.length ≤ 9) : low a < G.length := bit_lt h (low_bits ⟨a, small G hn h⟩ h0).1

theorem progSet (G : List Nat) (hG : Gr 9 G) (a : Int) : width_town_set.f (gi G) a = some (decide (0 ≤ a) && decide (a < ((2 ^ G.length : Nat) : Int))) := by
  have h2 := Nat.two_pow_pos G.length
  unfold width_town_set.f
  by_cases h : 0 ≤ a
  · rw [if_pos h, all_eq G hG.most]
    simp only [Option.bind_some, h, decide_true, Bool.true_and]
    congr 1
    exact decide_eq_decide.2 (by omega)
  · rw [if_neg h]; simp [h]
theorem progConn (G : List Nat) (hG : Gr 9 G) (a : Nat) (ha : a < 2 ^ G.length) : Ev (fun k => width_town_connected.f k (gi G) (a : Int)) (conn G (a : Int)) := by
  have hn := hG.most
  unfold width_town_connected.f
  by_cases h0 : a = 0
  · subst h0
    exact Ev.if_pos rfl (Ev.some (by simp [conn]))
  · refine Ev.if_neg (by omega) ?_
    have hl := low_lt (G := G) (by omega) ha hn
    have hp : 2 ^ low a < 2 ^ G.length := Nat.pow_lt_pow_right (by omega) hl
    rw [show Go.bits .and .i64 (a : Int) (wrap64 (-(a : Int))) = ((2 ^ low a : Nat) : Int) from low_neg ⟨a, small G hn ha⟩ (by simp; omega)]
    refine Ev.bind (part_ev G hG _ _ hp ha) (Ev.some ?_)
    unfold conn
    rw [Int.toNat_natCast, decide_eq_true (show (0 : Int) < (a : Int) by omega), decide_eq_true (show (a : Int) < ((2 ^ G.length : Nat) : Int) by omega)]
    simp only [Bool.true_and]
    by_cases e : conset G (2 ^ low a) a = a
    · rw [e]; simp
    · rw [decide_eq_false e, beq_eq_false_iff_ne]; omega
theorem refConn_l0 (G : List Nat) (hG : Gr 9 G) (a : Nat) (h0 : 0 < a) (ha : a < 2 ^ G.length) : ∀ d i, i + d = low a → Ev (fun k => lampblackref02_Connected.l0 k (gi G) (a : Int) (i : Int)) (decide (conset G (2 ^ low a) a = a)) := by
  have hn := hG.most
  have hl := low_lt (G := G) h0 ha hn
  have hb := low_bits ⟨a, small G hn ha⟩ h0
  have hbig := big (small G hn ha)
  intro d
  induction d with
  | zero =>
    intro i hi
    obtain rfl : i = low a := by omega
    refine Ev.step (fun k => by rw [lampblackref02_Connected.l0, if_pos (by omega), if_neg (fun h => by have := (bit_zero a _ hbig (by omega)).1 h; rw [hb.1] at this; cases this)]) ?_
    refine Ev.bind (reached_ev 9 G hG (by omega) a (low a) ha hl) (Ev.some ?_)
    by_cases e : conset G (2 ^ low a) a = a
    · rw [e]; simp
    · rw [decide_eq_false e, beq_eq_false_iff_ne]; omega
  | succ d ih =>
    intro i hi
    refine Ev.step (fun k => ?_) (ih (i + 1) (by omega))
    rw [lampblackref02_Connected.l0, if_pos (by omega), if_pos ((bit_zero a i hbig (by omega)).2 (hb.2 ⟨i, by omega⟩ (by simp only []; omega))), wrap_succ i (by omega)]
theorem refConn (G : List Nat) (hG : Gr 9 G) (a : Int) : Ev (fun k => lampblackref02_Connected.f k (gi G) a) (conn G a) := by
  have hn := hG.most
  have h9 : 2 ^ G.length ≤ 2 ^ 9 := Nat.pow_le_pow_right (by omega) hn
  have stop : ∀ k, lampblackref02_Connected.j0 (k + 1) (gi G) a true = some false := fun k => by rw [lampblackref02_Connected.j0, if_pos rfl]
  unfold lampblackref02_Connected.f
  by_cases h0 : a ≤ 0
  · refine Ev.if_pos h0 (Ev.step stop (Ev.some ?_))
    unfold conn
    rw [decide_eq_false (by omega)]; rfl
  · refine Ev.if_neg h0 ?_
    rw [gi_length, s_one _ (by omega)]
    by_cases h1 : a ≥ ((2 ^ G.length : Nat) : Int)
    · rw [decide_eq_true h1]
      refine Ev.step stop (Ev.some ?_)
      unfold conn
      rw [decide_eq_false (show ¬ a < ((2 ^ G.length : Nat) : Int) by omega)]; simp
    · rw [decide_eq_false h1]
      refine Ev.step (fun k => by rw [lampblackref02_Connected.j0, if_neg (by simp)]) ?_
      obtain ⟨b, rfl⟩ := Int.eq_ofNat_of_zero_le (show 0 ≤ a by omega)
      have := refConn_l0 G hG b (by omega) (by omega) (low b) 0 (by omega)
      unfold conn
      rw [decide_eq_true (show (0 : Int) < (b : Int) by omega), decide_eq_true (show (b : Int) < ((2 ^ G.length : Nat) : Int) by omega), Int.toNat_natCast]
      exact this

theorem refAround_l0 (G : List Nat) (hG : Gr 9 G) (s : Nat) (hs : s < 2 ^ G.length) : ∀ d i, i + d = G.length →
    Ev (fun k => lampblackref02_Around.l0 k (gi G) (s : Int) ((around G s i : Nat) : Int) (G.length : Int) (i : Int)) ((Around G s : Nat) : Int) := by
  have hn := hG.most
  have hbig := big (small G hn hs)
  have hlt : ∀ i, around G s i < 2 ^ G.length := fun i => lt_of_bits fun j hj => by
    obtain ⟨x, _, _, h⟩ := (around_bit G s i j).1 hj; exact hG.adj_lt h
  intro d
  induction d with
  | zero =>
    intro i hi
    obtain rfl : i = G.length := by omega
    exact Ev.step (f := fun _ => some ((around G s G.length : Nat) : Int)) (fun k => by rw [lampblackref02_Around.l0, if_neg (by omega)]) (Ev.some rfl)
  | succ d ih =>
    intro i hi
    refine Ev.step (fun k => ?_) (ih (i + 1) (by omega))
    by_cases hb : s.testBit i = true
    · rw [lampblackref02_Around.l0, if_pos (by omega), if_pos (by omega), if_pos ((bit_one s i hbig (by omega)).2 hb), if_pos (by rw [gi_length]; omega), rd_gi,
        b_or _ _ (big (small G hn (hlt i))) (big (small G hn (hG.row i))), wrap_succ i (by omega)]
      simp only [around, hb, if_true]
    · rw [lampblackref02_Around.l0, if_pos (by omega), if_pos (by omega), if_neg (fun h => hb ((bit_one s i hbig (by omega)).1 h)), wrap_succ i (by omega)]
      simp only [around, hb]
      simp
theorem refAround (G : List Nat) (hG : Gr 9 G) (s : Nat) (hs : s < 2 ^ G.length) : Ev (fun k => lampblackref02_Around.f k (gi G) (s : Int)) ((Around G s : Nat) : Int) := by
  have := refAround_l0 G hG s hs G.length 0 (by omega)
  unfold lampblackref02_Around.f
  rw [gi_length]
  exact this

/-- Do two sets touch? -/
def touchB (G : List Nat) (a b : Int) : Bool := (Go.bits .and .i64 (Go.bits .or .i64 a ((Around G a.toNat : Nat) : Int)) b) != 0
theorem progTouch (G : List Nat) (hG : Gr 9 G) (a : Nat) (ha : a < 2 ^ G.length) (b : Int) : Ev (fun k => width_town_touch.f k (gi G) (a : Int) b) (touchB G (a : Int) b) := by
  unfold width_town_touch.f
  exact Ev.bind (around_ev G hG a ha) (Ev.some rfl)
theorem refTouch (G : List Nat) (hG : Gr 9 G) (a : Nat) (ha : a < 2 ^ G.length) (b : Int) : Ev (fun k => lampblackref02_Touch.f k (gi G) (a : Int) b) (touchB G (a : Int) b) := by
  unfold lampblackref02_Touch.f
  exact Ev.bind (refAround G hG a ha) (Ev.some rfl)
theorem conn_lt {G : List Nat} {a : Int} (h : conn G a = true) : ∃ n : Nat, a = n ∧ n < 2 ^ G.length ∧ 0 < n := by
  simp only [conn, Bool.and_eq_true, decide_eq_true_eq] at h
  exact ⟨a.toNat, by omega, by omega, by omega⟩

theorem valid_ev (g : List Int) (hg : g.length < 2 ^ 60) : Ev (fun k => lampblackref02_Valid.f k g) (chk 9 g) := by
  unfold lampblackref02_Valid.f
  exact Ev.bind (isGraph_ev 9 (by omega) g hg) (Ev.some rfl)
/-- Few hands on a beginning; what is valid it hands on whole, and what isn't stays so. -/
theorem few_eq (g : List Int) (hg : g.length < 2 ^ 44) : ∃ h, lampblacklaw02_Few.f g = some h ∧ (chk 9 g = true → h = g) ∧ (chk 9 g = false → chk 9 h = false) ∧ h.length ≤ 13 := by
  have hm : mn (g.length : Int) 13 = ((min g.length 13 : Nat) : Int) := mn_nat g.length 13
  refine ⟨g.take (min g.length 13), ?_, ?_, ?_, ?_⟩
  · unfold lampblacklaw02_Few.f slices_Clone_Graph.f
    simp only [hm, Int.toNat_natCast]
    rw [if_pos (by omega), if_pos (by omega)]
    simp only [Option.bind_some, List.length_nil, List.nil_append]
    rw [if_pos (by rw [List.length_take]; omega)]
    rfl
  · intro h
    simp only [chk, Bool.and_eq_true, decide_eq_true_eq] at h
    exact List.take_of_length_le (by omega)
  · intro h
    by_cases hl : g.length ≤ 13
    · rw [List.take_of_length_le (by omega)]; exact h
    · unfold chk
      have : ¬ (List.take (min g.length 13) g).length ≤ 9 := by rw [List.length_take]; omega
      rw [decide_eq_false this, Bool.and_false, Bool.false_and]
  · rw [List.length_take]; omega
end Go.Proofs.YtoffehihicabcaaDoor.X
end
section
/- Brambles and their covers: the program's word and the reference's are one. -/
set_option linter.unusedVariables false
namespace Go.Proofs.YtoffehihicabcaaDoor.X
open Go.RowKit Go.Proofs.YtoffehihicabcaaDoorW.PrintWords Go.Proofs.YtoffehihicabcaaDoorW.PrintLast Go.Proofs.YtoffehihicabcaaDoorW.PrintMore Go.Proofs.YtoffehihicabcaaDoor.T

/-- The place of the first that does not touch a, or -1. -/
def misZ (G : List Nat) (a : Int) (l : List Int) : Nat → Nat → Int
  | 0, _ => -1
  | d + 1, i => if touchB G a (rd l (i : Int)) = true then misZ G a l d (i + 1) else (i : Int)
noncomputable def bramV (G : List Nat) (l : List Int) : Nat → Nat → Bool
  | 0, _ => true
  | d + 1, i => if conn G (rd l (i : Int)) = true then (if 0 ≤ misZ G (rd l (i : Int)) l i 0 then false else bramV G l d (i + 1)) else false
noncomputable def refV (G : List Nat) (l : List Int) : Nat → Nat → Bool
  | 0, _ => decide ((l.length : Int) > 0)
  | d + 1, i => if 200 ≤ i then false else if conn G (rd l (i : Int)) = true then (if 0 ≤ misZ G (rd l (i : Int)) l i 0 then false else refV G l d (i + 1)) else false
/-- Is l a bramble of G? -/
noncomputable def bram (G : List Nat) (l : List Int) : Bool := if 1 ≤ l.length ∧ l.length ≤ 200 then bramV G l l.length 0 else false

theorem refV_long (G : List Nat) (l : List Int) : ∀ d i, i ≤ 200 → 200 < i + d → refV G l d i = false := by
  intro d
  induction d with
  | zero => intro i h1 h2; omega
  | succ d ih =>
    intro i h1 h2
    simp only [refV]
    by_cases h : 200 ≤ i
    · rw [if_pos h]
    · rw [if_neg h, ih (i + 1) (by omega) (by omega)]
      simp
theorem refV_short (G : List Nat) (l : List Int) (h0 : 1 ≤ l.length) : ∀ d i, i + d ≤ 200 → refV G l d i = bramV G l d i := by
  intro d
  induction d with
  | zero => intro i h; simp only [refV, bramV]; exact decide_eq_true (by omega)
  | succ d ih =>
    intro i h
    simp only [refV, bramV]
    rw [if_neg (by omega), ih (i + 1) (by omega)]
theorem refV_bram (G : List Nat) (l : List Int) : refV G l l.length 0 = bram G l := by
  unfold bram
  by_cases h : 1 ≤ l.length ∧ l.length ≤ 200
  · rw [if_pos h, refV_short G l h.1 _ _ (by omega)]
  · rw [if_neg h]
    by_cases h1 : 200 < l.length
    · exact refV_long G l _ _ (by omega) (by omega)
    · have : l.length = 0 := by omega
      rw [this]
      simp only [refV, this]
      rfl
theorem misT_ev (G : List Nat) (hG : Gr 9 G) (a : Nat) (ha : a < 2 ^ G.length) (l : List Int) : ∀ d i, Ev (fun K => misT K (gi G) (a : Int) l d i) (misZ G (a : Int) l d i) := by
  intro d
  induction d with
  | zero => exact fun i => Ev.some rfl
  | succ d ih =>
    intro i
    simp only [misT, misZ]
    refine Ev.bind (progTouch G hG a ha _) ?_
    by_cases h : touchB G (a : Int) (rd l (i : Int)) = true
    · rw [if_pos h]; exact Ev.if_pos h (ih _)
    · rw [if_neg h]; exact Ev.if_neg h (Ev.some rfl)
theorem conn_set {G : List Nat} {a : Int} (h : conn G a = true) : (decide (0 ≤ a) && decide (a < ((2 ^ G.length : Nat) : Int))) = true := by
  obtain ⟨n, rfl, h1, h2⟩ := conn_lt h
  rw [decide_eq_true (show (0 : Int) ≤ (n : Int) by omega), decide_eq_true (show (n : Int) < ((2 ^ G.length : Nat) : Int) by omega)]
  rfl
theorem bramTo_ev (G : List Nat) (hG : Gr 9 G) (l : List Int) : ∀ d i, Ev (fun K => bramTo K (gi G) l d i) (bramV G l d i) := by
  intro d
  induction d with
  | zero => exact fun i => Ev.some rfl
  | succ d ih =>
    intro i
    simp only [bramTo, bramV]
    refine Ev.bind1 (progSet G hG _) ?_
    by_cases hs : (decide (0 ≤ rd l (i : Int)) && decide (rd l (i : Int) < ((2 ^ G.length : Nat) : Int))) = true
    · have hs' := hs
      simp only [Bool.and_eq_true, decide_eq_true_eq] at hs'
      obtain ⟨n, hn⟩ := Int.eq_ofNat_of_zero_le hs'.1
      refine Ev.if_pos hs ?_
      rw [hn] at hs' ⊢
      have hlt : n < 2 ^ G.length := by omega
      refine Ev.bind (progConn G hG n hlt) ?_
      by_cases hc : conn G (n : Int) = true
      · rw [if_pos hc]
        refine Ev.if_pos hc (Ev.bind (misT_ev G hG n hlt l i 0) ?_)
        by_cases hz : 0 ≤ misZ G (n : Int) l i 0
        · rw [if_pos hz]; exact Ev.if_pos hz (Ev.some rfl)
        · rw [if_neg hz]; exact Ev.if_neg hz (ih _)
      · rw [if_neg hc]; exact Ev.if_neg hc (Ev.some rfl)
    · have hc : ¬ conn G (rd l (i : Int)) = true := fun h => hs (conn_set h)
      rw [if_neg hc]
      exact Ev.if_neg hs (Ev.some rfl)
theorem bramble_ev (G : List Nat) (hG : Gr 9 G) (l : List Int) : Ev (fun K => width_town_bramble.f K (gi G) l) (bram G l) := by
  unfold width_town_bramble.f bram
  by_cases h : 1 ≤ l.length ∧ l.length ≤ 200
  · rw [if_pos h]; exact Ev.if_pos h (bramTo_ev G hG l _ _)
  · rw [if_neg h]; exact Ev.if_neg h (Ev.some rfl)

theorem rd_take (l : List Int) (i j : Nat) (h : j < i) : rd (l.take i) (j : Int) = rd l (j : Int) := by
  unfold rd
  rw [Int.toNat_natCast, List.getD_eq_getElem?_getD, List.getD_eq_getElem?_getD, List.getElem?_take_of_lt h]
theorem isBramble_l1 (G : List Nat) (hG : Gr 9 G) (l : List Int) (i : Nat) (hi : i < l.length) (hi2 : i < 200) (a : Nat) (ha : a < 2 ^ G.length) (r : Bool)
    (next : Ev (fun k => lampblackref02_IsBramble.l0 k (gi G) l l (l.length : Int) ((i + 1 : Nat) : Int)) r) : ∀ d j, j + d = i →
    Ev (fun k => lampblackref02_IsBramble.l1 k (gi G) l (a : Int) l (l.length : Int) (i : Int) (l.take i) ((l.take i).length : Int) (j : Int)) (if 0 ≤ misZ G (a : Int) l d j then false else r) := by
  have hlen : (l.take i).length = i := by rw [List.length_take]; omega
  intro d
  induction d with
  | zero =>
    intro j hj
    rw [show misZ G (a : Int) l 0 j = -1 from rfl, if_neg (by omega)]
    exact Ev.step (fun k => by rw [lampblackref02_IsBramble.l1, if_neg (by rw [hlen]; omega), wrap_succ i (by omega)]) next
  | succ d ih =>
    intro j hj
    refine Ev.step (fun k => by rw [lampblackref02_IsBramble.l1, if_pos (by rw [hlen]; omega), if_pos (by omega), if_pos (by rw [hlen]; omega), rd_take l i j (by omega), wrap_succ j (by omega)]) ?_
    refine Ev.bind (refTouch G hG a ha _) ?_
    by_cases h : touchB G (a : Int) (rd l (j : Int)) = true
    · have e : misZ G (a : Int) l (d + 1) j = misZ G (a : Int) l d (j + 1) := by simp only [misZ]; rw [if_pos h]
      rw [e]; exact Ev.if_pos h (ih (j + 1) (by omega))
    · have e : misZ G (a : Int) l (d + 1) j = (j : Int) := by simp only [misZ]; rw [if_neg h]
      rw [e, if_pos (by omega)]; exact Ev.if_neg h (Ev.some rfl)
theorem isBramble_l0 (G : List Nat) (hG : Gr 9 G) (l : List Int) (hl : l.length < 2 ^ 60) : ∀ d i, i + d = l.length →
    Ev (fun k => lampblackref02_IsBramble.l0 k (gi G) l l (l.length : Int) (i : Int)) (refV G l d i) := by
  have stop : ∀ (i : Nat), Ev (fun k => lampblackref02_IsBramble.j1 k (gi G) l (i : Int) (rd l (i : Int)) l (l.length : Int) (i : Int) true) false := fun i =>
    Ev.step (f := fun _ => some false) (fun k => by rw [lampblackref02_IsBramble.j1, if_pos rfl]) (Ev.some rfl)
  intro d
  induction d with
  | zero =>
    intro i hi
    exact Ev.step (f := fun _ => some (decide ((l.length : Int) > 0))) (fun k => by rw [lampblackref02_IsBramble.l0, if_neg (by omega)]) (Ev.some rfl)
  | succ d ih =>
    intro i hi
    have next := ih (i + 1) (by omega)
    refine Ev.step (fun k => by rw [lampblackref02_IsBramble.l0, if_pos (by omega), if_pos (by omega), if_pos (by omega)]) ?_
    simp only [refV]
    by_cases h : 200 ≤ i
    · rw [if_pos h]
      exact Ev.if_pos (by omega) (stop i)
    · rw [if_neg h]
      refine Ev.if_neg (by omega) (Ev.bind (refConn G hG _) ?_)
      by_cases hc : conn G (rd l (i : Int)) = true
      · rw [if_pos hc, hc]
        obtain ⟨n, hn, hlt, h0⟩ := conn_lt hc
        have h1 := isBramble_l1 G hG l i (by omega) (by omega) n hlt _ next i 0 (by omega)
        refine Ev.step (fun k => by rw [lampblackref02_IsBramble.j1, if_neg (by simp), if_pos (by omega), if_pos (by omega), Int.toNat_natCast]) ?_
        rw [hn]
        exact h1
      · have hc' : conn G (rd l (i : Int)) = false := by simpa using hc
        rw [if_neg hc, hc']
        exact stop i
theorem isBramble_ev (G : List Nat) (hG : Gr 9 G) (l : List Int) (hl : l.length < 2 ^ 60) : Ev (fun k => lampblackref02_IsBramble.f k (gi G) l) (bram G l) := by
  have := isBramble_l0 G hG l hl l.length 0 (by omega)
  rw [refV_bram] at this
  exact this

/-- Does the set meet all of them? -/
def hitAll (l : List Int) (s : Int) : Nat → Nat → Bool
  | 0, _ => true
  | d + 1, i => (Go.bits .and .i64 (rd l (i : Int)) s != 0) && hitAll l s d (i + 1)
theorem hit_first (l : List Int) (s : Int) : ∀ d i, decide (0 ≤ firstAt (fun x => Go.bits .and .i64 x s == 0) l d i) = !hitAll l s d i := by
  intro d
  induction d with
  | zero => intro i; rfl
  | succ d ih =>
    intro i
    simp only [hitAll]
    by_cases h : (Go.bits .and .i64 (rd l (i : Int)) s == 0) = true
    · have e : firstAt (fun x => Go.bits .and .i64 x s == 0) l (d + 1) i = (i : Int) := by simp only [firstAt]; rw [if_pos h]
      rw [e, bne, h]
      rw [decide_eq_true (show (0 : Int) ≤ (i : Int) by omega)]; rfl
    · have h' : (Go.bits .and .i64 (rd l (i : Int)) s == 0) = false := by simpa using h
      have e : firstAt (fun x => Go.bits .and .i64 x s == 0) l (d + 1) i = firstAt (fun x => Go.bits .and .i64 x s == 0) l d (i + 1) := by simp only [firstAt]; rw [if_neg h]
      rw [e, ih, bne, h']; simp
theorem missed_hit (l : List Int) (s : Int) : missed l s = !hitAll l s l.length 0 := hit_first l s _ _
/-- The search for the cover. -/
def covs (l : List Int) : Nat → Nat → Nat → Nat
  | 0, best, _ => best
  | d + 1, best, set => covs l d (if pc set 9 < pc best 9 ∧ hitAll l (set : Int) l.length 0 = true then set else best) (set + 1)
theorem cnt_pc (x : Nat) (hx : x < 512) : cnt (x : Int) = (pc x 9 : Int) := by unfold cnt; rw [count_eq x hx]; rfl
theorem coverTo_eq (l : List Int) : ∀ (d best set : Nat), best < 512 → set + d ≤ 512 → coverTo l d (best : Int) (set : Int) = ((covs l d best set : Nat) : Int) := by
  intro d
  induction d with
  | zero => intro best set _ _; rfl
  | succ d ih =>
    intro best set hb hs
    simp only [coverTo, covs]
    rw [cnt_pc _ (show set < 512 by omega), cnt_pc _ hb, missed_hit]
    by_cases h : pc set 9 < pc best 9 ∧ hitAll l (set : Int) l.length 0 = true
    · rw [if_pos h, if_pos ⟨by omega, by rw [h.2]; rfl⟩]
      exact ih set (set + 1) (by omega) (by omega)
    · rw [if_neg h, if_neg (fun h' => h ⟨by omega, by simpa using h'.2⟩)]
      exact ih best (set + 1) hb (by omega)
theorem covs_lt (l : List Int) (N : Nat) : ∀ (d best set : Nat), best < N → set + d ≤ N → covs l d best set < N := by
  intro d
  induction d with
  | zero => intro best set h _; exact h
  | succ d ih =>
    intro best set hb hs
    simp only [covs]
    split
    · exact ih _ _ (by omega) (by omega)
    · exact ih _ _ hb (by omega)
/-- The least cover with the fewest nodes. -/
def covN (G : List Nat) (l : List Int) : Nat := covs l (2 ^ G.length) (2 ^ G.length - 1) 0
theorem covN_lt (G : List Nat) (l : List Int) : covN G l < 2 ^ G.length := covs_lt l _ _ _ _ (by have := Nat.two_pow_pos G.length; omega) (by omega)
theorem cover_ev (G : List Nat) (hn : G.length ≤ 9) (l : List Int) (hl : l.length ≤ 1000) : width_town_cover.f (gi G) l = some ((covN G l : Nat) : Int) := by
  have h9 : 2 ^ G.length ≤ 2 ^ 9 := Nat.pow_le_pow_right (by omega) hn
  have h0 := Nat.two_pow_pos G.length
  unfold width_town_cover.f
  rw [gi_length, if_pos hn, if_pos hl]
  have h := all_eq G hn
  unfold width_town_all.f at h
  rw [gi_length] at h
  rw [Option.some.inj h]
  exact congrArg some (coverTo_eq l _ (2 ^ G.length - 1) 0 (by omega) (by omega))

theorem refCover_l1 (l : List Int) (hl : l.length < 2 ^ 60) (N : Int) (best set : Nat) (r : Int)
    (c1 : Ev (fun k => lampblackref02_Cover.l0 k l (set : Int) N (wrap64 ((set : Int) + 1))) r ∨ ¬ (pc set 9 < pc best 9 ∧ hitAll l (set : Int) l.length 0 = true))
    (c2 : Ev (fun k => lampblackref02_Cover.l0 k l (best : Int) N (wrap64 ((set : Int) + 1))) r ∨ (pc set 9 < pc best 9 ∧ hitAll l (set : Int) l.length 0 = true)) :
    ∀ d i (ok : Bool), i + d = l.length → ((ok = true ∧ hitAll l (set : Int) d i = true) ↔ pc set 9 < pc best 9 ∧ hitAll l (set : Int) l.length 0 = true) →
      Ev (fun k => lampblackref02_Cover.l1 k l (best : Int) (set : Int) ok N (set : Int) l (l.length : Int) (i : Int)) r := by
  intro d
  induction d with
  | zero =>
    intro i ok hi h
    refine Ev.step (fun k => by rw [lampblackref02_Cover.l1, if_neg (by omega)]) ?_
    simp only [hitAll, and_true] at h
    by_cases ho : ok = true
    · exact Ev.if_pos ho (c1.resolve_right (fun hn => hn (h.1 ho)))
    · exact Ev.if_neg ho (c2.resolve_right (fun hn => ho (h.2 hn)))
  | succ d ih =>
    intro i ok hi h
    refine Ev.step (fun k => by rw [lampblackref02_Cover.l1, if_pos (by omega), if_pos (by omega), if_pos (by omega), wrap_succ i (by omega)]) ?_
    simp only [hitAll, Bool.and_eq_true] at h
    by_cases ho : ok = true
    · refine Ev.if_pos ho (ih (i + 1) _ (by omega) ?_)
      rw [← h]
      simp only [ho, true_and]
    · refine Ev.if_neg ho (ih (i + 1) _ (by omega) ?_)
      rw [← h]
      simp [ho]
theorem refCover_l0 (G : List Nat) (hn : G.length ≤ 9) (l : List Int) (hl : l.length < 2 ^ 60) : ∀ (d set best : Nat), set + d = 2 ^ G.length → best < 2 ^ G.length →
    Ev (fun k => lampblackref02_Cover.l0 k l (best : Int) ((2 ^ G.length : Nat) : Int) (set : Int)) ((covs l d best set : Nat) : Int) := by
  have h9 : 2 ^ G.length ≤ 2 ^ 9 := Nat.pow_le_pow_right (by omega) hn
  intro d
  induction d with
  | zero =>
    intro set best hs hb
    exact Ev.step (f := fun _ => some (best : Int)) (fun k => by rw [lampblackref02_Cover.l0, if_neg (by omega)]) (Ev.some rfl)
  | succ d ih =>
    intro set best hs hb
    have hset : set < 2 ^ G.length := by omega
    have hw : wrap64 ((set : Int) + 1) = ((set + 1 : Nat) : Int) := wrap_succ set (by omega)
    refine Ev.step (fun k => by rw [lampblackref02_Cover.l0, if_pos (by omega)]) (Ev.bind (size_ev set (by omega)) (Ev.bind (size_ev best (by omega)) ?_))
    simp only [covs]
    refine refCover_l1 l hl _ best set _ ?_ ?_ l.length 0 _ (by omega) ?_
    · by_cases h : pc set 9 < pc best 9 ∧ hitAll l (set : Int) l.length 0 = true
      · rw [if_pos h, hw]; exact Or.inl (ih (set + 1) set (by omega) hset)
      · exact Or.inr h
    · by_cases h : pc set 9 < pc best 9 ∧ hitAll l (set : Int) l.length 0 = true
      · exact Or.inr h
      · rw [if_neg h, hw]; exact Or.inl (ih (set + 1) best (by omega) hb)
    · rw [decide_eq_true_eq]
      constructor
      · rintro ⟨a, b⟩; exact ⟨by omega, b⟩
      · rintro ⟨a, b⟩; exact ⟨by omega, b⟩
theorem refCover_ev (G : List Nat) (hG : Gr 9 G) (l : List Int) (hl : l.length < 2 ^ 60) : Ev (fun k => lampblackref02_Cover.f k (gi G) l) ((covN G l : Nat) : Int) := by
  have hn := hG.most
  have h0 := Nat.two_pow_pos G.length
  have h9 : 2 ^ G.length ≤ 2 ^ 9 := Nat.pow_le_pow_right (by omega) hn
  have h := refCover_l0 G hn l hl (2 ^ G.length) 0 (2 ^ G.length - 1) (by omega) (by omega)
  unfold lampblackref02_Cover.f covN
  rw [gi_length, s_one _ (by omega), show wrap64 (((2 ^ G.length : Nat) : Int) - 1) = ((2 ^ G.length - 1 : Nat) : Int) by rw [w64_small _ (by omega) (by omega)]; omega]
  exact h

/-- list hands on at most 210 of the elements. -/
theorem list_eq (l : List Int) (hl : l.length < 2 ^ 44) : lampblacklaw02_list.f l = some (l.take 210) := by
  have hm : mn (l.length : Int) 210 = ((min l.length 210 : Nat) : Int) := mn_nat l.length 210
  have ht : l.take (min l.length 210) = l.take 210 := by
    by_cases h : l.length ≤ 210
    · rw [List.take_of_length_le (by omega), List.take_of_length_le h]
    · rw [show min l.length 210 = 210 by omega]
  unfold lampblacklaw02_list.f slices_Clone_int_int.f
  rw [hm, Int.toNat_natCast, if_pos (by omega), if_pos (by omega), ht]
  simp only [Option.bind_some, List.length_nil, List.nil_append]
  rw [if_pos (by rw [List.length_take]; omega)]
  rfl
theorem bram_take (G : List Nat) (l : List Int) : bram G (l.take 210) = bram G l ∧ (bram G l = true → l.take 210 = l) := by
  by_cases h : l.length ≤ 210
  · rw [List.take_of_length_le h]; exact ⟨rfl, fun _ => rfl⟩
  · have h1 : bram G l = false := by unfold bram; rw [if_neg (by omega)]
    have h2 : bram G (l.take 210) = false := by unfold bram; rw [List.length_take, if_neg (by omega)]
    rw [h1, h2]
    exact ⟨rfl, fun h => by cases h⟩
theorem CheckBramble_ev (G : List Nat) (hG : Gr 9 G) (l : List Int) : Ev (fun k => width_CheckBramble.f k (gi G) l) (if bram G l = true then ((pc (covN G l) 9 : Int), true, 0) else (0, false, 0)) := by
  have hc : chk 9 (gi G) = true := (chk_iff 9 (by omega) _).2 ⟨G, rfl, hG⟩
  have hr := read_ev (gi G) (by rw [gi_length]; have := hG.most; omega)
  rw [hc] at hr
  unfold width_CheckBramble.f
  refine Ev.bind hr (Ev.if_pos rfl (Ev.bind (bramble_ev G hG l) ?_))
  by_cases h : bram G l = true
  · have h2 : l.length ≤ 1000 := by
      unfold bram at h
      by_cases h1 : 1 ≤ l.length ∧ l.length ≤ 200
      · omega
      · rw [if_neg h1] at h; cases h
    rw [if_pos h, if_pos h]
    exact Ev.bind1 (cover_ev G hG.most l h2) (Ev.bind1 (count_eq _ (small G hG.most (covN_lt G l))) (Ev.some rfl))
  · rw [if_neg h, if_neg h]
    exact Ev.some rfl
theorem Cover_ev (G : List Nat) (hG : Gr 9 G) (l : List Int) : Ev (fun k => width_Cover.f k (gi G) l) (if bram G l = true then ((covN G l : Int), 0) else (0, 2)) := by
  have hc : chk 9 (gi G) = true := (chk_iff 9 (by omega) _).2 ⟨G, rfl, hG⟩
  have hr := read_ev (gi G) (by rw [gi_length]; have := hG.most; omega)
  rw [hc] at hr
  unfold width_Cover.f
  refine Ev.bind hr (Ev.if_pos rfl (Ev.bind (bramble_ev G hG l) ?_))
  by_cases h : bram G l = true
  · have h2 : l.length ≤ 1000 := by
      unfold bram at h
      by_cases h1 : 1 ≤ l.length ∧ l.length ≤ 200
      · omega
      · rw [if_neg h1] at h; cases h
    rw [if_pos h, if_pos h]
    exact Ev.bind1 (cover_ev G hG.most l h2) (Ev.some rfl)
  · rw [if_neg h, if_neg h]
    exact Ev.some rfl
theorem CheckBramble_bad (g l : List Int) (hl : g.length < 2 ^ 60) (h : chk 9 g = false) : Ev (fun k => width_CheckBramble.f k g l) (0, false, 2) := by
  have hr := read_ev g hl
  rw [h] at hr
  unfold width_CheckBramble.f
  exact Ev.bind hr (Ev.if_neg (by simp) (Ev.some rfl))
theorem Cover_bad (g l : List Int) (hl : g.length < 2 ^ 60) (h : chk 9 g = false) : Ev (fun k => width_Cover.f k g l) (0, 2) := by
  have hr := read_ev g hl
  rw [h] at hr
  unfold width_Cover.f
  exact Ev.bind hr (Ev.if_neg (by simp) (Ev.some rfl))
end Go.Proofs.YtoffehihicabcaaDoor.X
end
section
/- WidthCovers, without Go and memory: CheckBramble and Cover answer as the reference's IsBramble and Cover, or with the documented error. -/
set_option linter.unusedVariables false
namespace Go.Proofs.YtoffehihicabcaaDoor.X
open Go.RowKit Go.Proofs.YtoffehihicabcaaDoorW.PrintWords Go.Proofs.YtoffehihicabcaaDoorW.PrintLast Go.Proofs.YtoffehihicabcaaDoorW.PrintMore Go.Proofs.YtoffehihicabcaaDoor.T

theorem covers_ev (g l : List Int) (hg : g.length < 2 ^ 44) (hl : l.length < 2 ^ 44) : Ev (fun k => lampblacklaw02_WidthCovers.f k g l) true := by
  obtain ⟨h, e, e1, e2, e3⟩ := few_eq g hg
  have el := list_eq l hl
  unfold lampblacklaw02_WidthCovers.f
  refine Ev.bind1 e (Ev.bind1 el ?_)
  by_cases hc : chk 9 g = true
  · obtain ⟨G, rfl, hG⟩ := (chk_iff 9 (by omega) _).1 hc
    have e1' := e1 hc
    subst e1'
    have hv := valid_ev (gi G) (by omega)
    rw [hc] at hv
    obtain ⟨hb1, hb2⟩ := bram_take G l
    refine Ev.bind (CheckBramble_ev G hG _) (Ev.bind1 e (Ev.bind1 el (Ev.bind (Cover_ev G hG _) (Ev.bind hv (Ev.if_pos rfl (Ev.bind (isBramble_ev G hG l (by omega)) ?_))))))
    rw [hb1]
    by_cases hb : bram G l = true
    · rw [hb2 hb, if_pos hb, if_pos hb]
      refine Ev.if_pos hb (Ev.bind (refCover_ev G hG l (by omega)) (Ev.bind (size_ev _ (small G hG.most (covN_lt G l))) ?_))
      exact Ev.if_pos rfl (Ev.if_pos rfl (Ev.if_pos rfl (Ev.if_pos rfl (Ev.if_pos rfl (Ev.bind awake_ev (Ev.some rfl))))))
    · rw [if_neg hb, if_neg hb]
      refine Ev.if_neg hb ?_
      exact Ev.if_pos rfl (Ev.if_neg (by simp) (Ev.if_pos rfl (Ev.if_pos rfl (Ev.if_pos rfl (Ev.bind awake_ev (Ev.some rfl))))))
  · have hc' : chk 9 g = false := by simpa using hc
    have hv := valid_ev g (by omega)
    rw [hc'] at hv
    refine Ev.bind (CheckBramble_bad h _ (by omega) (e2 hc')) (Ev.bind1 e (Ev.bind1 el (Ev.bind (Cover_bad h _ (by omega) (e2 hc')) (Ev.bind hv (Ev.if_neg (by simp) ?_)))))
    exact Ev.if_pos rfl (Ev.if_neg (by simp) (Ev.if_pos rfl (Ev.if_pos rfl (Ev.if_pos rfl (Ev.bind awake_ev (Ev.some rfl))))))
end Go.Proofs.YtoffehihicabcaaDoor.X
namespace Go.Proofs.YtoffehihicabcaaDoor.Pure
open Go.RowKit Go.Proofs.YtoffehihicabcaaDoor.X
theorem WidthCovers : ∀ (l0 l1 : List Int), l0.length ≤ maxLen → l0.length * 8 ≤ 140737488351232 → (∀ x ∈ l0, (Lit.int .i64 x).wf = true) → l1.length ≤ maxLen → l1.length * 8 ≤ 140737488351232 → (∀ x ∈ l1, (Lit.int .i64 x).wf = true) → ∃ k, lampblacklaw02_WidthCovers.f k l0 l1 = some true :=
  fun l m _ h _ _ h' _ => (covers_ev l m (by omega) (by omega)).rounds
end Go.Proofs.YtoffehihicabcaaDoor.Pure
end
