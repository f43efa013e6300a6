/- Part 1 of what SweepSame rests on: contracts of the functions that it reaches, and what they compute, in plain words. -/
import Derived.Test.YtijfddobandcdaaDoorZSweepSame0
import Derived.Deep.RegionHeld3
set_option linter.unusedVariables false
set_option linter.unusedSimpArgs false
section
namespace Go.Proofs.YtijfddobandcdaaDoor.X
open Go.RowKit YtijfddobandcdaaDoorW.PrintWords YtijfddobandcdaaDoorW.PrintLast YtijfddobandcdaaDoorW.PrintMore
attribute [local go_sem] max2_int min2_int max_two min_two max_three min_three max_four min_four
/-! ### lampblackref01_IsGraph: function 48 -/
mutual
def lampblackref01_IsGraph.l0 : Nat → List Int → Int → List Int → Int → Int → Option (Bool)
 | 0, _, _, _, _, _ => none
 | k + 1, x0, x1, x8, x9, x10 => if x10 < x9 then (if 0 ≤ x10 then (if x10 < (x8.length : Int) then (if (x0.length : Int) > x1 then (lampblackref01_IsGraph.j1 k x0 x1 x10 (rd x8 x10) x8 x9 x10 true) else (if (rd x8 x10) < 0 then (lampblackref01_IsGraph.j1 k x0 x1 x10 (rd x8 x10) x8 x9 x10 true) else (if (rd x8 x10) ≥ (shl .i64 1 (x0.length : Int)) then (lampblackref01_IsGraph.j1 k x0 x1 x10 (rd x8 x10) x8 x9 x10 true) else (lampblackref01_IsGraph.j1 k x0 x1 x10 (rd x8 x10) x8 x9 x10 ((Go.bits .and .i64 (shr .i64 (rd x8 x10) x10) 1) == 1))))) else (none)) else (none)) else (if (x0.length : Int) ≥ 1 then (some (decide ((x0.length : Int) ≤ x1))) else (some false))
def lampblackref01_IsGraph.j1 : Nat → List Int → Int → Int → Int → List Int → Int → Int → Bool → Option (Bool)
 | 0, _, _, _, _, _, _, _, _ => none
 | k + 1, x0, x1, x5, x6, x8, x9, x10, x36 => if x36 = true then (some false) else (lampblackref01_IsGraph.l1 k x0 x1 x5 x6 x8 x9 x10 (x0.length : Int) 0)
def lampblackref01_IsGraph.l1 : Nat → List Int → Int → Int → Int → List Int → Int → Int → Int → Int → Option (Bool)
 | 0, _, _, _, _, _, _, _, _, _ => none
 | k + 1, x0, x1, x5, x6, x8, x9, x10, x38, x39 => if x39 < x38 then (if 0 ≤ x39 then (if x39 < (x0.length : Int) then (if 0 ≤ x5 then (if (Go.bits .and .i64 (shr .i64 x6 x39) 1) = (Go.bits .and .i64 (shr .i64 (rd x0 x39) x5) 1) then (lampblackref01_IsGraph.l1 k x0 x1 x5 x6 x8 x9 x10 x38 (wrap64 (x39 + 1))) else (some false)) else (none)) else (none)) else (none)) else (lampblackref01_IsGraph.l0 k x0 x1 x8 x9 (wrap64 (x10 + 1)))
end
end Go.Proofs.YtijfddobandcdaaDoor.X
end
section
/- border, count, layout: what they compute, in plain words; Layout, Least, awake, Few. -/
namespace Go.Proofs.YtijfddobandcdaaDoor.X
open Go.RowKit YtijfddobandcdaaDoorW.PrintWords YtijfddobandcdaaDoorW.PrintLast YtijfddobandcdaaDoorW.PrintMore YtijfddobandcdaaDoor.T
theorem mx_nat (a b : Nat) : mx (a : Int) (b : Int) = ((max a b : Nat) : Int) := by unfold mx; split <;> omega
theorem mn_nat (a b : Nat) : mn (a : Int) (b : Int) = ((min a b : Nat) : Int) := by unfold mn; split <;> omega
theorem small (G : List Nat) (h : G.length ≤ 9) {x : Nat} (hx : x < 2 ^ G.length) : x < 512 := Nat.lt_of_lt_of_le hx (show 2 ^ G.length ≤ 2 ^ 9 from Nat.pow_le_pow_right (by omega) h)
theorem big {x : Nat} (h : x < 512) : x < 2 ^ 62 := by omega
theorem ctz_all : ∀ z : Fin 512, 0 < z.val → Lib.ctz 64 z.val < 9 ∧ z.val.testBit (Lib.ctz 64 z.val) = true ∧ rest z.val = diff z.val (2 ^ Lib.ctz 64 z.val) ∧ ∀ j : Fin 9, z.val.testBit j.val = true → Lib.ctz 64 z.val ≤ j.val := by decide +kernel
theorem ctz_bit {z : Nat} (hz : z < 512) (h0 : z ≠ 0) : bset z (Lib.ctz 64 z) := (ctz_all ⟨z, hz⟩ (by show 0 < z; omega)).2.1
theorem ctz_low {z : Nat} (hz : z < 512) (h0 : z ≠ 0) {j : Nat} (hj : bset z j) : Lib.ctz 64 z ≤ j := (ctz_all ⟨z, hz⟩ (by show 0 < z; omega)).2.2.2 ⟨j, bit_lt (n := 9) (by omega) hj⟩ hj
theorem rest_diff {z : Nat} (hz : z < 512) (h0 : z ≠ 0) : rest z = diff z (2 ^ Lib.ctz 64 z) := (ctz_all ⟨z, hz⟩ (by show 0 < z; omega)).2.2.1
theorem rest_bset {z : Nat} (hz : z < 512) (h0 : z ≠ 0) (j : Nat) : bset (rest z) j ↔ bset z j ∧ j ≠ Lib.ctz 64 z := by
 rw [rest_diff hz h0, diff_bset, two_pow_bit]
theorem rest_pc {z : Nat} (hz : z < 512) (h0 : z ≠ 0) : pc (rest z) 9 < pc z 9 := by
 have h1 := ctz_bit hz h0
 refine pc_lt (Lib.ctz 64 z) 9 (fun j _ h => ((rest_bset hz h0 j).1 h).1) (bit_lt (n := 9) (by omega) h1) ?_ h1
 have := rest_bset hz h0 (Lib.ctz 64 z)
 cases h : (rest z).testBit (Lib.ctz 64 z)
 ·rfl
 ·exact ((this.1 h).2 rfl).elim
theorem diff_ne {a b : Nat} : diff a b ≠ 0 ↔ ∃ u, bset a u ∧ ¬ bset b u := by
 constructor
 ·intro h
  obtain ⟨i, hi⟩ := Nat.exists_testBit_of_ne_zero h
  exact ⟨i, (diff_bset a b i).1 hi⟩
 ·rintro ⟨u, hu⟩ h
  have := (diff_bset a b u).2 hu
  rw [h] at this
  unfold bset at this
  simp at this
theorem count_all : ∀ x : Fin 512, sweep_count.f (x.val : Int) = some (pc x.val 9 : Int) := by decide +kernel
theorem count_eq (x : Nat) (hx : x < 512) : sweep_count.f (x : Int) = some (pc x 9 : Int) := count_all ⟨x, hx⟩
theorem rest_lt' {s n : Nat} (hs5 : s < 512) (h0 : s ≠ 0) (hs : s < 2 ^ n) : rest s < 2 ^ n := lt_of_bits fun j hj => bit_lt hs ((rest_bset hs5 h0 j).1 hj).1
theorem bordTo_eq (G : List Nat) (hG : Gr 7 G) (S : Nat) (hS : S < 2 ^ G.length) : ∀ (k s o : Nat), pc s 9 < k → s < 2 ^ G.length → o < 2 ^ G.length → (∀ j, bset s j → bset S j) →
  ∃ r : Nat, bordTo (gi G) S k s (o : Int) = some (r : Int) ∧ r < 2 ^ G.length ∧ ∀ j, bset r j ↔ bset o j ∨ (bset s j ∧ ∃ u, Adj G j u ∧ ¬ bset S u) := by
 have hn := hG.most
 intro k
 induction k with
 | zero => intro s o h; omega
 | succ k ih =>
  intro s o hk hs ho hsS
  have hs5 := small G (by omega) hs
  by_cases h0 : s = 0
  ·subst h0
   refine ⟨o, by rw [bordTo, if_pos rfl], ho, fun j => ⟨.inl, fun h => h.elim id (fun h => ?_)⟩⟩
   have := h.1
   unfold bset at this
   simp at this
  ·have hb := ctz_bit hs5 h0
   have hp := rest_pc hs5 h0
   have hr := rest_bset hs5 h0
   have hrl := rest_lt' hs5 h0 hs
   rw [bordTo, if_neg h0]
   generalize Lib.ctz 64 s = v at *
   have hv : v < G.length := bit_lt hs hb
   have hpv : 2 ^ v < 2 ^ G.length := Nat.pow_lt_pow_right (by omega) hv
   have hrow := hG.row v
   rw [if_pos (by rw [gi_length]; omega), rd_gi, b_andNot _ _ (big (small G (by omega) hrow)) (big (small G (by omega) hS)), s_one v (by omega), b_or _ _ (big (small G (by omega) ho)) (big (small G (by omega) hpv))]
   by_cases hd : diff (G.getD v 0) S = 0
   ·rw [hd, if_neg (by decide)]
    obtain ⟨r, h1, h2, h3⟩ := ih (rest s) o (by omega) hrl ho (fun j hj => hsS j ((hr j).1 hj).1)
    refine ⟨r, h1, h2, fun j => ?_⟩
    rw [h3, hr]
    constructor
    ·rintro (h | ⟨h, h'⟩)
     ·exact .inl h
     ·exact .inr ⟨h.1, h'⟩
    ·rintro (h | ⟨h, u, hu, hu'⟩)
     ·exact .inl h
     ·refine .inr ⟨⟨h, fun e => ?_⟩, u, hu, hu'⟩
      subst e
      exact (diff_ne.2 ⟨u, hu, hu'⟩ hd).elim
   ·have hd' : ((diff (G.getD v 0) S : Nat) : Int) ≠ 0 := by omega
    rw [if_pos (by simpa using hd)]
    obtain ⟨r, h1, h2, h3⟩ := ih (rest s) (o ||| 2 ^ v) (by omega) hrl (or_lt ho hpv) (fun j hj => hsS j ((hr j).1 hj).1)
    refine ⟨r, h1, h2, fun j => ?_⟩
    rw [h3, hr, or_bset, two_pow_bit]
    obtain ⟨u, hu, hu'⟩ := diff_ne.1 hd
    constructor
    ·rintro ((h | h) | ⟨h, h'⟩)
     ·exact .inl h
     ·subst h; exact .inr ⟨hb, u, hu, hu'⟩
     ·exact .inr ⟨h.1, h'⟩
    ·rintro (h | ⟨h, h'⟩)
     ·exact .inl (.inl h)
     ·by_cases e : j = v
      ·exact .inl (.inr e)
      ·exact .inr ⟨⟨h, e⟩, h'⟩
theorem border_eq (G : List Nat) (hG : Gr 7 G) (S : Nat) (hS : S < 2 ^ G.length) : sweep_town_border.f (gi G) (S : Int) = some ((bor G S : Nat) : Int) := by
 have hn := hG.most
 have hS5 := small G (by omega) hS
 unfold sweep_town_border.f
 rw [if_pos (by omega), if_pos (by have := big hS5; omega), Int.toNat_natCast]
 obtain ⟨r, h1, h2, h3⟩ := bordTo_eq G hG S hS 64 S 0 (by have := pc_le S 9; omega) hS (Nat.two_pow_pos _) (fun _ h => h)
 have e : r = bor G S := eq_of_bits fun j => by
  have a := h3 j
  have b := bor_bit hG S j
  unfold bset at *
  rw [a, b]
  simp
 subst e
 exact h1
noncomputable def bc (G : List Nat) (S : Nat) : Nat := pc (bor G S) 9
theorem cost_eq (G : List Nat) (hG : Gr 7 G) (S : Nat) (hS : S < 2 ^ G.length) : cost (gi G) (S : Int) = some ((bc G S : Nat) : Int) := by
 unfold cost bc
 rw [border_eq G hG S hS, Option.bind_some]
 exact count_eq _ (small G (by have := hG.most; omega) (bor_lt G S))
def PV (G : List Nat) (S x : Nat) : Prop := ∀ q, x ≤ q ↔ Lay G q S
theorem getD_set (W : List Nat) (i j x : Nat) (hi : i < W.length) : (W.set i x).getD j 0 = if j = i then x else W.getD j 0 := by
 simp only [List.getD_eq_getElem?_getD, List.getElem?_set]
 by_cases h : i = j
 ·subst h; simp [hi]
 ·rw [if_neg h, if_neg (fun e => h e.symm)]
theorem bestIn_eq (G : List Nat) (hG : Gr 7 G) (S : Nat) (hS : S < 2 ^ G.length) : ∀ (k s : Nat) (W : List Nat), pc s 9 < k → s < 2 ^ G.length → (∀ j, bset s j → ¬ bset S j) → W.length = 2 ^ G.length →
  ∃ x, bestIn (gi G) S k s (gi W) = some (gi (W.set S x)) ∧ ∀ q, x ≤ q ↔ W.getD S 0 ≤ q ∨ ∃ v, bset s v ∧ W.getD (S ||| 2 ^ v) 0 ≤ q ∧ bc G (S ||| 2 ^ v) ≤ q := by
 have hn := hG.most
 intro k
 induction k with
 | zero => intro s W h; omega
 | succ k ih =>
  intro s W hk hs hsS hW
  have hs5 := small G (by omega) hs
  by_cases h0 : s = 0
  ·subst h0
   refine ⟨W.getD S 0, ?_, fun q => ⟨.inl, fun h => h.elim id (fun ⟨v, h, _⟩ => by unfold bset at h; simp at h)⟩⟩
   rw [bestIn, if_pos rfl]
   congr 2
   apply List.ext_getElem?
   intro i
   rw [List.getElem?_set]
   by_cases e : S = i
   ·subst e
    rw [if_pos rfl, if_pos (by omega), List.getD_eq_getElem?_getD, List.getElem?_eq_getElem (by omega)]
    rfl
   ·rw [if_neg e]
  ·have hb := ctz_bit hs5 h0
   have hp := rest_pc hs5 h0
   have hr := rest_bset hs5 h0
   have hrl := rest_lt' hs5 h0 hs
   rw [bestIn, if_neg h0]
   unfold nxt
   generalize Lib.ctz 64 s = v at *
   have hv : v < G.length := bit_lt hs hb
   have hX := or_new hS hv
   have hgt := or_gt (hsS v hb)
   have hSW : S < W.length := by rw [hW]; exact hS
   have hXW : S ||| 2 ^ v < W.length := by rw [hW]; exact hX
   rw [if_pos (by rw [gi_length]; exact ⟨hSW, hXW⟩), cost_eq G hG _ hX, Option.bind_some, rd_gi, rd_gi, mx_nat, mn_nat, gi_set]
   obtain ⟨x, h1, h2⟩ := ih (rest s) (W.set S (min (W.getD S 0) (max (W.getD (S ||| 2 ^ v) 0) (bc G (S ||| 2 ^ v))))) (Nat.lt_of_lt_of_le hp (Nat.le_of_lt_succ hk)) hrl (fun j hj => hsS j ((hr j).1 hj).1) (by rw [List.length_set]; exact hW)
   refine ⟨x, by rw [h1, List.set_set], fun q => ?_⟩
   rw [h2, getD_set _ _ _ _ hSW, if_pos rfl]
   have hoth : ∀ u, bset (rest s) u → (W.set S (min (W.getD S 0) (max (W.getD (S ||| 2 ^ v) 0) (bc G (S ||| 2 ^ v))))).getD (S ||| 2 ^ u) 0 = W.getD (S ||| 2 ^ u) 0 := fun u hu => by
    have := or_gt (hsS u ((hr u).1 hu).1)
    rw [getD_set _ _ _ _ hSW, if_neg (Nat.ne_of_gt this)]
   clear hX hgt hSW hXW hs hrl hW hs5 hv hp hk ih h1 h2 h0
   constructor
   ·rintro (h | ⟨u, hu, h3, h4⟩)
    ·rcases Nat.le_total (W.getD S 0) (max (W.getD (S ||| 2 ^ v) 0) (bc G (S ||| 2 ^ v))) with h5 | h5
     ·rw [Nat.min_eq_left h5] at h
      exact .inl h
     ·rw [Nat.min_eq_right h5] at h
      exact .inr ⟨v, hb, Nat.le_trans (Nat.le_max_left _ _) h, Nat.le_trans (Nat.le_max_right _ _) h⟩
    ·rw [hoth u hu] at h3
     exact .inr ⟨u, ((hr u).1 hu).1, h3, h4⟩
   ·rintro (h | ⟨u, hu, h3, h4⟩)
    ·exact .inl (Nat.le_trans (Nat.min_le_left _ _) h)
    ·by_cases e : u = v
     ·subst e; exact .inl (Nat.le_trans (Nat.min_le_right _ _) (Nat.max_le.2 ⟨h3, h4⟩))
     ·have hu' := (hr u).2 ⟨hu, e⟩
      exact .inr ⟨u, hu', by rw [hoth u hu']; exact h3, h4⟩
theorem bestTo_eq (G : List Nat) (hG : Gr 7 G) : ∀ (d : Nat) (W : List Nat), d < 2 ^ G.length → W.length = 2 ^ G.length → (∀ T, d ≤ T → T < 2 ^ G.length → PV G T (W.getD T 0)) →
  ∃ W2 : List Nat, bestTo (gi G) d (gi W) = some (gi W2) ∧ W2.length = 2 ^ G.length ∧ ∀ T, T < 2 ^ G.length → PV G T (W2.getD T 0) := by
 have hn := hG.most
 intro d
 induction d with
 | zero => intro W _ hW h; exact ⟨W, rfl, hW, fun T hT => h T (by omega) hT⟩
 | succ d ih =>
  intro W hd hW h
  have hd' : d < 2 ^ G.length := by omega
  have hS5 := small G (by omega) hd'
  have h2 := Nat.two_pow_pos G.length
  have hc : ∀ j, bset (diff (2 ^ G.length - 1) d) j ↔ j < G.length ∧ ¬ bset d j := fun j => by rw [diff_bset, full_bit]
  rw [bestTo]
  simp only [gi_length]
  have e1 : (gi W).set d (G.length : Int) = gi (W.set d G.length) := gi_set W d G.length
  rw [e1]
  obtain ⟨x, h3, h4⟩ := bestIn_eq G hG d hd' 64 (diff (2 ^ G.length - 1) d) (W.set d G.length) (by have := pc_le (diff (2 ^ G.length - 1) d) 9; omega) (Nat.lt_of_le_of_lt (diff_le _ _) (by omega)) (fun j hj => ((hc j).1 hj).2) (by rw [List.length_set]; exact hW)
  rw [h3, Option.bind_some, List.set_set]
  refine ih _ hd' (by rw [List.length_set]; exact hW) fun T h5 h6 => ?_
  rw [getD_set _ _ _ _ (by omega)]
  by_cases e : T = d
  ·subst e
   rw [if_pos rfl]
   intro q
   rw [h4, getD_set _ _ _ _ (by omega), if_pos rfl]
   have hoth : ∀ v, v < G.length → ¬ bset T v → (W.set T G.length).getD (T ||| 2 ^ v) 0 = W.getD (T ||| 2 ^ v) 0 ∧ PV G (T ||| 2 ^ v) (W.getD (T ||| 2 ^ v) 0) := fun v hv hb => by
    have h7 := or_gt hb
    have h8 := or_new hd' hv
    rw [getD_set _ _ _ _ (by omega), if_neg (by omega)]
    exact ⟨rfl, h _ (by omega) h8⟩
   constructor
   ·rintro (h7 | ⟨v, hv, h7, h8⟩)
    ·exact lay_big (.inr h7) (by omega) _ _ rfl hd'
    ·obtain ⟨h9, h10⟩ := (hc v).1 hv
     obtain ⟨h11, h12⟩ := hoth v h9 h10
     rw [h11] at h7
     exact .step h9 h10 h8 ((h12 q).1 h7)
   ·intro h7
    cases h7 with
    | done => omega
    | step h9 h10 h8 h13 =>
     obtain ⟨h11, h12⟩ := hoth _ h9 h10
     exact .inr ⟨_, (hc _).2 ⟨h9, h10⟩, by rw [h11]; exact (h12 q).2 h13, h8⟩
  ·rw [if_neg e]
   exact h T (by omega) h6
def Can (G : List Nat) (m S v : Nat) : Prop := Lay G m (S ||| 2 ^ v) ∧ bc G (S ||| 2 ^ v) ≤ m
inductive Greedy (G : List Nat) (m : Nat) : Nat → List Nat → Prop
 | nil : Greedy G m (2 ^ G.length - 1) []
 | cons {S v : Nat} {L : List Nat} : v < G.length → ¬ bset S v → Can G m S v → (∀ u, u < v → ¬ bset S u → ¬ Can G m S u) → Greedy G m (S ||| 2 ^ v) L → Greedy G m S (v :: L)
theorem goOn_eq (G : List Nat) (hG : Gr 7 G) (W : List Nat) (m : Nat) (hW : W.length = 2 ^ G.length) (hP : ∀ T, T < 2 ^ G.length → PV G T (W.getD T 0)) (hm : W.getD 0 0 = m) (S : Nat) (hS : S < 2 ^ G.length) :
  ∀ (k s : Nat), pc s 9 < k → s < 2 ^ G.length → (∀ j, bset s j → ¬ bset S j) → (∃ v, bset s v ∧ Can G m S v) →
   ∃ v : Nat, goOn (gi G) (gi W) S k s = some (some ((v : Int), S ||| 2 ^ v)) ∧ bset s v ∧ Can G m S v ∧ ∀ u, u < v → bset s u → ¬ Can G m S u := by
 have hn := hG.most
 intro k
 induction k with
 | zero => intro s h; omega
 | succ k ih =>
  intro s hk hs hsS hex
  have hs5 := small G (by omega) hs
  have h0 : s ≠ 0 := fun e => by obtain ⟨v, h, _⟩ := hex; subst e; unfold bset at h; simp at h
  have hb := ctz_bit hs5 h0
  have hlow : ∀ j, bset s j → Lib.ctz 64 s ≤ j := fun j hj => ctz_low hs5 h0 hj
  have hp := rest_pc hs5 h0
  have hr := rest_bset hs5 h0
  have hrl := rest_lt' hs5 h0 hs
  rw [goOn, if_neg h0]
  unfold nxt
  generalize Lib.ctz 64 s = v at *
  have hv : v < G.length := bit_lt hs hb
  have hX := or_new hS hv
  have hXW : S ||| 2 ^ v < W.length := by rw [hW]; exact hX
  have hp' := Nat.lt_of_lt_of_le hp (Nat.le_of_lt_succ hk)
  rw [if_pos (by rw [gi_length]; exact hXW), cost_eq G hG _ hX, Option.bind_some, rd_gi, show rd (gi W) 0 = ((W.getD 0 0 : Nat) : Int) from rd_gi W 0, mx_nat, hm]
  have hPX := hP _ hX
  clear hX hs hW hs5 hv hp hk h0 hS hXW
  by_cases hc : max (W.getD (S ||| 2 ^ v) 0) (bc G (S ||| 2 ^ v)) ≤ m
  ·rw [if_pos (by omega)]
   exact ⟨v, rfl, hb, ⟨(hPX m).1 (by omega), by omega⟩, fun u hu hsu => by have := hlow u hsu; omega⟩
  ·rw [if_neg (by omega)]
   have hno : ¬ Can G m S v := fun h => hc (by have := (hPX m).2 h.1; have := h.2; omega)
   obtain ⟨u, h1, h2, h3, h4⟩ := ih (rest s) hp' hrl (fun j hj => hsS j ((hr j).1 hj).1) (by
    obtain ⟨u, hu, hcu⟩ := hex
    exact ⟨u, (hr u).2 ⟨hu, fun e => hno (e ▸ hcu)⟩, hcu⟩)
   refine ⟨u, h1, ((hr u).1 h2).1, h3, fun x hx hsx => ?_⟩
   by_cases e : x = v
   ·subst e; exact hno
   ·exact h4 x hx ((hr x).2 ⟨hsx, e⟩)
theorem layTo_eq (G : List Nat) (hG : Gr 7 G) (W : List Nat) (m : Nat) (hW : W.length = 2 ^ G.length) (hP : ∀ T, T < 2 ^ G.length → PV G T (W.getD T 0)) (hm : W.getD 0 0 = m) :
  ∀ (k S : Nat) (pre : List Int), pc (diff (2 ^ G.length - 1) S) 9 < k → S < 2 ^ G.length → Lay G m S → ∃ L, layTo (gi G) (gi W) k S pre = some (pre ++ gi L) ∧ Greedy G m S L := by
 have hn := hG.most
 intro k
 induction k with
 | zero => intro S pre h; omega
 | succ k ih =>
  intro S pre hk hS hL
  have h2 := Nat.two_pow_pos G.length
  rw [layTo]
  simp only [gi_length]
  by_cases e : S = 2 ^ G.length - 1
  ·rw [if_pos e, e]
   exact ⟨[], by simp [gi], .nil⟩
  ·rw [if_neg e]
   have hc : ∀ j, bset (diff (2 ^ G.length - 1) S) j ↔ j < G.length ∧ ¬ bset S j := fun j => by rw [diff_bset, full_bit]
   obtain ⟨v, h3, h4, h5, h6⟩ := goOn_eq G hG W m hW hP hm S hS 64 (diff (2 ^ G.length - 1) S) (by have := pc_le (diff (2 ^ G.length - 1) S) 9; omega) (Nat.lt_of_le_of_lt (diff_le _ _) (by omega)) (fun j hj => ((hc j).1 hj).2) (by
    cases hL with
    | done => exact (e rfl).elim
    | step h7 h8 h9 h10 => exact ⟨_, (hc _).2 ⟨h7, h8⟩, h10, h9⟩)
   rw [h3, Option.bind_some]
   obtain ⟨h7, h8⟩ := (hc v).1 h4
   have hX := or_new hS h7
   obtain ⟨L, h9, h10⟩ := ih (S ||| 2 ^ v) (pre ++ [(v : Int)]) (by
    refine Nat.lt_of_lt_of_le (pc_lt v 9 (fun j _ hj => ?_) (by omega) ?_ ((hc v).2 ⟨h7, h8⟩)) (show pc (diff (2 ^ G.length - 1) S) 9 ≤ k by omega)
    ·have a := (diff_bset (2 ^ G.length - 1) (S ||| 2 ^ v) j).1 hj
     exact (diff_bset _ _ _).2 ⟨a.1, fun h => a.2 ((or_bset _ _ _).2 (.inl h))⟩
    ·have a := diff_bset (2 ^ G.length - 1) (S ||| 2 ^ v) v
     cases hh : (diff (2 ^ G.length - 1) (S ||| 2 ^ v)).testBit v
     ·rfl
     ·exact ((a.1 hh).2 ((or_bset _ _ _).2 (.inr ((two_pow_bit v v).2 rfl)))).elim) hX h5.1
   refine ⟨v :: L, ?_, .cons h7 h8 h5 (fun u hu hSu => h6 u hu ((hc u).2 ⟨by omega, hSu⟩)) h10⟩
   show layTo (gi G) (gi W) k (S ||| 2 ^ v) (pre ++ [(v : Int)]) = _
   rw [h9]
   simp [gi]
theorem layout_eq (G : List Nat) (hG : Gr 7 G) : ∃ (L : List Nat) (m : Nat), sweep_town_layout.f (gi G) = some (gi L, (m : Int)) ∧ IsVs G m ∧ Greedy G m 0 L := by
 have hn := hG.most
 have h2 := Nat.two_pow_pos G.length
 have e : List.replicate (2 ^ G.length) (0 : Int) = gi (List.replicate (2 ^ G.length) 0) := by simp [gi]
 obtain ⟨W, h3, h4, h5⟩ := bestTo_eq G hG (2 ^ G.length - 1) (List.replicate (2 ^ G.length) 0) (by omega) (by simp) (fun T hT hT2 q => by
  have e : T = 2 ^ G.length - 1 := by omega
  subst e
  have : (List.replicate (2 ^ G.length) 0).getD (2 ^ G.length - 1) 0 = 0 := by simp [List.getD_eq_getElem?_getD, List.getElem?_replicate]; rw [if_pos (by omega)]; rfl
  rw [this]
  exact ⟨fun _ => .done, fun _ => by omega⟩)
 obtain ⟨L, h6, h7⟩ := layTo_eq G hG W (W.getD 0 0) h4 h5 rfl 11 0 [] (by have := pc_le (diff (2 ^ G.length - 1) 0) 9; omega) h2 ((h5 0 h2 _).1 (Nat.le_refl _))
 refine ⟨L, W.getD 0 0, ?_, h5 0 h2, h7⟩
 unfold sweep_town_layout.f
 simp only [gi_length]
 rw [if_pos ⟨hG.pos, by omega⟩, e, h3, Option.bind_some, h6]
 simp only [List.nil_append, Option.bind_some]
 rw [show rd (gi W) 0 = ((W.getD 0 0 : Nat) : Int) from rd_gi W 0]
theorem Layout_ev (G : List Nat) (hG : Gr 7 G) : ∃ (L : List Nat) (m : Nat), Ev (fun k => sweep_Layout.f k (gi G)) (gi L, (m : Int), 0) ∧ IsVs G m ∧ Greedy G m 0 L := by
 obtain ⟨L, m, h1, h2, h3⟩ := layout_eq G hG
 refine ⟨L, m, ?_, h2, h3⟩
 have hr := read_ev (gi G) (by rw [gi_length]; have := hG.most; omega)
 rw [(chk_iff 7 (by omega) _).2 ⟨G, rfl, hG⟩] at hr
 unfold sweep_Layout.f
 exact Ev.bind hr (Ev.if_pos rfl (Ev.bind1 h1 (Ev.some rfl)))
theorem Layout_bad (g : List Int) (hl : g.length < 2 ^ 60) (h : chk 7 g = false) : Ev (fun k => sweep_Layout.f k g) (([] : List Int), 0, 2) := by
 have hr := read_ev g hl
 rw [h] at hr
 unfold sweep_Layout.f
 exact Ev.bind hr (Ev.if_neg (by simp) (Ev.some rfl))
theorem awake_ev : Ev (fun k => lampblacklaw03_awake.f k) true := by
 exact Ev.of (lampblacklaw03_awake.mono) (k := 40) (by decide +kernel)
theorem few_eq (g : List Int) (hg : g.length < 2 ^ 44) : ∃ h, lampblacklaw03_Few.f g = some h ∧ (chk 7 g = true → h = g) ∧ (chk 7 g = false → chk 7 h = false) ∧ h.length ≤ 11 := by
 have hm : mn (g.length : Int) 11 = ((min g.length 11 : Nat) : Int) := mn_nat g.length 11
 refine ⟨g.take (min g.length 11), ?_, ?_, ?_, ?_⟩
 ·unfold lampblacklaw03_Few.f slices_Clone_Graph.f
  simp only [hm, Int.toNat_natCast]
  rw [if_pos (by omega), if_pos (by omega)]
  simp only [Option.bind_some, List.length_nil, List.nil_append]
  rw [if_pos (by rw [List.length_take]; omega)]
  rfl
 ·intro h
  simp only [chk, Bool.and_eq_true, decide_eq_true_eq] at h
  exact List.take_of_length_le (by omega)
 ·intro h
  by_cases hl : g.length ≤ 11
  ·rw [List.take_of_length_le (by omega)]; exact h
  ·unfold chk
   have : ¬ (List.take (min g.length 11) g).length ≤ 7 := by rw [List.length_take]; omega
   rw [decide_eq_false this, Bool.and_false, Bool.false_and]
 ·rw [List.length_take]; omega
end Go.Proofs.YtijfddobandcdaaDoor.X
end
section
namespace Go.Proofs.YtijfddobandcdaaDoor.X
open Go.RowKit YtijfddobandcdaaDoorW.PrintWords YtijfddobandcdaaDoorW.PrintLast YtijfddobandcdaaDoorW.PrintMore
attribute [local go_sem] max2_int min2_int max_two min_two max_three min_three max_four min_four
/-! ### lampblackref03_Border: function 59 -/
def lampblackref03_Border.l0 : Nat → List Int → Int → Int → Int → Int → Option (Int)
 | 0, _, _, _, _, _ => none
 | k + 1, x0, x1, x5, x8, x9 => if x9 < x8 then (if 0 ≤ x9 then (if (Go.bits .and .i64 (shr .i64 x1 x9) 1) = 1 then (if x9 < (x0.length : Int) then (if (Go.bits .andNot .i64 (rd x0 x9) x1) = 0 then (lampblackref03_Border.l0 k x0 x1 x5 x8 (wrap64 (x9 + 1))) else (lampblackref03_Border.l0 k x0 x1 (Go.bits .or .i64 x5 (shl .i64 1 x9)) x8 (wrap64 (x9 + 1)))) else (none)) else (lampblackref03_Border.l0 k x0 x1 x5 x8 (wrap64 (x9 + 1)))) else (none)) else (some x5)
def lampblackref03_Border.f (k : Nat) (l0 : List Int) (a1 : Int) : Option (Int) := lampblackref03_Border.l0 k l0 a1 0 (l0.length : Int) 0
end Go.Proofs.YtijfddobandcdaaDoor.X
end
section
namespace Go.Proofs.YtijfddobandcdaaDoor.X
open Go.RowKit YtijfddobandcdaaDoorW.PrintWords YtijfddobandcdaaDoorW.PrintLast YtijfddobandcdaaDoorW.PrintMore
attribute [local go_sem] max2_int min2_int max_two min_two max_three min_three max_four min_four
/-! ### lampblackref03_Breadth: function 31 -/
def lampblackref03_Breadth.l0 : Nat → List Int → Int → Int → List Int → Int → Int → Option (Int)
 | 0, _, _, _, _, _, _ => none
 | k + 1, x0, x5, x6, x9, x10, x11 => if x11 < x10 then (if 0 ≤ x11 then (if x11 < (x9.length : Int) then (if 0 ≤ (rd x9 x11) then ((lampblackref03_Border.f k x0 (Go.bits .or .i64 x6 (shl .i64 1 (rd x9 x11)))).bind fun t138 => ((lampblackref02_Size.f k t138).bind fun t139 => (lampblackref03_Breadth.l0 k x0 (mx x5 t139) (Go.bits .or .i64 x6 (shl .i64 1 (rd x9 x11))) x9 x10 (wrap64 (x11 + 1))))) else (none)) else (none)) else (none)) else (some x5)
end Go.Proofs.YtijfddobandcdaaDoor.X
end
section
/- (family).sides and (town).family, by hand. -/
namespace Go.Proofs.YtijfddobandcdaaDoor.X
open Go.RowKit YtijfddobandcdaaDoorW.PrintWords YtijfddobandcdaaDoorW.PrintLast YtijfddobandcdaaDoorW.PrintMore YtijfddobandcdaaDoor.T
attribute [local go_sem] max2_int min2_int max_two min_two max_three min_three max_four min_four
theorem p7 {G : List Nat} (hn : G.length ≤ 7) : 2 ^ G.length ≤ 128 := Nat.pow_le_pow_right (n := 2) (by omega) hn
theorem all_f {G : List Nat} (hG : Gr 7 G) : sweep_town_all.f (gi G) = some ((2 ^ G.length - 1 : Nat) : Int) := by
 have hn := hG.most
 have hp := p7 hn
 have h0 := Nat.two_pow_pos G.length
 unfold sweep_town_all.f
 rw [gi_length, s_one _ (by omega)]
 generalize 2 ^ G.length = P at *
 rw [w64_small _ (by omega) (by omega)]
 congr 1
 omega
theorem own_ne_blk {W : World} {base g : Nat} {e t : TypeId} {size : Nat} {v : Value} {k : Nat} {xs : List Value} {cs : Array Value} (h : W.ownsRow base e size v k xs) (hb : W.heap[g]? = some (.cells cs t (0, 0))) (hne : e ≠ t) : v.ownBlock ≠ some g := by
 rcases h.2 with ⟨rfl, _⟩ | ⟨g2, cap, cur, rfl, _, hg, _⟩
 ·simp [Value.ownBlock]
 ·intro e2
  obtain rfl : g2 = g := by simpa [Value.ownBlock] using e2
  rw [hg] at hb
  injection hb with hb
  injection hb with _ h2
  exact hne h2
structure FamI (w W : World) (gf H : Nat) (A0 : Option Addr) (c0 n k : Nat) (v2 v3 : Value) (bs : List Bool) (Ls : List (List Int)) : Prop where
 blk : W.heap[gf]? = some (.cells #[.slice A0 n c0, .int .i64 (k : Int), v2, v3] 96 (0, 0))
 ge : w.heap.size ≤ gf
 lt : gf < H
 own2 : W.ownsRow w.heap.size 4 1 v2 bs.length (bs.map Value.bool)
 lt2 : ∀ b, v2.ownBlock = some b → b < H
 own3 : ∃ rows, W.ownsRow w.heap.size 22 1 v3 Ls.length rows ∧ Rows w.heap.size W rows Ls ∧ ∀ v ∈ rows, ∀ b, v.ownBlock = some b → b < H
 lt3 : ∀ b, v3.ownBlock = some b → b < H
 below : Below w.heap.size w W
 top : H ≤ W.heap.size
theorem FamI.kept {w W V : World} {gf H : Nat} {A0 : Option Addr} {c0 n k : Nat} {v2 v3 : Value} {bs : List Bool} {Ls : List (List Int)} {row : Option Nat} (h : FamI w W gf H A0 c0 n k v2 v3 bs Ls) (hg : W.grownBy V row) (hr : ∀ r, row = some r → H ≤ r) : FamI w V gf H A0 c0 n k v2 v3 bs Ls := by
 have ne : ∀ b, b < H → some b ≠ row := fun b hb e => by have := hr b e.symm; omega
 have hlt := h.lt
 have hge := h.ge
 obtain ⟨rows, r1, r2, r3⟩ := h.own3
 refine ⟨blk_grown h.blk hg (ne _ hlt), hge, hlt, own_kept h.own2 hg (fun b hb => ne b (h.lt2 b hb)), h.lt2, ⟨rows, own_kept r1 hg (fun b hb => ne b (h.lt3 b hb)), ⟨r2.1, fun i L hL => ?_⟩, r3⟩, h.lt3, h.below.grown hg h.below.size (fun j e => by have := hr j e; omega), Nat.le_trans h.top hg.size⟩
 obtain ⟨v, q1, q2⟩ := r2.2 i L hL
 exact ⟨v, q1, own_kept q2 hg (fun b hb => ne b (r3 v (List.mem_of_getElem? q1) b hb))⟩
theorem FamI.low {w W V : World} {gf H : Nat} {A0 : Option Addr} {c0 n k : Nat} {v2 v3 : Value} {bs : List Bool} {Ls : List (List Int)} (h : FamI w W gf H A0 c0 n k v2 v3 bs Ls) (hb : Below W.heap.size W V) : FamI w V gf H A0 c0 n k v2 v3 bs Ls := h.kept (grown_of_below hb none) (fun r e => by cases e)
theorem FamI.other {w W V : World} {gf H HH : Nat} {A0 : Option Addr} {c0 n k : Nat} {v2 v3 v3' v7 : Value} {bs : List Bool} {Ls : List (List Int)} {rows : List Value} {L : List Int} {o : Obj} (h : FamI w W gf H A0 c0 n k v2 v3 bs Ls) (hHH : w.heap.size ≤ HH) (h7 : W.ownsRow HH 3 1 v7 L.length (L.map (Value.int .i64))) (r1 : W.ownsRow w.heap.size 22 1 v3 Ls.length rows) (r2 : Rows w.heap.size W rows Ls) (r3 : ∀ v ∈ rows, ∀ b, v.ownBlock = some b → b < H)
  (hg : (W.alloc o).grownBy V v3.ownBlock) (hown : V.ownsRow w.heap.size 22 1 v3' (Ls.length + 1) (rows ++ [v7])) :
  FamI w (V.setCell ⟨gf, 3, none⟩ v3') gf V.heap.size A0 c0 n k v2 v3' bs (Ls ++ [L]) := by
 have hge := h.ge
 have hlt := h.lt
 have htop := h.top
 have hgs := hg.size
 simp only [World.size_alloc] at hgs
 have hsz : (V.setCell ⟨gf, 3, none⟩ v3').heap.size = V.heap.size := World.size_setCell _ _ _
 have hb1 : V.heap[gf]? = some (.cells #[.slice A0 n c0, .int .i64 (k : Int), v2, v3] 96 (0, 0)) := blk_grown (blk_alloc h.blk o) hg (fun e => own_ne_blk (r1.alloc o) (blk_alloc h.blk o) (by decide) e.symm)
 have set_kept : ∀ {base : Nat} {e : TypeId} {v : Value} {m : Nat} {xs : List Value}, V.ownsRow base e 1 v m xs → e ≠ 96 → (V.setCell ⟨gf, 3, none⟩ v3').ownsRow base e 1 v m xs := fun ho he =>
  own_kept ho (grownBy_set V _ _) (fun b hb e2 => own_ne_blk ho hb1 he (by rw [hb]; exact e2))
 refine ⟨by simpa using blk_set hb1 3 v3', hge, by omega, ?_, fun b hb => ?_, ⟨rows ++ [v7], ?_, ?_, fun v hv b hb => ?_⟩, fun b hb => own_lt hown b hb, ?_, by omega⟩
 ·exact set_kept (ownsRow_other (h.own2.alloc o) (r1.alloc o) (by decide) hg) (by decide)
 ·have := h.lt2 b hb; omega
 ·rw [List.length_append]
  exact set_kept hown (by decide)
 ·have q1 : Rows w.heap.size (V.setCell ⟨gf, 3, none⟩ v3') rows Ls := r2.imp fun v L hv => set_kept (ownsRow_other (hv.alloc o) (r1.alloc o) (by decide) hg) (by decide)
  refine q1.append ⟨rfl, fun i L2 hL => ?_⟩
  cases i with
  | zero =>
   obtain rfl : L = L2 := by simpa using hL
   exact ⟨v7, rfl, set_kept (ownsRow_other ((ownsRow_mono h7 hHH).alloc o) (r1.alloc o) (by decide) hg) (by decide)⟩
  | succ i => simp at hL
 ·rcases List.mem_append.1 hv with h1 | h1
  ·have := r3 v h1 b hb; omega
  ·rw [List.mem_singleton.1 h1] at hb
   have := own_lt h7 b hb; omega
 ·exact below_set ((below_alloc h.below o).grown hg (by have := h.below.size; simp; omega) (fun j e => by
   rcases (r1.alloc o).2 with ⟨e1, _⟩ | ⟨g2, cap, cur, e1, hb2, _⟩
   ·rw [e1] at e; simp [Value.ownBlock] at e
   ·rw [e1] at e
    obtain rfl : g2 = j := by simpa [Value.ownBlock] using e
    exact hb2)) hge
end Go.Proofs.YtijfddobandcdaaDoor.X
end
section
/- sweep.CheckBlockage, by hand. -/
namespace Go.Proofs.YtijfddobandcdaaDoor.X
open Go.RowKit YtijfddobandcdaaDoorW.PrintWords YtijfddobandcdaaDoorW.PrintLast YtijfddobandcdaaDoorW.PrintMore YtijfddobandcdaaDoor.T
attribute [local go_sem] max2_int min2_int max_two min_two max_three min_three max_four min_four
theorem read_yes {G : List Nat} (hG : Gr 7 G) (A0 : Option Addr) (c0 : Nat) (w : World) (hr0 : Kd.C (Kd.int .i64) w A0 (gi G).length (gi G)) (hc0 : G.length ≤ c0) :
  Calls Tryd.prog 49 #[.slice A0 G.length c0] w fun e w' => ∃ A1 c1, e = .returned (.tuple #[.slice A1 G.length c1, .bool true]) ∧ G.length ≤ c1 ∧ Kd.C (Kd.int .i64) w' A1 (gi G).length (gi G) ∧ Below w.heap.size w w' := by
 obtain ⟨K, hK⟩ := read_ev (gi G) (by rw [gi_length]; have := hG.most; omega)
 have hk := hK K (Nat.le_refl _)
 rw [(chk_iff 7 (by omega) _).2 ⟨G, rfl, hG⟩] at hk
 have hl := gi_length G
 have := sweep_read.calls K (fun k_ => k_ < w.heap.size) A0 c0 (gi G) (gi G) true w (Kd.V_mk (by rw [hl]; exact hc0) (Kd.F_below (Kd.C_F (Kd.heap_int .i64) hr0) (Below.refl _ _))) hk
 rw [hl] at this
 refine this.mono ?_
 rintro e w' ⟨v, rfl, hv, hb⟩
 obtain ⟨A1, c1, rfl⟩ := Kd.V_slice hv
 have h2 := Kd.V_reads' hv
 rw [hl] at *
 exact ⟨A1, c1, rfl, h2.2.1, h2.2.2, hb⟩
theorem read_no {g : List Int} (hl : g.length < 2 ^ 60) (hg : chk 7 g = false) (A0 : Option Addr) (c0 : Nat) (w : World) (hr0 : Kd.C (Kd.int .i64) w A0 g.length g) (hc0 : g.length ≤ c0) :
  Calls Tryd.prog 49 #[.slice A0 g.length c0] w fun e w' => ∃ v, e = .returned (.tuple #[v, .bool false]) ∧ Below w.heap.size w w' := by
 obtain ⟨K, hK⟩ := read_ev g hl
 have hk := hK K (Nat.le_refl _)
 rw [hg] at hk
 refine (sweep_read.calls K (fun k_ => k_ < w.heap.size) A0 c0 g [] false w (Kd.V_mk hc0 (Kd.F_below (Kd.C_F (Kd.heap_int .i64) hr0) (Below.refl _ _))) hk).mono ?_
 rintro e w' ⟨v, rfl, hv, hb⟩
 exact ⟨v, rfl, hb⟩
def HRow (W : World) (g : Nat) (C : List Bool) : Prop := W.heap[g]? = some (.cells (C.map Value.bool).toArray 4 (0, 0))
theorem HRow.lt {W : World} {g : Nat} {C : List Bool} (h : HRow W g C) : g < W.heap.size := (Array.getElem?_eq_some_iff.1 h).1
theorem HRow.cell {W : World} {g : Nat} {C : List Bool} (h : HRow W g C) (i : Nat) (hi : i < C.length) : W.cell? ⟨g, i, none⟩ = some (.bool (C.getD i false)) := by
 unfold World.cell?
 rw [show W.heap[(⟨g, i, none⟩ : Addr).block]? = _ from h]
 simp only [Option.isSome_none, Bool.false_eq_true, if_false]
 simp [List.getElem?_eq_getElem hi]
theorem HRow.frozen {W : World} {g : Nat} {C : List Bool} (h : HRow W g C) (i : Nat) : W.frozen? ⟨g, i, none⟩ = false := by
 unfold World.frozen?
 rw [show W.heap[(⟨g, i, none⟩ : Addr).block]? = _ from h]
 simp
theorem HRow.below {W V : World} {g : Nat} {C : List Bool} (h : HRow W g C) (hb : Below W.heap.size W V) : HRow V g C := (hb.block g h.lt).trans h
theorem HRow.set {W : World} {g : Nat} {C : List Bool} (h : HRow W g C) (i : Nat) (v : Bool) : HRow (W.setCell ⟨g, i, none⟩ (.bool v)) g (C.set i v) := by
 obtain ⟨hlt, hk⟩ := Array.getElem?_eq_some_iff.1 h
 show (W.heap.modify g _)[g]? = _
 rw [Array.getElem?_eq_getElem (by rw [Array.size_modify]; exact hlt), Array.getElem_modify_self, hk]
 simp [List.map_set]
theorem HRow.made (W : World) (n : Nat) : HRow (W.alloc (.cells (madeCells #[Value.bool false] n) 4)) W.heap.size (List.replicate n false) := by
 have := heap_alloc_new W (.cells (madeCells #[Value.bool false] n) 4)
 unfold HRow
 rw [this]
 congr 2
 unfold madeCells
 apply Array.ext
 ·simp
 ·intro i h1 h2
  simp [Nat.mod_one]
end Go.Proofs.YtijfddobandcdaaDoor.X
end
section
namespace Go.Proofs.YtijfddobandcdaaDoor.X
open Go.RowKit YtijfddobandcdaaDoorW.PrintWords YtijfddobandcdaaDoorW.PrintLast YtijfddobandcdaaDoorW.PrintMore
attribute [local go_sem] max2_int min2_int max_two min_two max_three min_three max_four min_four
/-! ### sweep_street_ends: function 78 -/
def sweep_street_ends.f (a0_0 : Int) (a0_1 : Int) : Option (Int) := if 0 ≤ a0_0 then (if 0 ≤ a0_1 then (some (Go.bits .or .i64 (shl .i64 1 a0_0) (shl .i64 1 a0_1))) else (none)) else (none)
set_option maxHeartbeats 8000000 in
set_option maxRecDepth 100000 in
theorem sweep_street_ends.calls (a0_0 : Int) (a0_1 : Int) (r : Int) (w : World) (h : sweep_street_ends.f a0_0 a0_1 = some r) :
  Calls Tryd.prog 78 #[.agg #[.int .i64 a0_0, .int .i64 a0_1]] w fun e w' => e = .returned (.int .i64 r) ∧ Below w.heap.size w w' := by
 have hu117 := Tryd.underlying117
 have HB := Aside0.mk (Below.refl w.heap.size w)
 have H : (if 0 ≤ a0_0 then (if 0 ≤ a0_1 then (some (Go.bits .or .i64 (shl .i64 1 a0_0) (shl .i64 1 a0_1))) else (none)) else (none)) = some r := h
 clear h
 by_cases c2 : 0 ≤ a0_0
 ·rw [if_pos c2] at H
  have c2b0 := eq_true c2
  have c2b1 : decide (0 ≤ a0_0) = true := decide_eq_true c2
  clear c2
  obtain ⟨ji3, hji3⟩ : ∃ j_ : Int, (shl .i64 1 a0_0) = j_ := ⟨_, rfl⟩
  replace H : (if 0 ≤ a0_1 then (some (Go.bits .or .i64 (ji3) (shl .i64 1 a0_1))) else (none)) = some r := by first | (rw [hji3] at H; exact H) | (simp only [hji3] at H ⊢; exact H)
  have hji3_ : (IntKind.i64.wrap (1 * 2 ^ min a0_0.toNat 64)) = ji3 := hji3
  have hji3z : a0_0 ≤ 64 → (IntKind.i64.wrap (1 * 2 ^ a0_0.toNat)) = ji3 := shl_small hji3
  have hji3u : (IntKind.i64.wrap (2 ^ min a0_0.toNat 64)) = ji3 := by have h_ := hji3_; rw [Int.one_mul] at h_; exact h_
  have hji3v : a0_0 ≤ 64 → (IntKind.i64.wrap (2 ^ a0_0.toNat)) = ji3 := fun hle_ => by have h_ := hji3z hle_; rw [Int.one_mul] at h_; exact h_
  have hji3y : (wrap64 (1 * 2 ^ min a0_0.toNat 64)) = ji3 := (i64_w _).symm.trans hji3_
  have hji3x : a0_0 ≤ 64 → (wrap64 (1 * 2 ^ a0_0.toNat)) = ji3 := fun h_ => (i64_w _).symm.trans (hji3z h_)
  by_cases c4 : 0 ≤ a0_1
  ·rw [if_pos c4] at H
   have c4b0 := eq_true c4
   have c4b1 : decide (0 ≤ a0_1) = true := decide_eq_true c4
   clear c4
   obtain ⟨ji5, hji5⟩ : ∃ j_ : Int, (shl .i64 1 a0_1) = j_ := ⟨_, rfl⟩
   replace H : (some (Go.bits .or .i64 (ji3) (ji5))) = some r := by first | (rw [hji5] at H; exact H) | (simp only [hji5] at H ⊢; exact H)
   have hji5_ : (IntKind.i64.wrap (1 * 2 ^ min a0_1.toNat 64)) = ji5 := hji5
   have hji5z : a0_1 ≤ 64 → (IntKind.i64.wrap (1 * 2 ^ a0_1.toNat)) = ji5 := shl_small hji5
   have hji5u : (IntKind.i64.wrap (2 ^ min a0_1.toNat 64)) = ji5 := by have h_ := hji5_; rw [Int.one_mul] at h_; exact h_
   have hji5v : a0_1 ≤ 64 → (IntKind.i64.wrap (2 ^ a0_1.toNat)) = ji5 := fun hle_ => by have h_ := hji5z hle_; rw [Int.one_mul] at h_; exact h_
   have hji5y : (wrap64 (1 * 2 ^ min a0_1.toNat 64)) = ji5 := (i64_w _).symm.trans hji5_
   have hji5x : a0_1 ≤ 64 → (wrap64 (1 * 2 ^ a0_1.toNat)) = ji5 := fun h_ => (i64_w _).symm.trans (hji5z h_)
   obtain rfl := Option.some.inj H
   go_enter Tryd.func78, Tryd.ntmps78
   go_wp2_with (first | ((with_reducible refine gate_dst (N := 1) rfl ?_); refine box_event ?hg (N := 1) ?hd (cs := #[.int .i64 a0_0, .int .i64 a0_1]) (t := 117) ?hr ?_; (case hd => rfl); (case hg => rfl); (case hr => first | (go_simp; done) | (go_simp; rfl)); intro gb392 hg w6 hbox hb; have n0_ := Aside0.mk (below_step (Qaw) hb); have n1_ := Aside0.mk (hbox); have n2_ := Aside0.mk ((by rw [hg]; exact (below_size (Qaw)) : w.heap.size ≤ gb392)); have n3_ := Aside0.mk ((by rw [hg]; exact (below_size (Qaw)) : w.heap.size ≤ gb392)); clear HB; have HB := n0_; have BK392 := n1_; have GW392 := n2_; have GE392 := n3_; clear n0_ n1_ n2_ n3_; clear hb hbox hg; have hcz7_0 : w6.cell? ⟨gb392, 0, none⟩ = some (.int .i64 a0_0) := (blk_cell BK392.out 0).trans rfl; have hcz7_1 : w6.cell? ⟨gb392, 1, none⟩ = some (.int .i64 a0_1) := (blk_cell BK392.out 1).trans rfl; have hfz7_0 := blk_frozen BK392.out 0; have hfz7_1 := blk_frozen BK392.out 1))
   repeat (go_quiet (first | ((with_reducible refine gate_dst (N := 1) rfl ?_); refine box_event ?hg (N := 1) ?hd (cs := #[.int .i64 a0_0, .int .i64 a0_1]) (t := 117) ?hr ?_; (case hd => rfl); (case hg => rfl); (case hr => first | (go_simp; done) | (go_simp; rfl)); intro gb392 hg w6 hbox hb; have n0_ := Aside0.mk (below_step (Qaw) hb); have n1_ := Aside0.mk (hbox); have n2_ := Aside0.mk ((by rw [hg]; exact (below_size (Qaw)) : w.heap.size ≤ gb392)); have n3_ := Aside0.mk ((by rw [hg]; exact (below_size (Qaw)) : w.heap.size ≤ gb392)); clear HB; have HB := n0_; have BK392 := n1_; have GW392 := n2_; have GE392 := n3_; clear n0_ n1_ n2_ n3_; clear hb hbox hg; have hcz7_0 : w6.cell? ⟨gb392, 0, none⟩ = some (.int .i64 a0_0) := (blk_cell BK392.out 0).trans rfl; have hcz7_1 : w6.cell? ⟨gb392, 1, none⟩ = some (.int .i64 a0_1) := (blk_cell BK392.out 1).trans rfl; have hfz7_0 := blk_frozen BK392.out 0; have hfz7_1 := blk_frozen BK392.out 1)); try go_wp2_with (first | ((with_reducible refine gate_dst (N := 1) rfl ?_); refine box_event ?hg (N := 1) ?hd (cs := #[.int .i64 a0_0, .int .i64 a0_1]) (t := 117) ?hr ?_; (case hd => rfl); (case hg => rfl); (case hr => first | (go_simp; done) | (go_simp; rfl)); intro gb392 hg w6 hbox hb; have n0_ := Aside0.mk (below_step (Qaw) hb); have n1_ := Aside0.mk (hbox); have n2_ := Aside0.mk ((by rw [hg]; exact (below_size (Qaw)) : w.heap.size ≤ gb392)); have n3_ := Aside0.mk ((by rw [hg]; exact (below_size (Qaw)) : w.heap.size ≤ gb392)); clear HB; have HB := n0_; have BK392 := n1_; have GW392 := n2_; have GE392 := n3_; clear n0_ n1_ n2_ n3_; clear hb hbox hg; have hcz7_0 : w6.cell? ⟨gb392, 0, none⟩ = some (.int .i64 a0_0) := (blk_cell BK392.out 0).trans rfl; have hcz7_1 : w6.cell? ⟨gb392, 1, none⟩ = some (.int .i64 a0_1) := (blk_cell BK392.out 1).trans rfl; have hfz7_0 := blk_frozen BK392.out 0; have hfz7_1 := blk_frozen BK392.out 1)))
   go_ret
   exact ⟨by first | rfl | (simp [errW_none, errW_some] <;> rfl) | (simp only [← hji3, ← hji5]; first | rfl | (simp [errW_none, errW_some] <;> rfl)) | (simp [*, errW_none, errW_some] <;> rfl), by repeat (first | (with_reducible first | exact HB.out | apply below_alloc | apply pw_below_drewN | apply below_drew1 | refine below_set ?_ GE392.out) | exact HB.out)⟩
  ·rw [if_neg c4] at H
   exact absurd H (by simp)
 ·rw [if_neg c2] at H
  exact absurd H (by simp)
end Go.Proofs.YtijfddobandcdaaDoor.X
end
section
/- (watch).spread, by hand. -/
namespace Go.Proofs.YtijfddobandcdaaDoor.X
open Go.RowKit YtijfddobandcdaaDoorW.PrintWords YtijfddobandcdaaDoorW.PrintLast YtijfddobandcdaaDoorW.PrintMore YtijfddobandcdaaDoor.T
attribute [local go_sem] max2_int min2_int max_two min_two max_three min_three max_four min_four
structure WAt (W : World) (p gc cc : Nat) (A : Option Addr) (cE : Nat) (ad : Addr) (E : List (Nat × Nat)) (s : OS) : Prop where
 blk : W.heap[p]? = some (.cells #[.slice A E.length cE, .slice (some ⟨gc, 0, none⟩) E.length cc, .int .i64 (s.gd : Int), .int .i64 (s.had : Int), .bool s.bk] 102 (0, 0))
 hA : 0 < E.length → A = some ad
 e0 : ∀ i, i < E.length → W.cell? (ad.add (i * 2)) = some (.int .i64 ((E.getD i (0, 0)).1 : Nat))
 e1 : ∀ i, i < E.length → W.cell? ⟨(ad.add (i * 2)).block, (ad.add (i * 2)).off + 1, none⟩ = some (.int .i64 ((E.getD i (0, 0)).2 : Nat))
 clr : HRow W gc s.C
 len : s.C.length = E.length
 n1 : p ≠ gc
 n2 : 0 < E.length → ad.block ≠ p ∧ ad.block ≠ gc
theorem add_block (a : Addr) (n : Nat) : (a.add n).block = a.block := by unfold Addr.add; split <;> rfl
theorem cell_same {W V : World} {a : Addr} (h : V.heap[a.block]? = W.heap[a.block]?) : V.cell? a = W.cell? a := by
 unfold World.cell?
 rw [h]
theorem heap_set_other (W : World) (a : Addr) (v : Value) (b : Nat) (h : b ≠ a.block) : (W.setCell a v).heap[b]? = W.heap[b]? := Below.heap_setCell W a v b h
theorem WAt.lt {W : World} {p gc cc : Nat} {A : Option Addr} {cE : Nat} {ad : Addr} {E : List (Nat × Nat)} {s : OS} (h : WAt W p gc cc A cE ad E s) : p < W.heap.size ∧ gc < W.heap.size := ⟨(Array.getElem?_eq_some_iff.1 h.blk).1, h.clr.lt⟩
theorem WAt.same {W V : World} {p gc cc : Nat} {A : Option Addr} {cE : Nat} {ad : Addr} {E : List (Nat × Nat)} {s : OS} (h : WAt W p gc cc A cE ad E s) (hp : V.heap[p]? = W.heap[p]?) (hc : V.heap[gc]? = W.heap[gc]?) (he : 0 < E.length → V.heap[ad.block]? = W.heap[ad.block]?) : WAt V p gc cc A cE ad E s :=
 ⟨hp.trans h.blk, h.hA, fun i hi => (cell_same (by rw [add_block]; exact he (by omega))).trans (h.e0 i hi), fun i hi => (cell_same (by show V.heap[(ad.add (i * 2)).block]? = W.heap[(ad.add (i * 2)).block]?; rw [add_block]; exact he (by omega))).trans (h.e1 i hi), hc.trans h.clr, h.len, h.n1, h.n2⟩
theorem WAt.adlt {W : World} {p gc cc : Nat} {A : Option Addr} {cE : Nat} {ad : Addr} {E : List (Nat × Nat)} {s : OS} (h : WAt W p gc cc A cE ad E s) (h0 : 0 < E.length) : ad.block < W.heap.size := by
 have := World.block_lt_of_cell? W _ (h.e0 0 h0)
 rwa [add_block] at this
theorem WAt.below {W V : World} {p gc cc : Nat} {A : Option Addr} {cE : Nat} {ad : Addr} {E : List (Nat × Nat)} {s : OS} (h : WAt W p gc cc A cE ad E s) (hb : Below W.heap.size W V) : WAt V p gc cc A cE ad E s :=
 h.same (hb.block p h.lt.1) (hb.block gc h.lt.2) (fun h0 => hb.block _ (h.adlt h0))
theorem WAt.mark {W : World} {p gc cc : Nat} {A : Option Addr} {cE : Nat} {ad : Addr} {E : List (Nat × Nat)} {s : OS} (h : WAt W p gc cc A cE ad E s) (i : Nat) (v : Bool) : WAt (W.setCell ⟨gc, i, none⟩ (.bool v)) p gc cc A cE ad E ⟨s.gd, s.had, s.bk, s.C.set i v⟩ :=
 ⟨(heap_set_other W ⟨gc, i, none⟩ _ p h.n1).trans h.blk, h.hA, fun j hj => (cell_same (by rw [add_block]; exact heap_set_other W ⟨gc, i, none⟩ _ _ (h.n2 (by omega)).2)).trans (h.e0 j hj), fun j hj => (cell_same (by show (W.setCell _ _).heap[(ad.add (j * 2)).block]? = W.heap[(ad.add (j * 2)).block]?; rw [add_block]; exact heap_set_other W ⟨gc, i, none⟩ _ _ (h.n2 (by omega)).2)).trans (h.e1 j hj), h.clr.set i v, by rw [List.length_set]; exact h.len, h.n1, h.n2⟩
theorem WAt.field {W : World} {p gc cc : Nat} {A : Option Addr} {cE : Nat} {ad : Addr} {E : List (Nat × Nat)} {s s2 : OS} {j : Nat} {v : Value} (h : WAt W p gc cc A cE ad E s) (hC : s2.C = s.C)
  (hj : (#[.slice A E.length cE, .slice (some ⟨gc, 0, none⟩) E.length cc, .int .i64 (s.gd : Int), .int .i64 (s.had : Int), .bool s.bk] : Array Value).setIfInBounds j v = #[.slice A E.length cE, .slice (some ⟨gc, 0, none⟩) E.length cc, .int .i64 (s2.gd : Int), .int .i64 (s2.had : Int), .bool s2.bk]) : WAt (W.setCell ⟨p, j, none⟩ v) p gc cc A cE ad E s2 := by
 refine ⟨?_, h.hA, fun i hi => (cell_same (by rw [add_block]; exact heap_set_other W ⟨p, j, none⟩ _ _ (h.n2 (by omega)).1)).trans (h.e0 i hi), fun i hi => (cell_same (by show (W.setCell _ _).heap[(ad.add (i * 2)).block]? = W.heap[(ad.add (i * 2)).block]?; rw [add_block]; exact heap_set_other W ⟨p, j, none⟩ _ _ (h.n2 (by omega)).1)).trans (h.e1 i hi), ?_, by rw [hC]; exact h.len, h.n1, h.n2⟩
 ·rw [← hj]
  have := blk_set h.blk j v
  rw [this]
 ·rw [hC]
  exact (heap_set_other W ⟨p, j, none⟩ _ gc (fun e => h.n1 e.symm)).trans h.clr
theorem two_cells {W : World} {g : Nat} {a : Addr} {r : Option Value} (h : a.block ≠ g) (u v : Value) (hc : W.cell? a = r) : ((W.setCell ⟨g, 0, none⟩ u).setCell ⟨g, 1, none⟩ v).cell? a = r :=
 (cell_same ((heap_set_other _ ⟨g, 1, none⟩ v _ h).trans (heap_set_other _ ⟨g, 0, none⟩ u _ h))).trans hc
def spS (s : OS) : Option Nat → OS
 | none => s
 | some i => ⟨s.gd, s.had, s.bk, s.C.set i false⟩
theorem ends_f (a b : Nat) (ha : a < 7) (hb : b < 7) : sweep_street_ends.f (a : Int) (b : Int) = some ((2 ^ a ||| 2 ^ b : Nat) : Int) := by
 unfold sweep_street_ends.f
 rw [if_pos (by omega), if_pos (by omega), s_one a (by omega), s_one b (by omega), b_or _ _ (Nat.pow_lt_pow_right (by omega) (by omega)) (Nat.pow_lt_pow_right (by omega) (by omega))]
set_option maxHeartbeats 8000000 in
set_option maxRecDepth 100000 in
theorem spread_calls (p gc cc : Nat) (A : Option Addr) (cE : Nat) (ad : Addr) (E : List (Nat × Nat)) (s : OS) (hE : E.length ≤ 896) (hE2 : ∀ i, i < E.length → (E.getD i (0, 0)).1 < 7 ∧ (E.getD i (0, 0)).2 < 7) (hgd : s.gd < 128) (H : Nat) (hHp : H ≤ p) (hHc : H ≤ gc) (R : Option Nat) (hR : spOut E s.gd s.C E.length 0 = R) (w : World) (hH : H ≤ w.heap.size) (hw : WAt w p gc cc A cE ad E s) :
  Calls Tryd.prog 79 #[.pointer (some ⟨p, 0, none⟩)] w fun e w' => e = .returned (.bool R.isSome) ∧ WAt w' p gc cc A cE ad E (spS s R) ∧ Below H w w' := by
 have HW := Aside0.mk hw
 have HR := Aside0.mk hR
 have HE2 := Aside0.mk hE2
 have hp0 : w.cell? ⟨p, 0, none⟩ = some (.slice A E.length cE) := (blk_cell hw.blk 0).trans rfl
 obtain ⟨gd, hgde⟩ : ∃ g, s.gd = g := ⟨_, rfl⟩
 rw [hgde] at hgd
 have HGD := Aside0.mk hgde
 clear hw hR hE2 hgde
 go_enter Tryd.func79, Tryd.ntmps79
 go_wp2
 go_loopg [12] E.length (fun kq v12 w' => ∃ i : Nat, v12 = .int .i64 (i : Int) ∧ i + kq = E.length ∧ Aside0 (spOut E s.gd s.C kq i = R) ∧ Aside0 (Below w.heap.size w w'))
 case atStart => exact ⟨0, rfl, by omega, HR, ⟨Below.refl _ _⟩⟩
 case round =>
  clear HR
  obtain ⟨i, rfl, hi, HS, HB⟩ := hrel
  by_cases hil : i < E.length
  ·have hi1 : ((i : Int) < (E.length : Int)) = True := eq_true (by omega)
   have hi2 : decide ((i : Int) < (E.length : Int)) = true := decide_eq_true (by omega)
   cases gk with
   | zero => omega
   | succ gi =>
   have hs := HS.out
   simp only [spOut] at hs
   have HWr := Aside0.mk (HW.out.below HB.out)
   have hA := HW.out.hA (by omega)
   subst hA
   have hc0 := HWr.out.e0 i hil
   have hc1 := HWr.out.e1 i hil
   obtain ⟨hl4, hl5⟩ := HE2.out i hil
   have HE4 := Aside0.mk (ends_f _ _ hl4 hl5)
   obtain ⟨e4, he4⟩ : ∃ x, endsOf E i = x := ⟨_, rfl⟩
   have HEE4 := Aside0.mk he4
   unfold endsOf at he4
   rw [he4] at HE4
   have he4l : e4 < 128 := by
    rw [← he4]
    exact Nat.or_lt_two_pow (n := 7) (Nat.pow_lt_pow_right (by omega) hl4) (Nat.pow_lt_pow_right (by omega) hl5)
   generalize (E.getD i (0, 0)).1 = a4 at *
   generalize (E.getD i (0, 0)).2 = b4 at *
   obtain ⟨R2, hR2⟩ : ∃ r, spIn E s.gd s.C i E.length 0 = r := ⟨_, rfl⟩
   rw [hR2] at hs
   have HR2 := Aside0.mk hR2
   have HS1 := Aside0.mk hs
   clear HS hs hR2 hl4 hl5 he4
   go_wp2_with (first | ((with_reducible refine gate_dst (N := 4) rfl ?_); refine box_event ?hg (N := 4) ?hd (cs := #[.int .i64 0, .int .i64 0]) (t := 117) ?hr ?_; (case hd => rfl); (case hg => rfl); (case hr => first | (go_simp; done) | (go_simp; rfl)); intro ga hga w7 hbox hb7; have HGA := Aside0.mk (show wr.heap.size ≤ ga by rw [hga]; exact Nat.le_refl _); clear hga; have hz0 : w7.cell? ⟨ga, 0, none⟩ = some (.int .i64 0) := (blk_cell hbox 0).trans rfl; have hz1 : w7.cell? ⟨ga, 1, none⟩ = some (.int .i64 0) := (blk_cell hbox 1).trans rfl; have hf0 := blk_frozen hbox 0; have hf1 := blk_frozen hbox 1; have hp7 : ∀ u v : Value, ((w7.setCell ⟨ga, 0, none⟩ u).setCell ⟨ga, 1, none⟩ v).cell? ⟨p, 0, none⟩ = some (.slice (some ad) E.length cE) := (fun u v => two_cells (by have := HGA.out; have := HWr.out.lt.1; show p ≠ ga; omega) u v ((blk_cell (HWr.out.below hb7).blk 0).trans rfl)); have HBOX := Aside0.mk hbox; have HB7 := Aside0.mk hb7; clear hbox hb7))
   have hc40 : ((w7.setCell ⟨ga, 0, none⟩ (.int .i64 (a4 : Int))).setCell ⟨ga, 1, none⟩ (.int .i64 (b4 : Int))).heap[ga]? = some (.cells #[.int .i64 (a4 : Int), .int .i64 (b4 : Int)] 117 (0, 0)) := blk_set (blk_set HBOX.out 0 _) 1 _
   have HB8 : Aside0 (Below w.heap.size w ((w7.setCell ⟨ga, 0, none⟩ (.int .i64 (a4 : Int))).setCell ⟨ga, 1, none⟩ (.int .i64 (b4 : Int)))) := ⟨below_set (below_set (below_step HB.out HB7.out) (by have := HGA.out; have := HB.out.size; omega)) (by have := HGA.out; have := HB.out.size; omega)⟩
   generalize (w7.setCell ⟨ga, 0, none⟩ (.int .i64 (a4 : Int))).setCell ⟨ga, 1, none⟩ (.int .i64 (b4 : Int)) = w8 at *
   have HC40 := Aside0.mk hc40
   have HGA2 : Aside0 (w.heap.size ≤ ga) := ⟨by have := HGA.out; have := HB.out.size; omega⟩
   clear HBOX HB7 HGA hc0 hc1 hz0 hz1 hf0 hf1 HWr HB hc40 hp7
   have HW8 := Aside0.mk (HW.out.below HB8.out)
   go_loopg [22] E.length (fun kq v22 w' => ∃ k : Nat, v22 = .int .i64 (k : Int) ∧ k + kq = E.length ∧ Aside0 (spIn E s.gd s.C i kq k = R2) ∧ Aside0 (Below w8.heap.size w8 w'))
   case atStart => exact ⟨0, rfl, by omega, HR2, ⟨Below.refl _ _⟩⟩
   case round =>
    clear HR2
    obtain ⟨k, rfl, hk, HS, HB⟩ := hrel
    by_cases hkl : k < E.length
    ·have hk1 : ((k : Int) < (E.length : Int)) = True := eq_true (by omega)
     have hk2 : decide ((k : Int) < (E.length : Int)) = true := decide_eq_true (by omega)
     cases gk with
     | zero => omega
     | succ gk' =>
     have hs := HS.out
     simp only [spIn] at hs
     have HWr := Aside0.mk (HW8.out.below HB.out)
     have hc0 := HWr.out.e0 k hkl
     have hc1 := HWr.out.e1 k hkl
     obtain ⟨hl4, hl5⟩ := HE2.out k hkl
     have HE6 := Aside0.mk (ends_f _ _ hl4 hl5)
     obtain ⟨e6, he6⟩ : ∃ x, endsOf E k = x := ⟨_, rfl⟩
     have HEE6 := Aside0.mk he6
     unfold endsOf at he6
     rw [he6] at HE6
     have he6l : e6 < 128 := by
      rw [← he6]
      exact Nat.or_lt_two_pow (n := 7) (Nat.pow_lt_pow_right (by omega) hl4) (Nat.pow_lt_pow_right (by omega) hl5)
     generalize (E.getD k (0, 0)).1 = a6 at *
     generalize (E.getD k (0, 0)).2 = b6 at *
     have HS2 := Aside0.mk hs
     clear HS hs hl4 hl5 he6
     go_wp2_with (first | ((with_reducible refine gate_dst (N := 6) rfl ?_); refine box_event ?hg (N := 6) ?hd (cs := #[.int .i64 0, .int .i64 0]) (t := 117) ?hr ?_; (case hd => rfl); (case hg => rfl); (case hr => first | (go_simp; done) | (go_simp; rfl)); intro gb hgb w7 hbox hb7; have HGB := Aside0.mk (show wr.heap.size ≤ gb by rw [hgb]; exact Nat.le_refl _); clear hgb; have hz0 : w7.cell? ⟨gb, 0, none⟩ = some (.int .i64 0) := (blk_cell hbox 0).trans rfl; have hz1 : w7.cell? ⟨gb, 1, none⟩ = some (.int .i64 0) := (blk_cell hbox 1).trans rfl; have hf0 := blk_frozen hbox 0; have hf1 := blk_frozen hbox 1; have HBOX := Aside0.mk hbox; have HB7 := Aside0.mk hb7; clear hbox hb7))
     have hc60 : ((w7.setCell ⟨gb, 0, none⟩ (.int .i64 (a6 : Int))).setCell ⟨gb, 1, none⟩ (.int .i64 (b6 : Int))).heap[gb]? = some (.cells #[.int .i64 (a6 : Int), .int .i64 (b6 : Int)] 117 (0, 0)) := blk_set (blk_set HBOX.out 0 _) 1 _
     have HB9 : Aside0 (Below w8.heap.size w8 ((w7.setCell ⟨gb, 0, none⟩ (.int .i64 (a6 : Int))).setCell ⟨gb, 1, none⟩ (.int .i64 (b6 : Int)))) := ⟨below_set (below_set (below_step HB.out HB7.out) (by have := HGB.out; have := HB.out.size; omega)) (by have := HGB.out; have := HB.out.size; omega)⟩
     generalize (w7.setCell ⟨gb, 0, none⟩ (.int .i64 (a6 : Int))).setCell ⟨gb, 1, none⟩ (.int .i64 (b6 : Int)) = w9 at *
     have HW9 := Aside0.mk (HW8.out.below HB9.out)
     have hc41 := blk_below HC40.out HB9.out
     clear HBOX HB7 HGB hc0 hc1 hz0 hz1 hf0 hf1 HWr HB
     have f1 : w9.cell? ⟨p, 1, none⟩ = some (.slice (some ⟨gc, 0, none⟩) E.length cc) := (blk_cell HW9.out.blk 1).trans rfl
     have f2 : w9.cell? ⟨p, 2, none⟩ = some (.int .i64 (s.gd : Int)) := (blk_cell HW9.out.blk 2).trans rfl
     have f3 := HW9.out.clr.cell i (by rw [HW9.out.len]; exact hil)
     have f4 := HW9.out.clr.cell k (by rw [HW9.out.len]; exact hkl)
     have f5 : w9.cell? ⟨ga, 0, none⟩ = some (.int .i64 (a4 : Int)) := (blk_cell hc41 0).trans rfl
     have f6 : w9.cell? ⟨ga, 1, none⟩ = some (.int .i64 (b4 : Int)) := (blk_cell hc41 1).trans rfl
     have f7 : w9.cell? ⟨gb, 0, none⟩ = some (.int .i64 (a6 : Int)) := (blk_cell hc60 0).trans rfl
     have f8 : w9.cell? ⟨gb, 1, none⟩ = some (.int .i64 (b6 : Int)) := (blk_cell hc60 1).trans rfl
     have hs := HS2.out
     unfold comes at hs
     rw [HEE4.out, HEE6.out, HGD.out] at hs
     rw [HGD.out] at f2
     generalize s.C.getD i false = ci at *
     generalize s.C.getD k false = ck at *
     clear hc41 hc60 HS2
     cases ci
     ·have HS3 : Aside0 (spIn E s.gd s.C i gk' (k + 1) = R2) := ⟨by rw [HGD.out]; simpa using hs⟩
      have f1d : w9.drew.cell? ⟨p, 1, none⟩ = _ := f1
      have f3d : w9.drew.cell? ⟨gc, i, none⟩ = _ := f3
      have fbd : Below w8.heap.size w8 w9.drew := below_drew HB9.out
      clear f1 f2 f3 f4 f5 f6 f7 f8 hs
      go_wp2_with (fail)
      refine start_ (n := 30) (S := fun w' => w'.cell? ⟨p, 1, none⟩ = some (.slice (some ⟨gc, 0, none⟩) E.length cc) ∧ w'.cell? ⟨gc, i, none⟩ = some (.bool false) ∧ Below w8.heap.size w8 w') (ds := []) (Qbz 30 0) (by kernel_rfl) rfl rfl ⟨f1d, f3d, fbd⟩ (fun hHeld => ?_)
      refine pure_ (i := 0) (N := some 27) (v := ?_) (a' := ?_) (Qbz 30 1) rfl rfl (by kernel_rfl) (fun _ _ _ h => h) (Or.inl ⟨by rfl, ?_⟩) ?_ ?_
      rotate_left
      ·intro w'
       go_simp
       with_reducible rfl
      rotate_left
      ·simp only [Act.put, Qp1, Qp2, Qp3, i64_w, i32_w]
       rfl
      refine pure_ (i := 1) (N := some 28) (v := ?_) (a' := ?_) (Qbz 30 3) rfl rfl (by kernel_rfl) (fun _ _ _ h => h) (Or.inl ⟨by rfl, ?_⟩) ?_ ?_
      rotate_left
      ·intro w'
       go_simp
       with_reducible rfl
      rotate_left
      ·simp only [Act.put, Qp1, Qp2, Qp3, i64_w, i32_w]
       rfl
      refine pure_ (i := 2) (N := some 29) (v := ?_) (a' := ?_) (Qbz 30 7) rfl rfl (by kernel_rfl) (fun _ _ _ h => h) (Or.inl ⟨by rfl, ?_⟩) ?_ ?_
      rotate_left
      ·intro w'
       go_simp
       with_reducible rfl
      rotate_left
      ·simp only [Act.put, Qp1, Qp2, Qp3, i64_w, i32_w]
       rfl
      refine pure_ (i := 4) (N := some 31) (v := ?_) (a' := ?_) (Qbz 30 23) rfl rfl (by kernel_rfl) (fun _ _ _ h => h) (Or.inl ⟨by rfl, ?_⟩) ?_ ?_
      rotate_left
      ·intro w'
       go_simp
       with_reducible rfl
      rotate_left
      ·simp only [Act.put, Qp1, Qp2, Qp3, i64_w, i32_w]
       rfl
      refine take_ (i := 3) (N := some 30) (v := ?_) (a' := ?_) (Qbz 30 31) rfl rfl (by kernel_rfl) (fun _ _ _ h => h) (Or.inl ⟨by rfl, ?_⟩) hHeld ?_ ?_
      rotate_left
      ·rintro w' ⟨s0, s1, s2⟩
       go_simp
       with_reducible rfl
      rotate_left
      ·simp only [Act.put, Qp1, Qp2, Qp3, i64_w, i32_w]
       rfl
      refine pure_ (i := 5) (N := some 32) (v := ?_) (a' := ?_) (Qbz 30 63) rfl rfl (by kernel_rfl) (fun _ _ _ h => h) (Or.inl ⟨by rfl, ?_⟩) ?_ ?_
      rotate_left
      ·intro w'
       go_simp
       with_reducible rfl
      rotate_left
      ·simp only [Act.put, Qp1, Qp2, Qp3, i64_w, i32_w]
       rfl
      refine take_ (i := 6) (N := some 33) (v := ?_) (a' := ?_) (Qbz 30 127) rfl rfl (by kernel_rfl) (fun _ _ _ h => h) (Or.inl ⟨by rfl, ?_⟩) hHeld ?_ ?_
      rotate_left
      ·rintro w' ⟨s0, s1, s2⟩
       go_simp
       with_reducible rfl
      rotate_left
      ·simp only [Act.put, Qp1, Qp2, Qp3, i64_w, i32_w]
       rfl
      refine pure_ (i := 7) (N := some 34) (v := ?_) (a' := ?_) (Qbz 30 255) rfl rfl (by kernel_rfl) (fun _ _ _ h => h) (Or.inl ⟨by rfl, ?_⟩) ?_ ?_
      rotate_left
      ·intro w'
       go_simp
       with_reducible rfl
      rotate_left
      ·simp only [Act.put, Qp1, Qp2, Qp3, i64_w, i32_w]
       rfl
      refine pure_ (i := 8) (N := some 35) (v := undef) (a' := ?_) (Qbz 30 511) rfl rfl (by kernel_rfl) (fun _ _ _ h => h) (Or.inr ⟨by rfl, rfl⟩) ?_ ?_
      rotate_left
      ·simp only [Act.put, Qp1, Qp2, Qp3, i64_w, i32_w]
       rfl
      refine pure_ (i := 9) (N := some 36) (v := undef) (a' := ?_) (Qbz 30 1023) rfl rfl (by kernel_rfl) (fun _ _ _ h => h) (Or.inr ⟨by rfl, rfl⟩) ?_ ?_
      rotate_left
      ·simp only [Act.put, Qp1, Qp2, Qp3, i64_w, i32_w]
       rfl
      refine pure_ (i := 10) (N := some 37) (v := undef) (a' := ?_) (Qbz 30 2047) rfl rfl (by kernel_rfl) (fun _ _ _ h => h) (Or.inr ⟨by rfl, rfl⟩) ?_ ?_
      rotate_left
      ·simp only [Act.put, Qp1, Qp2, Qp3, i64_w, i32_w]
       rfl
      refine pure_ (i := 11) (N := some 38) (v := undef) (a' := ?_) (Qbz 30 4095) rfl rfl (by kernel_rfl) (fun _ _ _ h => h) (Or.inr ⟨by rfl, rfl⟩) ?_ ?_
      rotate_left
      ·simp only [Act.put, Qp1, Qp2, Qp3, i64_w, i32_w]
       rfl
      refine pure_ (i := 12) (N := some 39) (v := undef) (a' := ?_) (Qbz 30 8191) rfl rfl (by kernel_rfl) (fun _ _ _ h => h) (Or.inr ⟨by rfl, rfl⟩) ?_ ?_
      rotate_left
      ·simp only [Act.put, Qp1, Qp2, Qp3, i64_w, i32_w]
       rfl
      refine pure_ (i := 13) (N := some 40) (v := undef) (a' := ?_) (Qbz 30 16383) rfl rfl (by kernel_rfl) (fun _ _ _ h => h) (Or.inr ⟨by rfl, rfl⟩) ?_ ?_
      rotate_left
      ·simp only [Act.put, Qp1, Qp2, Qp3, i64_w, i32_w]
       rfl
      refine pure_ (i := 14) (N := some 41) (v := undef) (a' := ?_) (Qbz 30 32767) rfl rfl (by kernel_rfl) (fun _ _ _ h => h) (Or.inr ⟨by rfl, rfl⟩) ?_ ?_
      rotate_left
      ·simp only [Act.put, Qp1, Qp2, Qp3, i64_w, i32_w]
       rfl
      refine pure_ (i := 15) (N := some 42) (v := undef) (a' := ?_) (Qbz 30 65535) rfl rfl (by kernel_rfl) (fun _ _ _ h => h) (Or.inr ⟨by rfl, rfl⟩) ?_ ?_
      rotate_left
      ·simp only [Act.put, Qp1, Qp2, Qp3, i64_w, i32_w]
       rfl
      refine pure_ (i := 16) (N := some 43) (v := ?_) (a' := ?_) (Qbz 30 131071) rfl rfl (by kernel_rfl) (fun _ _ _ h => h) (Or.inl ⟨by rfl, ?_⟩) ?_ ?_
      rotate_left
      ·intro w'
       go_simp
       with_reducible rfl
      rotate_left
      ·simp only [Act.put, Qp1, Qp2, Qp3, i64_w, i32_w]
       rfl
      refine pure_ (i := 17) (N := some 44) (v := ?_) (a' := ?_) (Qbz 30 262143) rfl rfl (by kernel_rfl) (fun _ _ _ h => h) (Or.inl ⟨by rfl, ?_⟩) ?_ ?_
      rotate_left
      ·intro w'
       go_simp
       with_reducible rfl
      rotate_left
      ·simp only [Act.put, Qp1, Qp2, Qp3, i64_w, i32_w]
       rfl
      refine pure_ (i := 18) (N := some 45) (v := undef) (a' := ?_) (Qbz 30 524287) rfl rfl (by kernel_rfl) (fun _ _ _ h => h) (Or.inr ⟨by rfl, rfl⟩) ?_ ?_
      rotate_left
      ·simp only [Act.put, Qp1, Qp2, Qp3, i64_w, i32_w]
       rfl
      refine pure_ (i := 19) (N := some 46) (v := undef) (a' := ?_) (Qbz 30 1048575) rfl rfl (by kernel_rfl) (fun _ _ _ h => h) (Or.inr ⟨by rfl, rfl⟩) ?_ ?_
      rotate_left
      ·simp only [Act.put, Qp1, Qp2, Qp3, i64_w, i32_w]
       rfl
      refine pure_ (i := 20) (N := some 47) (v := undef) (a' := ?_) (Qbz 30 2097151) rfl rfl (by kernel_rfl) (fun _ _ _ h => h) (Or.inr ⟨by rfl, rfl⟩) ?_ ?_
      rotate_left
      ·simp only [Act.put, Qp1, Qp2, Qp3, i64_w, i32_w]
       rfl
      refine pure_ (i := 21) (N := some 48) (v := undef) (a' := ?_) (Qbz 30 4194303) rfl rfl (by kernel_rfl) (fun _ _ _ h => h) (Or.inr ⟨by rfl, rfl⟩) ?_ ?_
      rotate_left
      ·simp only [Act.put, Qp1, Qp2, Qp3, i64_w, i32_w]
       rfl
      refine pure_ (i := 22) (N := some 49) (v := undef) (a' := ?_) (Qbz 30 8388607) rfl rfl (by kernel_rfl) (fun _ _ _ h => h) (Or.inr ⟨by rfl, rfl⟩) ?_ ?_
      rotate_left
      ·simp only [Act.put, Qp1, Qp2, Qp3, i64_w, i32_w]
       rfl
      refine pure_ (i := 23) (N := some 50) (v := undef) (a' := ?_) (Qbz 30 16777215) rfl rfl (by kernel_rfl) (fun _ _ _ h => h) (Or.inr ⟨by rfl, rfl⟩) ?_ ?_
      rotate_left
      ·simp only [Act.put, Qp1, Qp2, Qp3, i64_w, i32_w]
       rfl
      refine pure_ (i := 24) (N := some 51) (v := undef) (a' := ?_) (Qbz 30 33554431) rfl rfl (by kernel_rfl) (fun _ _ _ h => h) (Or.inr ⟨by rfl, rfl⟩) ?_ ?_
      rotate_left
      ·simp only [Act.put, Qp1, Qp2, Qp3, i64_w, i32_w]
       rfl
      refine pure_ (i := 25) (N := some 52) (v := undef) (a' := ?_) (Qbz 30 67108863) rfl rfl (by kernel_rfl) (fun _ _ _ h => h) (Or.inr ⟨by rfl, rfl⟩) ?_ ?_
      rotate_left
      ·simp only [Act.put, Qp1, Qp2, Qp3, i64_w, i32_w]
       rfl
      refine pure_ (i := 26) (N := some 53) (v := undef) (a' := ?_) (Qbz 30 134217727) rfl rfl (by kernel_rfl) (fun _ _ _ h => h) (Or.inr ⟨by rfl, rfl⟩) ?_ ?_
      rotate_left
      ·simp only [Act.put, Qp1, Qp2, Qp3, i64_w, i32_w]
       rfl
      refine pure_ (i := 27) (N := some 54) (v := undef) (a' := ?_) (Qbz 30 268435455) rfl rfl (by kernel_rfl) (fun _ _ _ h => h) (Or.inr ⟨by rfl, rfl⟩) ?_ ?_
      rotate_left
      ·simp only [Act.put, Qp1, Qp2, Qp3, i64_w, i32_w]
       rfl
      refine pure_ (i := 28) (N := some 55) (v := undef) (a' := ?_) (Qbz 30 536870911) rfl rfl (by kernel_rfl) (fun _ _ _ h => h) (Or.inr ⟨by rfl, rfl⟩) ?_ ?_
      rotate_left
      ·simp only [Act.put, Qp1, Qp2, Qp3, i64_w, i32_w]
       rfl
      refine pure_ (i := 29) (N := some 56) (v := ?_) (a' := ?_) (Qbz 30 1073741823) rfl rfl (by kernel_rfl) (fun _ _ _ h => h) (Or.inl ⟨by rfl, ?_⟩) ?_ ?_
      rotate_left
      ·intro w'
       go_simp
       with_reducible rfl
      rotate_left
      ·simp only [Act.put, Qp1, Qp2, Qp3, i64_w, i32_w]
       rfl
      refine done_ (by kernel_rfl) ?_
      go_wp2
      go_roundg gk'
      case measure => omega
      case rel => exact ⟨k + 1, by go_num, by omega, HS3, ⟨fbd⟩⟩
     ·cases ck
      ·have CE : ∀ a b e, sweep_street_ends.f a b = some e → ∀ W, (W.cell? ⟨p, 1, none⟩ = some (.slice (some ⟨gc, 0, none⟩) E.length cc) ∧ W.cell? ⟨p, 2, none⟩ = some (.int .i64 (gd : Int)) ∧ W.cell? ⟨gc, i, none⟩ = some (.bool true) ∧ W.cell? ⟨gc, k, none⟩ = some (.bool false) ∧ W.cell? ⟨ga, 0, none⟩ = some (.int .i64 (a4 : Int)) ∧ W.cell? ⟨ga, 1, none⟩ = some (.int .i64 (b4 : Int)) ∧ W.cell? ⟨gb, 0, none⟩ = some (.int .i64 (a6 : Int)) ∧ W.cell? ⟨gb, 1, none⟩ = some (.int .i64 (b6 : Int)) ∧ Below w8.heap.size w8 W) → Calls Tryd.prog 78 #[.agg #[.int .i64 a, .int .i64 b]] W fun e' w' => e' = .returned (.int .i64 e) ∧ w'.cell? ⟨p, 1, none⟩ = some (.slice (some ⟨gc, 0, none⟩) E.length cc) ∧ w'.cell? ⟨p, 2, none⟩ = some (.int .i64 (gd : Int)) ∧ w'.cell? ⟨gc, i, none⟩ = some (.bool true) ∧ w'.cell? ⟨gc, k, none⟩ = some (.bool false) ∧ w'.cell? ⟨ga, 0, none⟩ = some (.int .i64 (a4 : Int)) ∧ w'.cell? ⟨ga, 1, none⟩ = some (.int .i64 (b4 : Int)) ∧ w'.cell? ⟨gb, 0, none⟩ = some (.int .i64 (a6 : Int)) ∧ w'.cell? ⟨gb, 1, none⟩ = some (.int .i64 (b6 : Int)) ∧ Below w8.heap.size w8 w' := fun a b e he W hW => (sweep_street_ends.calls a b e W he).mono fun e' w' ⟨h1, h2⟩ => ⟨h1, (h2.cell (World.block_lt_of_cell? W _ hW.1)).trans hW.1, (h2.cell (World.block_lt_of_cell? W _ hW.2.1)).trans hW.2.1, (h2.cell (World.block_lt_of_cell? W _ hW.2.2.1)).trans hW.2.2.1, (h2.cell (World.block_lt_of_cell? W _ hW.2.2.2.1)).trans hW.2.2.2.1, (h2.cell (World.block_lt_of_cell? W _ hW.2.2.2.2.1)).trans hW.2.2.2.2.1, (h2.cell (World.block_lt_of_cell? W _ hW.2.2.2.2.2.1)).trans hW.2.2.2.2.2.1, (h2.cell (World.block_lt_of_cell? W _ hW.2.2.2.2.2.2.1)).trans hW.2.2.2.2.2.2.1, (h2.cell (World.block_lt_of_cell? W _ hW.2.2.2.2.2.2.2.1)).trans hW.2.2.2.2.2.2.2.1, below_step hW.2.2.2.2.2.2.2.2 h2⟩
       have CE4 := Aside0.mk (CE _ _ _ HE4.out)
       have CE6 := Aside0.mk (CE _ _ _ HE6.out)
       have han := b_and e4 e6 (by omega) (by omega)
       have hal : e4 &&& e6 < 128 := Nat.lt_of_le_of_lt Nat.and_le_left he4l
       obtain ⟨an, hane⟩ : ∃ x, e4 &&& e6 = x := ⟨_, rfl⟩
       rw [hane] at han hal hs
       have hdi := b_andNot an gd (by omega) (by omega)
       obtain ⟨dx, hdx⟩ : ∃ x, diff an gd = x := ⟨_, rfl⟩
       rw [hdx] at hdi hs
       have f1d : w9.drew.cell? ⟨p, 1, none⟩ = _ := f1
       have f2d : w9.drew.cell? ⟨p, 2, none⟩ = _ := f2
       have f3d : w9.drew.cell? ⟨gc, i, none⟩ = _ := f3
       have f4d : w9.drew.cell? ⟨gc, k, none⟩ = _ := f4
       have f5d : w9.drew.cell? ⟨ga, 0, none⟩ = _ := f5
       have f6d : w9.drew.cell? ⟨ga, 1, none⟩ = _ := f6
       have f7d : w9.drew.cell? ⟨gb, 0, none⟩ = _ := f7
       have f8d : w9.drew.cell? ⟨gb, 1, none⟩ = _ := f8
       have fbd : Below w8.heap.size w8 w9.drew := below_drew HB9.out
       clear f1 f2 f3 f4 f5 f6 f7 f8 CE hane hdx he4l he6l hal
       have t2 : ((dx : Int) == 0) = (dx == 0) := by
        by_cases h : dx = 0
        ·simp [h]
        ·have e1 : ((dx : Int) == 0) = false := by simp; omega
         have e2 : (dx == 0) = false := by simp; omega
         rw [e1, e2]
       have t3 : ((dx : Int) != 0) = !(dx == 0) := by rw [← t2]; rfl
       generalize (dx == 0) = bz at *
       have HSZ := Aside0.mk hs
       clear hs
       go_wp2_with (fail)
       refine start_ (n := 30) (S := fun w' => w'.cell? ⟨p, 1, none⟩ = some (.slice (some ⟨gc, 0, none⟩) E.length cc) ∧ w'.cell? ⟨p, 2, none⟩ = some (.int .i64 (gd : Int)) ∧ w'.cell? ⟨gc, i, none⟩ = some (.bool true) ∧ w'.cell? ⟨gc, k, none⟩ = some (.bool false) ∧ w'.cell? ⟨ga, 0, none⟩ = some (.int .i64 (a4 : Int)) ∧ w'.cell? ⟨ga, 1, none⟩ = some (.int .i64 (b4 : Int)) ∧ w'.cell? ⟨gb, 0, none⟩ = some (.int .i64 (a6 : Int)) ∧ w'.cell? ⟨gb, 1, none⟩ = some (.int .i64 (b6 : Int)) ∧ Below w8.heap.size w8 w') (ds := []) (Qbz 30 0) (by kernel_rfl) rfl rfl ⟨f1d, f2d, f3d, f4d, f5d, f6d, f7d, f8d, fbd⟩ (fun hHeld => ?_)
       refine pure_ (i := 0) (N := some 27) (v := ?_) (a' := ?_) (Qbz 30 1) rfl rfl (by kernel_rfl) (fun _ _ _ h => h) (Or.inl ⟨by rfl, ?_⟩) ?_ ?_
       rotate_left
       ·intro w'
        go_simp
        with_reducible rfl
       rotate_left
       ·simp only [Act.put, Qp1, Qp2, Qp3, i64_w, i32_w]
        rfl
       refine pure_ (i := 1) (N := some 28) (v := ?_) (a' := ?_) (Qbz 30 3) rfl rfl (by kernel_rfl) (fun _ _ _ h => h) (Or.inl ⟨by rfl, ?_⟩) ?_ ?_
       rotate_left
       ·intro w'
        go_simp
        with_reducible rfl
       rotate_left
       ·simp only [Act.put, Qp1, Qp2, Qp3, i64_w, i32_w]
        rfl
       refine pure_ (i := 2) (N := some 29) (v := ?_) (a' := ?_) (Qbz 30 7) rfl rfl (by kernel_rfl) (fun _ _ _ h => h) (Or.inl ⟨by rfl, ?_⟩) ?_ ?_
       rotate_left
       ·intro w'
        go_simp
        with_reducible rfl
       rotate_left
       ·simp only [Act.put, Qp1, Qp2, Qp3, i64_w, i32_w]
        rfl
       refine pure_ (i := 4) (N := some 31) (v := ?_) (a' := ?_) (Qbz 30 23) rfl rfl (by kernel_rfl) (fun _ _ _ h => h) (Or.inl ⟨by rfl, ?_⟩) ?_ ?_
       rotate_left
       ·intro w'
        go_simp
        with_reducible rfl
       rotate_left
       ·simp only [Act.put, Qp1, Qp2, Qp3, i64_w, i32_w]
        rfl
       refine take_ (i := 3) (N := some 30) (v := ?_) (a' := ?_) (Qbz 30 31) rfl rfl (by kernel_rfl) (fun _ _ _ h => h) (Or.inl ⟨by rfl, ?_⟩) hHeld ?_ ?_
       rotate_left
       ·rintro w' ⟨s0, s1, s2, s3, s4, s5, s6, s7, s8⟩
        go_simp
        with_reducible rfl
       rotate_left
       ·simp only [Act.put, Qp1, Qp2, Qp3, i64_w, i32_w]
        rfl
       refine pure_ (i := 5) (N := some 32) (v := ?_) (a' := ?_) (Qbz 30 63) rfl rfl (by kernel_rfl) (fun _ _ _ h => h) (Or.inl ⟨by rfl, ?_⟩) ?_ ?_
       rotate_left
       ·intro w'
        go_simp
        with_reducible rfl
       rotate_left
       ·simp only [Act.put, Qp1, Qp2, Qp3, i64_w, i32_w]
        rfl
       refine take_ (i := 6) (N := some 33) (v := ?_) (a' := ?_) (Qbz 30 127) rfl rfl (by kernel_rfl) (fun _ _ _ h => h) (Or.inl ⟨by rfl, ?_⟩) hHeld ?_ ?_
       rotate_left
       ·rintro w' ⟨s0, s1, s2, s3, s4, s5, s6, s7, s8⟩
        go_simp
        with_reducible rfl
       rotate_left
       ·simp only [Act.put, Qp1, Qp2, Qp3, i64_w, i32_w]
        rfl
       refine pure_ (i := 7) (N := some 34) (v := ?_) (a' := ?_) (Qbz 30 255) rfl rfl (by kernel_rfl) (fun _ _ _ h => h) (Or.inl ⟨by rfl, ?_⟩) ?_ ?_
       rotate_left
       ·intro w'
        go_simp
        with_reducible rfl
       rotate_left
       ·simp only [Act.put, Qp1, Qp2, Qp3, i64_w, i32_w]
        rfl
       refine pure_ (i := 8) (N := some 35) (v := ?_) (a' := ?_) (Qbz 30 511) rfl rfl (by kernel_rfl) (fun _ _ _ h => h) (Or.inl ⟨by rfl, ?_⟩) ?_ ?_
       rotate_left
       ·intro w'
        go_simp
        with_reducible rfl
       rotate_left
       ·simp only [Act.put, Qp1, Qp2, Qp3, i64_w, i32_w]
        rfl
       refine pure_ (i := 9) (N := some 36) (v := ?_) (a' := ?_) (Qbz 30 1023) rfl rfl (by kernel_rfl) (fun _ _ _ h => h) (Or.inl ⟨by rfl, ?_⟩) ?_ ?_
       rotate_left
       ·intro w'
        go_simp
        with_reducible rfl
       rotate_left
       ·simp only [Act.put, Qp1, Qp2, Qp3, i64_w, i32_w]
        rfl
       refine pure_ (i := 10) (N := some 37) (v := ?_) (a' := ?_) (Qbz 30 2047) rfl rfl (by kernel_rfl) (fun _ _ _ h => h) (Or.inl ⟨by rfl, ?_⟩) ?_ ?_
       rotate_left
       ·intro w'
        go_simp
        with_reducible rfl
       rotate_left
       ·simp only [Act.put, Qp1, Qp2, Qp3, i64_w, i32_w]
        rfl
       refine pure_ (i := 12) (N := some 39) (v := ?_) (a' := ?_) (Qbz 30 6143) rfl rfl (by kernel_rfl) (fun _ _ _ h => h) (Or.inl ⟨by rfl, ?_⟩) ?_ ?_
       rotate_left
       ·intro w'
        go_simp
        with_reducible rfl
       rotate_left
       ·simp only [Act.put, Qp1, Qp2, Qp3, i64_w, i32_w]
        rfl
       refine take_ (i := 11) (N := some 38) (v := ?_) (a' := ?_) (Qbz 30 8191) rfl rfl (by kernel_rfl) (fun _ _ _ h => h) (Or.inl ⟨by rfl, ?_⟩) hHeld ?_ ?_
       rotate_left
       ·rintro w' ⟨s0, s1, s2, s3, s4, s5, s6, s7, s8⟩
        go_simp
        with_reducible rfl
       rotate_left
       ·simp only [Act.put, Qp1, Qp2, Qp3, i64_w, i32_w]
        rfl
       refine pure_ (i := 13) (N := some 40) (v := ?_) (a' := ?_) (Qbz 30 16383) rfl rfl (by kernel_rfl) (fun _ _ _ h => h) (Or.inl ⟨by rfl, ?_⟩) ?_ ?_
       rotate_left
       ·intro w'
        go_simp
        with_reducible rfl
       rotate_left
       ·simp only [Act.put, Qp1, Qp2, Qp3, i64_w, i32_w]
        rfl
       refine take_ (i := 14) (N := some 41) (v := ?_) (a' := ?_) (Qbz 30 32767) rfl rfl (by kernel_rfl) (fun _ _ _ h => h) (Or.inl ⟨by rfl, ?_⟩) hHeld ?_ ?_
       rotate_left
       ·rintro w' ⟨s0, s1, s2, s3, s4, s5, s6, s7, s8⟩
        go_simp
        with_reducible rfl
       rotate_left
       ·simp only [Act.put, Qp1, Qp2, Qp3, i64_w, i32_w]
        rfl
       refine pure_ (i := 15) (N := some 42) (v := ?_) (a' := ?_) (Qbz 30 65535) rfl rfl (by kernel_rfl) (fun _ _ _ h => h) (Or.inl ⟨by rfl, ?_⟩) ?_ ?_
       rotate_left
       ·intro w'
        go_simp
        with_reducible rfl
       rotate_left
       ·simp only [Act.put, Qp1, Qp2, Qp3, i64_w, i32_w]
        rfl
       refine pure_ (i := 16) (N := some 43) (v := ?_) (a' := ?_) (Qbz 30 131071) rfl rfl (by kernel_rfl) (fun _ _ _ h => h) (Or.inl ⟨by rfl, ?_⟩) ?_ ?_
       rotate_left
       ·intro w'
        go_simp
        with_reducible rfl
       rotate_left
       ·simp only [Act.put, Qp1, Qp2, Qp3, i64_w, i32_w]
        rfl
       refine pure_ (i := 17) (N := some 44) (v := ?_) (a' := ?_) (Qbz 30 262143) rfl rfl (by kernel_rfl) (fun _ _ _ h => h) (Or.inl ⟨by rfl, ?_⟩) ?_ ?_
       rotate_left
       ·intro w'
        go_simp
        with_reducible rfl
       rotate_left
       ·simp only [Act.put, Qp1, Qp2, Qp3, i64_w, i32_w]
        rfl
       refine pure_ (i := 23) (N := some 50) (v := ?_) (a' := ?_) (Qbz 30 8650751) rfl rfl (by kernel_rfl) (fun _ _ _ h => h) (Or.inl ⟨by rfl, ?_⟩) ?_ ?_
       rotate_left
       ·intro w'
        go_simp
        with_reducible rfl
       rotate_left
       ·simp only [Act.put, Qp1, Qp2, Qp3, i64_w, i32_w]
        rfl
       refine pure_ (i := 24) (N := some 51) (v := ?_) (a' := ?_) (Qbz 30 25427967) rfl rfl (by kernel_rfl) (fun _ _ _ h => h) (Or.inl ⟨by rfl, ?_⟩) ?_ ?_
       rotate_left
       ·intro w'
        go_simp
        with_reducible rfl
       rotate_left
       ·simp only [Act.put, Qp1, Qp2, Qp3, i64_w, i32_w]
        rfl
       refine pure_ (i := 25) (N := some 52) (v := ?_) (a' := ?_) (Qbz 30 58982399) rfl rfl (by kernel_rfl) (fun _ _ _ h => h) (Or.inl ⟨by rfl, ?_⟩) ?_ ?_
       rotate_left
       ·intro w'
        go_simp
        with_reducible rfl
       rotate_left
       ·simp only [Act.put, Qp1, Qp2, Qp3, i64_w, i32_w]
        rfl
       refine take_ (i := 18) (N := some 45) (v := ?_) (a' := ?_) (Qbz 30 59244543) rfl rfl (by kernel_rfl) (fun _ _ _ h => h) (Or.inl ⟨by rfl, ?_⟩) hHeld ?_ ?_
       rotate_left
       ·rintro w' ⟨s0, s1, s2, s3, s4, s5, s6, s7, s8⟩
        go_simp
        with_reducible rfl
       rotate_left
       ·simp only [Act.put, Qp1, Qp2, Qp3, i64_w, i32_w]
        rfl
       refine take_ (i := 20) (N := some 47) (v := ?_) (a' := ?_) (Qbz 30 60293119) rfl rfl (by kernel_rfl) (fun _ _ _ h => h) (Or.inl ⟨by rfl, ?_⟩) hHeld ?_ ?_
       rotate_left
       ·rintro w' ⟨s0, s1, s2, s3, s4, s5, s6, s7, s8⟩
        go_simp
        with_reducible rfl
       rotate_left
       ·simp only [Act.put, Qp1, Qp2, Qp3, i64_w, i32_w]
        rfl
       refine take_ (i := 26) (N := some 53) (v := ?_) (a' := ?_) (Qbz 30 127401983) rfl rfl (by kernel_rfl) (fun _ _ _ h => h) (Or.inl ⟨by rfl, ?_⟩) hHeld ?_ ?_
       rotate_left
       ·rintro w' ⟨s0, s1, s2, s3, s4, s5, s6, s7, s8⟩
        go_simp
        with_reducible rfl
       rotate_left
       ·simp only [Act.put, Qp1, Qp2, Qp3, i64_w, i32_w]
        rfl
       refine one_ (i := 19) (N := some 46) (Qbz 30 127926271) rfl rfl (by kernel_rfl) (by decide) (fun K hK => ?_)
       refine goes_ Tryd.func78 (by kernel_rfl) rfl #[.agg #[.int .i64 (a4 : Int), .int .i64 (b4 : Int)]] (by rfl) rfl rfl (by simp only [List.map_toArray, List.map_cons, List.map_nil]; rfl) ?_
       with_reducible refine (CE4.out _ hHeld).mono ?_
       rintro e w3 ⟨rfl, g1, g2, g3, g4, g5, g6, g7, g8, gB⟩
       refine ⟨_, rfl, ?_⟩
       refine hK.out _ _ ⟨g1, g2, g3, g4, g5, g6, g7, g8, gB⟩ (fun hHeld => ?_)
       clear hK K
       refine norm_ (a' := ?_) ?_ ?_
       rotate_left
       ·show Act.put _ (some 46) _ = _
        simp only [Act.put, Qp1, Qp2, Qp3, i64_w, i32_w]
        rfl
       refine one_ (i := 21) (N := some 48) (Qbz 30 130023423) rfl rfl (by kernel_rfl) (by decide) (fun K hK => ?_)
       refine goes_ Tryd.func78 (by kernel_rfl) rfl #[.agg #[.int .i64 (a6 : Int), .int .i64 (b6 : Int)]] (by rfl) rfl rfl (by simp only [List.map_toArray, List.map_cons, List.map_nil]; rfl) ?_
       with_reducible refine (CE6.out _ hHeld).mono ?_
       rintro e w3 ⟨rfl, g1, g2, g3, g4, g5, g6, g7, g8, gB⟩
       refine ⟨_, rfl, ?_⟩
       refine hK.out _ _ ⟨g1, g2, g3, g4, g5, g6, g7, g8, gB⟩ (fun hHeld => ?_)
       clear hK K
       refine norm_ (a' := ?_) ?_ ?_
       rotate_left
       ·show Act.put _ (some 48) _ = _
        simp only [Act.put, Qp1, Qp2, Qp3, i64_w, i32_w]
        rfl
       refine pure_ (i := 22) (N := some 49) (v := ?_) (a' := ?_) (Qbz 30 134217727) rfl rfl (by kernel_rfl) (fun _ _ _ h => h) (Or.inl ⟨by rfl, ?_⟩) ?_ ?_
       rotate_left
       ·intro w'
        go_simp
        with_reducible rfl
       rotate_left
       ·simp only [Act.put, Qp1, Qp2, Qp3, i64_w, i32_w]
        rfl
       refine pure_ (i := 27) (N := some 54) (v := ?_) (a' := ?_) (Qbz 30 268435455) rfl rfl (by kernel_rfl) (fun _ _ _ h => h) (Or.inl ⟨by rfl, ?_⟩) ?_ ?_
       rotate_left
       ·intro w'
        go_simp
        with_reducible rfl
       rotate_left
       ·simp only [Act.put, Qp1, Qp2, Qp3, i64_w, i32_w]
        rfl
       refine pure_ (i := 28) (N := some 55) (v := ?_) (a' := ?_) (Qbz 30 536870911) rfl rfl (by kernel_rfl) (fun _ _ _ h => h) (Or.inl ⟨by rfl, ?_⟩) ?_ ?_
       rotate_left
       ·intro w'
        go_simp
        with_reducible rfl
       rotate_left
       ·simp only [Act.put, Qp1, Qp2, Qp3, i64_w, i32_w]
        rfl
       refine pure_ (i := 29) (N := some 56) (v := ?_) (a' := ?_) (Qbz 30 1073741823) rfl rfl (by kernel_rfl) (fun _ _ _ h => h) (Or.inl ⟨by rfl, ?_⟩) ?_ ?_
       rotate_left
       ·intro w'
        go_simp
        with_reducible rfl
       rotate_left
       ·simp only [Act.put, Qp1, Qp2, Qp3, i64_w, i32_w]
        rfl
       refine done_ (by kernel_rfl) ?_
       have hs := HSZ.out
       cases bz
       ·have HS3 : Aside0 (R = some i) := ⟨by
         have : R2 = true := by rw [← hs]; simp
         have h2 := HS1.out
         rw [if_pos this] at h2
         exact h2.symm⟩
        clear hs
        have hfz := (HW8.out.below gB).clr.frozen i
        go_wp2
        go_ret
        rw [HS3.out]
        exact ⟨rfl, (HW8.out.below gB).mark i false, ((below_then HB8.out HB8.out.size gB).mono hH).setCell hHc _⟩
       ·have HS3 : Aside0 (spIn E s.gd s.C i gk' (k + 1) = R2) := ⟨by rw [HGD.out]; simpa using hs⟩
        clear hs
        go_wp2
        go_roundg gk'
        case measure => omega
        case rel => exact ⟨k + 1, by go_num, by omega, HS3, ⟨gB⟩⟩
      ·have HS3 : Aside0 (spIn E s.gd s.C i gk' (k + 1) = R2) := ⟨by rw [HGD.out]; simpa using hs⟩
       have f1d : w9.drew.cell? ⟨p, 1, none⟩ = _ := f1
       have f3d : w9.drew.cell? ⟨gc, i, none⟩ = _ := f3
       have f4d : w9.drew.cell? ⟨gc, k, none⟩ = _ := f4
       have fbd : Below w8.heap.size w8 w9.drew := below_drew HB9.out
       clear f1 f2 f3 f4 f5 f6 f7 f8 hs
       go_wp2_with (fail)
       refine start_ (n := 30) (S := fun w' => w'.cell? ⟨p, 1, none⟩ = some (.slice (some ⟨gc, 0, none⟩) E.length cc) ∧ w'.cell? ⟨gc, i, none⟩ = some (.bool true) ∧ w'.cell? ⟨gc, k, none⟩ = some (.bool true) ∧ Below w8.heap.size w8 w') (ds := []) (Qbz 30 0) (by kernel_rfl) rfl rfl ⟨f1d, f3d, f4d, fbd⟩ (fun hHeld => ?_)
       refine pure_ (i := 0) (N := some 27) (v := ?_) (a' := ?_) (Qbz 30 1) rfl rfl (by kernel_rfl) (fun _ _ _ h => h) (Or.inl ⟨by rfl, ?_⟩) ?_ ?_
       rotate_left
       ·intro w'
        go_simp
        with_reducible rfl
       rotate_left
       ·simp only [Act.put, Qp1, Qp2, Qp3, i64_w, i32_w]
        rfl
       refine pure_ (i := 1) (N := some 28) (v := ?_) (a' := ?_) (Qbz 30 3) rfl rfl (by kernel_rfl) (fun _ _ _ h => h) (Or.inl ⟨by rfl, ?_⟩) ?_ ?_
       rotate_left
       ·intro w'
        go_simp
        with_reducible rfl
       rotate_left
       ·simp only [Act.put, Qp1, Qp2, Qp3, i64_w, i32_w]
        rfl
       refine pure_ (i := 2) (N := some 29) (v := ?_) (a' := ?_) (Qbz 30 7) rfl rfl (by kernel_rfl) (fun _ _ _ h => h) (Or.inl ⟨by rfl, ?_⟩) ?_ ?_
       rotate_left
       ·intro w'
        go_simp
        with_reducible rfl
       rotate_left
       ·simp only [Act.put, Qp1, Qp2, Qp3, i64_w, i32_w]
        rfl
       refine pure_ (i := 4) (N := some 31) (v := ?_) (a' := ?_) (Qbz 30 23) rfl rfl (by kernel_rfl) (fun _ _ _ h => h) (Or.inl ⟨by rfl, ?_⟩) ?_ ?_
       rotate_left
       ·intro w'
        go_simp
        with_reducible rfl
       rotate_left
       ·simp only [Act.put, Qp1, Qp2, Qp3, i64_w, i32_w]
        rfl
       refine take_ (i := 3) (N := some 30) (v := ?_) (a' := ?_) (Qbz 30 31) rfl rfl (by kernel_rfl) (fun _ _ _ h => h) (Or.inl ⟨by rfl, ?_⟩) hHeld ?_ ?_
       rotate_left
       ·rintro w' ⟨s0, s1, s2, s3⟩
        go_simp
        with_reducible rfl
       rotate_left
       ·simp only [Act.put, Qp1, Qp2, Qp3, i64_w, i32_w]
        rfl
       refine pure_ (i := 5) (N := some 32) (v := ?_) (a' := ?_) (Qbz 30 63) rfl rfl (by kernel_rfl) (fun _ _ _ h => h) (Or.inl ⟨by rfl, ?_⟩) ?_ ?_
       rotate_left
       ·intro w'
        go_simp
        with_reducible rfl
       rotate_left
       ·simp only [Act.put, Qp1, Qp2, Qp3, i64_w, i32_w]
        rfl
       refine take_ (i := 6) (N := some 33) (v := ?_) (a' := ?_) (Qbz 30 127) rfl rfl (by kernel_rfl) (fun _ _ _ h => h) (Or.inl ⟨by rfl, ?_⟩) hHeld ?_ ?_
       rotate_left
       ·rintro w' ⟨s0, s1, s2, s3⟩
        go_simp
        with_reducible rfl
       rotate_left
       ·simp only [Act.put, Qp1, Qp2, Qp3, i64_w, i32_w]
        rfl
       refine pure_ (i := 7) (N := some 34) (v := ?_) (a' := ?_) (Qbz 30 255) rfl rfl (by kernel_rfl) (fun _ _ _ h => h) (Or.inl ⟨by rfl, ?_⟩) ?_ ?_
       rotate_left
       ·intro w'
        go_simp
        with_reducible rfl
       rotate_left
       ·simp only [Act.put, Qp1, Qp2, Qp3, i64_w, i32_w]
        rfl
       refine pure_ (i := 8) (N := some 35) (v := ?_) (a' := ?_) (Qbz 30 511) rfl rfl (by kernel_rfl) (fun _ _ _ h => h) (Or.inl ⟨by rfl, ?_⟩) ?_ ?_
       rotate_left
       ·intro w'
        go_simp
        with_reducible rfl
       rotate_left
       ·simp only [Act.put, Qp1, Qp2, Qp3, i64_w, i32_w]
        rfl
       refine pure_ (i := 9) (N := some 36) (v := ?_) (a' := ?_) (Qbz 30 1023) rfl rfl (by kernel_rfl) (fun _ _ _ h => h) (Or.inl ⟨by rfl, ?_⟩) ?_ ?_
       rotate_left
       ·intro w'
        go_simp
        with_reducible rfl
       rotate_left
       ·simp only [Act.put, Qp1, Qp2, Qp3, i64_w, i32_w]
        rfl
       refine pure_ (i := 10) (N := some 37) (v := ?_) (a' := ?_) (Qbz 30 2047) rfl rfl (by kernel_rfl) (fun _ _ _ h => h) (Or.inl ⟨by rfl, ?_⟩) ?_ ?_
       rotate_left
       ·intro w'
        go_simp
        with_reducible rfl
       rotate_left
       ·simp only [Act.put, Qp1, Qp2, Qp3, i64_w, i32_w]
        rfl
       refine pure_ (i := 12) (N := some 39) (v := ?_) (a' := ?_) (Qbz 30 6143) rfl rfl (by kernel_rfl) (fun _ _ _ h => h) (Or.inl ⟨by rfl, ?_⟩) ?_ ?_
       rotate_left
       ·intro w'
        go_simp
        with_reducible rfl
       rotate_left
       ·simp only [Act.put, Qp1, Qp2, Qp3, i64_w, i32_w]
        rfl
       refine take_ (i := 11) (N := some 38) (v := ?_) (a' := ?_) (Qbz 30 8191) rfl rfl (by kernel_rfl) (fun _ _ _ h => h) (Or.inl ⟨by rfl, ?_⟩) hHeld ?_ ?_
       rotate_left
       ·rintro w' ⟨s0, s1, s2, s3⟩
        go_simp
        with_reducible rfl
       rotate_left
       ·simp only [Act.put, Qp1, Qp2, Qp3, i64_w, i32_w]
        rfl
       refine pure_ (i := 13) (N := some 40) (v := ?_) (a' := ?_) (Qbz 30 16383) rfl rfl (by kernel_rfl) (fun _ _ _ h => h) (Or.inl ⟨by rfl, ?_⟩) ?_ ?_
       rotate_left
       ·intro w'
        go_simp
        with_reducible rfl
       rotate_left
       ·simp only [Act.put, Qp1, Qp2, Qp3, i64_w, i32_w]
        rfl
       refine take_ (i := 14) (N := some 41) (v := ?_) (a' := ?_) (Qbz 30 32767) rfl rfl (by kernel_rfl) (fun _ _ _ h => h) (Or.inl ⟨by rfl, ?_⟩) hHeld ?_ ?_
       rotate_left
       ·rintro w' ⟨s0, s1, s2, s3⟩
        go_simp
        with_reducible rfl
       rotate_left
       ·simp only [Act.put, Qp1, Qp2, Qp3, i64_w, i32_w]
        rfl
       refine pure_ (i := 15) (N := some 42) (v := ?_) (a' := ?_) (Qbz 30 65535) rfl rfl (by kernel_rfl) (fun _ _ _ h => h) (Or.inl ⟨by rfl, ?_⟩) ?_ ?_
       rotate_left
       ·intro w'
        go_simp
        with_reducible rfl
       rotate_left
       ·simp only [Act.put, Qp1, Qp2, Qp3, i64_w, i32_w]
        rfl
       refine pure_ (i := 16) (N := some 43) (v := ?_) (a' := ?_) (Qbz 30 131071) rfl rfl (by kernel_rfl) (fun _ _ _ h => h) (Or.inl ⟨by rfl, ?_⟩) ?_ ?_
       rotate_left
       ·intro w'
        go_simp
        with_reducible rfl
       rotate_left
       ·simp only [Act.put, Qp1, Qp2, Qp3, i64_w, i32_w]
        rfl
       refine pure_ (i := 17) (N := some 44) (v := ?_) (a' := ?_) (Qbz 30 262143) rfl rfl (by kernel_rfl) (fun _ _ _ h => h) (Or.inl ⟨by rfl, ?_⟩) ?_ ?_
       rotate_left
       ·intro w'
        go_simp
        with_reducible rfl
       rotate_left
       ·simp only [Act.put, Qp1, Qp2, Qp3, i64_w, i32_w]
        rfl
       refine pure_ (i := 18) (N := some 45) (v := undef) (a' := ?_) (Qbz 30 524287) rfl rfl (by kernel_rfl) (fun _ _ _ h => h) (Or.inr ⟨by rfl, rfl⟩) ?_ ?_
       rotate_left
       ·simp only [Act.put, Qp1, Qp2, Qp3, i64_w, i32_w]
        rfl
       refine pure_ (i := 19) (N := some 46) (v := undef) (a' := ?_) (Qbz 30 1048575) rfl rfl (by kernel_rfl) (fun _ _ _ h => h) (Or.inr ⟨by rfl, rfl⟩) ?_ ?_
       rotate_left
       ·simp only [Act.put, Qp1, Qp2, Qp3, i64_w, i32_w]
        rfl
       refine pure_ (i := 20) (N := some 47) (v := undef) (a' := ?_) (Qbz 30 2097151) rfl rfl (by kernel_rfl) (fun _ _ _ h => h) (Or.inr ⟨by rfl, rfl⟩) ?_ ?_
       rotate_left
       ·simp only [Act.put, Qp1, Qp2, Qp3, i64_w, i32_w]
        rfl
       refine pure_ (i := 21) (N := some 48) (v := undef) (a' := ?_) (Qbz 30 4194303) rfl rfl (by kernel_rfl) (fun _ _ _ h => h) (Or.inr ⟨by rfl, rfl⟩) ?_ ?_
       rotate_left
       ·simp only [Act.put, Qp1, Qp2, Qp3, i64_w, i32_w]
        rfl
       refine pure_ (i := 22) (N := some 49) (v := undef) (a' := ?_) (Qbz 30 8388607) rfl rfl (by kernel_rfl) (fun _ _ _ h => h) (Or.inr ⟨by rfl, rfl⟩) ?_ ?_
       rotate_left
       ·simp only [Act.put, Qp1, Qp2, Qp3, i64_w, i32_w]
        rfl
       refine pure_ (i := 23) (N := some 50) (v := undef) (a' := ?_) (Qbz 30 16777215) rfl rfl (by kernel_rfl) (fun _ _ _ h => h) (Or.inr ⟨by rfl, rfl⟩) ?_ ?_
       rotate_left
       ·simp only [Act.put, Qp1, Qp2, Qp3, i64_w, i32_w]
        rfl
       refine pure_ (i := 24) (N := some 51) (v := undef) (a' := ?_) (Qbz 30 33554431) rfl rfl (by kernel_rfl) (fun _ _ _ h => h) (Or.inr ⟨by rfl, rfl⟩) ?_ ?_
       rotate_left
       ·simp only [Act.put, Qp1, Qp2, Qp3, i64_w, i32_w]
        rfl
       refine pure_ (i := 25) (N := some 52) (v := undef) (a' := ?_) (Qbz 30 67108863) rfl rfl (by kernel_rfl) (fun _ _ _ h => h) (Or.inr ⟨by rfl, rfl⟩) ?_ ?_
       rotate_left
       ·simp only [Act.put, Qp1, Qp2, Qp3, i64_w, i32_w]
        rfl
       refine pure_ (i := 26) (N := some 53) (v := undef) (a' := ?_) (Qbz 30 134217727) rfl rfl (by kernel_rfl) (fun _ _ _ h => h) (Or.inr ⟨by rfl, rfl⟩) ?_ ?_
       rotate_left
       ·simp only [Act.put, Qp1, Qp2, Qp3, i64_w, i32_w]
        rfl
       refine pure_ (i := 27) (N := some 54) (v := undef) (a' := ?_) (Qbz 30 268435455) rfl rfl (by kernel_rfl) (fun _ _ _ h => h) (Or.inr ⟨by rfl, rfl⟩) ?_ ?_
       rotate_left
       ·simp only [Act.put, Qp1, Qp2, Qp3, i64_w, i32_w]
        rfl
       refine pure_ (i := 28) (N := some 55) (v := undef) (a' := ?_) (Qbz 30 536870911) rfl rfl (by kernel_rfl) (fun _ _ _ h => h) (Or.inr ⟨by rfl, rfl⟩) ?_ ?_
       rotate_left
       ·simp only [Act.put, Qp1, Qp2, Qp3, i64_w, i32_w]
        rfl
       refine pure_ (i := 29) (N := some 56) (v := ?_) (a' := ?_) (Qbz 30 1073741823) rfl rfl (by kernel_rfl) (fun _ _ _ h => h) (Or.inl ⟨by rfl, ?_⟩) ?_ ?_
       rotate_left
       ·intro w'
        go_simp
        with_reducible rfl
       rotate_left
       ·simp only [Act.put, Qp1, Qp2, Qp3, i64_w, i32_w]
        rfl
       refine done_ (by kernel_rfl) ?_
       go_wp2
       go_roundg gk'
       case measure => omega
       case rel => exact ⟨k + 1, by go_num, by omega, HS3, ⟨fbd⟩⟩
    ·have hk1 : ((k : Int) < (E.length : Int)) = False := eq_false (by omega)
     have hk2 : decide ((k : Int) < (E.length : Int)) = false := decide_eq_false (by omega)
     obtain rfl : gk = 0 := by omega
     have hs := HS.out
     simp only [spIn] at hs
     subst hs
     clear HS
     have HS3 : Aside0 (spOut E s.gd s.C gi (i + 1) = R) := ⟨by simpa using HS1.out⟩
     have HB10 : Aside0 (Below w.heap.size w wr) := ⟨below_then HB8.out HB8.out.size HB.out⟩
     go_wp2
     go_roundg gi
     case measure => omega
     case rel => exact ⟨i + 1, by go_num, by omega, HS3, HB10⟩
  ·have hi1 : ((i : Int) < (E.length : Int)) = False := eq_false (by omega)
   have hi2 : decide ((i : Int) < (E.length : Int)) = false := decide_eq_false (by omega)
   obtain rfl : gk = 0 := by omega
   have hs := HS.out
   simp only [spOut] at hs
   subst hs
   clear HS
   go_wp2
   go_ret
   exact ⟨rfl, HW.out.below HB.out, HB.out.mono hH⟩
end Go.Proofs.YtijfddobandcdaaDoor.X
end
section
/- (watch).do, by hand. -/
namespace Go.Proofs.YtijfddobandcdaaDoor.X
open Go.RowKit YtijfddobandcdaaDoorW.PrintWords YtijfddobandcdaaDoorW.PrintLast YtijfddobandcdaaDoorW.PrintMore YtijfddobandcdaaDoor.T
attribute [local go_sem] max2_int min2_int max_two min_two max_three min_three max_four min_four
theorem WAt.drew {W : World} {p gc cc : Nat} {A : Option Addr} {cE : Nat} {ad : Addr} {E : List (Nat × Nat)} {s : OS} (h : WAt W p gc cc A cE ad E s) : WAt W.drew p gc cc A cE ad E s := ⟨h.blk, h.hA, h.e0, h.e1, h.clr, h.len, h.n1, h.n2⟩
def DoS (W : World) (p gc cc : Nat) (A : Option Addr) (cE : Nat) (ad : Addr) (E : List (Nat × Nat)) : Option OS → Prop
 | none => True
 | some s => WAt W p gc cc A cE ad E s
set_option maxHeartbeats 8000000 in
set_option maxRecDepth 100000 in
theorem do_calls (p gc cc : Nat) (A : Option Addr) (cE : Nat) (ad : Addr) (E : List (Nat × Nat)) (s : OS) (hE : E.length ≤ 896) (hE2 : ∀ i, i < E.length → (E.getD i (0, 0)).1 < 7 ∧ (E.getD i (0, 0)).2 < 7) (hgd : s.gd < 128) (hhad : s.had < 128) (H : Nat) (hHp : H ≤ p) (hHc : H ≤ gc) (pl : Bool) (v : Nat) (hv : v < 7) (R : Option OS) (hR : doO E s ⟨pl, (v : Int)⟩ = R) (w : World) (hH : H ≤ w.heap.size) (hw : WAt w p gc cc A cE ad E s) :
  Calls Tryd.prog 65 #[.pointer (some ⟨p, 0, none⟩), .agg #[.bool pl, .int .i64 (v : Int)]] w fun e w' => e = .returned (.bool R.isSome) ∧ DoS w' p gc cc A cE ad E R ∧ Below H w w' := by
 have HW := Aside0.mk hw
 have HE2 := Aside0.mk hE2
 unfold doO at hR
 dsimp only at hR
 rw [Int.toNat_natCast] at hR
 obtain ⟨J, hJ1, hJ2, hJ3, hJ4, hJ5⟩ := bitJ s.gd v (by omega) (by omega)
 go_enter Tryd.func65, Tryd.ntmps65
 go_wp2_with (first | ((with_reducible refine gate_dst (N := 3) rfl ?_); refine box_event ?hg (N := 3) ?hd (cs := #[.bool pl, .int .i64 (v : Int)]) (t := 85) ?hr ?_; (case hd => rfl); (case hg => rfl); (case hr => first | (go_simp; done) | (go_simp; rfl)); intro ga hga w7 hbox hb7; have HGA := Aside0.mk (show w.heap.size ≤ ga by rw [hga]; exact Nat.le_refl _); clear hga; have HBOX := Aside0.mk hbox; have HB7 := Aside0.mk hb7; clear hbox hb7))
 have HW7 := Aside0.mk (HW.out.below HB7.out)
 have f2d : w7.drew.cell? ⟨p, 2, none⟩ = some (.int .i64 (s.gd : Int)) := (blk_cell HW7.out.blk 2).trans rfl
 have f1d : w7.drew.cell? ⟨ga, 1, none⟩ = some (.int .i64 (v : Int)) := (blk_cell HBOX.out 1).trans rfl
 have f0 : w7.drew.cell? ⟨ga, 0, none⟩ = some (.bool pl) := (blk_cell HBOX.out 0).trans rfl
 have hzv : (0 : Int) ≤ (v : Int) := by omega
 refine start_ (n := 10) (S := fun w' => w'.cell? ⟨p, 2, none⟩ = some (.int .i64 (s.gd : Int)) ∧ w'.cell? ⟨ga, 1, none⟩ = some (.int .i64 (v : Int))) (ds := []) (Qbz 10 0) (by kernel_rfl) rfl rfl ⟨f2d, f1d⟩ (fun hHeld => ?_)
 refine pure_ (i := 0) (N := some 8) (v := ?_) (a' := ?_) (Qbz 10 1) rfl rfl (by kernel_rfl) (fun _ _ _ h => h) (Or.inl ⟨by rfl, ?_⟩) ?_ ?_
 rotate_left
 ·intro w'
  go_simp
  with_reducible rfl
 rotate_left
 ·simp only [Act.put, Qp1, Qp2, Qp3, i64_w, i32_w]
  rfl
 refine pure_ (i := 1) (N := some 9) (v := ?_) (a' := ?_) (Qbz 10 3) rfl rfl (by kernel_rfl) (fun _ _ _ h => h) (Or.inl ⟨by rfl, ?_⟩) ?_ ?_
 rotate_left
 ·intro w'
  go_simp
  with_reducible rfl
 rotate_left
 ·simp only [Act.put, Qp1, Qp2, Qp3, i64_w, i32_w]
  rfl
 refine pure_ (i := 2) (N := some 10) (v := ?_) (a' := ?_) (Qbz 10 7) rfl rfl (by kernel_rfl) (fun _ _ _ h => h) (Or.inl ⟨by rfl, ?_⟩) ?_ ?_
 rotate_left
 ·intro w'
  go_simp
  with_reducible rfl
 rotate_left
 ·simp only [Act.put, Qp1, Qp2, Qp3, i64_w, i32_w]
  rfl
 refine pure_ (i := 4) (N := some 12) (v := ?_) (a' := ?_) (Qbz 10 23) rfl rfl (by kernel_rfl) (fun _ _ _ h => h) (Or.inl ⟨by rfl, ?_⟩) ?_ ?_
 rotate_left
 ·intro w'
  go_simp
  with_reducible rfl
 rotate_left
 ·simp only [Act.put, Qp1, Qp2, Qp3, i64_w, i32_w]
  rfl
 refine take_ (i := 3) (N := some 11) (v := ?_) (a' := ?_) (Qbz 10 31) rfl rfl (by kernel_rfl) (fun _ _ _ h => h) (Or.inl ⟨by rfl, ?_⟩) hHeld ?_ ?_
 rotate_left
 ·rintro w' ⟨s0, s1⟩
  go_simp
  with_reducible rfl
 rotate_left
 ·simp only [Act.put, Qp1, Qp2, Qp3, i64_w, i32_w]
  rfl
 refine take_ (i := 5) (N := some 13) (v := ?_) (a' := ?_) (Qbz 10 63) rfl rfl (by kernel_rfl) (fun _ _ _ h => h) (Or.inl ⟨by rfl, ?_⟩) hHeld ?_ ?_
 rotate_left
 ·rintro w' ⟨s0, s1⟩
  go_simp
  with_reducible rfl
 rotate_left
 ·simp only [Act.put, Qp1, Qp2, Qp3, i64_w, i32_w]
  rfl
 refine pure_ (i := 6) (N := some 14) (v := ?_) (a' := ?_) (Qbz 10 127) rfl rfl (by kernel_rfl) (fun _ _ _ h => h) (Or.inl ⟨by rfl, ?_⟩) ?_ ?_
 rotate_left
 ·intro w'
  go_simp
  with_reducible rfl
 rotate_left
 ·simp only [Act.put, Qp1, Qp2, Qp3, i64_w, i32_w]
  rfl
 refine pure_ (i := 7) (N := some 15) (v := ?_) (a' := ?_) (Qbz 10 255) rfl rfl (by kernel_rfl) (fun _ _ _ h => h) (Or.inl ⟨by rfl, ?_⟩) ?_ ?_
 rotate_left
 ·intro w'
  go_simp
  with_reducible rfl
 rotate_left
 ·simp only [Act.put, Qp1, Qp2, Qp3, i64_w, i32_w]
  rfl
 refine pure_ (i := 8) (N := some 16) (v := ?_) (a' := ?_) (Qbz 10 511) rfl rfl (by kernel_rfl) (fun _ _ _ h => h) (Or.inl ⟨by rfl, ?_⟩) ?_ ?_
 rotate_left
 ·intro w'
  go_simp
  with_reducible rfl
 rotate_left
 ·simp only [Act.put, Qp1, Qp2, Qp3, i64_w, i32_w]
  rfl
 refine pure_ (i := 9) (N := some 5) (v := ?_) (a' := ?_) (Qbz 10 1023) rfl rfl (by kernel_rfl) (fun _ _ _ h => h) (Or.inl ⟨by rfl, ?_⟩) ?_ ?_
 rotate_left
 ·intro w'
  go_simp
  with_reducible rfl
 rotate_left
 ·simp only [Act.put, Qp1, Qp2, Qp3, i64_w, i32_w]
  rfl
 refine done_ (by kernel_rfl) ?_
 have HB8 : Aside0 (Below w.heap.size w w7.drew) := ⟨below_drew HB7.out⟩
 by_cases heq : (s.gd.testBit v == pl) = true
 ·rw [if_pos heq] at hR
  subst hR
  clear hJ1 hJ2 hJ3 hJ4 hJ5 f2d f1d
  generalize s.gd.testBit v = bt at *
  go_wp2
  go_ret
  exact ⟨rfl, trivial, HB8.out.mono hH⟩
 ·rw [if_neg heq] at hR
  have HR := Aside0.mk hR
  replace heq : (s.gd.testBit v == pl) = false := by simpa using heq
  have hpv : 2 ^ v < 2 ^ 7 := Nat.pow_lt_pow_right (by omega) hv
  obtain ⟨J3, ⟨hS1, hS2, hS3⟩, hS4⟩ := shJ v (by omega)
  have hxo := b_xor s.gd (2 ^ v) (by omega) (Nat.lt_of_lt_of_le hpv (by decide))
  rw [← hS4] at hxo
  have hxo2 : Go.bits .xor .i64 (s.gd : Int) ((2 : Int) ^ v) = ((s.gd ^^^ 2 ^ v : Nat) : Int) := by
   have e : ((2 : Int) ^ v) = ((2 ^ v : Nat) : Int) := by simp
   rw [e, ← hS4]; exact hxo
  have hg2 : s.gd ^^^ 2 ^ v < 2 ^ 7 := Nat.xor_lt_two_pow (by show s.gd < 2 ^ 7; exact hgd) hpv
  have hhad7 : s.had < 2 ^ 7 := hhad
  obtain ⟨g2, hg2e⟩ : ∃ g2, s.gd ^^^ 2 ^ v = g2 := ⟨_, rfl⟩
  rw [hg2e] at hxo hxo2 hg2
  have hor := b_or s.had g2 (Nat.lt_of_lt_of_le hhad7 (by decide)) (Nat.lt_of_lt_of_le hg2 (by decide))
  have hh2 : s.had ||| g2 < 2 ^ 7 := Nat.or_lt_two_pow hhad7 hg2
  obtain ⟨h2, hh2e⟩ : ∃ h2, s.had ||| g2 = h2 := ⟨_, rfl⟩
  rw [hh2e] at hor hh2
  have HG2 := Aside0.mk hg2e
  have HH2 := Aside0.mk hh2e
  have fz2 : w7.drew.frozen? ⟨p, 2, none⟩ = false := blk_frozen HW7.out.blk 2
  clear hR hJ1 hJ2 hJ3 hJ4 hJ5 f2d f1d hg2e hh2e hpv hhad7
  generalize s.gd.testBit v = bt at *
  go_wp2
  have f2e : w7.drew.drew.cell? ⟨p, 2, none⟩ = some (.int .i64 (s.gd : Int)) := (blk_cell HW7.out.blk 2).trans rfl
  have f1e : w7.drew.drew.cell? ⟨ga, 1, none⟩ = some (.int .i64 (v : Int)) := (blk_cell HBOX.out 1).trans rfl
  have fz2e : w7.drew.drew.frozen? ⟨p, 2, none⟩ = false := fz2
  refine start_ (n := 11) (S := fun w' => w'.cell? ⟨p, 2, none⟩ = some (.int .i64 (s.gd : Int)) ∧ w'.cell? ⟨ga, 1, none⟩ = some (.int .i64 (v : Int)) ∧ w'.frozen? ⟨p, 2, none⟩ = false) (ds := [10]) (Qbz 11 0) (by kernel_rfl) rfl rfl ⟨f2e, f1e, fz2e⟩ (fun hHeld => ?_)
  refine pure_ (i := 0) (N := some 21) (v := ?_) (a' := ?_) (Qbz 11 1) rfl rfl (by kernel_rfl) (fun _ _ _ h => h) (Or.inl ⟨by rfl, ?_⟩) ?_ ?_
  rotate_left
  ·intro w'
   go_simp
   with_reducible rfl
  rotate_left
  ·simp only [Act.put, Qp1, Qp2, Qp3, i64_w, i32_w]
   rfl
  refine pure_ (i := 1) (N := some 22) (v := ?_) (a' := ?_) (Qbz 11 3) rfl rfl (by kernel_rfl) (fun _ _ _ h => h) (Or.inl ⟨by rfl, ?_⟩) ?_ ?_
  rotate_left
  ·intro w'
   go_simp
   with_reducible rfl
  rotate_left
  ·simp only [Act.put, Qp1, Qp2, Qp3, i64_w, i32_w]
   rfl
  refine pure_ (i := 2) (N := some 23) (v := ?_) (a' := ?_) (Qbz 11 7) rfl rfl (by kernel_rfl) (fun _ _ _ h => h) (Or.inl ⟨by rfl, ?_⟩) ?_ ?_
  rotate_left
  ·intro w'
   go_simp
   with_reducible rfl
  rotate_left
  ·simp only [Act.put, Qp1, Qp2, Qp3, i64_w, i32_w]
   rfl
  refine pure_ (i := 4) (N := some 25) (v := ?_) (a' := ?_) (Qbz 11 23) rfl rfl (by kernel_rfl) (fun _ _ _ h => h) (Or.inl ⟨by rfl, ?_⟩) ?_ ?_
  rotate_left
  ·intro w'
   go_simp
   with_reducible rfl
  rotate_left
  ·simp only [Act.put, Qp1, Qp2, Qp3, i64_w, i32_w]
   rfl
  refine take_ (i := 3) (N := some 24) (v := ?_) (a' := ?_) (Qbz 11 31) rfl rfl (by kernel_rfl) (fun _ _ _ h => h) (Or.inl ⟨by rfl, ?_⟩) hHeld ?_ ?_
  rotate_left
  ·rintro w' ⟨s0, s1, s2⟩
   go_simp
   with_reducible rfl
  rotate_left
  ·simp only [Act.put, Qp1, Qp2, Qp3, i64_w, i32_w]
   rfl
  refine take_ (i := 5) (N := some 26) (v := ?_) (a' := ?_) (Qbz 11 63) rfl rfl (by kernel_rfl) (fun _ _ _ h => h) (Or.inl ⟨by rfl, ?_⟩) hHeld ?_ ?_
  rotate_left
  ·rintro w' ⟨s0, s1, s2⟩
   go_simp
   with_reducible rfl
  rotate_left
  ·simp only [Act.put, Qp1, Qp2, Qp3, i64_w, i32_w]
   rfl
  refine pure_ (i := 6) (N := some 27) (v := ?_) (a' := ?_) (Qbz 11 127) rfl rfl (by kernel_rfl) (fun _ _ _ h => h) (Or.inl ⟨by rfl, ?_⟩) ?_ ?_
  rotate_left
  ·intro w'
   go_simp
   with_reducible rfl
  rotate_left
  ·simp only [Act.put, Qp1, Qp2, Qp3, i64_w, i32_w]
   rfl
  refine pure_ (i := 7) (N := some 28) (v := ?_) (a' := ?_) (Qbz 11 255) rfl rfl (by kernel_rfl) (fun _ _ _ h => h) (Or.inl ⟨by rfl, ?_⟩) ?_ ?_
  rotate_left
  ·intro w'
   go_simp
   with_reducible rfl
  rotate_left
  ·simp only [Act.put, Qp1, Qp2, Qp3, i64_w, i32_w]
   rfl
  refine pure_ (i := 8) (N := some 29) (v := ?_) (a' := ?_) (Qbz 11 511) rfl rfl (by kernel_rfl) (fun _ _ _ h => h) (Or.inl ⟨by rfl, ?_⟩) ?_ ?_
  rotate_left
  ·intro w'
   go_simp
   with_reducible rfl
  rotate_left
  ·simp only [Act.put, Qp1, Qp2, Qp3, i64_w, i32_w]
   rfl
  refine pure_ (i := 9) (N := some 30) (v := ?_) (a' := ?_) (Qbz 11 1023) rfl rfl (by kernel_rfl) (fun _ _ _ h => h) (Or.inl ⟨by rfl, ?_⟩) ?_ ?_
  rotate_left
  ·intro w'
   go_simp
   with_reducible rfl
  rotate_left
  ·simp only [Act.put, Qp1, Qp2, Qp3, i64_w, i32_w]
   rfl
  refine last_ (i := 10) (N := none) (Qbz 11 2047) rfl rfl (by kernel_rfl) (by decide) (fun K hK => ?_)
  refine skip_ (w1 := ?_) (by rfl) rfl ?_ ?_
  rotate_left
  ·go_simp
   rfl
  refine hK.out _ _ ?_
  clear hK K
  refine done_ (by kernel_rfl) ?_
  go_wp2
  have HW8 : Aside0 (WAt ((w7.setCell ⟨p, 2, none⟩ (.int .i64 (g2 : Int))).drew.drew) p gc cc A cE ad E ⟨g2, s.had, s.bk, s.C⟩) := ⟨WAt.drew (WAt.drew (WAt.field (s := s) (s2 := ⟨g2, s.had, s.bk, s.C⟩) (j := 2) (v := .int .i64 (g2 : Int)) HW7.out rfl rfl))⟩
  have HB9 : Aside0 (Below H w ((w7.setCell ⟨p, 2, none⟩ (.int .i64 (g2 : Int))).drew.drew)) := ⟨below_drew (below_drew ((HB7.out.mono hH).setCell hHp _))⟩
  generalize (w7.setCell ⟨p, 2, none⟩ (.int .i64 (g2 : Int))).drew.drew = w8 at *
  clear HB8 HBOX HB7 HW7 f0 f2e f1e fz2 fz2e hw hS1 hS2 hS3 hS4 hxo hxo2
  have f2d : w8.drew.cell? ⟨p, 2, none⟩ = some (.int .i64 (g2 : Int)) := (blk_cell HW8.out.blk 2).trans rfl
  have f3d : w8.drew.cell? ⟨p, 3, none⟩ = some (.int .i64 (s.had : Int)) := (blk_cell HW8.out.blk 3).trans rfl
  have fz3 : w8.drew.frozen? ⟨p, 3, none⟩ = false := blk_frozen HW8.out.blk 3
  refine start_ (n := 12) (S := fun w' => w'.cell? ⟨p, 2, none⟩ = some (.int .i64 (g2 : Int)) ∧ w'.cell? ⟨p, 3, none⟩ = some (.int .i64 (s.had : Int)) ∧ w'.frozen? ⟨p, 3, none⟩ = false) (ds := [11]) (Qbz 12 0) (by kernel_rfl) rfl rfl ⟨f2d, f3d, fz3⟩ (fun hHeld => ?_)
  refine pure_ (i := 0) (N := some 31) (v := ?_) (a' := ?_) (Qbz 12 1) rfl rfl (by kernel_rfl) (fun _ _ _ h => h) (Or.inl ⟨by rfl, ?_⟩) ?_ ?_
  rotate_left
  ·intro w'
   go_simp
   with_reducible rfl
  rotate_left
  ·simp only [Act.put, Qp1, Qp2, Qp3, i64_w, i32_w]
   rfl
  refine pure_ (i := 1) (N := some 32) (v := ?_) (a' := ?_) (Qbz 12 3) rfl rfl (by kernel_rfl) (fun _ _ _ h => h) (Or.inl ⟨by rfl, ?_⟩) ?_ ?_
  rotate_left
  ·intro w'
   go_simp
   with_reducible rfl
  rotate_left
  ·simp only [Act.put, Qp1, Qp2, Qp3, i64_w, i32_w]
   rfl
  refine pure_ (i := 2) (N := some 33) (v := ?_) (a' := ?_) (Qbz 12 7) rfl rfl (by kernel_rfl) (fun _ _ _ h => h) (Or.inl ⟨by rfl, ?_⟩) ?_ ?_
  rotate_left
  ·intro w'
   go_simp
   with_reducible rfl
  rotate_left
  ·simp only [Act.put, Qp1, Qp2, Qp3, i64_w, i32_w]
   rfl
  refine pure_ (i := 4) (N := some 35) (v := ?_) (a' := ?_) (Qbz 12 23) rfl rfl (by kernel_rfl) (fun _ _ _ h => h) (Or.inl ⟨by rfl, ?_⟩) ?_ ?_
  rotate_left
  ·intro w'
   go_simp
   with_reducible rfl
  rotate_left
  ·simp only [Act.put, Qp1, Qp2, Qp3, i64_w, i32_w]
   rfl
  refine pure_ (i := 5) (N := some 36) (v := ?_) (a' := ?_) (Qbz 12 55) rfl rfl (by kernel_rfl) (fun _ _ _ h => h) (Or.inl ⟨by rfl, ?_⟩) ?_ ?_
  rotate_left
  ·intro w'
   go_simp
   with_reducible rfl
  rotate_left
  ·simp only [Act.put, Qp1, Qp2, Qp3, i64_w, i32_w]
   rfl
  refine pure_ (i := 6) (N := some 37) (v := ?_) (a' := ?_) (Qbz 12 119) rfl rfl (by kernel_rfl) (fun _ _ _ h => h) (Or.inl ⟨by rfl, ?_⟩) ?_ ?_
  rotate_left
  ·intro w'
   go_simp
   with_reducible rfl
  rotate_left
  ·simp only [Act.put, Qp1, Qp2, Qp3, i64_w, i32_w]
   rfl
  refine take_ (i := 3) (N := some 34) (v := ?_) (a' := ?_) (Qbz 12 127) rfl rfl (by kernel_rfl) (fun _ _ _ h => h) (Or.inl ⟨by rfl, ?_⟩) hHeld ?_ ?_
  rotate_left
  ·rintro w' ⟨s0, s1, s2⟩
   go_simp
   with_reducible rfl
  rotate_left
  ·simp only [Act.put, Qp1, Qp2, Qp3, i64_w, i32_w]
   rfl
  refine take_ (i := 7) (N := some 38) (v := ?_) (a' := ?_) (Qbz 12 255) rfl rfl (by kernel_rfl) (fun _ _ _ h => h) (Or.inl ⟨by rfl, ?_⟩) hHeld ?_ ?_
  rotate_left
  ·rintro w' ⟨s0, s1, s2⟩
   go_simp
   with_reducible rfl
  rotate_left
  ·simp only [Act.put, Qp1, Qp2, Qp3, i64_w, i32_w]
   rfl
  refine pure_ (i := 8) (N := some 39) (v := ?_) (a' := ?_) (Qbz 12 511) rfl rfl (by kernel_rfl) (fun _ _ _ h => h) (Or.inl ⟨by rfl, ?_⟩) ?_ ?_
  rotate_left
  ·intro w'
   go_simp
   with_reducible rfl
  rotate_left
  ·simp only [Act.put, Qp1, Qp2, Qp3, i64_w, i32_w]
   rfl
  refine pure_ (i := 9) (N := some 40) (v := ?_) (a' := ?_) (Qbz 12 1023) rfl rfl (by kernel_rfl) (fun _ _ _ h => h) (Or.inl ⟨by rfl, ?_⟩) ?_ ?_
  rotate_left
  ·intro w'
   go_simp
   with_reducible rfl
  rotate_left
  ·simp only [Act.put, Qp1, Qp2, Qp3, i64_w, i32_w]
   rfl
  refine pure_ (i := 10) (N := some 41) (v := ?_) (a' := ?_) (Qbz 12 2047) rfl rfl (by kernel_rfl) (fun _ _ _ h => h) (Or.inl ⟨by rfl, ?_⟩) ?_ ?_
  rotate_left
  ·intro w'
   go_simp
   with_reducible rfl
  rotate_left
  ·simp only [Act.put, Qp1, Qp2, Qp3, i64_w, i32_w]
   rfl
  refine last_ (i := 11) (N := none) (Qbz 12 4095) rfl rfl (by kernel_rfl) (by decide) (fun K hK => ?_)
  refine skip_ (w1 := ?_) (by rfl) rfl ?_ ?_
  rotate_left
  ·go_simp
   rfl
  refine hK.out _ _ ?_
  clear hK K
  refine done_ (by kernel_rfl) ?_
  have HW9 : Aside0 (WAt (w8.setCell ⟨p, 3, none⟩ (.int .i64 (h2 : Int))).drew p gc cc A cE ad E ⟨g2, h2, s.bk, s.C⟩) := ⟨WAt.drew (WAt.field (s := ⟨g2, s.had, s.bk, s.C⟩) (s2 := ⟨g2, h2, s.bk, s.C⟩) (j := 3) (v := .int .i64 (h2 : Int)) HW8.out rfl rfl)⟩
  have HB10 : Aside0 (Below H w (w8.setCell ⟨p, 3, none⟩ (.int .i64 (h2 : Int))).drew) := ⟨below_drew (HB9.out.setCell hHp _)⟩
  have f0 : (w8.setCell ⟨p, 3, none⟩ (.int .i64 (h2 : Int))).drew.cell? ⟨p, 0, none⟩ = some (.slice A E.length cE) := (blk_cell HW9.out.blk 0).trans rfl
  go_wp2
  generalize (w8.setCell ⟨p, 3, none⟩ (.int .i64 (h2 : Int))).drew = w9 at *
  clear HB9 HW8 f2d f3d fz3 f0 hor
  clear HW hE2
  obtain ⟨CF, hCF⟩ : ∃ C, marksO E g2 E.length 0 s.C = C := ⟨_, rfl⟩
  have HCF := Aside0.mk hCF
  have HCF0 := Aside0.mk hCF
  clear hCF
  go_loopg [47] E.length (fun kq v47 w' => ∃ (i : Nat) (C : List Bool), v47 = .int .i64 (i : Int) ∧ i + kq = E.length ∧ Aside0 (marksO E g2 kq i C = CF) ∧ Aside0 (WAt w' p gc cc A cE ad E ⟨g2, h2, s.bk, C⟩) ∧ Aside0 (Below H w w'))
  case atStart => exact ⟨0, s.C, rfl, by omega, HCF, HW9, HB10⟩
  case round =>
   clear HCF HW9 HB10
   obtain ⟨i, C, rfl, hi, HM, HW, HB⟩ := hrel
   by_cases hil : i < E.length
   ·have hi1 : ((i : Int) < (E.length : Int)) = True := eq_true (by omega)
    have hi2 : decide ((i : Int) < (E.length : Int)) = true := decide_eq_true (by omega)
    cases gk with
    | zero => omega
    | succ gi =>
    have hm := HM.out
    simp only [marksO] at hm
    have hA := HW.out.hA (by omega)
    subst hA
    have hc0 := HW.out.e0 i hil
    have hc1 := HW.out.e1 i hil
    obtain ⟨hl4, hl5⟩ := HE2.out i hil
    have HE4 := Aside0.mk (ends_f _ _ hl4 hl5)
    obtain ⟨e4, he4⟩ : ∃ x, endsOf E i = x := ⟨_, rfl⟩
    rw [he4] at hm
    unfold endsOf at he4
    rw [he4] at HE4
    have he4l : e4 < 128 := by
     rw [← he4]
     exact Nat.or_lt_two_pow (n := 7) (Nat.pow_lt_pow_right (by omega) hl4) (Nat.pow_lt_pow_right (by omega) hl5)
    generalize (E.getD i (0, 0)).1 = a4 at *
    generalize (E.getD i (0, 0)).2 = b4 at *
    have HM1 := Aside0.mk hm
    clear HM hm hl4 hl5 he4
    go_wp2_with (first | ((with_reducible refine gate_dst (N := 7) rfl ?_); refine box_event ?hg (N := 7) ?hd (cs := #[.int .i64 0, .int .i64 0]) (t := 117) ?hr ?_; (case hd => rfl); (case hg => rfl); (case hr => first | (go_simp; done) | (go_simp; rfl)); intro gb hgb w7 hbox hb7; have HGB := Aside0.mk (show wr.heap.size ≤ gb by rw [hgb]; exact Nat.le_refl _); clear hgb; have hz0 : w7.cell? ⟨gb, 0, none⟩ = some (.int .i64 0) := (blk_cell hbox 0).trans rfl; have hz1 : w7.cell? ⟨gb, 1, none⟩ = some (.int .i64 0) := (blk_cell hbox 1).trans rfl; have hf0 := blk_frozen hbox 0; have hf1 := blk_frozen hbox 1; have HBOX := Aside0.mk hbox; have HB7 := Aside0.mk hb7; clear hbox hb7))
    have hcb := blk_set (blk_set HBOX.out 0 (.int .i64 (a4 : Int))) 1 (.int .i64 (b4 : Int))
    have HBW : Aside0 (Below wr.heap.size wr ((w7.setCell ⟨gb, 0, none⟩ (.int .i64 (a4 : Int))).setCell ⟨gb, 1, none⟩ (.int .i64 (b4 : Int)))) := ⟨below_set (below_set HB7.out HGB.out) HGB.out⟩
    generalize (w7.setCell ⟨gb, 0, none⟩ (.int .i64 (a4 : Int))).setCell ⟨gb, 1, none⟩ (.int .i64 (b4 : Int)) = w10 at *
    have HW10 := Aside0.mk (HW.out.below HBW.out)
    have HB11 : Aside0 (Below H w w10) := ⟨below_then HB.out (by have := HB.out.size; omega) HBW.out⟩
    have hHw : H ≤ w10.heap.size := by have := HB11.out.size; omega
    clear HBOX HB7 HGB hc0 hc1 hz0 hz1 hf0 hf1 HW HB HBW
    have f1 : w10.cell? ⟨p, 1, none⟩ = some (.slice (some ⟨gc, 0, none⟩) E.length cc) := (blk_cell HW10.out.blk 1).trans rfl
    have f2 : w10.cell? ⟨p, 2, none⟩ = some (.int .i64 (g2 : Int)) := (blk_cell HW10.out.blk 2).trans rfl
    have f3 := HW10.out.clr.cell i (by rw [HW10.out.len]; exact hil)
    have f5 : w10.cell? ⟨gb, 0, none⟩ = some (.int .i64 (a4 : Int)) := (blk_cell hcb 0).trans rfl
    have f6 : w10.cell? ⟨gb, 1, none⟩ = some (.int .i64 (b4 : Int)) := (blk_cell hcb 1).trans rfl
    have hm := HM1.out
    dsimp only at f3
    generalize C.getD i false = ci at *
    clear hcb HM1
    have f1d : w10.drew.cell? ⟨p, 1, none⟩ = _ := f1
    have f2d : w10.drew.cell? ⟨p, 2, none⟩ = _ := f2
    have f3d : w10.drew.cell? ⟨gc, i, none⟩ = _ := f3
    have f5d : w10.drew.cell? ⟨gb, 0, none⟩ = _ := f5
    have f6d : w10.drew.cell? ⟨gb, 1, none⟩ = _ := f6
    have fzd : w10.drew.frozen? ⟨gc, i, none⟩ = false := HW10.out.clr.frozen i
    have fbd : Below w10.heap.size w10 w10.drew := below_drew (Below.refl _ _)
    clear f1 f2 f3 f5 f6
    cases ci
    ·have CE : ∀ W, (W.cell? ⟨p, 1, none⟩ = some (.slice (some ⟨gc, 0, none⟩) E.length cc) ∧ W.cell? ⟨p, 2, none⟩ = some (.int .i64 (g2 : Int)) ∧ W.cell? ⟨gc, i, none⟩ = some (.bool false) ∧ W.cell? ⟨gb, 0, none⟩ = some (.int .i64 (a4 : Int)) ∧ W.cell? ⟨gb, 1, none⟩ = some (.int .i64 (b4 : Int)) ∧ W.frozen? ⟨gc, i, none⟩ = false ∧ Below w10.heap.size w10 W) → Calls Tryd.prog 78 #[.agg #[.int .i64 (a4 : Int), .int .i64 (b4 : Int)]] W fun e' w' => e' = .returned (.int .i64 (e4 : Int)) ∧ w'.cell? ⟨p, 1, none⟩ = some (.slice (some ⟨gc, 0, none⟩) E.length cc) ∧ w'.cell? ⟨p, 2, none⟩ = some (.int .i64 (g2 : Int)) ∧ w'.cell? ⟨gc, i, none⟩ = some (.bool false) ∧ w'.cell? ⟨gb, 0, none⟩ = some (.int .i64 (a4 : Int)) ∧ w'.cell? ⟨gb, 1, none⟩ = some (.int .i64 (b4 : Int)) ∧ w'.frozen? ⟨gc, i, none⟩ = false ∧ Below w10.heap.size w10 w' := fun W hW => (sweep_street_ends.calls _ _ _ W HE4.out).mono fun e' w' ⟨h1, h2⟩ => ⟨h1, (h2.cell (World.block_lt_of_cell? W _ hW.1)).trans hW.1, (h2.cell (World.block_lt_of_cell? W _ hW.2.1)).trans hW.2.1, (h2.cell (World.block_lt_of_cell? W _ hW.2.2.1)).trans hW.2.2.1, (h2.cell (World.block_lt_of_cell? W _ hW.2.2.2.1)).trans hW.2.2.2.1, (h2.cell (World.block_lt_of_cell? W _ hW.2.2.2.2.1)).trans hW.2.2.2.2.1, (HW10.out.below (below_step hW.2.2.2.2.2.2 h2)).clr.frozen i, below_step hW.2.2.2.2.2.2 h2⟩
     have CE4 := Aside0.mk CE
     have hdi := b_andNot e4 g2 (by omega) (by omega)
     obtain ⟨dx, hdx⟩ : ∃ x, diff e4 g2 = x := ⟨_, rfl⟩
     rw [hdx] at hdi hm
     have t2 : ((dx : Int) == 0) = (dx == 0) := by
      by_cases h : dx = 0
      ·simp [h]
      ·have e1 : ((dx : Int) == 0) = false := by simp; omega
       have e2 : (dx == 0) = false := by simp; omega
       rw [e1, e2]
     rw [Bool.false_or] at hm
     generalize (dx == 0) = bz at *
     have HM2 := Aside0.mk hm
     clear CE hdx he4l hm
     go_wp2_with (fail)
     refine start_ (n := 24) (S := fun w' => w'.cell? ⟨p, 1, none⟩ = some (.slice (some ⟨gc, 0, none⟩) E.length cc) ∧ w'.cell? ⟨p, 2, none⟩ = some (.int .i64 (g2 : Int)) ∧ w'.cell? ⟨gc, i, none⟩ = some (.bool false) ∧ w'.cell? ⟨gb, 0, none⟩ = some (.int .i64 (a4 : Int)) ∧ w'.cell? ⟨gb, 1, none⟩ = some (.int .i64 (b4 : Int)) ∧ w'.frozen? ⟨gc, i, none⟩ = false ∧ Below w10.heap.size w10 w') (ds := [23]) (Qbz 24 0) (by kernel_rfl) rfl rfl ⟨f1d, f2d, f3d, f5d, f6d, fzd, fbd⟩ (fun hHeld => ?_)
     refine pure_ (i := 0) (N := some 52) (v := ?_) (a' := ?_) (Qbz 24 1) rfl rfl (by kernel_rfl) (fun _ _ _ h => h) (Or.inl ⟨by rfl, ?_⟩) ?_ ?_
     rotate_left
     ·intro w'
      go_simp
      with_reducible rfl
     rotate_left
     ·simp only [Act.put, Qp1, Qp2, Qp3, i64_w, i32_w]
      rfl
     refine pure_ (i := 1) (N := some 53) (v := ?_) (a' := ?_) (Qbz 24 3) rfl rfl (by kernel_rfl) (fun _ _ _ h => h) (Or.inl ⟨by rfl, ?_⟩) ?_ ?_
     rotate_left
     ·intro w'
      go_simp
      with_reducible rfl
     rotate_left
     ·simp only [Act.put, Qp1, Qp2, Qp3, i64_w, i32_w]
      rfl
     refine pure_ (i := 2) (N := some 54) (v := ?_) (a' := ?_) (Qbz 24 7) rfl rfl (by kernel_rfl) (fun _ _ _ h => h) (Or.inl ⟨by rfl, ?_⟩) ?_ ?_
     rotate_left
     ·intro w'
      go_simp
      with_reducible rfl
     rotate_left
     ·simp only [Act.put, Qp1, Qp2, Qp3, i64_w, i32_w]
      rfl
     refine pure_ (i := 4) (N := some 56) (v := ?_) (a' := ?_) (Qbz 24 23) rfl rfl (by kernel_rfl) (fun _ _ _ h => h) (Or.inl ⟨by rfl, ?_⟩) ?_ ?_
     rotate_left
     ·intro w'
      go_simp
      with_reducible rfl
     rotate_left
     ·simp only [Act.put, Qp1, Qp2, Qp3, i64_w, i32_w]
      rfl
     refine pure_ (i := 5) (N := some 57) (v := ?_) (a' := ?_) (Qbz 24 55) rfl rfl (by kernel_rfl) (fun _ _ _ h => h) (Or.inl ⟨by rfl, ?_⟩) ?_ ?_
     rotate_left
     ·intro w'
      go_simp
      with_reducible rfl
     rotate_left
     ·simp only [Act.put, Qp1, Qp2, Qp3, i64_w, i32_w]
      rfl
     refine pure_ (i := 6) (N := some 58) (v := ?_) (a' := ?_) (Qbz 24 119) rfl rfl (by kernel_rfl) (fun _ _ _ h => h) (Or.inl ⟨by rfl, ?_⟩) ?_ ?_
     rotate_left
     ·intro w'
      go_simp
      with_reducible rfl
     rotate_left
     ·simp only [Act.put, Qp1, Qp2, Qp3, i64_w, i32_w]
      rfl
     refine pure_ (i := 7) (N := some 59) (v := ?_) (a' := ?_) (Qbz 24 247) rfl rfl (by kernel_rfl) (fun _ _ _ h => h) (Or.inl ⟨by rfl, ?_⟩) ?_ ?_
     rotate_left
     ·intro w'
      go_simp
      with_reducible rfl
     rotate_left
     ·simp only [Act.put, Qp1, Qp2, Qp3, i64_w, i32_w]
      rfl
     refine pure_ (i := 9) (N := some 61) (v := ?_) (a' := ?_) (Qbz 24 759) rfl rfl (by kernel_rfl) (fun _ _ _ h => h) (Or.inl ⟨by rfl, ?_⟩) ?_ ?_
     rotate_left
     ·intro w'
      go_simp
      with_reducible rfl
     rotate_left
     ·simp only [Act.put, Qp1, Qp2, Qp3, i64_w, i32_w]
      rfl
     refine take_ (i := 3) (N := some 55) (v := ?_) (a' := ?_) (Qbz 24 767) rfl rfl (by kernel_rfl) (fun _ _ _ h => h) (Or.inl ⟨by rfl, ?_⟩) hHeld ?_ ?_
     rotate_left
     ·rintro w' ⟨s0, s1, s2, s3, s4, s5, s6⟩
      go_simp
      with_reducible rfl
     rotate_left
     ·simp only [Act.put, Qp1, Qp2, Qp3, i64_w, i32_w]
      rfl
     refine take_ (i := 8) (N := some 60) (v := ?_) (a' := ?_) (Qbz 24 1023) rfl rfl (by kernel_rfl) (fun _ _ _ h => h) (Or.inl ⟨by rfl, ?_⟩) hHeld ?_ ?_
     rotate_left
     ·rintro w' ⟨s0, s1, s2, s3, s4, s5, s6⟩
      go_simp
      with_reducible rfl
     rotate_left
     ·simp only [Act.put, Qp1, Qp2, Qp3, i64_w, i32_w]
      rfl
     refine pure_ (i := 10) (N := some 62) (v := ?_) (a' := ?_) (Qbz 24 2047) rfl rfl (by kernel_rfl) (fun _ _ _ h => h) (Or.inl ⟨by rfl, ?_⟩) ?_ ?_
     rotate_left
     ·intro w'
      go_simp
      with_reducible rfl
     rotate_left
     ·simp only [Act.put, Qp1, Qp2, Qp3, i64_w, i32_w]
      rfl
     refine take_ (i := 11) (N := some 63) (v := ?_) (a' := ?_) (Qbz 24 4095) rfl rfl (by kernel_rfl) (fun _ _ _ h => h) (Or.inl ⟨by rfl, ?_⟩) hHeld ?_ ?_
     rotate_left
     ·rintro w' ⟨s0, s1, s2, s3, s4, s5, s6⟩
      go_simp
      with_reducible rfl
     rotate_left
     ·simp only [Act.put, Qp1, Qp2, Qp3, i64_w, i32_w]
      rfl
     refine pure_ (i := 12) (N := some 64) (v := ?_) (a' := ?_) (Qbz 24 8191) rfl rfl (by kernel_rfl) (fun _ _ _ h => h) (Or.inl ⟨by rfl, ?_⟩) ?_ ?_
     rotate_left
     ·intro w'
      go_simp
      with_reducible rfl
     rotate_left
     ·simp only [Act.put, Qp1, Qp2, Qp3, i64_w, i32_w]
      rfl
     refine pure_ (i := 15) (N := some 67) (v := ?_) (a' := ?_) (Qbz 24 40959) rfl rfl (by kernel_rfl) (fun _ _ _ h => h) (Or.inl ⟨by rfl, ?_⟩) ?_ ?_
     rotate_left
     ·intro w'
      go_simp
      with_reducible rfl
     rotate_left
     ·simp only [Act.put, Qp1, Qp2, Qp3, i64_w, i32_w]
      rfl
     refine pure_ (i := 16) (N := some 68) (v := ?_) (a' := ?_) (Qbz 24 106495) rfl rfl (by kernel_rfl) (fun _ _ _ h => h) (Or.inl ⟨by rfl, ?_⟩) ?_ ?_
     rotate_left
     ·intro w'
      go_simp
      with_reducible rfl
     rotate_left
     ·simp only [Act.put, Qp1, Qp2, Qp3, i64_w, i32_w]
      rfl
     refine pure_ (i := 17) (N := some 69) (v := ?_) (a' := ?_) (Qbz 24 237567) rfl rfl (by kernel_rfl) (fun _ _ _ h => h) (Or.inl ⟨by rfl, ?_⟩) ?_ ?_
     rotate_left
     ·intro w'
      go_simp
      with_reducible rfl
     rotate_left
     ·simp only [Act.put, Qp1, Qp2, Qp3, i64_w, i32_w]
      rfl
     refine take_ (i := 13) (N := some 65) (v := ?_) (a' := ?_) (Qbz 24 245759) rfl rfl (by kernel_rfl) (fun _ _ _ h => h) (Or.inl ⟨by rfl, ?_⟩) hHeld ?_ ?_
     rotate_left
     ·rintro w' ⟨s0, s1, s2, s3, s4, s5, s6⟩
      go_simp
      with_reducible rfl
     rotate_left
     ·simp only [Act.put, Qp1, Qp2, Qp3, i64_w, i32_w]
      rfl
     refine take_ (i := 18) (N := some 70) (v := ?_) (a' := ?_) (Qbz 24 507903) rfl rfl (by kernel_rfl) (fun _ _ _ h => h) (Or.inl ⟨by rfl, ?_⟩) hHeld ?_ ?_
     rotate_left
     ·rintro w' ⟨s0, s1, s2, s3, s4, s5, s6⟩
      go_simp
      with_reducible rfl
     rotate_left
     ·simp only [Act.put, Qp1, Qp2, Qp3, i64_w, i32_w]
      rfl
     refine one_ (i := 14) (N := some 66) (Qbz 24 524287) rfl rfl (by kernel_rfl) (by decide) (fun K hK => ?_)
     refine goes_ Tryd.func78 (by kernel_rfl) rfl #[.agg #[.int .i64 (a4 : Int), .int .i64 (b4 : Int)]] (by rfl) rfl rfl (by simp only [List.map_toArray, List.map_cons, List.map_nil]; rfl) ?_
     with_reducible refine (CE4.out _ hHeld).mono ?_
     rintro e w3 ⟨rfl, g1, g2', g3, g5, g6, gz, gB⟩
     refine ⟨_, rfl, ?_⟩
     refine hK.out _ _ ⟨g1, g2', g3, g5, g6, gz, gB⟩ (fun hHeld => ?_)
     clear hK K
     refine norm_ (a' := ?_) ?_ ?_
     rotate_left
     ·show Act.put _ (some 66) _ = _
      simp only [Act.put, Qp1, Qp2, Qp3, i64_w, i32_w]
      rfl
     refine pure_ (i := 19) (N := some 71) (v := ?_) (a' := ?_) (Qbz 24 1048575) rfl rfl (by kernel_rfl) (fun _ _ _ h => h) (Or.inl ⟨by rfl, ?_⟩) ?_ ?_
     rotate_left
     ·intro w'
      go_simp
      with_reducible rfl
     rotate_left
     ·simp only [Act.put, Qp1, Qp2, Qp3, i64_w, i32_w]
      rfl
     refine pure_ (i := 20) (N := some 72) (v := ?_) (a' := ?_) (Qbz 24 2097151) rfl rfl (by kernel_rfl) (fun _ _ _ h => h) (Or.inl ⟨by rfl, ?_⟩) ?_ ?_
     rotate_left
     ·intro w'
      go_simp
      with_reducible rfl
     rotate_left
     ·simp only [Act.put, Qp1, Qp2, Qp3, i64_w, i32_w]
      rfl
     refine pure_ (i := 21) (N := some 73) (v := ?_) (a' := ?_) (Qbz 24 4194303) rfl rfl (by kernel_rfl) (fun _ _ _ h => h) (Or.inl ⟨by rfl, ?_⟩) ?_ ?_
     rotate_left
     ·intro w'
      go_simp
      with_reducible rfl
     rotate_left
     ·simp only [Act.put, Qp1, Qp2, Qp3, i64_w, i32_w]
      rfl
     refine pure_ (i := 22) (N := some 74) (v := ?_) (a' := ?_) (Qbz 24 8388607) rfl rfl (by kernel_rfl) (fun _ _ _ h => h) (Or.inl ⟨by rfl, ?_⟩) ?_ ?_
     rotate_left
     ·intro w'
      go_simp
      with_reducible rfl
     rotate_left
     ·simp only [Act.put, Qp1, Qp2, Qp3, i64_w, i32_w]
      rfl
     refine last_ (i := 23) (N := none) (Qbz 24 16777215) rfl rfl (by kernel_rfl) (by decide) (fun K hK => ?_)
     refine skip_ (w1 := ?_) (by rfl) rfl ?_ ?_
     rotate_left
     ·go_simp
      rfl
     refine hK.out _ _ ?_
     clear hK K
     refine done_ (by kernel_rfl) ?_
     go_wp2
     go_roundg gi
     case measure => omega
     case rel => exact ⟨i + 1, C.set i bz, by go_num, by omega, HM2, ⟨(HW10.out.below gB).mark i bz⟩, ⟨(below_then HB11.out hHw gB).setCell hHc _⟩⟩
    ·have HM2 : Aside0 (marksO E g2 gi (i + 1) (C.set i true) = CF) := ⟨by simpa using hm⟩
     clear hm
     go_wp2_with (fail)
     refine start_ (n := 24) (S := fun w' => w'.cell? ⟨p, 1, none⟩ = some (.slice (some ⟨gc, 0, none⟩) E.length cc) ∧ w'.cell? ⟨gc, i, none⟩ = some (.bool true) ∧ w'.frozen? ⟨gc, i, none⟩ = false) (ds := [23]) (Qbz 24 0) (by kernel_rfl) rfl rfl ⟨f1d, f3d, fzd⟩ (fun hHeld => ?_)
     refine pure_ (i := 0) (N := some 52) (v := ?_) (a' := ?_) (Qbz 24 1) rfl rfl (by kernel_rfl) (fun _ _ _ h => h) (Or.inl ⟨by rfl, ?_⟩) ?_ ?_
     rotate_left
     ·intro w'
      go_simp
      with_reducible rfl
     rotate_left
     ·simp only [Act.put, Qp1, Qp2, Qp3, i64_w, i32_w]
      rfl
     refine pure_ (i := 1) (N := some 53) (v := ?_) (a' := ?_) (Qbz 24 3) rfl rfl (by kernel_rfl) (fun _ _ _ h => h) (Or.inl ⟨by rfl, ?_⟩) ?_ ?_
     rotate_left
     ·intro w'
      go_simp
      with_reducible rfl
     rotate_left
     ·simp only [Act.put, Qp1, Qp2, Qp3, i64_w, i32_w]
      rfl
     refine pure_ (i := 2) (N := some 54) (v := ?_) (a' := ?_) (Qbz 24 7) rfl rfl (by kernel_rfl) (fun _ _ _ h => h) (Or.inl ⟨by rfl, ?_⟩) ?_ ?_
     rotate_left
     ·intro w'
      go_simp
      with_reducible rfl
     rotate_left
     ·simp only [Act.put, Qp1, Qp2, Qp3, i64_w, i32_w]
      rfl
     refine pure_ (i := 4) (N := some 56) (v := ?_) (a' := ?_) (Qbz 24 23) rfl rfl (by kernel_rfl) (fun _ _ _ h => h) (Or.inl ⟨by rfl, ?_⟩) ?_ ?_
     rotate_left
     ·intro w'
      go_simp
      with_reducible rfl
     rotate_left
     ·simp only [Act.put, Qp1, Qp2, Qp3, i64_w, i32_w]
      rfl
     refine pure_ (i := 5) (N := some 57) (v := ?_) (a' := ?_) (Qbz 24 55) rfl rfl (by kernel_rfl) (fun _ _ _ h => h) (Or.inl ⟨by rfl, ?_⟩) ?_ ?_
     rotate_left
     ·intro w'
      go_simp
      with_reducible rfl
     rotate_left
     ·simp only [Act.put, Qp1, Qp2, Qp3, i64_w, i32_w]
      rfl
     refine pure_ (i := 6) (N := some 58) (v := ?_) (a' := ?_) (Qbz 24 119) rfl rfl (by kernel_rfl) (fun _ _ _ h => h) (Or.inl ⟨by rfl, ?_⟩) ?_ ?_
     rotate_left
     ·intro w'
      go_simp
      with_reducible rfl
     rotate_left
     ·simp only [Act.put, Qp1, Qp2, Qp3, i64_w, i32_w]
      rfl
     refine pure_ (i := 7) (N := some 59) (v := ?_) (a' := ?_) (Qbz 24 247) rfl rfl (by kernel_rfl) (fun _ _ _ h => h) (Or.inl ⟨by rfl, ?_⟩) ?_ ?_
     rotate_left
     ·intro w'
      go_simp
      with_reducible rfl
     rotate_left
     ·simp only [Act.put, Qp1, Qp2, Qp3, i64_w, i32_w]
      rfl
     refine pure_ (i := 9) (N := some 61) (v := ?_) (a' := ?_) (Qbz 24 759) rfl rfl (by kernel_rfl) (fun _ _ _ h => h) (Or.inl ⟨by rfl, ?_⟩) ?_ ?_
     rotate_left
     ·intro w'
      go_simp
      with_reducible rfl
     rotate_left
     ·simp only [Act.put, Qp1, Qp2, Qp3, i64_w, i32_w]
      rfl
     refine take_ (i := 3) (N := some 55) (v := ?_) (a' := ?_) (Qbz 24 767) rfl rfl (by kernel_rfl) (fun _ _ _ h => h) (Or.inl ⟨by rfl, ?_⟩) hHeld ?_ ?_
     rotate_left
     ·rintro w' ⟨s0, s1, s2⟩
      go_simp
      with_reducible rfl
     rotate_left
     ·simp only [Act.put, Qp1, Qp2, Qp3, i64_w, i32_w]
      rfl
     refine take_ (i := 8) (N := some 60) (v := ?_) (a' := ?_) (Qbz 24 1023) rfl rfl (by kernel_rfl) (fun _ _ _ h => h) (Or.inl ⟨by rfl, ?_⟩) hHeld ?_ ?_
     rotate_left
     ·rintro w' ⟨s0, s1, s2⟩
      go_simp
      with_reducible rfl
     rotate_left
     ·simp only [Act.put, Qp1, Qp2, Qp3, i64_w, i32_w]
      rfl
     refine pure_ (i := 10) (N := some 62) (v := ?_) (a' := ?_) (Qbz 24 2047) rfl rfl (by kernel_rfl) (fun _ _ _ h => h) (Or.inl ⟨by rfl, ?_⟩) ?_ ?_
     rotate_left
     ·intro w'
      go_simp
      with_reducible rfl
     rotate_left
     ·simp only [Act.put, Qp1, Qp2, Qp3, i64_w, i32_w]
      rfl
     refine take_ (i := 11) (N := some 63) (v := ?_) (a' := ?_) (Qbz 24 4095) rfl rfl (by kernel_rfl) (fun _ _ _ h => h) (Or.inl ⟨by rfl, ?_⟩) hHeld ?_ ?_
     rotate_left
     ·rintro w' ⟨s0, s1, s2⟩
      go_simp
      with_reducible rfl
     rotate_left
     ·simp only [Act.put, Qp1, Qp2, Qp3, i64_w, i32_w]
      rfl
     refine pure_ (i := 12) (N := some 64) (v := ?_) (a' := ?_) (Qbz 24 8191) rfl rfl (by kernel_rfl) (fun _ _ _ h => h) (Or.inl ⟨by rfl, ?_⟩) ?_ ?_
     rotate_left
     ·intro w'
      go_simp
      with_reducible rfl
     rotate_left
     ·simp only [Act.put, Qp1, Qp2, Qp3, i64_w, i32_w]
      rfl
     refine pure_ (i := 13) (N := some 65) (v := undef) (a' := ?_) (Qbz 24 16383) rfl rfl (by kernel_rfl) (fun _ _ _ h => h) (Or.inr ⟨by rfl, rfl⟩) ?_ ?_
     rotate_left
     ·simp only [Act.put, Qp1, Qp2, Qp3, i64_w, i32_w]
      rfl
     refine pure_ (i := 14) (N := some 66) (v := undef) (a' := ?_) (Qbz 24 32767) rfl rfl (by kernel_rfl) (fun _ _ _ h => h) (Or.inr ⟨by rfl, rfl⟩) ?_ ?_
     rotate_left
     ·simp only [Act.put, Qp1, Qp2, Qp3, i64_w, i32_w]
      rfl
     refine pure_ (i := 15) (N := some 67) (v := undef) (a' := ?_) (Qbz 24 65535) rfl rfl (by kernel_rfl) (fun _ _ _ h => h) (Or.inr ⟨by rfl, rfl⟩) ?_ ?_
     rotate_left
     ·simp only [Act.put, Qp1, Qp2, Qp3, i64_w, i32_w]
      rfl
     refine pure_ (i := 16) (N := some 68) (v := undef) (a' := ?_) (Qbz 24 131071) rfl rfl (by kernel_rfl) (fun _ _ _ h => h) (Or.inr ⟨by rfl, rfl⟩) ?_ ?_
     rotate_left
     ·simp only [Act.put, Qp1, Qp2, Qp3, i64_w, i32_w]
      rfl
     refine pure_ (i := 17) (N := some 69) (v := undef) (a' := ?_) (Qbz 24 262143) rfl rfl (by kernel_rfl) (fun _ _ _ h => h) (Or.inr ⟨by rfl, rfl⟩) ?_ ?_
     rotate_left
     ·simp only [Act.put, Qp1, Qp2, Qp3, i64_w, i32_w]
      rfl
     refine pure_ (i := 18) (N := some 70) (v := undef) (a' := ?_) (Qbz 24 524287) rfl rfl (by kernel_rfl) (fun _ _ _ h => h) (Or.inr ⟨by rfl, rfl⟩) ?_ ?_
     rotate_left
     ·simp only [Act.put, Qp1, Qp2, Qp3, i64_w, i32_w]
      rfl
     refine pure_ (i := 19) (N := some 71) (v := undef) (a' := ?_) (Qbz 24 1048575) rfl rfl (by kernel_rfl) (fun _ _ _ h => h) (Or.inr ⟨by rfl, rfl⟩) ?_ ?_
     rotate_left
     ·simp only [Act.put, Qp1, Qp2, Qp3, i64_w, i32_w]
      rfl
     refine pure_ (i := 20) (N := some 72) (v := undef) (a' := ?_) (Qbz 24 2097151) rfl rfl (by kernel_rfl) (fun _ _ _ h => h) (Or.inr ⟨by rfl, rfl⟩) ?_ ?_
     rotate_left
     ·simp only [Act.put, Qp1, Qp2, Qp3, i64_w, i32_w]
      rfl
     refine pure_ (i := 21) (N := some 73) (v := ?_) (a' := ?_) (Qbz 24 4194303) rfl rfl (by kernel_rfl) (fun _ _ _ h => h) (Or.inl ⟨by rfl, ?_⟩) ?_ ?_
     rotate_left
     ·intro w'
      go_simp
      with_reducible rfl
     rotate_left
     ·simp only [Act.put, Qp1, Qp2, Qp3, i64_w, i32_w]
      rfl
     refine pure_ (i := 22) (N := some 74) (v := ?_) (a' := ?_) (Qbz 24 8388607) rfl rfl (by kernel_rfl) (fun _ _ _ h => h) (Or.inl ⟨by rfl, ?_⟩) ?_ ?_
     rotate_left
     ·intro w'
      go_simp
      with_reducible rfl
     rotate_left
     ·simp only [Act.put, Qp1, Qp2, Qp3, i64_w, i32_w]
      rfl
     refine last_ (i := 23) (N := none) (Qbz 24 16777215) rfl rfl (by kernel_rfl) (by decide) (fun K hK => ?_)
     refine skip_ (w1 := ?_) (by rfl) rfl ?_ ?_
     rotate_left
     ·go_simp
      rfl
     refine hK.out _ _ ?_
     clear hK K
     refine done_ (by kernel_rfl) ?_
     go_wp2
     go_roundg gi
     case measure => omega
     case rel => exact ⟨i + 1, C.set i true, by go_num, by omega, HM2, ⟨WAt.drew (HW10.out.mark i true)⟩, ⟨below_drew (HB11.out.setCell hHc _)⟩⟩
   ·have hi1 : ((i : Int) < (E.length : Int)) = False := eq_false (by omega)
    have hi2 : decide ((i : Int) < (E.length : Int)) = false := decide_eq_false (by omega)
    obtain rfl : gk = 0 := by omega
    obtain rfl : C = CF := HM.out
    clear HM
    go_wp2
    obtain ⟨FIN, hFIN⟩ : ∃ r, spAll E g2 (E.length + 1) (C, s.bk) = r := ⟨_, rfl⟩
    have HRR : Aside0 (some (⟨g2, h2, FIN.2, FIN.1⟩ : OS) = R) := ⟨by
     have := HR.out
     unfold stepO at this
     rw [HG2.out, HH2.out, HCF0.out, hFIN] at this
     exact this⟩
    have HFIN := Aside0.mk hFIN
    have hCl := HW.out.len
    dsimp only at hCl
    have HCT : Aside0 (cntT C < E.length + 1) := ⟨by have := cntT_le C; omega⟩
    clear hFIN HR HCF0
    go_loopg [77] (E.length + 1) (fun kq v77 w' => ∃ (C : List Bool) (b : Bool), Aside0 (spAll E g2 kq (C, b) = FIN ∧ cntT C < kq) ∧ Aside0 (WAt w' p gc cc A cE ad E ⟨g2, h2, b, C⟩) ∧ Aside0 (Below H w w'))
    case atStart => exact ⟨C, s.bk, ⟨HFIN.out, HCT.out⟩, HW, HB⟩
    case round =>
     clear HFIN HCT HW HB hCl
     obtain ⟨C2, b2, HM, HW, HB⟩ := hrel
     cases gk with
     | zero => exact absurd HM.out.2 (by omega)
     | succ gi =>
     have hm := HM.out.1
     have hct := HM.out.2
     rw [spAll] at hm
     obtain ⟨RO, hRO⟩ : ∃ r, spOut E g2 C2 E.length 0 = r := ⟨_, rfl⟩
     dsimp only at hm
     rw [hRO] at hm
     have HSP := Aside0.mk (spread_calls p gc cc A cE ad E ⟨g2, h2, b2, C2⟩ hE HE2.out hg2 H hHp hHc RO hRO wr (by have := HB.out.size; omega) HW.out)
     cases RO with
     | none =>
      dsimp only at hm
      subst hm
      clear hRO hct HM
      go_wp2_with (go_at_call 79; refine HSP.out.mono ?_; rintro e w3 ⟨rfl, hw3, hb3⟩)
      go_ret
      rw [← HRR.out]
      exact ⟨rfl, hw3, HB.out.trans hb3⟩
     | some j =>
      dsimp only at hm
      have hlt := cntT_lt C2 j (spOut_true E g2 C2 _ _ _ hRO)
      have HM2 : Aside0 (spAll E g2 gi (C2.set j false, true) = FIN ∧ cntT (C2.set j false) < gi) := ⟨hm, by omega⟩
      clear hRO hct HM hm hlt
      go_wp2_with (go_at_call 79; refine HSP.out.mono ?_; rintro e w3 ⟨rfl, hw3, hb3⟩; have HW3 := Aside0.mk hw3; have HB3 := Aside0.mk (HB.out.trans hb3); have fz4 := blk_frozen hw3.blk 4; have hc4 : w3.cell? ⟨p, 4, none⟩ = some (.bool b2) := (blk_cell hw3.blk 4).trans rfl; clear hw3 hb3)
      go_roundg gi
      case measure => omega
      case rel => exact ⟨C2.set j false, true, HM2, ⟨WAt.field (s := ⟨g2, h2, b2, C2.set j false⟩) (s2 := ⟨g2, h2, true, C2.set j false⟩) (j := 4) (v := .bool true) HW3.out rfl rfl⟩, ⟨HB3.out.setCell hHp _⟩⟩
end Go.Proofs.YtijfddobandcdaaDoor.X
end
section
/- (town).watch, by hand: the streets of a town. -/
namespace Go.Proofs.YtijfddobandcdaaDoor.X
open Go.RowKit Go.Shelf YtijfddobandcdaaDoorW.PrintWords YtijfddobandcdaaDoorW.PrintLast YtijfddobandcdaaDoorW.PrintMore YtijfddobandcdaaDoor.T
attribute [local go_sem] Oper.semAt_some
theorem info117 : (Tryd.prog.info? 117).map (fun i => (i.zero, i.size, i.bytes)) = some (some (.agg #[(.int .i64 0), (.int .i64 0)]), 2, 16) := by kernel_rfl
theorem startR_ {P : Program} {ops : Array Oper} {Q : Exit → Act → World → Prop} {S : World → Prop} {ds : List Nat} {l m : Nat} {id n : Nat} {a : Act} {w : World} (h1 : 1 ≤ m) (hd : noDefer ops = true) (hQ : ¬ LetsOut Q) (ls : Array Bool) (hm : P.follows .mixedOrders = true) (hn : ops.size = n) (hl : Array.replicate n false = ls) (hS : S w.drew)
  (h : S w.drew → wpAnyLast P .any ops Q S ds n ls a w.drew) : (Code.region id ops true).wpIn (Fence.wide.inRound l) m P Q a w := by
 subst hn
 subst hl
 exact region_round h1 hm hd hQ (wpAny_of_last _ _ _ _ (h hS))
def onlyN (Q : Exit → Act → World → Prop) : Exit → Act → World → Prop
 | .normal, a, w => Q .normal a w
 | _, _, _ => False
theorem onlyN_n {Q : Exit → Act → World → Prop} {a : Act} {w : World} (h : Q .normal a w) : onlyN Q .normal a w := h
theorem wpOpW_of_wpOp {n : Nat} (h1 : 1 ≤ n) {P : Program} {ops : Array Oper} {Q : Exit → Act → World → Prop} (hd : noDefer ops = true) (i : Nat) (K K' : Act → World → Prop) (hK : ∀ a w, K a w → K' a w) (a : Act) (w : World)
  (h : wpOp P ops (onlyN Q) i K a w) : wpOpIn Fence.wide n P ops Q i K' a w := by
 unfold wpOp at h
 unfold wpOpIn
 cases ho : ops[i]? with
 | none => rw [ho] at h; exact hK _ _ h
 | some o =>
  rw [ho] at h
  simp only at h ⊢
  split at h
  ·rename_i hw
   rw [if_pos hw]
   refine ⟨fun _ _ => trivial, ?_⟩
   have hno : ∀ c, o.op ≠ .defer c := fun c hc => by
    unfold noDefer at hd
    rw [Array.all_eq_true] at hd
    obtain ⟨hi, he⟩ := Array.getElem?_eq_some_iff.1 ho
    have := hd i hi
    rw [he, hc] at this
    cases this
   rw [Oper.semAt_eq _ _ _ hno]
   rcases h with h | ⟨_, h⟩
   ·unfold Oper.wp at h
    generalize (execOp a.eval o).run P w = r at h
    cases r with
    | ok x w' =>
     cases x with
     | value v => exact hK _ _ h
     | skip => exact hK _ _ h
     | defer d => exact hK _ _ h
     | enter f args =>
      refine ⟨fun _ => h1, callsIn_wide.2 (Calls.mono h ?_)⟩
      intro e w2 h2
      cases e with
      | returned v => exact hK _ _ h2
      | panicked ch => exact h2.elim
      | outgrown => exact (by obtain ⟨_, _, h3⟩ := h2; exact h3 : False).elim
     | row r args =>
      exact ⟨fun _ => h1, fun c cs _ => let ⟨v, w2, h2, s⟩ := h c cs; ⟨v, w2, hK _ _ h2, stepsIn_wide.2 s⟩⟩
     | _ => exact h.elim
    | halt x w' =>
     cases x with
     | panic v => exact h.elim
     | _ => exact h.elim
   ·exact (by obtain ⟨_, _, h⟩ := h; exact h : False).elim
  ·rename_i hw
   rw [if_neg hw]
   exact ⟨fun _ _ => trivial, hK _ _ h⟩
theorem wpAnyW_of_wpAny {n : Nat} (h1 : 1 ≤ n) {P : Program} {md : Region.Mode} {ops : Array Oper} {Q : Exit → Act → World → Prop} (hd : noDefer ops = true) : ∀ (fuel : Nat) (listed : Array Bool) (a : Act) (w : World),
  wpAny P md ops (onlyN Q) fuel listed a w → wpAnyIn Fence.wide n P md ops Q fuel listed a w := by
 intro fuel
 induction fuel with
 | zero => exact fun _ _ _ h => h
 | succ fuel ih => exact fun _ _ _ h => ⟨h.1, fun i hi => wpOpW_of_wpOp h1 hd i _ _ (fun a w hk => ih _ a w hk) _ _ (h.2 i hi)⟩
theorem startW_ {P : Program} {ops : Array Oper} {Q : Exit → Act → World → Prop} {S : World → Prop} {ds : List Nat} {m : Nat} {id n : Nat} {a : Act} {w : World} (h1 : 1 ≤ m) (hd : noDefer ops = true) (ls : Array Bool) (hm : P.follows .mixedOrders = true) (hn : ops.size = n) (hl : Array.replicate n false = ls) (hS : S w.drew)
  (h : S w.drew → wpAnyLast P .any ops (onlyN Q) S ds n ls a w.drew) : (Code.region id ops true).wpIn Fence.wide m P Q a w := by
 subst hn
 subst hl
 exact wpIn_region_any hm (wpAnyW_of_wpAny h1 hd _ _ _ _ (wpAny_of_last _ _ _ _ (h hS)))
def flatE : List (Nat × Nat) → List Value
 | [] => []
 | p :: l => .int .i64 (p.1 : Int) :: .int .i64 (p.2 : Int) :: flatE l
theorem flatE_snoc : ∀ (l : List (Nat × Nat)) (p : Nat × Nat), flatE (l ++ [p]) = flatE l ++ [.int .i64 (p.1 : Int), .int .i64 (p.2 : Int)]
 | [], _ => rfl
 | q :: l, p => by simp only [List.cons_append, flatE]; rw [flatE_snoc l p]
theorem flatE_at : ∀ (l : List (Nat × Nat)) (i : Nat), i < l.length → (flatE l)[i * 2]? = some (.int .i64 ((l.getD i (0, 0)).1 : Nat)) ∧ (flatE l)[i * 2 + 1]? = some (.int .i64 ((l.getD i (0, 0)).2 : Nat))
 | [], i, h => by simp at h
 | p :: l, 0, _ => by simp [flatE]
 | p :: l, i + 1, h => by
  have := flatE_at l i (by simpa using h)
  rw [show (i + 1) * 2 = i * 2 + 2 by omega]
  simp only [flatE, List.getElem?_cons_succ, List.getD_cons_succ]
  exact this
theorem own_streets {W : World} {H : Nat} {v : Value} {xs : List (Nat × Nat)} (h : W.ownsRow H 117 2 v xs.length (flatE xs)) : ∃ A cE ad, v = .slice A xs.length cE ∧ (0 < xs.length → A = some ad ∧ v.ownBlock = some ad.block) ∧ ∀ i, i < xs.length → W.cell? (ad.add (i * 2)) = some (.int .i64 ((xs.getD i (0, 0)).1 : Nat)) ∧ W.cell? ⟨(ad.add (i * 2)).block, (ad.add (i * 2)).off + 1, none⟩ = some (.int .i64 ((xs.getD i (0, 0)).2 : Nat)) := by
 obtain ⟨hl, h | ⟨g, cap, cur, rfl, hb, hg, h1, h2, h3, h4⟩⟩ := h
 ·obtain ⟨rfl, h0⟩ := h
  exact ⟨none, 0, ⟨0, 0, none⟩, by rw [h0], fun hn => by omega, fun i hi => by omega⟩
 ·have hc : ∀ j u, (flatE xs)[j]? = some u → W.cell? ⟨g, j, none⟩ = some u := fun j u hu => by
   rw [blk_cell hg]
   rw [← h4, List.getElem?_take] at hu
   split at hu
   ·simpa using hu
   ·cases hu
  refine ⟨_, cap, ⟨g, 0, none⟩, rfl, fun _ => ⟨rfl, rfl⟩, fun i hi => ?_⟩
  obtain ⟨q1, q2⟩ := flatE_at xs i hi
  rw [Addr.add_lit, Nat.zero_add]
  exact ⟨hc _ _ q1, hc _ _ q2⟩
structure FIW (w : World) (G : List Nat) (W : World) (i : Nat) (xs : List (Nat × Nat)) (v : Value) (ds : List Deferred) : Prop where
 go : xs ++ esFrom G (G.length - i) i = streets G
 below : Below w.heap.size w W
 q : Boxed W (w.heap.size + 1) 97 (.pointer (some ⟨w.heap.size, 0, none⟩))
 blk : W.heap[w.heap.size]? = some (.cells #[v, .slice none 0 0, .int .i64 0, .int .i64 0, .bool false] 102 (0, 0))
 own : W.ownsRow (w.heap.size + 2) 117 2 v xs.length (flatE xs)
 marks : Marks w.heap.size W.heap.size ds W
 top : w.heap.size + 2 ≤ W.heap.size
structure FKW (w : World) (aB c a : Nat) (tgt : List (Nat × Nat)) (ds : List Deferred) (z : Nat) (V : World) (xs : List (Nat × Nat)) (v : Value) : Prop where
 go : xs ++ esOf a z = tgt
 below : Below w.heap.size w V
 q : Boxed V (w.heap.size + 1) 97 (.pointer (some ⟨w.heap.size, 0, none⟩))
 blk : V.heap[w.heap.size]? = some (.cells #[v, .slice none 0 0, .int .i64 0, .int .i64 0, .bool false] 102 (0, 0))
 own : V.ownsRow (w.heap.size + 2) 117 2 v xs.length (flatE xs)
 ab : Boxed V aB 3 (.int .i64 (a : Int))
 apart : ∀ b, v.ownBlock = some b → b ≠ c
 marks : Marks w.heap.size c ds V
 top : c < V.heap.size
theorem cells_new2 (W : World) (cs : List Value) (e : TypeId) (j : Nat) (u : Value) (hu : cs[j]? = some u) : (W.alloc (.cells cs.toArray e)).cell? ((⟨W.heap.size, 0, none⟩ : Addr).add j) = some u := by
 rw [Addr.add_lit, Nat.zero_add]
 unfold World.cell?
 rw [show (W.alloc (.cells cs.toArray e)).heap[(⟨W.heap.size, j, none⟩ : Addr).block]? = _ from World.alloc_heap_new W _]
 simpa using hu
theorem own_ne_t {W : World} {base g : Nat} {e t : TypeId} {size : Nat} {v : Value} {k : Nat} {xs : List Value} {cs : Array Value} {fz : Nat × Nat} (h : W.ownsRow base e size v k xs) (hb : W.heap[g]? = some (.cells cs t fz)) (hne : e ≠ t) : some g ≠ v.ownBlock := by
 rcases h.2 with ⟨rfl, _⟩ | ⟨g2, cap, cur, rfl, _, hg, _⟩
 ·simp [Value.ownBlock]
 ·intro e2
  obtain rfl : g = g2 := by simpa [Value.ownBlock] using e2
  rw [hg] at hb
  injection hb with hb
  injection hb with _ h2
  exact hne h2
theorem FKW.kept {w : World} {aB c a : Nat} {tgt : List (Nat × Nat)} {ds : List Deferred} {z : Nat} {V V2 : World} {xs : List (Nat × Nat)} {v : Value} {row : Option Nat} (h : FKW w aB c a tgt ds z V xs v) (h2 : w.heap.size + 2 ≤ aB) (h3 : aB < c) (hg : V.grownBy V2 row) (hr : ∀ r, row = some r → w.heap.size ≤ r ∧ (r = c ∨ c < r ∧ ∃ o : Obj, V.heap[r]? = some o ∧ o.isCells = false)) : FKW w aB c a tgt ds z V2 xs v := by
 have ne : ∀ b, b < c → some b ≠ row := fun b hb e => by
  obtain ⟨_, h | ⟨h, _⟩⟩ := hr b e.symm <;> omega
 refine ⟨h.go, h.below.grown hg h.below.size (fun k e => (hr k e).1), h.q.kept hg (ne _ (by omega)), (hg.block _ (by have := h.top; omega) (ne _ (by omega))).trans h.blk, own_kept h.own hg (fun b hb e => ?_), h.ab.kept hg (ne _ h3), h.apart, h.marks.low (fun D hD => hg.block D (by have := h.top; omega) (ne D hD)), Nat.lt_of_lt_of_le h.top hg.size⟩
 obtain ⟨_, h4 | ⟨_, o2, ho2, hc2⟩⟩ := hr b e.symm
 ·exact h.apart b hb h4
 ·rw [own_cell h.own b hb o2 ho2] at hc2
  cases hc2
theorem FKW.alloc {w : World} {aB c a : Nat} {tgt : List (Nat × Nat)} {ds : List Deferred} {z : Nat} {V : World} {xs : List (Nat × Nat)} {v : Value} (h : FKW w aB c a tgt ds z V xs v) (h2 : w.heap.size + 2 ≤ aB) (h3 : aB < c) (o : Obj) : FKW w aB c a tgt ds z (V.alloc o) xs v :=
 h.kept h2 h3 (World.grownBy_alloc V o none) (fun r e => by cases e)
theorem FKW.drew {w : World} {aB c a : Nat} {tgt : List (Nat × Nat)} {ds : List Deferred} {z : Nat} {V : World} {xs : List (Nat × Nat)} {v : Value} (h : FKW w aB c a tgt ds z V xs v) : FKW w aB c a tgt ds z V.drew xs v :=
 ⟨h.go, h.below.drew, h.q, h.blk, h.own, h.ab, h.apart, Marks.low (W := V) (V := V.drew) (fun _ _ => rfl) h.marks, h.top⟩
theorem FKW.pcell {w : World} {aB c a : Nat} {tgt : List (Nat × Nat)} {ds : List Deferred} {z : Nat} {V : World} {xs : List (Nat × Nat)} {v : Value} (h : FKW w aB c a tgt ds z V xs v) : V.cell? ⟨w.heap.size, 0, none⟩ = some v := (blk_cell h.blk 0).trans rfl
theorem FKW.appended {w : World} {aB c a y : Nat} {tgt : List (Nat × Nat)} {ds : List Deferred} {z z2 : Nat} {V w5 : World} {xs : List (Nat × Nat)} {v : Value} {o : Obj} {g2 cp2 : Nat} (h : FKW w aB c a tgt ds z V xs v) (h2 : w.heap.size + 2 ≤ aB) (h3 : aB < c) (hgo : (xs ++ [(a, y)]) ++ esOf a z2 = tgt)
  (hown : w5.ownsRow (w.heap.size + 2) 117 2 (.slice (some ⟨g2, 0, none⟩) (xs.length + 1) cp2) (xs.length + 1) (flatE xs ++ [.int .i64 (a : Int), .int .i64 (y : Int)])) (hg : (V.alloc o).grownBy w5 v.ownBlock) (hat : v.ownBlock = some g2 ∨ g2 = V.heap.size + 1) :
  KeepsOthers V (w5.setCell ⟨w.heap.size, 0, none⟩ (.slice (some ⟨g2, 0, none⟩) (xs.length + 1) cp2)) ∧ (w5.setCell ⟨w.heap.size, 0, none⟩ (.slice (some ⟨g2, 0, none⟩) (xs.length + 1) cp2)).heap[c]? = V.heap[c]? ∧
  FKW w aB c a tgt ds z2 (w5.setCell ⟨w.heap.size, 0, none⟩ (.slice (some ⟨g2, 0, none⟩) (xs.length + 1) cp2)) (xs ++ [(a, y)]) (.slice (some ⟨g2, 0, none⟩) (xs.length + 1) cp2) := by
 have htop := h.top
 have hgz := hg.size
 have hvH : ∀ b, v.ownBlock = some b → w.heap.size + 2 ≤ b := own_base h.own
 have hg2 : w.heap.size + 2 ≤ g2 := by
  have := own_base hown g2 rfl
  omega
 have hk5 : ∀ b, b < V.heap.size → some b ≠ v.ownBlock → w5.heap[b]? = V.heap[b]? := fun b hb hne => (hg.block b (by simp; omega) hne).trans (Below.heap_alloc _ _ _ hb)
 have hk : ∀ b, b < V.heap.size → some b ≠ v.ownBlock → b ≠ w.heap.size → (w5.setCell ⟨w.heap.size, 0, none⟩ (.slice (some ⟨g2, 0, none⟩) (xs.length + 1) cp2)).heap[b]? = V.heap[b]? := fun b hb hne hp => (Below.heap_setCell w5 ⟨w.heap.size, 0, none⟩ _ b hp).trans (hk5 b hb hne)
 have hcne : some c ≠ v.ownBlock := fun e => h.apart c e.symm rfl
 have hK : KeepsOthers V (w5.setCell ⟨w.heap.size, 0, none⟩ (.slice (some ⟨g2, 0, none⟩) (xs.length + 1) cp2)) := by
  refine ((KeepsOthers.alloc V o).trans (KeepsOthers.of_grownBy hg fun j o2 ej hj => ?_)).trans (KeepsOthers.setCell _ _ _)
  exact own_cell (h.own.alloc o) j ej o2 hj
 refine ⟨hK, hk c htop hcne (by omega), hgo, ?_, ?_, ?_, ?_, ?_, fun b hb => ?_, h.marks.others hK, Nat.lt_of_lt_of_le htop hK.size⟩
 ·refine Below.setCell (p := ⟨w.heap.size, 0, none⟩) ((below_alloc h.below o).grown hg (by have := h.below.size; simp; omega) (fun k e => ?_)) (Nat.le_refl _) _
  have := hvH k e
  omega
 ·exact (hk _ (by omega) (own_ne_t h.own h.q (by decide)) (by omega)).trans h.q
 ·have := blk_set ((hk5 w.heap.size (by omega) (own_ne_t h.own h.blk (by decide))).trans h.blk) 0 (.slice (some ⟨g2, 0, none⟩) (xs.length + 1) cp2)
  rw [this]
  rfl
 ·rw [List.length_append, flatE_snoc]
  exact own_kept hown (grownBy_set _ ⟨w.heap.size, 0, none⟩ _) (fun b hb e => by
   obtain rfl : g2 = b := by simpa [Value.ownBlock] using hb
   have e2 : g2 = w.heap.size := Option.some.inj e
   omega)
 ·exact (hk _ (by omega) (own_ne_t h.own h.ab (by decide)) (by omega)).trans h.ab
 ·obtain rfl : g2 = b := by simpa [Value.ownBlock] using hb
  rcases hat with e | e
  ·exact h.apart g2 e
  ·omega
set_option maxHeartbeats 8000000 in
set_option maxRecDepth 100000 in
theorem watch_calls (A0 : Option Addr) (c0 : Nat) (G : List Nat) (hG : Gr 7 G) (hc0 : G.length ≤ c0) (w : World) (hGL : GL w) (hr0 : Kd.C (Kd.int .i64) w A0 (gi G).length (gi G)) :
  Calls Tryd.prog 64 #[.slice A0 G.length c0] w fun e w' => ∃ gc A cE ad, e = .returned (.pointer (some ⟨w.heap.size, 0, none⟩)) ∧ WAt w' w.heap.size gc (streets G).length A cE ad (streets G) (o0 (streets G)) ∧ w.heap.size ≤ gc ∧ Below w.heap.size w w' := by
 have hn := hG.most
 have HG := Aside0.mk hG
 have HR := Aside0.mk hr0
 have HL := Aside0.mk (gi_length G)
 clear hr0 hG
 obtain ⟨i8, hi8, hy0, hy1, hy2⟩ := info_parts info117
 refine (callsIn_wide (n := 4)).1 ?_
 refine callsIn_of_wp_marks Tryd.func64 rfl trivial ?_ rfl
 simp only [Tryd.ntmps64, List.size_toArray, List.length_cons, List.length_nil, Nat.reduceAdd, Nat.reduceSub, Array.replicate_succ, Array.replicate_zero, List.push_toArray, List.append_toArray, List.nil_append, List.cons_append]
 gi_wp2
 have hW0 : FIW w G ((w.alloc (.cells #[.slice none 0 0, .slice none 0 0, .int .i64 0, .int .i64 0, .bool false] 102)).alloc (.cells #[.pointer (some ⟨w.heap.size, 0, none⟩)] 97)) 0 [] (.slice none 0 0) [] := by
  refine ⟨by simp [streets], below_alloc (below_alloc (Below.refl _ _) _) _, ?_, ?_, World.ownsRow_nil _ _ _ _, trivial, by simp⟩
  ·simpa using Boxed.new (w.alloc (.cells #[.slice none 0 0, .slice none 0 0, .int .i64 0, .int .i64 0, .bool false] 102)) 97 (.pointer (some ⟨w.heap.size, 0, none⟩))
  ·exact (Below.heap_alloc _ _ _ (by simp)).trans (World.alloc_heap_new w _)
 obtain ⟨Inv, hInv⟩ : ∃ Inv : Act → World → Prop, Inv = (fun a W => ∃ (u4 u5 u6 u12 u13 u14 u15 u16 u17 u18 u19 u20 u21 u22 u23 u24 u25 u26 u27 u28 u29 u30 u31 u32 u33 u34 u35 u36 u37 u38 u39 u40 u41 u42 u43 u44 : Value) (ds : List Deferred) (i : Nat) (xs : List (Nat × Nat)) (v : Value), a = { tmps := #[.slice A0 G.length c0, undef, .pointer none, .pointer (some ⟨w.heap.size + 1, 0, none⟩), u4, u5, u6, .agg #[.slice none 0 0, .slice none 0 0, .int .i64 0, .int .i64 0, .bool false], .pointer (some ⟨w.heap.size, 0, none⟩), .slice A0 G.length c0, .int .i64 (G.length : Int), .int .i64 (i : Int), u12, u13, u14, u15, u16, u17, u18, u19, u20, u21, u22, u23, u24, u25, u26, u27, u28, u29, u30, u31, u32, u33, u34, u35, u36, u37, u38, u39, u40, u41, u42, u43, u44], defers := ds } ∧ FIW w G W i xs v ds) := ⟨_, rfl⟩
 obtain ⟨Me, hMe⟩ : ∃ Me : Act → World → Nat, Me = (fun a _ => match a.tmps.getD 11 undef with | .int _ z => G.length - z.toNat | _ => 0) := ⟨_, rfl⟩
 have HInv := Aside0.mk hInv
 have HMe := Aside0.mk hMe
 clear hInv hMe
 refine wpIn_loop Inv Me ?_ ?_
 ·rw [HInv.out]
  iterate 36 apply Exists.intro
  exact ⟨[], 0, [], .slice none 0 0, rfl, hW0⟩
 ·intro a W hIa
  rw [HInv.out] at hIa
  obtain ⟨u4, u5, u6, u12, u13, u14, u15, u16, u17, u18, u19, u20, u21, u22, u23, u24, u25, u26, u27, u28, u29, u30, u31, u32, u33, u34, u35, u36, u37, u38, u39, u40, u41, u42, u43, u44, ds, i, xs, v, rfl, hJ⟩ := hIa
  clear hW0
  by_cases hil : i < G.length
  ·have hi1 : ((i : Int) < (G.length : Int)) = True := eq_true (by omega)
   have hi2 : decide ((i : Int) < (G.length : Int)) = true := decide_eq_true (by omega)
   obtain ⟨ad, e0, hgx⟩ := Kd.at_int (Kd.C_below HR.out hJ.below) (i : Int) (by omega) (by rw [gi_length]; omega)
   subst e0
   rw [rd_gi, Int.toNat_natCast] at hgx
   have hrl := HG.out.row i
   have h27 : 2 ^ G.length ≤ 2 ^ 7 := Nat.pow_le_pow_right (by omega) hn
   have hgo := hJ.go
   rw [show G.length - i = (G.length - (i + 1)) + 1 by omega] at hgo
   simp only [esFrom] at hgo
   obtain ⟨s, hs⟩ : ∃ s, G.getD i 0 = s := ⟨_, rfl⟩
   rw [hs] at hgx hgo hrl
   have hs7 : s < 128 := Nat.lt_of_lt_of_le hrl h27
   have HGO := Aside0.mk hgo
   clear hgo hs hrl h27
   gi_wp2_with (refine ⟨trivial, ?_⟩; refine (callsIn_wide.2 (sweep_nodes.calls _ _)).mono ?_; rintro e w' ⟨rfl, rfl⟩)
   have hwz := hJ.below.size
   have hWA : w.heap.size + 2 ≤ W.heap.size := hJ.top
   have HXL : Aside0 ((xs ++ esOf i s).length ≤ 896) := ⟨by
    have h1 := streets_len HG.out
    rw [← HGO.out, ← List.append_assoc, List.length_append] at h1
    omega⟩
   refine range_nodes (by omega) (c := W.heap.size + 1) rfl w hGL (by omega) s (by omega) ?_ (fun z V => ∃ xs2 v2, FKW w W.heap.size (W.heap.size + 1) i (xs ++ esOf i s) ds z V xs2 v2) (fun _ _ => False) (fun z V h => by obtain ⟨_, _, h⟩ := h; exact h.below) ?_ (fun _ _ _ _ h _ _ => h) ?_ (fun x => { tmps := #[.slice (some ad) G.length c0, undef, .pointer none, .pointer (some ⟨w.heap.size + 1, 0, none⟩), .pointer (some ⟨W.heap.size, 0, none⟩), .int .i64 (s : Int), .int .i64 x, .agg #[.slice none 0 0, .slice none 0 0, .int .i64 0, .int .i64 0, .bool false], .pointer (some ⟨w.heap.size, 0, none⟩), .slice (some ad) G.length c0, .int .i64 (G.length : Int), .int .i64 (i : Int), .bool true, .int .i64 (i : Int), .pointer (some (ad.add i)), .int .i64 (s : Int), .int .i64 (s : Int), .func (.func 91) #[] #[.pointer (some ⟨W.heap.size + 1, 0, none⟩)], .int .i64 x, u19, u20, u21, u22, u23, u24, u25, u26, u27, u28, u29, u30, u31, u32, u33, u34, u35, u36, u37, u38, u39, u40, u41, u42, u43, u44], defers := [] }) ?_ ?_ ?_ (fun _ _ _ _ h _ => h.elim)
   ·simpa using Boxed.new (W.alloc (Obj.cells #[Value.int IntKind.i64 (i : Int)] 3)) 3 (.int .i64 (s : Int))
   ·rintro z V V2 row ⟨xs2, v2, hK⟩ hg' hbk
    refine ⟨xs2, v2, hK.kept hWA (by omega) hg' fun r e => ?_⟩
    rcases hbk r e with h | ⟨h, h2⟩
    ·exact ⟨by omega, .inl h⟩
    ·simp at h
     exact ⟨by omega, .inr ⟨by omega, h2⟩⟩
   ·refine ⟨xs, v, rfl, below_alloc (below_alloc hJ.below _) _, (hJ.q.alloc _).alloc _, ?_, (hJ.own.alloc _).alloc _, (Boxed.new W 3 _).alloc _, fun b hb => ?_, hJ.marks.low (fun D hD => ?_) |>.mono (by omega), by simp⟩
    ·exact (Below.heap_alloc _ _ _ (by simp; omega)).trans ((Below.heap_alloc _ _ _ (by omega)).trans hJ.blk)
    ·have := own_lt hJ.own b hb
     omega
    ·exact (Below.heap_alloc _ _ _ (by simp; omega)).trans (Below.heap_alloc _ _ _ (by omega))
   ·intro l x V K hK
    gi_wp2
    exact hK
   ·rintro l z V ⟨xs2, v2, hK⟩ hz hz2
    have hgk := hK.go
    rw [esOf, dif_neg (by omega)] at hgk
    have hac := hK.ab.cell
    generalize Lib.ctz 64 z = y at *
    have hbz := hK.below.size
    have htop := hK.top
    by_cases hlt : i < y
    ·have hl2 : decide ((i : Int) < (y : Int)) = true := decide_eq_true (by omega)
     have hl1 : decide (i < y) = true := decide_eq_true hlt
     rw [if_pos hlt, ← List.append_assoc] at hgk
     have hl3 : xs2.length ≤ 896 := by
      have := HXL.out
      rw [← hgk] at this
      simp only [List.length_append] at this
      omega
     have HGK := Aside0.mk hgk
     have hqd : V.drew.cell? ⟨w.heap.size + 1, 0, none⟩ = some (.pointer (some ⟨w.heap.size, 0, none⟩)) := hK.q.cell
     have hpd : V.drew.cell? ⟨w.heap.size, 0, none⟩ = some v2 := hK.pcell
     have had : V.drew.cell? ⟨W.heap.size, 0, none⟩ = some (.int .i64 (i : Int)) := hK.ab.cell
     have hKA := hK.alloc hWA (by omega) (.cells #[.int .i64 (i : Int), .int .i64 (y : Int)] 117)
     clear hgk hlt
     gi_wp2
     refine startR_ (by omega) (by kernel_rfl) (by rintro ⟨a, W, h⟩; exact h) (n := 13) (S := fun w' => w'.cell? ⟨w.heap.size + 1, 0, none⟩ = some (.pointer (some ⟨w.heap.size, 0, none⟩)) ∧ w'.cell? ⟨w.heap.size, 0, none⟩ = some v2 ∧ w'.cell? ⟨W.heap.size, 0, none⟩ = some (.int .i64 (i : Int))) (ds := [12]) (Qbz 13 0) (by kernel_rfl) rfl rfl ⟨hqd, hpd, had⟩ (fun hHeld => ?_)
     refine pure_ (i := 6) (N := some 28) (v := ?_) (a' := ?_) (Qbz 13 64) rfl rfl (by kernel_rfl) (fun _ _ _ h => h) (Or.inl ⟨by rfl, ?_⟩) ?_ ?_
     rotate_left
     ·intro w'
      go_simp
      with_reducible rfl
     rotate_left
     ·simp only [Act.put, Qp1, Qp2, Qp3, i64_w, i32_w]
      rfl
     refine take_ (i := 0) (N := some 22) (v := ?_) (a' := ?_) (Qbz 13 65) rfl rfl (by kernel_rfl) (fun _ _ _ h => h) (Or.inl ⟨by rfl, ?_⟩) hHeld ?_ ?_
     rotate_left
     ·rintro w' ⟨s0, s1, s2⟩
      go_simp
      with_reducible rfl
     rotate_left
     ·simp only [Act.put, Qp1, Qp2, Qp3, i64_w, i32_w]
      rfl
     refine take_ (i := 1) (N := some 23) (v := ?_) (a' := ?_) (Qbz 13 67) rfl rfl (by kernel_rfl) (fun _ _ _ h => h) (Or.inl ⟨by rfl, ?_⟩) hHeld ?_ ?_
     rotate_left
     ·rintro w' ⟨s0, s1, s2⟩
      go_simp
      with_reducible rfl
     rotate_left
     ·simp only [Act.put, Qp1, Qp2, Qp3, i64_w, i32_w]
      rfl
     refine pure_ (i := 2) (N := some 24) (v := ?_) (a' := ?_) (Qbz 13 71) rfl rfl (by kernel_rfl) (fun _ _ _ h => h) (Or.inl ⟨by rfl, ?_⟩) ?_ ?_
     rotate_left
     ·intro w'
      go_simp
      with_reducible rfl
     rotate_left
     ·simp only [Act.put, Qp1, Qp2, Qp3, i64_w, i32_w]
      rfl
     refine pure_ (i := 3) (N := some 25) (v := ?_) (a' := ?_) (Qbz 13 79) rfl rfl (by kernel_rfl) (fun _ _ _ h => h) (Or.inl ⟨by rfl, ?_⟩) ?_ ?_
     rotate_left
     ·intro w'
      go_simp
      with_reducible rfl
     rotate_left
     ·simp only [Act.put, Qp1, Qp2, Qp3, i64_w, i32_w]
      rfl
     refine take_ (i := 4) (N := some 26) (v := ?_) (a' := ?_) (Qbz 13 95) rfl rfl (by kernel_rfl) (fun _ _ _ h => h) (Or.inl ⟨by rfl, ?_⟩) hHeld ?_ ?_
     rotate_left
     ·rintro w' ⟨s0, s1, s2⟩
      go_simp
      with_reducible rfl
     rotate_left
     ·simp only [Act.put, Qp1, Qp2, Qp3, i64_w, i32_w]
      rfl
     refine take_ (i := 5) (N := some 27) (v := ?_) (a' := ?_) (Qbz 13 127) rfl rfl (by kernel_rfl) (fun _ _ _ h => h) (Or.inl ⟨by rfl, ?_⟩) hHeld ?_ ?_
     rotate_left
     ·rintro w' ⟨s0, s1, s2⟩
      go_simp
      with_reducible rfl
     rotate_left
     ·simp only [Act.put, Qp1, Qp2, Qp3, i64_w, i32_w]
      rfl
     refine pure_ (i := 7) (N := some 29) (v := ?_) (a' := ?_) (Qbz 13 255) rfl rfl (by kernel_rfl) (fun _ _ _ h => h) (Or.inl ⟨by rfl, ?_⟩) ?_ ?_
     rotate_left
     ·intro w'
      go_simp
      with_reducible rfl
     rotate_left
     ·simp only [Act.put, Qp1, Qp2, Qp3, i64_w, i32_w]
      rfl
     refine one_ (i := 8) (N := some 30) (Qbz 13 511) rfl rfl (by kernel_rfl) (by decide) (fun K hK => ?_)
     refine value_ (w1 := ?_) (v := ?_) (by rfl) rfl ?_ ?_
     rotate_left 2
     ·go_simp
      constructor
      ·rfl
      ·rfl
     refine hK.out _ _ ⟨hKA.q.cell, hKA.pcell, hKA.ab.cell⟩ (fun hHeld => ?_)
     clear hK K
     refine norm_ (a' := ?_) ?_ ?_
     rotate_left
     ·show Act.put _ (some 30) _ = _
      simp only [Act.put, Qp1, Qp2, Qp3, i64_w, i32_w]
      rfl
     refine one_ (i := 9) (N := some 31) (Qbz 13 1023) rfl rfl (by kernel_rfl) (by decide) (fun K hK => ?_)
     refine step_append_lies _ (by rfl) _ _ 100 (by rfl) (w.heap.size + 2) 117 i8 (.agg #[(.int .i64 0), (.int .i64 0)]) 2 16 Tryd.underlying100 hi8 hy0 hy1 hy2 rfl (by decide) v2 xs2.length (flatE xs2) rfl hKA.own ⟨V.heap.size, 0, none⟩ 1 1 [.int .i64 (i : Int), .int .i64 (y : Int)] rfl rfl (by intro j u hu; exact cells_new2 V _ _ j u hu) (by simp [Value.oneCell']) (by omega) (by unfold maxLen; omega) (by omega) (by simp; omega) (V.heap.size + 1) (by simp) ?_
     intro g2 cap2 w5 hown5 hgr5 hat5 hlt5
     have hgrow5 : (V.alloc (.cells #[.int .i64 (i : Int), .int .i64 (y : Int)] 117)).grownBy w5 v2.ownBlock := ⟨hgr5.os, hgr5.tape, hgr5.output, hgr5.size, hgr5.block⟩
     have hb5 := blk_grown hKA.blk hgrow5 (own_ne_t hKA.own hKA.blk (by decide))
     have hc5 : w5.cell? ⟨w.heap.size, 0, none⟩ = some v2 := (blk_cell hb5 0).trans rfl
     have hfr5 := blk_frozen hb5 0
     refine hK.out _ _ ⟨(hKA.q.kept hgrow5 (own_ne_t hKA.own hKA.q (by decide))).cell, hc5, (hKA.ab.kept hgrow5 (own_ne_t hKA.own hKA.ab (by decide))).cell⟩ (fun hHeld => ?_)
     clear hK K
     refine norm_ (a' := ?_) ?_ ?_
     rotate_left
     ·show Act.put _ (some 31) _ = _
      simp only [Act.put, Qp1, Qp2, Qp3, i64_w, i32_w]
      rfl
     refine pure_ (i := 10) (N := some 32) (v := ?_) (a' := ?_) (Qbz 13 2047) rfl rfl (by kernel_rfl) (fun _ _ _ h => h) (Or.inl ⟨by rfl, ?_⟩) ?_ ?_
     rotate_left
     ·intro w'
      go_simp
      with_reducible rfl
     rotate_left
     ·simp only [Act.put, Qp1, Qp2, Qp3, i64_w, i32_w]
      rfl
     refine pure_ (i := 11) (N := some 33) (v := ?_) (a' := ?_) (Qbz 13 4095) rfl rfl (by kernel_rfl) (fun _ _ _ h => h) (Or.inl ⟨by rfl, ?_⟩) ?_ ?_
     rotate_left
     ·intro w'
      go_simp
      with_reducible rfl
     rotate_left
     ·simp only [Act.put, Qp1, Qp2, Qp3, i64_w, i32_w]
      rfl
     refine last_ (i := 12) (N := none) (Qbz 13 8191) rfl rfl (by kernel_rfl) (by decide) (fun K hK => ?_)
     refine skip_ (w1 := ?_) (by rfl) rfl ?_ ?_
     rotate_left
     ·go_simp
      rfl
     refine hK.out _ _ ?_
     clear hK K
     refine done_ (by kernel_rfl) ?_
     gi_wp2
     obtain ⟨q1, q2, q3⟩ := hK.appended hWA (by omega) HGK.out hown5 hgrow5 hat5
     exact ⟨q1, q2, _, _, q3⟩
    ·have hl2 : decide ((i : Int) < (y : Int)) = false := decide_eq_false (by omega)
     have hl1 : decide (i < y) = false := decide_eq_false hlt
     rw [if_neg hlt, List.nil_append] at hgk
     gi_wp2
     exact ⟨KeepsOthers.refl _, rfl, xs2, v2, hgk, hK.below, hK.q, hK.blk, hK.own, hK.ab, hK.apart, hK.marks, hK.top⟩
   ·rintro D V hD ⟨xs2, v2, hK⟩ hDf
    have hgk := hK.go
    rw [esOf, dif_pos rfl, List.append_nil] at hgk
    simp only [World.size_alloc] at hD
    have htopV := hK.top
    have hDl := (Array.getElem?_eq_some_iff.1 hDf).1
    gi_wp2
    refine ⟨?_, ?_⟩
    ·rw [HInv.out]
     iterate 36 apply Exists.intro
     exact ⟨_, i + 1, xs2, v2, rfl, by rw [hgk, List.append_assoc]; exact HGO.out, hK.below, hK.q, hK.blk, hK.own, ⟨D, rfl, by omega, hDl, hDf, hK.marks.mono (by omega)⟩, by omega⟩
    ·rw [HMe.out]
     show G.length - (((i + 1 : Nat) : Int)).toNat < G.length - ((i : Int)).toNat
     rw [Int.toNat_natCast, Int.toNat_natCast]
     omega
  ·have hi1 : ((i : Int) < (G.length : Int)) = False := eq_false (by omega)
   have hi2 : decide ((i : Int) < (G.length : Int)) = false := decide_eq_false (by omega)
   have hgo := hJ.go
   rw [show G.length - i = 0 by omega] at hgo
   simp only [esFrom, List.append_nil] at hgo
   have hxl : xs.length ≤ 896 := by rw [hgo]; exact streets_len HG.out
   obtain ⟨A, cE, ad, rfl, hA, hcells⟩ := own_streets hJ.own
   have HCE := Aside0.mk hcells
   have HA := Aside0.mk hA
   have HGO := Aside0.mk hgo
   obtain ⟨i4, hi4, hp0, hp1, hp2⟩ := info_parts info4
   have hmake : ∀ W : World, (Instr.makeSlice 93 (.int .i64 (xs.length : Int)) (.int .i64 (xs.length : Int))).run Tryd.prog W = .ok (.slice (some ⟨W.heap.size, 0, none⟩) xs.length xs.length) (W.alloc (.cells (madeCells #[.bool false] xs.length) 4)) := fun W => by
    have := run_make (P := Tryd.prog) W 93 4 i4 (.bool false) Tryd.underlying93 hi4 hp0 .i64 .i64 (xs.length : Int) (xs.length : Int) (by omega) (by omega) (by rw [hp2]; omega) (by omega)
    rw [hp1] at this
    simpa [Value.cells] using this
   have htop := hJ.top
   have hqd : W.drew.cell? ⟨w.heap.size + 1, 0, none⟩ = some (.pointer (some ⟨w.heap.size, 0, none⟩)) := hJ.q.cell
   have hpd : W.drew.cell? ⟨w.heap.size, 0, none⟩ = some (.slice A xs.length cE) := (blk_cell hJ.blk 0).trans rfl
   have hpe : W.drew.cell? ⟨w.heap.size, 1, none⟩ = some (.slice none 0 0) := (blk_cell hJ.blk 1).trans rfl
   have hpf : W.drew.frozen? ⟨w.heap.size, 1, none⟩ = false := blk_frozen hJ.blk 1
   have HAL : Aside0 (∀ b, b < W.heap.size → (W.alloc (.cells (madeCells #[Value.bool false] xs.length) 4)).heap[b]? = W.heap[b]?) := ⟨fun b hb => Below.heap_alloc _ _ _ hb⟩
   clear hgo hA hcells hi4 hp0 hp1 hp2
   gi_wp2
   refine startW_ (by omega) (by kernel_rfl) (n := 10) (S := fun w' => w'.cell? ⟨w.heap.size + 1, 0, none⟩ = some (.pointer (some ⟨w.heap.size, 0, none⟩)) ∧ w'.cell? ⟨w.heap.size, 0, none⟩ = some (.slice A xs.length cE) ∧ w'.cell? ⟨w.heap.size, 1, none⟩ = some (.slice none 0 0) ∧ w'.frozen? ⟨w.heap.size, 1, none⟩ = false) (ds := [9]) (Qbz 10 0) (by kernel_rfl) rfl rfl ⟨hqd, hpd, hpe, hpf⟩ (fun hHeld => ?_)
   refine take_ (i := 0) (N := some 35) (v := ?_) (a' := ?_) (Qbz 10 1) rfl rfl (by kernel_rfl) (fun _ _ _ h => h) (Or.inl ⟨by rfl, ?_⟩) hHeld ?_ ?_
   rotate_left
   ·rintro w' ⟨s0, s1, s2, s3⟩
    go_simp
    with_reducible rfl
   rotate_left
   ·simp only [Act.put, Qp1, Qp2, Qp3, i64_w, i32_w]
    rfl
   refine take_ (i := 1) (N := some 36) (v := ?_) (a' := ?_) (Qbz 10 3) rfl rfl (by kernel_rfl) (fun _ _ _ h => h) (Or.inl ⟨by rfl, ?_⟩) hHeld ?_ ?_
   rotate_left
   ·rintro w' ⟨s0, s1, s2, s3⟩
    go_simp
    with_reducible rfl
   rotate_left
   ·simp only [Act.put, Qp1, Qp2, Qp3, i64_w, i32_w]
    rfl
   refine pure_ (i := 2) (N := some 37) (v := ?_) (a' := ?_) (Qbz 10 7) rfl rfl (by kernel_rfl) (fun _ _ _ h => h) (Or.inl ⟨by rfl, ?_⟩) ?_ ?_
   rotate_left
   ·intro w'
    go_simp
    with_reducible rfl
   rotate_left
   ·simp only [Act.put, Qp1, Qp2, Qp3, i64_w, i32_w]
    rfl
   refine pure_ (i := 3) (N := some 38) (v := ?_) (a' := ?_) (Qbz 10 15) rfl rfl (by kernel_rfl) (fun _ _ _ h => h) (Or.inl ⟨by rfl, ?_⟩) ?_ ?_
   rotate_left
   ·intro w'
    go_simp
    with_reducible rfl
   rotate_left
   ·simp only [Act.put, Qp1, Qp2, Qp3, i64_w, i32_w]
    rfl
   refine take_ (i := 4) (N := some 39) (v := ?_) (a' := ?_) (Qbz 10 31) rfl rfl (by kernel_rfl) (fun _ _ _ h => h) (Or.inl ⟨by rfl, ?_⟩) hHeld ?_ ?_
   rotate_left
   ·rintro w' ⟨s0, s1, s2, s3⟩
    go_simp
    with_reducible rfl
   rotate_left
   ·simp only [Act.put, Qp1, Qp2, Qp3, i64_w, i32_w]
    rfl
   refine pure_ (i := 5) (N := some 40) (v := ?_) (a' := ?_) (Qbz 10 63) rfl rfl (by kernel_rfl) (fun _ _ _ h => h) (Or.inl ⟨by rfl, ?_⟩) ?_ ?_
   rotate_left
   ·intro w'
    go_simp
    with_reducible rfl
   rotate_left
   ·simp only [Act.put, Qp1, Qp2, Qp3, i64_w, i32_w]
    rfl
   refine one_ (i := 6) (N := some 41) (Qbz 10 127) rfl rfl (by kernel_rfl) (by decide) (fun K hK => ?_)
   refine value_ (w1 := ?_) (v := ?_) (by rfl) rfl ?_ ?_
   rotate_left 2
   ·go_simp
    constructor
    ·rfl
    ·rfl
   refine hK.out _ _ ⟨(cell_same (HAL.out (w.heap.size + 1) (by omega))).trans hqd, (cell_same (HAL.out w.heap.size (by omega))).trans hpd, (cell_same (HAL.out w.heap.size (by omega))).trans hpe, (World.frozen?_of_block (HAL.out w.heap.size (by omega))).trans hpf⟩ (fun hHeld => ?_)
   clear hK K
   refine norm_ (a' := ?_) ?_ ?_
   rotate_left
   ·show Act.put _ (some 41) _ = _
    simp only [Act.put, Qp1, Qp2, Qp3, i64_w, i32_w]
    rfl
   refine pure_ (i := 7) (N := some 42) (v := ?_) (a' := ?_) (Qbz 10 255) rfl rfl (by kernel_rfl) (fun _ _ _ h => h) (Or.inl ⟨by rfl, ?_⟩) ?_ ?_
   rotate_left
   ·intro w'
    go_simp
    with_reducible rfl
   rotate_left
   ·simp only [Act.put, Qp1, Qp2, Qp3, i64_w, i32_w]
    rfl
   refine pure_ (i := 8) (N := some 43) (v := ?_) (a' := ?_) (Qbz 10 511) rfl rfl (by kernel_rfl) (fun _ _ _ h => h) (Or.inl ⟨by rfl, ?_⟩) ?_ ?_
   rotate_left
   ·intro w'
    go_simp
    with_reducible rfl
   rotate_left
   ·simp only [Act.put, Qp1, Qp2, Qp3, i64_w, i32_w]
    rfl
   refine last_ (i := 9) (N := none) (Qbz 10 1023) rfl rfl (by kernel_rfl) (by decide) (fun K hK => ?_)
   refine skip_ (w1 := ?_) (by rfl) rfl ?_ ?_
   rotate_left
   ·go_simp
    rfl
   refine hK.out _ _ ?_
   clear hK K
   refine done_ (by kernel_rfl) ?_
   have hg9 : ∀ b, b < W.heap.size → b ≠ w.heap.size → (((W.alloc (.cells (madeCells #[Value.bool false] xs.length) 4)).setCell ⟨w.heap.size, 1, none⟩ (.slice (some ⟨W.heap.size, 0, none⟩) xs.length xs.length)).drew).heap[b]? = W.heap[b]? := fun b hb hne => (heap_set_other (W.alloc (.cells (madeCells #[Value.bool false] xs.length) 4)) ⟨w.heap.size, 1, none⟩ _ b hne).trans (HAL.out b hb)
   have hadb : 0 < xs.length → ad.block < W.heap.size ∧ ad.block ≠ w.heap.size := fun h0 => by
    have h1 := own_lt hJ.own ad.block (HA.out h0).2
    have h2 := own_base hJ.own ad.block (HA.out h0).2
    omega
   have hgad : 0 < xs.length → ∀ j, (((W.alloc (.cells (madeCells #[Value.bool false] xs.length) 4)).setCell ⟨w.heap.size, 1, none⟩ (.slice (some ⟨W.heap.size, 0, none⟩) xs.length xs.length)).drew).heap[(ad.add j).block]? = W.heap[(ad.add j).block]? := fun h0 j => by
    rw [add_block]
    exact hg9 _ (hadb h0).1 (hadb h0).2
   have hcell9 : 0 < xs.length → ∃ cs t fz, (((W.alloc (.cells (madeCells #[Value.bool false] xs.length) 4)).setCell ⟨w.heap.size, 1, none⟩ (.slice (some ⟨W.heap.size, 0, none⟩) xs.length xs.length)).drew).heap[ad.block]? = some (.cells cs t fz) := fun h0 => by
    have h1 := hg9 _ (hadb h0).1 (hadb h0).2
    rcases hJ.own.2 with ⟨_, h2⟩ | ⟨g, cap, cur, h2, _, h3, _⟩
    ·omega
    ·have h4 := (HA.out h0).2
     rw [h2] at h4
     obtain rfl : g = ad.block := by simpa [Value.ownBlock] using h4
     exact ⟨_, _, _, h1.trans h3⟩
   have hW9 : WAt (((W.alloc (.cells (madeCells #[Value.bool false] xs.length) 4)).setCell ⟨w.heap.size, 1, none⟩ (.slice (some ⟨W.heap.size, 0, none⟩) xs.length xs.length)).drew) w.heap.size W.heap.size xs.length A cE ad xs ⟨0, 0, false, List.replicate xs.length false⟩ := by
    refine ⟨?_, fun h0 => (HA.out h0).1, fun i hi => ?_, fun i hi => ?_, ?_, by simp, by show w.heap.size ≠ W.heap.size; omega, fun h0 => ⟨(hadb h0).2, by have := (hadb h0).1; omega⟩⟩
    ·exact blk_set ((HAL.out w.heap.size (by omega)).trans hJ.blk) 1 (.slice (some ⟨W.heap.size, 0, none⟩) xs.length xs.length)
    ·exact (cell_same (hgad (by omega) (i * 2))).trans (HCE.out i hi).1
    ·exact (cell_same (a := ⟨(ad.add (i * 2)).block, (ad.add (i * 2)).off + 1, none⟩) (hgad (by omega) (i * 2))).trans (HCE.out i hi).2
    ·exact (heap_set_other (W.alloc (.cells (madeCells #[Value.bool false] xs.length) 4)) ⟨w.heap.size, 1, none⟩ _ W.heap.size (by show W.heap.size ≠ w.heap.size; omega)).trans (HRow.made W xs.length)
   have hB9 : Below w.heap.size w (((W.alloc (.cells (madeCells #[Value.bool false] xs.length) 4)).setCell ⟨w.heap.size, 1, none⟩ (.slice (some ⟨W.heap.size, 0, none⟩) xs.length xs.length)).drew) := below_drew ((below_alloc hJ.below _).setCell (p := ⟨w.heap.size, 1, none⟩) (Nat.le_refl _) _)
   have hM9 : Marks w.heap.size W.heap.size ds (((W.alloc (.cells (madeCells #[Value.bool false] xs.length) 4)).setCell ⟨w.heap.size, 1, none⟩ (.slice (some ⟨W.heap.size, 0, none⟩) xs.length xs.length)).drew) := hJ.marks.others (((KeepsOthers.alloc W _).trans (KeepsOthers.setCell _ _ _)).trans (KeepsOthers.drew _))
   have hq9 := (cell_same (a := ⟨w.heap.size + 1, 0, none⟩) (hg9 (w.heap.size + 1) (by omega) (by omega))).trans hqd
   generalize ((W.alloc (.cells (madeCells #[Value.bool false] xs.length) 4)).setCell ⟨w.heap.size, 1, none⟩ (.slice (some ⟨W.heap.size, 0, none⟩) xs.length xs.length)).drew = W9 at *
   clear hqd hpd hpe hpf hg9 HAL hmake hgad hadb
   refine onlyN_n ?_
   gi_wp2
   refine marks_leave (B := w.heap.size) ds W.heap.size W9 hB9.size hM9 (fun V2 hb hc => ?_)
   have hblk2 : ∀ b, (∃ cs t fz, W9.heap[b]? = some (Obj.cells cs t fz)) → V2.heap[b]? = W9.heap[b]? := fun b ⟨cs, t, fz, h⟩ => (hc b _ h rfl).trans h.symm
   refine ⟨_, results_tmp rfl _ _ _, W.heap.size, A, cE, ad, rfl, ?_, by omega, hB9.trans hb⟩
   rw [← HGO.out]
   refine hW9.same (hblk2 _ ⟨_, _, _, hW9.blk⟩) (hblk2 _ ⟨_, _, _, hW9.clr⟩) (fun h0 => hblk2 _ (hcell9 h0))
end Go.Proofs.YtijfddobandcdaaDoor.X
end
section
namespace Go.Proofs.YtijfddobandcdaaDoor.X
open Go.RowKit YtijfddobandcdaaDoorW.PrintWords YtijfddobandcdaaDoorW.PrintLast YtijfddobandcdaaDoorW.PrintMore
attribute [local go_sem] max2_int min2_int max_two min_two max_three min_three max_four min_four
/-! ### slices_Index_bool_bool: function 80 -/
def slices_Index_bool_bool.l0 : Nat → List Bool → Bool → Int → Int → Option (Int)
 | 0, _, _, _, _ => none
 | k + 1, x0, x1, x7, x8 => if x8 < x7 then (if 0 ≤ x8 then (if x8 < (x0.length : Int) then (if (x1 == (rdOf false x0 x8)) = true then (some x8) else (slices_Index_bool_bool.l0 k x0 x1 x7 (wrap64 (x8 + 1)))) else (none)) else (none)) else (some (-1))
def slices_Index_bool_bool.f (k : Nat) (l0 : List Bool) (a1 : Bool) : Option (Int) := slices_Index_bool_bool.l0 k l0 a1 (l0.length : Int) 0
set_option maxHeartbeats 8000000 in
set_option maxRecDepth 100000 in
theorem slices_Index_bool_bool.calls (k : Nat) (A0 : Option Addr) (c0 : Nat) (l0 : List Bool) (a1 : Bool) (r : Int) (w : World) (hr0 : Kd.C Kd.bool w A0 l0.length l0) (hc0 : l0.length ≤ c0) (h : slices_Index_bool_bool.f k l0 a1 = some r) :
  Calls Tryd.prog 80 #[.slice A0 l0.length c0, .bool a1] w fun e w' => e = .returned (.int .i64 r) ∧ Drawn0 w w' := by
 have HR0 := Aside0.mk hr0
 have HC0 := Aside0.mk hc0
 clear hr0 hc0
 have H : (slices_Index_bool_bool.l0 k l0 a1 (l0.length : Int) 0) = some r := h
 clear h
 have H' := Aside0.mk H
 clear H
 go_enter Tryd.func80, Tryd.ntmps80
 go_wp2
 go_loopg [8] k (fun kq v8 w' => ∃ (x8_1 : Int), v8 = .int .i64 x8_1 ∧ Aside0 (slices_Index_bool_bool.l0 kq l0 a1 (l0.length : Int) x8_1 = some r) ∧ Aside0 (kq ≤ k) ∧ Drawn0 w w')
 case atStart => exact ⟨(0), (by first | rfl | (simp; done) | (simp [*]; done)), H', ⟨Nat.le_refl _⟩, by repeat (first | exact Drawn0.refl _ | apply Drawn0.step)⟩
 case round =>
  clear H'
  try clear p2
  obtain ⟨x8_1, rfl, HA, HK1, ⟨m1, rfl⟩⟩ := hrel
  cases gk with
  | zero => exact absurd HA.out (by simp [slices_Index_bool_bool.l0])
  | succ k1 =>
   have H := HA.out
   clear HA
   simp only [slices_Index_bool_bool.l0] at H
   by_cases c3 : x8_1 < (l0.length : Int)
   ·rw [if_pos c3] at H
    have c3b0 : decide (x8_1 < (l0.length : Int)) = true := decide_eq_true c3
    clear c3
    by_cases c4 : 0 ≤ x8_1
    ·rw [if_pos c4] at H
     have c4b0 : decide (0 ≤ x8_1) = true := decide_eq_true c4
     clear c4
     by_cases c5 : x8_1 < (l0.length : Int)
     ·rw [if_pos c5] at H
      have c5b0 : decide (x8_1 < (l0.length : Int)) = true := decide_eq_true c5
      clear c5
      by_cases c6 : (a1 == (rdOf false l0 x8_1)) = true
      ·rw [if_pos c6] at H
       have c6b0 : (a1 == (rdOf false l0 x8_1)) = true := c6
       (try (have c6b1 : decide (a1 = (rdOf false l0 x8_1)) = true := by simpa using c6))
       (try (have c6b2 : (a1 == (rdOf false l0 x8_1)) = true := by simpa using c6))
       clear c6
       obtain rfl := Option.some.inj H
       have p405 : 0 ≤ (x8_1 : Int) := of_decide_eq_true (by first | (with_reducible assumption) | assumption)
       have q405 : x8_1 < (l0.length : Int) := of_decide_eq_true (by first | (with_reducible assumption) | assumption)
       obtain ⟨ad405, e405, hx405_0⟩ := Kd.at_bool HR0.out x8_1 p405 q405
       cases e405
       replace p405 := eq_true p405
       replace q405 := eq_true q405
       go_wp2
       go_ret
       exact ⟨by first | rfl | (simp; done) | (simp [*]; done), by repeat (first | exact Drawn0.refl _ | apply Drawn0.step)⟩
      ·rw [if_neg c6] at H
       have c6b0 : (a1 == (rdOf false l0 x8_1)) = false := by simpa using c6
       (try (have c6b1 : decide (a1 = (rdOf false l0 x8_1)) = false := by simpa using c6))
       (try (have c6b2 : (a1 == (rdOf false l0 x8_1)) = false := by simpa using c6))
       (try (have c6b3 : ¬ (a1 = (rdOf false l0 x8_1)) := by simpa using c6))
       clear c6
       have H' := Aside0.mk H
       clear H
       have p405 : 0 ≤ (x8_1 : Int) := of_decide_eq_true (by first | (with_reducible assumption) | assumption)
       have q405 : x8_1 < (l0.length : Int) := of_decide_eq_true (by first | (with_reducible assumption) | assumption)
       obtain ⟨ad405, e405, hx405_0⟩ := Kd.at_bool HR0.out x8_1 p405 q405
       cases e405
       replace p405 := eq_true p405
       replace q405 := eq_true q405
       go_wp2
       go_roundg k1
       case measure => have := HK1.out; omega
       case rel => exact ⟨(wrap64 (x8_1 + 1)), (by first | rfl | (simp; done) | (simp [*]; done)), H', ⟨by have := HK1.out; omega⟩, by repeat (first | exact Drawn0.refl _ | apply Drawn0.step)⟩
     ·rw [if_neg c5] at H
      exact absurd H (by simp)
    ·rw [if_neg c4] at H
     exact absurd H (by simp)
   ·rw [if_neg c3] at H
    have c3b0 : decide (x8_1 < (l0.length : Int)) = false := decide_eq_false c3
    clear c3
    obtain rfl := Option.some.inj H
    go_wp2
    go_ret
    exact ⟨by first | rfl | (simp; done) | (simp [*]; done), by repeat (first | exact Drawn0.refl _ | apply Drawn0.step)⟩
end Go.Proofs.YtijfddobandcdaaDoor.X
end
section
namespace Go.Proofs.YtijfddobandcdaaDoor.X
open Go.RowKit YtijfddobandcdaaDoorW.PrintWords YtijfddobandcdaaDoorW.PrintLast YtijfddobandcdaaDoorW.PrintMore
attribute [local go_sem] max2_int min2_int max_two min_two max_three min_three max_four min_four
/-! ### slices_Contains_bool_bool: function 66 -/
def slices_Contains_bool_bool.f (k : Nat) (l0 : List Bool) (a1 : Bool) : Option (Bool) := (slices_Index_bool_bool.f k l0 a1).bind fun t406 => (some (decide (t406 ≥ 0)))
set_option maxHeartbeats 8000000 in
set_option maxRecDepth 100000 in
theorem slices_Contains_bool_bool.calls (k : Nat) (A0 : Option Addr) (c0 : Nat) (l0 : List Bool) (a1 : Bool) (r : Bool) (w : World) (hr0 : Kd.C Kd.bool w A0 l0.length l0) (hc0 : l0.length ≤ c0) (h : slices_Contains_bool_bool.f k l0 a1 = some r) :
  Calls Tryd.prog 66 #[.slice A0 l0.length c0, .bool a1] w fun e w' => e = .returned (.bool r) ∧ Drawn0 w w' := by
 have HR0 := Aside0.mk hr0
 have HC0 := Aside0.mk hc0
 clear hr0 hc0
 have H : ((slices_Index_bool_bool.f k l0 a1).bind fun t406 => (some (decide (t406 ≥ 0)))) = some r := h
 clear h
 replace H := Option.bind_eq_some_iff.mp H
 obtain ⟨t406, A30, H⟩ := H
 replace H : (some (decide (t406 ≥ 0))) = some r := H
 have A3 := Aside0.mk A30
 clear A30
 obtain rfl := Option.some.inj H
 go_enter Tryd.func66, Tryd.ntmps66
 go_wp2_with (first | ((with_reducible refine gate_callee (f := 80) rfl ?_); refine goesL_ (some 7) rfl rfl Tryd.func80 (by kernel_rfl) rfl #[.slice A0 l0.length c0, .bool a1] rfl (Qls) ?_; (with_reducible refine (slices_Index_bool_bool.calls k _ _ l0 a1 t406 _ ?side1 ?side2 A3.out).mono ?_); (case side1 => exact Qsc HR0.out); (case side2 => exact HC0.out); rintro e w' ⟨rfl, ⟨nd, rfl⟩⟩; refine ⟨_, rfl, ?_⟩))
 go_ret
 exact ⟨by first | rfl | (simp; done) | (simp [*]; done), by repeat (first | exact Drawn0.refl _ | apply Drawn0.step)⟩
end Go.Proofs.YtijfddobandcdaaDoor.X
end
section
/- sweep.Play, by hand. -/
namespace Go.Proofs.YtijfddobandcdaaDoor.X
open Go.RowKit YtijfddobandcdaaDoorW.PrintWords YtijfddobandcdaaDoorW.PrintLast YtijfddobandcdaaDoorW.PrintMore YtijfddobandcdaaDoor.T
attribute [local go_sem] max2_int min2_int max_two min_two max_three min_three max_four min_four
theorem results_tmp4 {fn : Func} {t u v x : Tmp} (h : fn.results = #[.tmp t, .tmp u, .tmp v, .tmp x]) (tmps : Array Value) (P : Program) (w : World) :
  (results fn tmps).run P w = .ok (.tuple #[tmps.getD t undef, tmps.getD u undef, tmps.getD v undef, tmps.getD x undef]) w := by
 simp [results, h]
def sweep_Play.f (g : List Int) (l : List S85) : Option (Int × Bool × Bool × Int) := if g.length < 2 ^ 60 then (if chk 7 g = true then some ((ownPlay (g.map Int.toNat) l).1, (ownPlay (g.map Int.toNat) l).2.1, (ownPlay (g.map Int.toNat) l).2.2, 0) else some (0, false, false, 2)) else none
theorem index_l0 (C : List Bool) (hC : C.length ≤ 1000) : ∀ (d i : Nat), i + d = C.length → ∃ r, slices_Index_bool_bool.l0 (d + 1) C false (C.length : Int) (i : Int) = some r ∧ (decide (r ≥ 0) = (C.drop i).contains false)
 | 0, i, hi => by
  refine ⟨-1, ?_, ?_⟩
  ·rw [slices_Index_bool_bool.l0, if_neg (by omega)]
  ·rw [List.drop_eq_nil_of_le (by omega)]; rfl
 | d + 1, i, hi => by
  have hil : i < C.length := by omega
  rw [slices_Index_bool_bool.l0, if_pos (by omega), if_pos (by omega), if_pos (by omega), List.drop_eq_getElem_cons hil]
  have e : rdOf false C (i : Int) = C[i] := by
   unfold rdOf
   rw [Int.toNat_natCast, List.getD_eq_getElem?_getD, List.getElem?_eq_getElem hil]; rfl
  rw [e]
  cases hc : C[i]
  ·rw [if_pos (by rfl)]
   exact ⟨_, rfl, by simp⟩
  ·rw [if_neg (by simp), wrap_succ i (by omega)]
   obtain ⟨r, h1, h2⟩ := index_l0 C hC d (i + 1) (by omega)
   exact ⟨r, h1, by rw [h2]; simp⟩
theorem contains_f (C : List Bool) (hC : C.length ≤ 1000) : slices_Contains_bool_bool.f (C.length + 1) C false = some (C.contains false) := by
 obtain ⟨r, h1, h2⟩ := index_l0 C hC C.length 0 (by omega)
 unfold slices_Contains_bool_bool.f slices_Index_bool_bool.f
 have h1' : slices_Index_bool_bool.l0 (C.length + 1) C false (C.length : Int) 0 = some r := h1
 rw [h1', Option.bind_some, h2]
 rfl
theorem HRow.C {W : World} {g : Nat} {C : List Bool} (h : HRow W g C) (hC : C.length ≤ 1000) : Kd.C Kd.bool W (some ⟨g, 0, none⟩) C.length C := by
 refine ⟨rfl, by omega, fun h0 => ⟨_, rfl, fun j p hj => ⟨[.bool p], rfl, rfl, fun i u hu => ?_⟩⟩⟩
 obtain ⟨h1, h2⟩ := List.getElem?_eq_some_iff.1 hj
 match i, hu with
 | 0, hu =>
  have hu' : Value.bool p = u := by simpa using hu
  subst hu'
  have e1 : 0 + (j * Kd.bool.sz + 0) = j := by show 0 + (j * 1 + 0) = j; omega
  rw [Addr.add_lit, e1]
  have := h.cell j h1
  rw [List.getD_eq_getElem?_getD, List.getElem?_eq_getElem h1, h2] at this
  exact this
theorem WAt.drewN {W : World} {p gc cc : Nat} {A : Option Addr} {cE : Nat} {ad : Addr} {E : List (Nat × Nat)} {s : OS} (h : WAt W p gc cc A cE ad E s) (n : Nat) : WAt (W.drewN n) p gc cc A cE ad E s := ⟨h.blk, h.hA, h.e0, h.e1, h.clr, h.len, h.n1, h.n2⟩
theorem doO_lt {E : List (Nat × Nat)} {s s2 : OS} {pl : Bool} {v : Nat} (h : doO E s ⟨pl, (v : Int)⟩ = some s2) (hv : v < 7) (h1 : s.gd < 128) (h2 : s.had < 128) : s2.gd < 128 ∧ s2.had < 128 := by
 unfold doO at h
 dsimp only at h
 split at h
 ·cases h
 ·cases h
  have hp : 2 ^ v < 2 ^ 7 := Nat.pow_lt_pow_right (by omega) hv
  have hg : s.gd ^^^ 2 ^ v < 2 ^ 7 := Nat.xor_lt_two_pow h1 hp
  rw [Int.toNat_natCast]
  exact ⟨hg, Nat.or_lt_two_pow (n := 7) h2 hg⟩
set_option maxHeartbeats 8000000 in
set_option maxRecDepth 100000 in
theorem sweep_Play.calls (A0 : Option Addr) (c0 : Nat) (l0 : List Int) (A1 : Option Addr) (c1 : Nat) (l1 : List S85) (r1 : Int) (r2 : Bool) (r3 : Bool) (r4 : Int) (w : World) (hGL : GL w) (hr0 : Kd.C (Kd.int .i64) w A0 l0.length l0) (hc0 : l0.length ≤ c0) (hr1 : Kd.C k85 w A1 l1.length l1) (hc1 : l1.length ≤ c1) (h : sweep_Play.f l0 l1 = some (r1, r2, r3, r4)) :
  Calls Tryd.prog 38 #[.slice A0 l0.length c0, .slice A1 l1.length c1] w fun e w' => e = .returned (.tuple #[.int .i64 r1, .bool r2, .bool r3, .int .i64 r4]) ∧ Below w.heap.size w w' := by
 unfold sweep_Play.f at h
 by_cases hlen : l0.length < 2 ^ 60
 ·rw [if_pos hlen] at h
  by_cases hchk : chk 7 l0 = true
  ·rw [if_pos hchk] at h
   obtain ⟨G, rfl, hG⟩ := (chk_iff 7 (by omega) _).1 hchk
   rw [gi_toNat] at h
   have hn := hG.most
   rw [gi_length] at hc0
   have HRD := Aside0.mk (read_yes hG A0 c0 w hr0 hc0)
   rw [gi_length]
   injection h with h
   simp only [Prod.mk.injEq] at h
   obtain ⟨h1, h2, h3, h4⟩ := h
   subst h4
   have H : Aside0 (ownPlay G l1 = (r1, r2, r3)) := ⟨by rw [← h1, ← h2, ← h3]⟩
   have HG := Aside0.mk hG
   have HGL := Aside0.mk hGL
   have HR1 := Aside0.mk hr1
   have HL := Aside0.mk (gi_length G)
   clear h1 h2 h3 hr0 hr1 hG hGL hlen hchk hc0
   by_cases hl : l1.length ≤ 100
   ·have hl2 : decide ((l1.length : Int) > 100) = false := decide_eq_false (by omega)
    have hl3 : ((l1.length : Int) > 100) = False := eq_false (by omega)
    obtain ⟨E, hE⟩ : ∃ E, streets G = E := ⟨_, rfl⟩
    have hEl : E.length ≤ 896 := by rw [← hE]; exact streets_len HG.out
    have HE2 : Aside0 (∀ i, i < E.length → (E.getD i (0, 0)).1 < 7 ∧ (E.getD i (0, 0)).2 < 7) := ⟨fun i hi => by
     rw [← hE] at hi ⊢
     obtain ⟨q1, q2⟩ := streets_at HG.out hi
     have := HG.out.adj_lt q2
     omega⟩
    obtain ⟨RES, hRES⟩ : ∃ R, ownTo G.length E l1 (o0 E) 0 = R := ⟨_, rfl⟩
    have HRES : Aside0 (ownTo G.length E (l1.drop 0) (o0 E) 0 = RES) := ⟨hRES⟩
    have HEND : Aside0 (finO G RES = (r1, r2, r3)) := ⟨by
     have := H.out
     unfold ownPlay at this
     rwa [if_neg (by omega), hE, hRES] at this⟩
    have HE := Aside0.mk hE
    have HALL := Aside0.mk (all_f HG.out)
    have HN7 := Aside0.mk (p7 hn)
    clear H hRES hE
    go_enter Tryd.func38, Tryd.ntmps38
    go_wp2_with (first
     | (go_at_call 49; refine HRD.out.mono ?_; rintro e w1 ⟨A2, c2, rfl, hc2, hC2, hb1⟩; have HWT := Aside0.mk (watch_calls A2 c2 G HG.out hc2 w1 (GL_below HGL.out hb1) hC2); have HB1 := Aside0.mk hb1; have HC2 := Aside0.mk hC2; clear hb1 hC2)
     | (go_at_call 64; refine HWT.out.mono ?_; rintro e w2 ⟨gc, AE, cE, ad, rfl, hw2, hgc, hb2⟩; rw [HE.out] at hw2; have HW2 := Aside0.mk hw2; have HB2 := Aside0.mk hb2; have HGC := Aside0.mk hgc; clear hw2 hgc hb2))
    have hH1 : w.heap.size ≤ w1.heap.size := HB1.out.size
    have hgcl := HGC.out
    go_loopg [4, 27] l1.length (fun kq v4 v27 w' => ∃ (i : Nat) (s : OS) (M : Int) (m : Nat), v4 = .int .i64 M ∧ v27 = .int .i64 (i : Int) ∧ i + kq = l1.length ∧ Aside0 (M = (m : Int)) ∧ Aside0 (ownTo G.length E (l1.drop i) s m = RES) ∧ Aside0 (s.gd < 128 ∧ s.had < 128) ∧ Aside0 (WAt w' w1.heap.size gc E.length AE cE ad E s) ∧ Aside0 (Below w1.heap.size w1 w'))
    case atStart => exact ⟨0, o0 E, 0, 0, rfl, rfl, by omega, ⟨rfl⟩, HRES, ⟨show (0 : Nat) < 128 by decide, show (0 : Nat) < 128 by decide⟩, HW2, HB2⟩
    case round =>
     clear HRES HW2 HB2
     obtain ⟨i, s, M, m, rfl, rfl, hi, HM, HP, HS, HW, HB⟩ := hrel
     have HBW0 : Aside0 (Below w.heap.size w wr) := ⟨below_then HB1.out HB1.out.size HB.out⟩
     by_cases hil : i < l1.length
     ·have hi1 : ((i : Int) < (l1.length : Int)) = True := eq_true (by omega)
      have hi2 : decide ((i : Int) < (l1.length : Int)) = true := decide_eq_true (by omega)
      cases gk with
      | zero => omega
      | succ gi =>
      obtain ⟨ad1, e1, hc0, hc1'⟩ := at_T85 HR1.out (i : Int) (by omega) (by omega)
      subst e1
      have hp := HP.out
      rw [List.drop_eq_getElem_cons hil] at hp
      have hra : rd_T85 l1 (i : Int) = l1[i] := by unfold rd_T85; rw [Int.toNat_natCast, List.getD_eq_getElem?_getD, List.getElem?_eq_getElem hil]; rfl
      rw [hra, Int.toNat_natCast] at hc0 hc1'
      replace hc0 := (HBW0.out.cell (World.block_lt_of_cell? w _ hc0)).trans hc0
      replace hc1' := (HBW0.out.cell (World.block_lt_of_cell? w _ hc1')).trans hc1'
      simp only [ownTo] at hp
      generalize l1[i] = a at *
      obtain ⟨pl, nd⟩ := a
      clear HP hra
      dsimp only at hp hc0 hc1'
      by_cases hneg : nd < 0
      ·rw [if_pos hneg] at hp
       have hd1 : decide (nd < 0) = true := decide_eq_true hneg
       have HP := Aside0.mk hp
       clear hp hneg
       go_wp2_with (first
          | ((with_reducible refine gate_dst (N := 12) rfl ?_); refine box_event ?hg (N := 12) ?hd (cs := #[.bool false, .int .i64 0]) (t := 85) ?hr ?_; (case hd => rfl); (case hg => rfl); (case hr => first | (go_simp; done) | (go_simp; rfl)); intro ga hga w7 hbox hb7; have HGA := Aside0.mk (show wr.heap.size ≤ ga by rw [hga]; exact Nat.le_refl _); clear hga; have hz0 : w7.cell? ⟨ga, 0, none⟩ = some (.bool false) := (blk_cell hbox 0).trans rfl; have hz1 : w7.cell? ⟨ga, 1, none⟩ = some (.int .i64 0) := (blk_cell hbox 1).trans rfl; have hf0 := blk_frozen hbox 0; have hf1 := blk_frozen hbox 1; have hq0 : ∀ x y : Value, ((w7.setCell ⟨ga, 0, none⟩ x).setCell ⟨ga, 1, none⟩ y).cell? ⟨ga, 1, none⟩ = some y := (fun x y => (blk_cell (blk_set (blk_set hbox 0 x) 1 y) 1).trans rfl); have hq1 : ∀ x y : Value, ((w7.setCell ⟨ga, 0, none⟩ x).setCell ⟨ga, 1, none⟩ y).cell? ⟨ga, 0, none⟩ = some x := (fun x y => (blk_cell (blk_set (blk_set hbox 0 x) 1 y) 0).trans rfl); have HBOX := Aside0.mk hbox; have HB7 := Aside0.mk hb7; clear hbox hb7))
       ((try simp only [Exit.inBlock, Exit.then]); refine bodyPost_ret (results_tmp4 rfl _ _ _) rfl ?_)
       have hq := HEND.out
       rw [← HP.out] at hq
       simp only [finO, Prod.mk.injEq] at hq
       obtain ⟨rfl, rfl, rfl⟩ := hq
       exact ⟨rfl, below_set (below_set (below_step HBW0.out HB7.out) (by have := HGA.out; have := HB.out.size; omega)) (by have := HGA.out; have := HB.out.size; omega)⟩
      ·rw [if_neg hneg] at hp
       have hd1 : decide (nd < 0) = false := decide_eq_false hneg
       by_cases hge : (G.length : Int) ≤ nd
       ·rw [if_pos hge] at hp
        have hd2 : decide (nd ≥ (G.length : Int)) = true := decide_eq_true hge
        have hd3 : decide ((G.length : Int) ≤ nd) = true := decide_eq_true hge
        have HP := Aside0.mk hp
        clear hp hneg hge
        go_wp2_with (first
          | ((with_reducible refine gate_dst (N := 12) rfl ?_); refine box_event ?hg (N := 12) ?hd (cs := #[.bool false, .int .i64 0]) (t := 85) ?hr ?_; (case hd => rfl); (case hg => rfl); (case hr => first | (go_simp; done) | (go_simp; rfl)); intro ga hga w7 hbox hb7; have HGA := Aside0.mk (show wr.heap.size ≤ ga by rw [hga]; exact Nat.le_refl _); clear hga; have hz0 : w7.cell? ⟨ga, 0, none⟩ = some (.bool false) := (blk_cell hbox 0).trans rfl; have hz1 : w7.cell? ⟨ga, 1, none⟩ = some (.int .i64 0) := (blk_cell hbox 1).trans rfl; have hf0 := blk_frozen hbox 0; have hf1 := blk_frozen hbox 1; have hq0 : ∀ x y : Value, ((w7.setCell ⟨ga, 0, none⟩ x).setCell ⟨ga, 1, none⟩ y).cell? ⟨ga, 1, none⟩ = some y := (fun x y => (blk_cell (blk_set (blk_set hbox 0 x) 1 y) 1).trans rfl); have hq1 : ∀ x y : Value, ((w7.setCell ⟨ga, 0, none⟩ x).setCell ⟨ga, 1, none⟩ y).cell? ⟨ga, 0, none⟩ = some x := (fun x y => (blk_cell (blk_set (blk_set hbox 0 x) 1 y) 0).trans rfl); have HBOX := Aside0.mk hbox; have HB7 := Aside0.mk hb7; clear hbox hb7))
        ((try simp only [Exit.inBlock, Exit.then]); refine bodyPost_ret (results_tmp4 rfl _ _ _) rfl ?_)
        have hq := HEND.out
        rw [← HP.out] at hq
        simp only [finO, Prod.mk.injEq] at hq
        obtain ⟨rfl, rfl, rfl⟩ := hq
        exact ⟨rfl, below_set (below_set (below_step HBW0.out HB7.out) (by have := HGA.out; have := HB.out.size; omega)) (by have := HGA.out; have := HB.out.size; omega)⟩
       ·rw [if_neg hge] at hp
        have hd2 : decide (nd ≥ (G.length : Int)) = false := decide_eq_false hge
        have hd3 : decide ((G.length : Int) ≤ nd) = false := decide_eq_false hge
        obtain ⟨v, rfl⟩ := Int.eq_ofNat_of_zero_le (show 0 ≤ nd by omega)
        have hv7 : v < 7 := by omega
        have hd4 : decide (G.length ≤ v) = false := decide_eq_false (by omega)
        have hd5 : decide ((v : Int) < 0) = false := decide_eq_false (by omega)
        obtain ⟨DR, hDR⟩ : ∃ r, doO E s ⟨pl, (v : Int)⟩ = r := ⟨_, rfl⟩
        rw [hDR] at hp
        have HDO : Aside0 (∀ b, DR.isSome = b → ∀ W, Below wr.heap.size wr W → Calls Tryd.prog 65 #[.pointer (some ⟨w1.heap.size, 0, none⟩), .agg #[.bool pl, .int .i64 (v : Int)]] W fun e w' => e = .returned (.bool b) ∧ DoS w' w1.heap.size gc E.length AE cE ad E DR ∧ Below w1.heap.size W w') := ⟨fun b hb W hW => by subst hb; exact do_calls w1.heap.size gc E.length AE cE ad E s hEl HE2.out HS.out.1 HS.out.2 w1.heap.size (Nat.le_refl _) HGC.out pl v hv7 DR hDR W (by have := hW.size; have := HB.out.size; omega) (HW.out.below hW)⟩
        have HDR := Aside0.mk hDR
        clear hneg hge hDR
        cases DR with
        | none =>
         have HP := Aside0.mk hp
         clear hp
         go_wp2_with (first
          | ((with_reducible refine gate_dst (N := 12) rfl ?_); refine box_event ?hg (N := 12) ?hd (cs := #[.bool false, .int .i64 0]) (t := 85) ?hr ?_; (case hd => rfl); (case hg => rfl); (case hr => first | (go_simp; done) | (go_simp; rfl)); intro ga hga w7 hbox hb7; have HGA := Aside0.mk (show wr.heap.size ≤ ga by rw [hga]; exact Nat.le_refl _); clear hga; have hz0 : w7.cell? ⟨ga, 0, none⟩ = some (.bool false) := (blk_cell hbox 0).trans rfl; have hz1 : w7.cell? ⟨ga, 1, none⟩ = some (.int .i64 0) := (blk_cell hbox 1).trans rfl; have hf0 := blk_frozen hbox 0; have hf1 := blk_frozen hbox 1; have hq0 : ∀ x y : Value, ((w7.setCell ⟨ga, 0, none⟩ x).setCell ⟨ga, 1, none⟩ y).cell? ⟨ga, 1, none⟩ = some y := (fun x y => (blk_cell (blk_set (blk_set hbox 0 x) 1 y) 1).trans rfl); have hq1 : ∀ x y : Value, ((w7.setCell ⟨ga, 0, none⟩ x).setCell ⟨ga, 1, none⟩ y).cell? ⟨ga, 0, none⟩ = some x := (fun x y => (blk_cell (blk_set (blk_set hbox 0 x) 1 y) 0).trans rfl); have HBOX := Aside0.mk hbox; have HB7 := Aside0.mk hb7; clear hbox hb7)
          | (go_at_call 65; (with_reducible refine (HDO.out false rfl _ ?hbw).mono ?_); (case hbw => exact below_set (below_set HB7.out HGA.out) HGA.out); rintro e w3 ⟨rfl, hd3', hb3⟩; have HD3 := Aside0.mk hd3'; have HB3 := Aside0.mk ((below_then HB.out HB.out.size (below_set (w := wr) (below_set HB7.out HGA.out) HGA.out)).trans hb3); clear hd3' hb3))
         ((try simp only [Exit.inBlock, Exit.then]); refine bodyPost_ret (results_tmp4 rfl _ _ _) rfl ?_)
         have hq := HEND.out
         rw [← HP.out] at hq
         simp only [Option.bind_none, finO, Prod.mk.injEq] at hq
         obtain ⟨rfl, rfl, rfl⟩ := hq
         exact ⟨rfl, below_then HB1.out HB1.out.size HB3.out⟩
        | some s2 =>
         have hlt := doO_lt HDR.out hv7 HS.out.1 HS.out.2
         have HCN := Aside0.mk (count_eq s2.gd (by omega))
         have HLT := Aside0.mk hlt
         rw [Option.bind_some] at hp
         obtain ⟨pq, hpq⟩ : ∃ pq, pc s2.gd 9 = pq := ⟨_, rfl⟩
         rw [hpq] at HCN hp
         obtain ⟨M2, hmx⟩ : ∃ M2 : Int, (if M < (pq : Int) then (pq : Int) else M) = M2 := ⟨_, rfl⟩
         have HMX : Aside0 (M2 = ((max m pq : Nat) : Int)) := ⟨by
          rw [← hmx, HM.out]
          by_cases h : m < pq
          ·rw [if_pos (by omega), Nat.max_eq_right (by omega)]
          ·rw [if_neg (by omega), Nat.max_eq_left (by omega)]⟩
         have HP := Aside0.mk hp
         clear hp hpq hlt
         go_wp2_with (first
          | ((with_reducible refine gate_dst (N := 12) rfl ?_); refine box_event ?hg (N := 12) ?hd (cs := #[.bool false, .int .i64 0]) (t := 85) ?hr ?_; (case hd => rfl); (case hg => rfl); (case hr => first | (go_simp; done) | (go_simp; rfl)); intro ga hga w7 hbox hb7; have HGA := Aside0.mk (show wr.heap.size ≤ ga by rw [hga]; exact Nat.le_refl _); clear hga; have hz0 : w7.cell? ⟨ga, 0, none⟩ = some (.bool false) := (blk_cell hbox 0).trans rfl; have hz1 : w7.cell? ⟨ga, 1, none⟩ = some (.int .i64 0) := (blk_cell hbox 1).trans rfl; have hf0 := blk_frozen hbox 0; have hf1 := blk_frozen hbox 1; have hq0 : ∀ x y : Value, ((w7.setCell ⟨ga, 0, none⟩ x).setCell ⟨ga, 1, none⟩ y).cell? ⟨ga, 1, none⟩ = some y := (fun x y => (blk_cell (blk_set (blk_set hbox 0 x) 1 y) 1).trans rfl); have hq1 : ∀ x y : Value, ((w7.setCell ⟨ga, 0, none⟩ x).setCell ⟨ga, 1, none⟩ y).cell? ⟨ga, 0, none⟩ = some x := (fun x y => (blk_cell (blk_set (blk_set hbox 0 x) 1 y) 0).trans rfl); have HBOX := Aside0.mk hbox; have HB7 := Aside0.mk hb7; clear hbox hb7)
          | (go_at_call 65; (with_reducible refine (HDO.out true rfl _ ?hbw).mono ?_); (case hbw => exact below_set (below_set HB7.out HGA.out) HGA.out); rintro e w3 ⟨rfl, hd3', hb3⟩; have HD3 := Aside0.mk hd3'; have HB3 := Aside0.mk ((below_then HB.out HB.out.size (below_set (w := wr) (below_set HB7.out HGA.out) HGA.out)).trans hb3); have hg3 : w3.cell? ⟨w1.heap.size, 2, none⟩ = some (.int .i64 (s2.gd : Int)) := (blk_cell hd3'.blk 2).trans rfl; clear hd3' hb3)
          | (go_at_call 63; (with_reducible refine (sweep_count.calls _ _ _ HCN.out).mono ?_); rintro e w' ⟨rfl, m1, rfl⟩))
         go_roundg gi
         case measure => omega
         case rel => exact ⟨i + 1, s2, M2, max m pq, rfl, by go_num, by omega, HMX, HP, ⟨HLT.out.1, HLT.out.2⟩, ⟨WAt.drewN HD3.out m1⟩, ⟨pw_below_drewN HB3.out _⟩⟩
     ·have hi1 : ((i : Int) < (l1.length : Int)) = False := eq_false (by omega)
      have hi2 : decide ((i : Int) < (l1.length : Int)) = false := decide_eq_false (by omega)
      obtain rfl : gk = 0 := by omega
      have hp := HP.out
      rw [List.drop_eq_nil_of_le (by omega)] at hp
      simp only [ownTo] at hp
      subst hp
      have hp3 : s.C.length = E.length := HW.out.len
      have HCF := Aside0.mk (contains_f s.C (by omega))
      have KEEP : Aside0 (∀ W, Below wr.heap.size wr W → W.cell? ⟨w1.heap.size, 1, none⟩ = some (.slice (some ⟨gc, 0, none⟩) E.length E.length) ∧ W.cell? ⟨w1.heap.size, 3, none⟩ = some (.int .i64 (s.had : Int)) ∧ Below wr.heap.size wr W) := ⟨fun W hW => ⟨(blk_cell (HW.out.below hW).blk 1).trans rfl, (blk_cell (HW.out.below hW).blk 3).trans rfl, hW⟩⟩
      have hbd : Below wr.heap.size wr wr.drew := below_drew (Below.refl _ _)
      obtain ⟨f1d, f3d, fbd⟩ := KEEP.out _ hbd
      obtain ⟨cn, hcn⟩ : ∃ b, s.C.contains false = b := ⟨_, rfl⟩
      have CCN : Aside0 (∀ W, (W.cell? ⟨w1.heap.size, 1, none⟩ = some (.slice (some ⟨gc, 0, none⟩) E.length E.length) ∧ W.cell? ⟨w1.heap.size, 3, none⟩ = some (.int .i64 (s.had : Int)) ∧ Below wr.heap.size wr W) → Calls Tryd.prog 66 #[.slice (some ⟨gc, 0, none⟩) E.length E.length, .bool false] W fun e w' => e = .returned (.bool cn) ∧ w'.cell? ⟨w1.heap.size, 1, none⟩ = some (.slice (some ⟨gc, 0, none⟩) E.length E.length) ∧ w'.cell? ⟨w1.heap.size, 3, none⟩ = some (.int .i64 (s.had : Int)) ∧ Below wr.heap.size wr w') := ⟨fun W hW => by
       have := slices_Contains_bool_bool.calls _ (some ⟨gc, 0, none⟩) E.length s.C false cn W ((HW.out.below hW.2.2).clr.C (by omega)) (by omega) (by rw [← hcn]; exact HCF.out)
       rw [hp3] at this
       exact this.mono fun e w' ⟨h, m, hm⟩ => ⟨h, KEEP.out w' (by rw [hm]; exact pw_below_drewN hW.2.2 m)⟩⟩
      have CAL : Aside0 (∀ W, (W.cell? ⟨w1.heap.size, 1, none⟩ = some (.slice (some ⟨gc, 0, none⟩) E.length E.length) ∧ W.cell? ⟨w1.heap.size, 3, none⟩ = some (.int .i64 (s.had : Int)) ∧ Below wr.heap.size wr W) → Calls Tryd.prog 61 #[.slice A2 G.length c2] W fun e w' => e = .returned (.int .i64 ((2 ^ G.length - 1 : Nat) : Int)) ∧ w'.cell? ⟨w1.heap.size, 1, none⟩ = some (.slice (some ⟨gc, 0, none⟩) E.length E.length) ∧ w'.cell? ⟨w1.heap.size, 3, none⟩ = some (.int .i64 (s.had : Int)) ∧ Below wr.heap.size wr w') := ⟨fun W hW => by
       have := sweep_town_all.calls A2 c2 (gi G) _ W (Kd.C_below HC2.out (below_then HB.out HB.out.size hW.2.2)) (by rw [HL.out]; exact hc2) HALL.out
       rw [HL.out] at this
       exact this.mono fun e w' ⟨h, m, hm⟩ => ⟨h, KEEP.out w' (by rw [hm]; exact pw_below_drewN hW.2.2 m)⟩⟩
      have HEQ := HEND.out
      simp only [finO] at HEQ
      rw [hcn] at HEQ
      have HBW := HB
      have HWW := HW
      obtain ⟨PA, hPA⟩ : ∃ x, 2 ^ G.length - 1 = x := ⟨_, rfl⟩
      rw [hPA] at HEQ CAL
      clear hcn HCF hbd hPA hp3
      cases cn
      ·by_cases hall : s.had = PA
       ·have t2 : ((s.had : Int) != (PA : Int)) = false := by simp [hall]
        have t3 : ((s.had : Int) == (PA : Int)) = true := by simp [hall]
        rw [if_neg (by simp), if_pos hall] at HEQ
        simp only [Prod.mk.injEq] at HEQ
        obtain ⟨e1, e2, e3⟩ := HEQ
        have E1 := Aside0.mk e1
        subst e2 e3
        clear hall e1
        go_wp2_with (fail)
        refine start_ (n := 14) (S := fun w' => w'.cell? ⟨w1.heap.size, 1, none⟩ = some (.slice (some ⟨gc, 0, none⟩) E.length E.length) ∧ w'.cell? ⟨w1.heap.size, 3, none⟩ = some (.int .i64 (s.had : Int)) ∧ Below wr.heap.size wr w') (ds := []) (Qbz 14 0) (by kernel_rfl) rfl rfl ⟨f1d, f3d, fbd⟩ (fun hHeld => ?_)
        refine pure_ (i := 0) (N := some 55) (v := ?_) (a' := ?_) (Qbz 14 1) rfl rfl (by kernel_rfl) (fun _ _ _ h => h) (Or.inl ⟨by rfl, ?_⟩) ?_ ?_
        rotate_left
        ·intro w'
         go_simp
         with_reducible rfl
        rotate_left
        ·simp only [Act.put, Qp1, Qp2, Qp3, i64_w, i32_w]
         rfl
        refine pure_ (i := 1) (N := some 56) (v := ?_) (a' := ?_) (Qbz 14 3) rfl rfl (by kernel_rfl) (fun _ _ _ h => h) (Or.inl ⟨by rfl, ?_⟩) ?_ ?_
        rotate_left
        ·intro w'
         go_simp
         with_reducible rfl
        rotate_left
        ·simp only [Act.put, Qp1, Qp2, Qp3, i64_w, i32_w]
         rfl
        refine pure_ (i := 2) (N := some 57) (v := ?_) (a' := ?_) (Qbz 14 7) rfl rfl (by kernel_rfl) (fun _ _ _ h => h) (Or.inl ⟨by rfl, ?_⟩) ?_ ?_
        rotate_left
        ·intro w'
         go_simp
         with_reducible rfl
        rotate_left
        ·simp only [Act.put, Qp1, Qp2, Qp3, i64_w, i32_w]
         rfl
        refine take_ (i := 3) (N := some 58) (v := ?_) (a' := ?_) (Qbz 14 15) rfl rfl (by kernel_rfl) (fun _ _ _ h => h) (Or.inl ⟨by rfl, ?_⟩) hHeld ?_ ?_
        rotate_left
        ·rintro w' ⟨s0, s1, s2⟩
         go_simp
         with_reducible rfl
        rotate_left
        ·simp only [Act.put, Qp1, Qp2, Qp3, i64_w, i32_w]
         rfl
        refine one_ (i := 4) (N := some 59) (Qbz 14 31) rfl rfl (by kernel_rfl) (by decide) (fun K hK => ?_)
        refine goes_ Tryd.func66 (by kernel_rfl) rfl #[.slice (some ⟨gc, 0, none⟩) E.length E.length, .bool false] (by rfl) rfl rfl (by simp only [List.map_toArray, List.map_cons, List.map_nil]; rfl) ?_
        with_reducible refine (CCN.out _ hHeld).mono ?_
        rintro e w3 ⟨rfl, g1, g3, gB⟩
        refine ⟨_, rfl, ?_⟩
        refine hK.out _ _ ⟨g1, g3, gB⟩ (fun hHeld => ?_)
        clear hK K
        refine norm_ (a' := ?_) ?_ ?_
        rotate_left
        ·show Act.put _ (some 59) _ = _
         simp only [Act.put, Qp1, Qp2, Qp3, i64_w, i32_w]
         rfl
        refine pure_ (i := 5) (N := some 60) (v := ?_) (a' := ?_) (Qbz 14 63) rfl rfl (by kernel_rfl) (fun _ _ _ h => h) (Or.inl ⟨by rfl, ?_⟩) ?_ ?_
        rotate_left
        ·intro w'
         go_simp
         with_reducible rfl
        rotate_left
        ·simp only [Act.put, Qp1, Qp2, Qp3, i64_w, i32_w]
         rfl
        refine pure_ (i := 6) (N := some 61) (v := ?_) (a' := ?_) (Qbz 14 127) rfl rfl (by kernel_rfl) (fun _ _ _ h => h) (Or.inl ⟨by rfl, ?_⟩) ?_ ?_
        rotate_left
        ·intro w'
         go_simp
         with_reducible rfl
        rotate_left
        ·simp only [Act.put, Qp1, Qp2, Qp3, i64_w, i32_w]
         rfl
        refine pure_ (i := 7) (N := some 62) (v := ?_) (a' := ?_) (Qbz 14 255) rfl rfl (by kernel_rfl) (fun _ _ _ h => h) (Or.inl ⟨by rfl, ?_⟩) ?_ ?_
        rotate_left
        ·intro w'
         go_simp
         with_reducible rfl
        rotate_left
        ·simp only [Act.put, Qp1, Qp2, Qp3, i64_w, i32_w]
         rfl
        refine pure_ (i := 8) (N := some 63) (v := ?_) (a' := ?_) (Qbz 14 511) rfl rfl (by kernel_rfl) (fun _ _ _ h => h) (Or.inl ⟨by rfl, ?_⟩) ?_ ?_
        rotate_left
        ·intro w'
         go_simp
         with_reducible rfl
        rotate_left
        ·simp only [Act.put, Qp1, Qp2, Qp3, i64_w, i32_w]
         rfl
        refine pure_ (i := 10) (N := some 65) (v := ?_) (a' := ?_) (Qbz 14 1535) rfl rfl (by kernel_rfl) (fun _ _ _ h => h) (Or.inl ⟨by rfl, ?_⟩) ?_ ?_
        rotate_left
        ·intro w'
         go_simp
         with_reducible rfl
        rotate_left
        ·simp only [Act.put, Qp1, Qp2, Qp3, i64_w, i32_w]
         rfl
        refine take_ (i := 9) (N := some 64) (v := ?_) (a' := ?_) (Qbz 14 2047) rfl rfl (by kernel_rfl) (fun _ _ _ h => h) (Or.inl ⟨by rfl, ?_⟩) hHeld ?_ ?_
        rotate_left
        ·rintro w' ⟨s0, s1, s2⟩
         go_simp
         with_reducible rfl
        rotate_left
        ·simp only [Act.put, Qp1, Qp2, Qp3, i64_w, i32_w]
         rfl
        refine one_ (i := 11) (N := some 66) (Qbz 14 4095) rfl rfl (by kernel_rfl) (by decide) (fun K hK => ?_)
        refine goes_ Tryd.func61 (by kernel_rfl) rfl #[.slice A2 G.length c2] (by rfl) rfl rfl (by simp only [List.map_toArray, List.map_cons, List.map_nil]; rfl) ?_
        with_reducible refine (CAL.out _ hHeld).mono ?_
        rintro e w3 ⟨rfl, g1, g3, gB⟩
        refine ⟨_, rfl, ?_⟩
        refine hK.out _ _ ⟨g1, g3, gB⟩ (fun hHeld => ?_)
        clear hK K
        refine norm_ (a' := ?_) ?_ ?_
        rotate_left
        ·show Act.put _ (some 66) _ = _
         simp only [Act.put, Qp1, Qp2, Qp3, i64_w, i32_w]
         rfl
        refine pure_ (i := 12) (N := some 67) (v := ?_) (a' := ?_) (Qbz 14 8191) rfl rfl (by kernel_rfl) (fun _ _ _ h => h) (Or.inl ⟨by rfl, ?_⟩) ?_ ?_
        rotate_left
        ·intro w'
         go_simp
         with_reducible rfl
        rotate_left
        ·simp only [Act.put, Qp1, Qp2, Qp3, i64_w, i32_w]
         rfl
        refine pure_ (i := 13) (N := some 68) (v := ?_) (a' := ?_) (Qbz 14 16383) rfl rfl (by kernel_rfl) (fun _ _ _ h => h) (Or.inl ⟨by rfl, ?_⟩) ?_ ?_
        rotate_left
        ·intro w'
         go_simp
         with_reducible rfl
        rotate_left
        ·simp only [Act.put, Qp1, Qp2, Qp3, i64_w, i32_w]
         rfl
        refine done_ (by kernel_rfl) ?_
        go_wp2
        have f4d : w3.drew.cell? ⟨w1.heap.size, 4, none⟩ = some (.bool s.bk) := (blk_cell (HW.out.below gB).blk 4).trans rfl
        refine start_ (n := 9) (S := fun w' => w'.cell? ⟨w1.heap.size, 4, none⟩ = some (.bool s.bk)) (ds := []) (Qbz 9 0) (by kernel_rfl) rfl rfl (f4d) (fun hHeld => ?_)
        refine pure_ (i := 0) (N := some 69) (v := ?_) (a' := ?_) (Qbz 9 1) rfl rfl (by kernel_rfl) (fun _ _ _ h => h) (Or.inl ⟨by rfl, ?_⟩) ?_ ?_
        rotate_left
        ·intro w'
         go_simp
         with_reducible rfl
        rotate_left
        ·simp only [Act.put, Qp1, Qp2, Qp3, i64_w, i32_w]
         rfl
        refine pure_ (i := 1) (N := some 70) (v := ?_) (a' := ?_) (Qbz 9 3) rfl rfl (by kernel_rfl) (fun _ _ _ h => h) (Or.inl ⟨by rfl, ?_⟩) ?_ ?_
        rotate_left
        ·intro w'
         go_simp
         with_reducible rfl
        rotate_left
        ·simp only [Act.put, Qp1, Qp2, Qp3, i64_w, i32_w]
         rfl
        refine pure_ (i := 2) (N := some 71) (v := ?_) (a' := ?_) (Qbz 9 7) rfl rfl (by kernel_rfl) (fun _ _ _ h => h) (Or.inl ⟨by rfl, ?_⟩) ?_ ?_
        rotate_left
        ·intro w'
         go_simp
         with_reducible rfl
        rotate_left
        ·simp only [Act.put, Qp1, Qp2, Qp3, i64_w, i32_w]
         rfl
        refine pure_ (i := 3) (N := some 72) (v := ?_) (a' := ?_) (Qbz 9 15) rfl rfl (by kernel_rfl) (fun _ _ _ h => h) (Or.inl ⟨by rfl, ?_⟩) ?_ ?_
        rotate_left
        ·intro w'
         go_simp
         with_reducible rfl
        rotate_left
        ·simp only [Act.put, Qp1, Qp2, Qp3, i64_w, i32_w]
         rfl
        refine pure_ (i := 5) (N := some 4) (v := ?_) (a' := ?_) (Qbz 9 47) rfl rfl (by kernel_rfl) (fun _ _ _ h => h) (Or.inl ⟨by rfl, ?_⟩) ?_ ?_
        rotate_left
        ·intro w'
         go_simp
         with_reducible rfl
        rotate_left
        ·simp only [Act.put, Qp1, Qp2, Qp3, i64_w, i32_w]
         rfl
        refine take_ (i := 4) (N := some 73) (v := ?_) (a' := ?_) (Qbz 9 63) rfl rfl (by kernel_rfl) (fun _ _ _ h => h) (Or.inl ⟨by rfl, ?_⟩) hHeld ?_ ?_
        rotate_left
        ·intro w' s0
         go_simp
         with_reducible rfl
        rotate_left
        ·simp only [Act.put, Qp1, Qp2, Qp3, i64_w, i32_w]
         rfl
        refine pure_ (i := 6) (N := some 5) (v := ?_) (a' := ?_) (Qbz 9 127) rfl rfl (by kernel_rfl) (fun _ _ _ h => h) (Or.inl ⟨by rfl, ?_⟩) ?_ ?_
        rotate_left
        ·intro w'
         go_simp
         with_reducible rfl
        rotate_left
        ·simp only [Act.put, Qp1, Qp2, Qp3, i64_w, i32_w]
         rfl
        refine pure_ (i := 7) (N := some 6) (v := ?_) (a' := ?_) (Qbz 9 255) rfl rfl (by kernel_rfl) (fun _ _ _ h => h) (Or.inl ⟨by rfl, ?_⟩) ?_ ?_
        rotate_left
        ·intro w'
         go_simp
         with_reducible rfl
        rotate_left
        ·simp only [Act.put, Qp1, Qp2, Qp3, i64_w, i32_w]
         rfl
        refine pure_ (i := 8) (N := some 7) (v := ?_) (a' := ?_) (Qbz 9 511) rfl rfl (by kernel_rfl) (fun _ _ _ h => h) (Or.inl ⟨by rfl, ?_⟩) ?_ ?_
        rotate_left
        ·intro w'
         go_simp
         with_reducible rfl
        rotate_left
        ·simp only [Act.put, Qp1, Qp2, Qp3, i64_w, i32_w]
         rfl
        refine done_ (by kernel_rfl) ?_
        go_wp2
        ((try simp only [Exit.inBlock, Exit.then]); refine bodyPost_ret (results_tmp4 rfl _ _ _) rfl ?_)
        refine ⟨?_, below_drew (below_then HBW0.out HBW0.out.size gB)⟩
        rw [← E1.out, ← HM.out]
        rfl
       ·have t2 : ((s.had : Int) != (PA : Int)) = true := by simp; omega
        have t3 : ((s.had : Int) == (PA : Int)) = false := by simp; omega
        rw [if_neg (by simp), if_neg hall] at HEQ
        simp only [Prod.mk.injEq] at HEQ
        obtain ⟨rfl, rfl, rfl⟩ := HEQ
        clear hall
        go_wp2_with (fail)
        refine start_ (n := 14) (S := fun w' => w'.cell? ⟨w1.heap.size, 1, none⟩ = some (.slice (some ⟨gc, 0, none⟩) E.length E.length) ∧ w'.cell? ⟨w1.heap.size, 3, none⟩ = some (.int .i64 (s.had : Int)) ∧ Below wr.heap.size wr w') (ds := []) (Qbz 14 0) (by kernel_rfl) rfl rfl ⟨f1d, f3d, fbd⟩ (fun hHeld => ?_)
        refine pure_ (i := 0) (N := some 55) (v := ?_) (a' := ?_) (Qbz 14 1) rfl rfl (by kernel_rfl) (fun _ _ _ h => h) (Or.inl ⟨by rfl, ?_⟩) ?_ ?_
        rotate_left
        ·intro w'
         go_simp
         with_reducible rfl
        rotate_left
        ·simp only [Act.put, Qp1, Qp2, Qp3, i64_w, i32_w]
         rfl
        refine pure_ (i := 1) (N := some 56) (v := ?_) (a' := ?_) (Qbz 14 3) rfl rfl (by kernel_rfl) (fun _ _ _ h => h) (Or.inl ⟨by rfl, ?_⟩) ?_ ?_
        rotate_left
        ·intro w'
         go_simp
         with_reducible rfl
        rotate_left
        ·simp only [Act.put, Qp1, Qp2, Qp3, i64_w, i32_w]
         rfl
        refine pure_ (i := 2) (N := some 57) (v := ?_) (a' := ?_) (Qbz 14 7) rfl rfl (by kernel_rfl) (fun _ _ _ h => h) (Or.inl ⟨by rfl, ?_⟩) ?_ ?_
        rotate_left
        ·intro w'
         go_simp
         with_reducible rfl
        rotate_left
        ·simp only [Act.put, Qp1, Qp2, Qp3, i64_w, i32_w]
         rfl
        refine take_ (i := 3) (N := some 58) (v := ?_) (a' := ?_) (Qbz 14 15) rfl rfl (by kernel_rfl) (fun _ _ _ h => h) (Or.inl ⟨by rfl, ?_⟩) hHeld ?_ ?_
        rotate_left
        ·rintro w' ⟨s0, s1, s2⟩
         go_simp
         with_reducible rfl
        rotate_left
        ·simp only [Act.put, Qp1, Qp2, Qp3, i64_w, i32_w]
         rfl
        refine one_ (i := 4) (N := some 59) (Qbz 14 31) rfl rfl (by kernel_rfl) (by decide) (fun K hK => ?_)
        refine goes_ Tryd.func66 (by kernel_rfl) rfl #[.slice (some ⟨gc, 0, none⟩) E.length E.length, .bool false] (by rfl) rfl rfl (by simp only [List.map_toArray, List.map_cons, List.map_nil]; rfl) ?_
        with_reducible refine (CCN.out _ hHeld).mono ?_
        rintro e w3 ⟨rfl, g1, g3, gB⟩
        refine ⟨_, rfl, ?_⟩
        refine hK.out _ _ ⟨g1, g3, gB⟩ (fun hHeld => ?_)
        clear hK K
        refine norm_ (a' := ?_) ?_ ?_
        rotate_left
        ·show Act.put _ (some 59) _ = _
         simp only [Act.put, Qp1, Qp2, Qp3, i64_w, i32_w]
         rfl
        refine pure_ (i := 5) (N := some 60) (v := ?_) (a' := ?_) (Qbz 14 63) rfl rfl (by kernel_rfl) (fun _ _ _ h => h) (Or.inl ⟨by rfl, ?_⟩) ?_ ?_
        rotate_left
        ·intro w'
         go_simp
         with_reducible rfl
        rotate_left
        ·simp only [Act.put, Qp1, Qp2, Qp3, i64_w, i32_w]
         rfl
        refine pure_ (i := 6) (N := some 61) (v := ?_) (a' := ?_) (Qbz 14 127) rfl rfl (by kernel_rfl) (fun _ _ _ h => h) (Or.inl ⟨by rfl, ?_⟩) ?_ ?_
        rotate_left
        ·intro w'
         go_simp
         with_reducible rfl
        rotate_left
        ·simp only [Act.put, Qp1, Qp2, Qp3, i64_w, i32_w]
         rfl
        refine pure_ (i := 7) (N := some 62) (v := ?_) (a' := ?_) (Qbz 14 255) rfl rfl (by kernel_rfl) (fun _ _ _ h => h) (Or.inl ⟨by rfl, ?_⟩) ?_ ?_
        rotate_left
        ·intro w'
         go_simp
         with_reducible rfl
        rotate_left
        ·simp only [Act.put, Qp1, Qp2, Qp3, i64_w, i32_w]
         rfl
        refine pure_ (i := 8) (N := some 63) (v := ?_) (a' := ?_) (Qbz 14 511) rfl rfl (by kernel_rfl) (fun _ _ _ h => h) (Or.inl ⟨by rfl, ?_⟩) ?_ ?_
        rotate_left
        ·intro w'
         go_simp
         with_reducible rfl
        rotate_left
        ·simp only [Act.put, Qp1, Qp2, Qp3, i64_w, i32_w]
         rfl
        refine pure_ (i := 10) (N := some 65) (v := ?_) (a' := ?_) (Qbz 14 1535) rfl rfl (by kernel_rfl) (fun _ _ _ h => h) (Or.inl ⟨by rfl, ?_⟩) ?_ ?_
        rotate_left
        ·intro w'
         go_simp
         with_reducible rfl
        rotate_left
        ·simp only [Act.put, Qp1, Qp2, Qp3, i64_w, i32_w]
         rfl
        refine take_ (i := 9) (N := some 64) (v := ?_) (a' := ?_) (Qbz 14 2047) rfl rfl (by kernel_rfl) (fun _ _ _ h => h) (Or.inl ⟨by rfl, ?_⟩) hHeld ?_ ?_
        rotate_left
        ·rintro w' ⟨s0, s1, s2⟩
         go_simp
         with_reducible rfl
        rotate_left
        ·simp only [Act.put, Qp1, Qp2, Qp3, i64_w, i32_w]
         rfl
        refine one_ (i := 11) (N := some 66) (Qbz 14 4095) rfl rfl (by kernel_rfl) (by decide) (fun K hK => ?_)
        refine goes_ Tryd.func61 (by kernel_rfl) rfl #[.slice A2 G.length c2] (by rfl) rfl rfl (by simp only [List.map_toArray, List.map_cons, List.map_nil]; rfl) ?_
        with_reducible refine (CAL.out _ hHeld).mono ?_
        rintro e w3 ⟨rfl, g1, g3, gB⟩
        refine ⟨_, rfl, ?_⟩
        refine hK.out _ _ ⟨g1, g3, gB⟩ (fun hHeld => ?_)
        clear hK K
        refine norm_ (a' := ?_) ?_ ?_
        rotate_left
        ·show Act.put _ (some 66) _ = _
         simp only [Act.put, Qp1, Qp2, Qp3, i64_w, i32_w]
         rfl
        refine pure_ (i := 12) (N := some 67) (v := ?_) (a' := ?_) (Qbz 14 8191) rfl rfl (by kernel_rfl) (fun _ _ _ h => h) (Or.inl ⟨by rfl, ?_⟩) ?_ ?_
        rotate_left
        ·intro w'
         go_simp
         with_reducible rfl
        rotate_left
        ·simp only [Act.put, Qp1, Qp2, Qp3, i64_w, i32_w]
         rfl
        refine pure_ (i := 13) (N := some 68) (v := ?_) (a' := ?_) (Qbz 14 16383) rfl rfl (by kernel_rfl) (fun _ _ _ h => h) (Or.inl ⟨by rfl, ?_⟩) ?_ ?_
        rotate_left
        ·intro w'
         go_simp
         with_reducible rfl
        rotate_left
        ·simp only [Act.put, Qp1, Qp2, Qp3, i64_w, i32_w]
         rfl
        refine done_ (by kernel_rfl) ?_
        go_wp2
        ((try simp only [Exit.inBlock, Exit.then]); refine bodyPost_ret (results_tmp4 rfl _ _ _) rfl ?_)
        exact ⟨rfl, below_then HBW0.out HBW0.out.size gB⟩
      ·rw [if_pos rfl] at HEQ
       simp only [Prod.mk.injEq] at HEQ
       obtain ⟨rfl, rfl, rfl⟩ := HEQ
       go_wp2_with (fail)
       refine start_ (n := 14) (S := fun w' => w'.cell? ⟨w1.heap.size, 1, none⟩ = some (.slice (some ⟨gc, 0, none⟩) E.length E.length) ∧ w'.cell? ⟨w1.heap.size, 3, none⟩ = some (.int .i64 (s.had : Int)) ∧ Below wr.heap.size wr w') (ds := []) (Qbz 14 0) (by kernel_rfl) rfl rfl ⟨f1d, f3d, fbd⟩ (fun hHeld => ?_)
       refine pure_ (i := 0) (N := some 55) (v := ?_) (a' := ?_) (Qbz 14 1) rfl rfl (by kernel_rfl) (fun _ _ _ h => h) (Or.inl ⟨by rfl, ?_⟩) ?_ ?_
       rotate_left
       ·intro w'
        go_simp
        with_reducible rfl
       rotate_left
       ·simp only [Act.put, Qp1, Qp2, Qp3, i64_w, i32_w]
        rfl
       refine pure_ (i := 1) (N := some 56) (v := ?_) (a' := ?_) (Qbz 14 3) rfl rfl (by kernel_rfl) (fun _ _ _ h => h) (Or.inl ⟨by rfl, ?_⟩) ?_ ?_
       rotate_left
       ·intro w'
        go_simp
        with_reducible rfl
       rotate_left
       ·simp only [Act.put, Qp1, Qp2, Qp3, i64_w, i32_w]
        rfl
       refine pure_ (i := 2) (N := some 57) (v := ?_) (a' := ?_) (Qbz 14 7) rfl rfl (by kernel_rfl) (fun _ _ _ h => h) (Or.inl ⟨by rfl, ?_⟩) ?_ ?_
       rotate_left
       ·intro w'
        go_simp
        with_reducible rfl
       rotate_left
       ·simp only [Act.put, Qp1, Qp2, Qp3, i64_w, i32_w]
        rfl
       refine take_ (i := 3) (N := some 58) (v := ?_) (a' := ?_) (Qbz 14 15) rfl rfl (by kernel_rfl) (fun _ _ _ h => h) (Or.inl ⟨by rfl, ?_⟩) hHeld ?_ ?_
       rotate_left
       ·rintro w' ⟨s0, s1, s2⟩
        go_simp
        with_reducible rfl
       rotate_left
       ·simp only [Act.put, Qp1, Qp2, Qp3, i64_w, i32_w]
        rfl
       refine one_ (i := 4) (N := some 59) (Qbz 14 31) rfl rfl (by kernel_rfl) (by decide) (fun K hK => ?_)
       refine goes_ Tryd.func66 (by kernel_rfl) rfl #[.slice (some ⟨gc, 0, none⟩) E.length E.length, .bool false] (by rfl) rfl rfl (by simp only [List.map_toArray, List.map_cons, List.map_nil]; rfl) ?_
       with_reducible refine (CCN.out _ hHeld).mono ?_
       rintro e w3 ⟨rfl, g1, g3, gB⟩
       refine ⟨_, rfl, ?_⟩
       refine hK.out _ _ ⟨g1, g3, gB⟩ (fun hHeld => ?_)
       clear hK K
       refine norm_ (a' := ?_) ?_ ?_
       rotate_left
       ·show Act.put _ (some 59) _ = _
        simp only [Act.put, Qp1, Qp2, Qp3, i64_w, i32_w]
        rfl
       refine pure_ (i := 5) (N := some 60) (v := ?_) (a' := ?_) (Qbz 14 63) rfl rfl (by kernel_rfl) (fun _ _ _ h => h) (Or.inl ⟨by rfl, ?_⟩) ?_ ?_
       rotate_left
       ·intro w'
        go_simp
        with_reducible rfl
       rotate_left
       ·simp only [Act.put, Qp1, Qp2, Qp3, i64_w, i32_w]
        rfl
       refine pure_ (i := 6) (N := some 61) (v := undef) (a' := ?_) (Qbz 14 127) rfl rfl (by kernel_rfl) (fun _ _ _ h => h) (Or.inr ⟨by rfl, rfl⟩) ?_ ?_
       rotate_left
       ·simp only [Act.put, Qp1, Qp2, Qp3, i64_w, i32_w]
        rfl
       refine pure_ (i := 7) (N := some 62) (v := undef) (a' := ?_) (Qbz 14 255) rfl rfl (by kernel_rfl) (fun _ _ _ h => h) (Or.inr ⟨by rfl, rfl⟩) ?_ ?_
       rotate_left
       ·simp only [Act.put, Qp1, Qp2, Qp3, i64_w, i32_w]
        rfl
       refine pure_ (i := 8) (N := some 63) (v := undef) (a' := ?_) (Qbz 14 511) rfl rfl (by kernel_rfl) (fun _ _ _ h => h) (Or.inr ⟨by rfl, rfl⟩) ?_ ?_
       rotate_left
       ·simp only [Act.put, Qp1, Qp2, Qp3, i64_w, i32_w]
        rfl
       refine pure_ (i := 9) (N := some 64) (v := undef) (a' := ?_) (Qbz 14 1023) rfl rfl (by kernel_rfl) (fun _ _ _ h => h) (Or.inr ⟨by rfl, rfl⟩) ?_ ?_
       rotate_left
       ·simp only [Act.put, Qp1, Qp2, Qp3, i64_w, i32_w]
        rfl
       refine pure_ (i := 10) (N := some 65) (v := undef) (a' := ?_) (Qbz 14 2047) rfl rfl (by kernel_rfl) (fun _ _ _ h => h) (Or.inr ⟨by rfl, rfl⟩) ?_ ?_
       rotate_left
       ·simp only [Act.put, Qp1, Qp2, Qp3, i64_w, i32_w]
        rfl
       refine pure_ (i := 11) (N := some 66) (v := undef) (a' := ?_) (Qbz 14 4095) rfl rfl (by kernel_rfl) (fun _ _ _ h => h) (Or.inr ⟨by rfl, rfl⟩) ?_ ?_
       rotate_left
       ·simp only [Act.put, Qp1, Qp2, Qp3, i64_w, i32_w]
        rfl
       refine pure_ (i := 12) (N := some 67) (v := undef) (a' := ?_) (Qbz 14 8191) rfl rfl (by kernel_rfl) (fun _ _ _ h => h) (Or.inr ⟨by rfl, rfl⟩) ?_ ?_
       rotate_left
       ·simp only [Act.put, Qp1, Qp2, Qp3, i64_w, i32_w]
        rfl
       refine pure_ (i := 13) (N := some 68) (v := ?_) (a' := ?_) (Qbz 14 16383) rfl rfl (by kernel_rfl) (fun _ _ _ h => h) (Or.inl ⟨by rfl, ?_⟩) ?_ ?_
       rotate_left
       ·intro w'
        go_simp
        with_reducible rfl
       rotate_left
       ·simp only [Act.put, Qp1, Qp2, Qp3, i64_w, i32_w]
        rfl
       refine done_ (by kernel_rfl) ?_
       go_wp2
       ((try simp only [Exit.inBlock, Exit.then]); refine bodyPost_ret (results_tmp4 rfl _ _ _) rfl ?_)
       exact ⟨rfl, below_then HBW0.out HBW0.out.size gB⟩
   ·have hl2 : decide ((l1.length : Int) > 100) = true := decide_eq_true (by omega)
    have hl3 : ((l1.length : Int) > 100) = True := eq_true (by omega)
    have hh := H.out
    unfold ownPlay at hh
    rw [if_pos (by omega)] at hh
    simp only [Prod.mk.injEq] at hh
    obtain ⟨rfl, rfl, rfl⟩ := hh
    go_enter Tryd.func38, Tryd.ntmps38
    go_wp2_with (go_at_call 49; refine HRD.out.mono ?_; rintro e w1 ⟨A2, c2, rfl, hc2, hC2, hb1⟩)
    ((try simp only [Exit.inBlock, Exit.then]); refine bodyPost_ret (results_tmp4 rfl _ _ _) rfl ?_)
    exact ⟨rfl, hb1⟩
  ·rw [if_neg hchk] at h
   injection h with h
   simp only [Prod.mk.injEq] at h
   obtain ⟨rfl, rfl, rfl, rfl⟩ := h
   have HRD := Aside0.mk (read_no hlen (by simpa using hchk) A0 c0 w hr0 hc0)
   clear hchk hr0 hc0
   go_enter Tryd.func38, Tryd.ntmps38
   go_wp2_with (go_at_call 49; refine HRD.out.mono ?_; rintro e w1 ⟨v, rfl, hb1⟩)
   ((try simp only [Exit.inBlock, Exit.then]); refine bodyPost_ret (results_tmp4 rfl _ _ _) rfl ?_)
   exact ⟨rfl, hb1⟩
 ·rw [if_neg hlen] at h
  cases h
end Go.Proofs.YtijfddobandcdaaDoor.X
end
section
namespace Go.Proofs.YtijfddobandcdaaDoor.X
open Go.RowKit YtijfddobandcdaaDoorW.PrintWords YtijfddobandcdaaDoorW.PrintLast YtijfddobandcdaaDoorW.PrintMore
attribute [local go_sem] max2_int min2_int max_two min_two max_three min_three max_four min_four
/-! ### sweep_town_bags: function 52 -/
def sweep_town_bags.l0 : Nat → List Int → List Int → Int → List Int → Int → Int → Option (List Int)
 | 0, _, _, _, _, _, _ => none
 | k + 1, x0, x5, x6, x9, x10, x11 => if x11 < x10 then (if 0 ≤ x11 then (if x11 < (x9.length : Int) then ((sweep_town_border.f x0 x6).bind fun t194 => (if 0 ≤ (rd x9 x11) then (if x5.length < 17592186044416 then (sweep_town_bags.l0 k x0 (x5 ++ [Go.bits .or .i64 t194 (shl .i64 1 (rd x9 x11))]) (Go.bits .or .i64 x6 (shl .i64 1 (rd x9 x11))) x9 x10 (wrap64 (x11 + 1))) else (none)) else (none))) else (none)) else (none)) else (some x5)
def sweep_town_bags.f (k : Nat) (l0 : List Int) (l1 : List Int) : Option (List Int) := sweep_town_bags.l0 k l0 ([] : List Int) 0 l1 (l1.length : Int) 0
def sweep_town_bags.T6 : Bool × List (List Nat × List Nat) := (true, [([], []), ([], []), ([], []), ([1, 2], [1, 2]), ([], []), ([4], [4]), ([3, 5], [3, 5]), ([6], [6]), ([0, 7, 3], [0, 7]), ([8, 8, 0, 1, 2, 3, 4, 5, 6, 7, 8], [0, 8])])
def sweep_town_bags.B6 : List Nat := [0, 0, 0, 6, 0, 16, 62, 126, 255, 511]
theorem sweep_town_bags.tab6 : rtab .any (opsOf Tryd.f52 6) = sweep_town_bags.T6 := by kernel_rfl
theorem sweep_town_bags.bits6 : waitsOk sweep_town_bags.T6.2 sweep_town_bags.B6 = true := by kernel_rfl
set_option maxHeartbeats 8000000 in
set_option maxRecDepth 100000 in
theorem sweep_town_bags.calls (k : Nat) (A0 : Option Addr) (c0 : Nat) (l0 : List Int) (A1 : Option Addr) (c1 : Nat) (l1 : List Int) (r : List Int) (w : World) (hGL : GL w) (hr0 : Kd.C (Kd.int .i64) w A0 l0.length l0) (hc0 : l0.length ≤ c0) (hr1 : Kd.C (Kd.int .i64) w A1 l1.length l1) (hc1 : l1.length ≤ c1) (h : sweep_town_bags.f k l0 l1 = some r) :
  Calls Tryd.prog 52 #[.slice A0 l0.length c0, .slice A1 l1.length c1] w fun e w' => ∃ v0_ : Value, e = .returned (v0_) ∧ Kd.R (Kd.int .i64) 3 w' w.heap.size (fun _ => True) v0_ r ∧ Below w.heap.size w w' := by
 have HGL := Aside0.mk hGL
 clear hGL
 have HR0 := Aside0.mk hr0
 have HC0 := Aside0.mk hc0
 clear hr0 hc0
 have HR1 := Aside0.mk hr1
 have HC1 := Aside0.mk hc1
 clear hr1 hc1
 have HB := Aside0.mk (Below.refl w.heap.size w)
 have H : (sweep_town_bags.l0 k l0 ([] : List Int) 0 l1 (l1.length : Int) 0) = some r := h
 clear h
 have H' := Aside0.mk H
 clear H
 go_enter Tryd.func52, Tryd.ntmps52
 go_wp2
 go_loopg [5, 6, 11] k (fun kq v5 v6 v11 w' => ∃ (x5_1 : List Int) (x6_1 : Int) (x11_1 : Int), v6 = .int .i64 x6_1 ∧ v11 = .int .i64 x11_1 ∧ Aside0 (sweep_town_bags.l0 kq l0 x5_1 x6_1 l1 (l1.length : Int) x11_1 = some r) ∧ Aside0 (kq ≤ k) ∧ Aside0 (Kd.R (Kd.int .i64) 3 w' w.heap.size (fun _ => True) v5 x5_1) ∧ Aside0 (Below w.heap.size w w'))
 case atStart => exact ⟨(([] : List Int)), (0), (0), (by first | rfl | (simp; done) | (simp [*]; done)), (by first | rfl | (simp; done) | (simp [*]; done)), H', ⟨Nat.le_refl _⟩, ⟨by first | exact Kd.R_nil _ _ _ _ _ | exact Kd.N_nil _ _ _ _ _ | exact Kd.V_nil _ _ _ _ _ | exact Kd.Q_nil _ _ _ _ _ | exact Kd.S_nil _ _ _ _ _⟩, ⟨by repeat (first | (with_reducible first | exact HB.out | apply below_alloc | apply pw_below_drewN | apply below_drew1) | exact HB.out)⟩⟩
 case round =>
  clear H'
  try clear c1
  try clear p2
  obtain ⟨x5_1, x6_1, x11_1, rfl, rfl, HA, HK1, HO_5, HB⟩ := hrel
  cases gk with
  | zero => exact absurd HA.out (by simp [sweep_town_bags.l0])
  | succ k1 =>
   have H := HA.out
   clear HA
   simp only [sweep_town_bags.l0] at H
   by_cases c3 : x11_1 < (l1.length : Int)
   ·rw [if_pos c3] at H
    have c3b0 : decide (x11_1 < (l1.length : Int)) = true := decide_eq_true c3
    clear c3
    by_cases c4 : 0 ≤ x11_1
    ·rw [if_pos c4] at H
     have c4b0 : decide (0 ≤ x11_1) = true := decide_eq_true c4
     clear c4
     by_cases c5 : x11_1 < (l1.length : Int)
     ·rw [if_pos c5] at H
      have c5b0 : decide (x11_1 < (l1.length : Int)) = true := decide_eq_true c5
      clear c5
      replace H := Option.bind_eq_some_iff.mp H
      obtain ⟨t194, A60, H⟩ := H
      replace H : (if 0 ≤ (rd l1 x11_1) then (if x5_1.length < 17592186044416 then (sweep_town_bags.l0 k1 l0 (x5_1 ++ [Go.bits .or .i64 t194 (shl .i64 1 (rd l1 x11_1))]) (Go.bits .or .i64 x6_1 (shl .i64 1 (rd l1 x11_1))) l1 (l1.length : Int) (wrap64 (x11_1 + 1))) else (none)) else (none)) = some r := H
      have A6 := Aside0.mk A60
      clear A60
      by_cases c7 : 0 ≤ (rd l1 x11_1)
      ·rw [if_pos c7] at H
       have c7b0 := eq_true c7
       have c7b1 : decide (0 ≤ (rd l1 x11_1)) = true := decide_eq_true c7
       clear c7
       obtain ⟨ji8, hji8⟩ : ∃ j_ : Int, (shl .i64 1 (rd l1 x11_1)) = j_ := ⟨_, rfl⟩
       replace H : (if x5_1.length < 17592186044416 then (sweep_town_bags.l0 k1 l0 (x5_1 ++ [Go.bits .or .i64 t194 (ji8)]) (Go.bits .or .i64 x6_1 (ji8)) l1 (l1.length : Int) (wrap64 (x11_1 + 1))) else (none)) = some r := by first | (rw [hji8] at H; exact H) | (simp only [hji8] at H ⊢; exact H)
       (try rw [hji8] at A6)
       have hji8_ : (IntKind.i64.wrap (1 * 2 ^ min (rd l1 x11_1).toNat 64)) = ji8 := hji8
       have hji8z : (rd l1 x11_1) ≤ 64 → (IntKind.i64.wrap (1 * 2 ^ (rd l1 x11_1).toNat)) = ji8 := shl_small hji8
       have hji8u : (IntKind.i64.wrap (2 ^ min (rd l1 x11_1).toNat 64)) = ji8 := by have h_ := hji8_; rw [Int.one_mul] at h_; exact h_
       have hji8v : (rd l1 x11_1) ≤ 64 → (IntKind.i64.wrap (2 ^ (rd l1 x11_1).toNat)) = ji8 := fun hle_ => by have h_ := hji8z hle_; rw [Int.one_mul] at h_; exact h_
       have hji8y : (wrap64 (1 * 2 ^ min (rd l1 x11_1).toNat 64)) = ji8 := (i64_w _).symm.trans hji8_
       have hji8x : (rd l1 x11_1) ≤ 64 → (wrap64 (1 * 2 ^ (rd l1 x11_1).toNat)) = ji8 := fun h_ => (i64_w _).symm.trans (hji8z h_)
       by_cases c9 : x5_1.length < 17592186044416
       ·rw [if_pos c9] at H
        have LMc9 := Aside0.mk c9
        clear c9
        obtain ⟨y195, hy195⟩ : ∃ y_ : List Int, y_ = (x5_1 ++ [Go.bits .or .i64 t194 (ji8)]) := ⟨_, rfl⟩
        replace H : (sweep_town_bags.l0 k1 l0 y195 (Go.bits .or .i64 x6_1 (ji8)) l1 (l1.length : Int) (wrap64 (x11_1 + 1))) = some r := by first | (rw [hy195]; with_reducible exact H) | (have H2_ := (Option.bind_some _ _).symm.trans H; rw [hy195]; with_reducible exact H2_) | (have H2_ := (Option.bind_some _ _).symm.trans H; with_reducible exact H2_) | with_reducible exact H | (rw [hy195]; exact H) | exact H
        have Ny195 := Aside0.mk hy195
        clear hy195
        have c10b0 := eq_true (of_decide_eq_true (by first | (with_reducible assumption) | assumption) : 0 ≤ (rd l1 x11_1))
        have H' := Aside0.mk H
        clear H
        have p193 : 0 ≤ (x11_1 : Int) := of_decide_eq_true (by first | (with_reducible assumption) | assumption)
        have q193 : x11_1 < (l1.length : Int) := of_decide_eq_true (by first | (with_reducible assumption) | assumption)
        obtain ⟨ad193, e193, hx193_0⟩ := Kd.at_int HR1.out x11_1 p193 q193
        cases e193
        replace hx193_0 := (HB.out.cell (World.block_lt_of_cell? w _ hx193_0)).trans hx193_0
        replace p193 := eq_true p193
        replace q193 := eq_true q193
        try go_wp2
        have n0_ := Aside0.mk (Kd.R_drew HO_5.out)
        have n1_ := Aside0.mk (below_drew1 HB.out)
        clear HO_5
        clear HB
        have HO_5 := n0_
        have HB := n1_
        clear n0_ n1_
        refine start_ (n := 10) (S := fun w' => True) (ds := []) (Qbz 10 0) (by kernel_rfl) rfl rfl trivial (fun hHeld => ?_); refine with_tabW sweep_town_bags.tab6 sweep_town_bags.bits6 (fun HT_ HW_ => ?_)
        generalize wr.drew = w11 at HO_5 HB hHeld ⊢
        refine pure_ (i := 0) (N := some 15) (v := ?_) (a' := ?_) (Qbz 10 1) rfl rfl (any_of HT_.out (by kernel_rfl)) (fun _ _ _ h => h) (Or.inl ⟨by rfl, ?_⟩) ?_ ?_
        rotate_left
        ·intro w'
         go_simp
         with_reducible rfl
        rotate_left
        ·simp only [Act.put, Qp1, Qp2, Qp3, i64_w, i32_w]
         rfl
        refine pure_ (i := 1) (N := some 16) (v := ?_) (a' := ?_) (Qbz 10 3) rfl rfl (any_of HT_.out (by kernel_rfl)) (fun _ _ _ h => h) (Or.inl ⟨by rfl, ?_⟩) ?_ ?_
        rotate_left
        ·intro w'
         go_simp
         with_reducible rfl
        rotate_left
        ·simp only [Act.put, Qp1, Qp2, Qp3, i64_w, i32_w]
         rfl
        refine pure_ (i := 2) (N := some 17) (v := ?_) (a' := ?_) (Qbz 10 7) rfl rfl (any_of HT_.out (by kernel_rfl)) (fun _ _ _ h => h) (Or.inl ⟨by rfl, ?_⟩) ?_ ?_
        rotate_left
        ·intro w'
         go_simp
         with_reducible rfl
        rotate_left
        ·simp only [Act.put, Qp1, Qp2, Qp3, i64_w, i32_w]
         rfl
        refine pure_ (i := 4) (N := some 19) (v := ?_) (a' := ?_) (Qbz 10 23) rfl rfl (any_of HT_.out (by kernel_rfl)) (fun _ _ _ h => h) (Or.inl ⟨by rfl, ?_⟩) ?_ ?_
        rotate_left
        ·intro w'
         go_simp
         with_reducible rfl
        rotate_left
        ·simp only [Act.put, Qp1, Qp2, Qp3, i64_w, i32_w]
         rfl
        refine pure_ (i := 5) (N := some 20) (v := ?_) (a' := ?_) (Qbz 10 55) rfl rfl (any_of HT_.out (by kernel_rfl)) (fun _ _ _ h => h) (Or.inl ⟨by rfl, ?_⟩) ?_ ?_
        rotate_left
        ·intro w'
         go_simp
         with_reducible rfl
        rotate_left
        ·simp only [Act.put, Qp1, Qp2, Qp3, i64_w, i32_w]
         rfl
        refine one_ (i := 3) (N := some 18) (Qbz 10 63) rfl rfl (one_of HT_.out (by kernel_rfl)) (by decide) (fun K hK => ?_)
        refine goes_ Tryd.func73 (by kernel_rfl) rfl #[.slice A0 l0.length c0, .int .i64 x6_1] (by rfl) rfl rfl (Qls) ?_
        with_reducible refine (sweep_town_border.calls (hGL := (Qlg)) _ _ l0 x6_1 t194 _ ?side1 ?side2 A6.out).mono ?_
        (case side1 => exact Qsc (Kd.C_below HR0.out HB.out))
        (case side2 => exact HC0.out)
        rintro e w12 ⟨rfl, hb⟩
        refine ⟨_, rfl, ?_⟩
        have n0_ := Aside0.mk (Kd.R_below (Qro HO_5.out) hb)
        have n1_ := Aside0.mk (below_step (Qaw) hb)
        clear HO_5
        clear HB
        have HO_5 := n0_
        have HB := n1_
        clear n0_ n1_
        (try clear hb)
        (try clear hb2)
        (try clear hk)
        (try clear hi)
        refine hK.out _ _ trivial (fun hHeld => ?_)
        clear hK K
        refine norm_ (a' := ?_) ?_ ?_
        rotate_left
        ·show Act.put _ (some 18) _ = _
         simp only [Act.put, Qp1, Qp2, Qp3, i64_w, i32_w]
         rfl
        refine pure_ (i := 6) (N := some 21) (v := ?_) (a' := ?_) (Qbz 10 127) rfl rfl (any_of HT_.out (by kernel_rfl)) (fun _ _ _ h => h) (Or.inl ⟨by rfl, ?_⟩) ?_ ?_
        rotate_left
        ·intro w'
         go_simp
         with_reducible rfl
        rotate_left
        ·simp only [Act.put, Qp1, Qp2, Qp3, i64_w, i32_w]
         rfl
        refine one_ (i := 7) (N := some 22) (Qbz 10 255) rfl rfl (one_of HT_.out (by kernel_rfl)) (by decide) (fun K hK => ?_)
        refine value_ (w1 := ?_) (v := ?_) (by rfl) rfl ?_ ?_
        rotate_left 2
        ·go_simp
         constructor
         ·rfl
         ·rfl
        refine hK.out _ _ trivial (fun hHeld => ?_)
        clear hK K
        refine norm_ (a' := ?_) ?_ ?_
        rotate_left
        ·show Act.put _ (some 22) _ = _
         simp only [Act.put, Qp1, Qp2, Qp3, i64_w, i32_w]
         rfl
        refine one_ (i := 8) (N := some 23) (Qbz 10 511) rfl rfl (one_of HT_.out (by kernel_rfl)) (by decide) (fun K hK => ?_)
        refine Kd.R_append_step (Kd.int .i64) (w0 := w) w.heap.size (by rfl) (.tmp 15) (.tmp 22) 22 3 (.int .i64 0) 8 rfl Tryd.underlying22 info3 rfl (by decide) (by omega) u5 x5_1 (Go.bits .or .i64 t194 (ji8)) [.int .i64 (Go.bits .or .i64 t194 (ji8))] (fun _ => True) (fun _ => False) rfl rfl ?aP (fun _ hk => hk.elim) ?aF ?aO ?aB ?aS ?aL ?_
        (case aP => exact rfl)
        (case aB => exact (Qaw))
        (case aF => exact (fun _ _ => trivial))
        (case aO => exact (Qro HO_5.out))
        (case aS => exact (below_size (Qaw)))
        (case aL => have := LMc9.out; omega)
        intro v196 w13 ho hb hg hat
        rw [← Ny195.out] at ho
        have n0_ := Aside0.mk (hb)
        have n1_ := Aside0.mk (ho)
        clear HB
        clear HO_5
        have HB := n0_
        have HO197 := n1_
        clear n0_ n1_
        clear ho hb hg hat
        refine hK.out _ _ trivial (fun hHeld => ?_)
        clear hK K
        refine norm_ (a' := ?_) ?_ ?_
        rotate_left
        ·show Act.put _ (some 23) _ = _
         simp only [Act.put, Qp1, Qp2, Qp3, i64_w, i32_w]
         rfl
        refine pure_ (i := 9) (N := some 5) (v := ?_) (a' := ?_) (Qbz 10 1023) rfl rfl (any_of HT_.out (by kernel_rfl)) (fun _ _ _ h => h) (Or.inl ⟨by rfl, ?_⟩) ?_ ?_
        rotate_left
        ·intro w'
         go_simp
         with_reducible rfl
        rotate_left
        ·simp only [Act.put, Qp1, Qp2, Qp3, i64_w, i32_w]
         rfl
        refine done_ (done_of HT_.out (by kernel_rfl)) ?_
        try go_wp2
        go_roundg k1
        case measure => have := HK1.out; omega
        case rel => exact ⟨(y195), (Go.bits .or .i64 x6_1 (ji8)), (wrap64 (x11_1 + 1)), (by first | rfl | (simp; done) | (simp only [← hji8] <;> (first | rfl | simp)) | (simp [*]; done)), (by first | rfl | (simp; done) | (simp [*]; done)), H', ⟨by have := HK1.out; omega⟩, ⟨by (with_reducible repeat (first | apply Kd.R_alloc | apply Kd.R_drewN | apply Kd.R_drew)); exact HO197.out⟩, ⟨by repeat (first | (with_reducible first | exact HB.out | apply below_alloc | apply pw_below_drewN | apply below_drew1) | exact HB.out)⟩⟩
       ·rw [if_neg c9] at H
        exact absurd H (by simp)
      ·rw [if_neg c7] at H
       exact absurd H (by simp)
     ·rw [if_neg c5] at H
      exact absurd H (by simp)
    ·rw [if_neg c4] at H
     exact absurd H (by simp)
   ·rw [if_neg c3] at H
    have c3b0 : decide (x11_1 < (l1.length : Int)) = false := decide_eq_false c3
    clear c3
    obtain rfl := Option.some.inj H
    go_wp2
    go_ret
    exact ⟨_, by first | rfl | (simp [errW_none, errW_some] <;> rfl) | (simp [*, errW_none, errW_some] <;> rfl), by (with_reducible repeat (first | apply Kd.R_alloc | apply Kd.R_drewN | apply Kd.R_drew)); exact HO_5.out, by repeat (first | (with_reducible first | exact HB.out | apply below_alloc | apply pw_below_drewN | apply below_drew1) | exact HB.out)⟩
end Go.Proofs.YtijfddobandcdaaDoor.X
end
section
namespace Go.Proofs.YtijfddobandcdaaDoor.X
open Go.RowKit YtijfddobandcdaaDoorW.PrintWords YtijfddobandcdaaDoorW.PrintLast YtijfddobandcdaaDoorW.PrintMore
attribute [local go_sem] max2_int min2_int max_two min_two max_three min_three max_four min_four
/-! ### sweep_town_isLayout: function 55 -/
def sweep_town_isLayout.l0 : Nat → List Int → List Int → Int → List Int → Int → Int → Option (Bool)
 | 0, _, _, _, _, _, _ => none
 | k + 1, x0, x1, x5, x8, x9, x10 => if x10 < x9 then (if 0 ≤ x10 then (if x10 < (x8.length : Int) then (if (rd x8 x10) < 0 then (some false) else (if (rd x8 x10) ≥ (x0.length : Int) then (some false) else (if 0 ≤ (rd x8 x10) then (sweep_town_isLayout.l0 k x0 x1 (Go.bits .or .i64 x5 (shl .i64 1 (rd x8 x10))) x8 x9 (wrap64 (x10 + 1))) else (none)))) else (none)) else (none)) else (if (x1.length : Int) = (x0.length : Int) then ((sweep_town_all.f x0).bind fun t235 => (some (x5 == t235))) else (some false))
def sweep_town_isLayout.f (k : Nat) (l0 : List Int) (l1 : List Int) : Option (Bool) := sweep_town_isLayout.l0 k l0 l1 0 l1 (l1.length : Int) 0
set_option maxHeartbeats 8000000 in
set_option maxRecDepth 100000 in
theorem sweep_town_isLayout.calls (k : Nat) (A0 : Option Addr) (c0 : Nat) (l0 : List Int) (A1 : Option Addr) (c1 : Nat) (l1 : List Int) (r : Bool) (w : World) (hr0 : Kd.C (Kd.int .i64) w A0 l0.length l0) (hc0 : l0.length ≤ c0) (hr1 : Kd.C (Kd.int .i64) w A1 l1.length l1) (hc1 : l1.length ≤ c1) (h : sweep_town_isLayout.f k l0 l1 = some r) :
  Calls Tryd.prog 55 #[.slice A0 l0.length c0, .slice A1 l1.length c1] w fun e w' => e = .returned (.bool r) ∧ Drawn0 w w' := by
 have HR0 := Aside0.mk hr0
 have HC0 := Aside0.mk hc0
 clear hr0 hc0
 have HR1 := Aside0.mk hr1
 have HC1 := Aside0.mk hc1
 clear hr1 hc1
 have H : (sweep_town_isLayout.l0 k l0 l1 0 l1 (l1.length : Int) 0) = some r := h
 clear h
 have H' := Aside0.mk H
 clear H
 go_enter Tryd.func55, Tryd.ntmps55
 go_wp2
 go_loopg [5, 10] k (fun kq v5 v10 w' => ∃ (x5_1 : Int) (x10_1 : Int), v5 = .int .i64 x5_1 ∧ v10 = .int .i64 x10_1 ∧ Aside0 (sweep_town_isLayout.l0 kq l0 l1 x5_1 l1 (l1.length : Int) x10_1 = some r) ∧ Aside0 (kq ≤ k) ∧ Drawn0 w w')
 case atStart => exact ⟨(0), (0), (by first | rfl | (simp; done) | (simp [*]; done)), (by first | rfl | (simp; done) | (simp [*]; done)), H', ⟨Nat.le_refl _⟩, by repeat (first | exact Drawn0.refl _ | apply Drawn0.step)⟩
 case round =>
  clear H'
  try clear c1
  try clear p2
  obtain ⟨x5_1, x10_1, rfl, rfl, HA, HK1, ⟨m1, rfl⟩⟩ := hrel
  cases gk with
  | zero => exact absurd HA.out (by simp [sweep_town_isLayout.l0])
  | succ k1 =>
   have H := HA.out
   clear HA
   simp only [sweep_town_isLayout.l0] at H
   by_cases c3 : x10_1 < (l1.length : Int)
   ·rw [if_pos c3] at H
    have c3b0 : decide (x10_1 < (l1.length : Int)) = true := decide_eq_true c3
    clear c3
    by_cases c4 : 0 ≤ x10_1
    ·rw [if_pos c4] at H
     have c4b0 : decide (0 ≤ x10_1) = true := decide_eq_true c4
     clear c4
     by_cases c5 : x10_1 < (l1.length : Int)
     ·rw [if_pos c5] at H
      have c5b0 : decide (x10_1 < (l1.length : Int)) = true := decide_eq_true c5
      clear c5
      by_cases c6 : (rd l1 x10_1) < 0
      ·rw [if_pos c6] at H
       have c6b0 : decide ((rd l1 x10_1) < 0) = true := decide_eq_true c6
       clear c6
       obtain rfl := Option.some.inj H
       have p234 : 0 ≤ (x10_1 : Int) := of_decide_eq_true (by first | (with_reducible assumption) | assumption)
       have q234 : x10_1 < (l1.length : Int) := of_decide_eq_true (by first | (with_reducible assumption) | assumption)
       obtain ⟨ad234, e234, hx234_0⟩ := Kd.at_int HR1.out x10_1 p234 q234
       cases e234
       replace p234 := eq_true p234
       replace q234 := eq_true q234
       go_wp2
       go_ret
       exact ⟨by first | rfl | (simp; done) | (simp [*]; done), by repeat (first | exact Drawn0.refl _ | apply Drawn0.step)⟩
      ·rw [if_neg c6] at H
       have c6b0 : decide ((rd l1 x10_1) < 0) = false := decide_eq_false c6
       clear c6
       by_cases c7 : (rd l1 x10_1) ≥ (l0.length : Int)
       ·rw [if_pos c7] at H
        have c7b0 : decide ((l0.length : Int) ≤ (rd l1 x10_1)) = true := decide_eq_true c7
        clear c7
        obtain rfl := Option.some.inj H
        have p234 : 0 ≤ (x10_1 : Int) := of_decide_eq_true (by first | (with_reducible assumption) | assumption)
        have q234 : x10_1 < (l1.length : Int) := of_decide_eq_true (by first | (with_reducible assumption) | assumption)
        obtain ⟨ad234, e234, hx234_0⟩ := Kd.at_int HR1.out x10_1 p234 q234
        cases e234
        replace p234 := eq_true p234
        replace q234 := eq_true q234
        go_wp2
        go_ret
        exact ⟨by first | rfl | (simp; done) | (simp [*]; done), by repeat (first | exact Drawn0.refl _ | apply Drawn0.step)⟩
       ·rw [if_neg c7] at H
        have c7b0 : decide ((l0.length : Int) ≤ (rd l1 x10_1)) = false := decide_eq_false c7
        clear c7
        by_cases c8 : 0 ≤ (rd l1 x10_1)
        ·rw [if_pos c8] at H
         have c8b0 := eq_true c8
         have c8b1 : decide (0 ≤ (rd l1 x10_1)) = true := decide_eq_true c8
         clear c8
         obtain ⟨ji9, hji9⟩ : ∃ j_ : Int, (shl .i64 1 (rd l1 x10_1)) = j_ := ⟨_, rfl⟩
         replace H : (sweep_town_isLayout.l0 k1 l0 l1 (Go.bits .or .i64 x5_1 (ji9)) l1 (l1.length : Int) (wrap64 (x10_1 + 1))) = some r := by first | (rw [hji9] at H; exact H) | (simp only [hji9] at H ⊢; exact H)
         have hji9_ : (IntKind.i64.wrap (1 * 2 ^ min (rd l1 x10_1).toNat 64)) = ji9 := hji9
         have hji9z : (rd l1 x10_1) ≤ 64 → (IntKind.i64.wrap (1 * 2 ^ (rd l1 x10_1).toNat)) = ji9 := shl_small hji9
         have hji9u : (IntKind.i64.wrap (2 ^ min (rd l1 x10_1).toNat 64)) = ji9 := by have h_ := hji9_; rw [Int.one_mul] at h_; exact h_
         have hji9v : (rd l1 x10_1) ≤ 64 → (IntKind.i64.wrap (2 ^ (rd l1 x10_1).toNat)) = ji9 := fun hle_ => by have h_ := hji9z hle_; rw [Int.one_mul] at h_; exact h_
         have hji9y : (wrap64 (1 * 2 ^ min (rd l1 x10_1).toNat 64)) = ji9 := (i64_w _).symm.trans hji9_
         have hji9x : (rd l1 x10_1) ≤ 64 → (wrap64 (1 * 2 ^ (rd l1 x10_1).toNat)) = ji9 := fun h_ => (i64_w _).symm.trans (hji9z h_)
         have H' := Aside0.mk H
         clear H
         have p234 : 0 ≤ (x10_1 : Int) := of_decide_eq_true (by first | (with_reducible assumption) | assumption)
         have q234 : x10_1 < (l1.length : Int) := of_decide_eq_true (by first | (with_reducible assumption) | assumption)
         obtain ⟨ad234, e234, hx234_0⟩ := Kd.at_int HR1.out x10_1 p234 q234
         cases e234
         replace p234 := eq_true p234
         replace q234 := eq_true q234
         go_wp2
         go_roundg k1
         case measure => have := HK1.out; omega
         case rel => exact ⟨(Go.bits .or .i64 x5_1 (ji9)), (wrap64 (x10_1 + 1)), (by first | rfl | (simp; done) | (simp only [← hji9] <;> (first | rfl | simp)) | (simp [*]; done)), (by first | rfl | (simp; done) | (simp [*]; done)), H', ⟨by have := HK1.out; omega⟩, by repeat (first | exact Drawn0.refl _ | apply Drawn0.step)⟩
        ·rw [if_neg c8] at H
         exact absurd H (by simp)
     ·rw [if_neg c5] at H
      exact absurd H (by simp)
    ·rw [if_neg c4] at H
     exact absurd H (by simp)
   ·rw [if_neg c3] at H
    have c3b0 : decide (x10_1 < (l1.length : Int)) = false := decide_eq_false c3
    clear c3
    by_cases c10 : (l1.length : Int) = (l0.length : Int)
    ·rw [if_pos c10] at H
     have c10b0 : ((l1.length : Int) == (l0.length : Int)) = true := beq_iff_eq.mpr c10
     have c10b1 : ((l1.length : Int) != (l0.length : Int)) = false := bne_eq_false_iff_eq.mpr c10
     have c10b2 : (l1.length == l0.length) = true := by first | simpa using c10 | (simp at c10 ⊢; omega)
     clear c10
     replace H := Option.bind_eq_some_iff.mp H
     obtain ⟨t235, A110, H⟩ := H
     replace H : (some (x5_1 == t235)) = some r := H
     have A11 := Aside0.mk A110
     clear A110
     obtain rfl := Option.some.inj H
     go_wp2_with (first | (go_at_call 61; (with_reducible refine (sweep_town_all.calls _ _ l0 t235 _ ?side1 ?side2 A11.out).mono ?_); (case side1 => exact Qsc HR0.out); (case side2 => exact HC0.out); rintro e w' ⟨rfl, ⟨nd, rfl⟩⟩))
     go_ret
     exact ⟨by first | rfl | (simp; done) | (simp [*]; done), by repeat (first | exact Drawn0.refl _ | apply Drawn0.step)⟩
    ·rw [if_neg c10] at H
     have c10b0 : ((l1.length : Int) == (l0.length : Int)) = false := beq_eq_false_iff_ne.mpr c10
     have c10b1 : ((l1.length : Int) != (l0.length : Int)) = true := bne_iff_ne.mpr c10
     have c10b2 : (l1.length == l0.length) = false := by first | simpa using c10 | (simp at c10 ⊢; omega)
     obtain rfl := Option.some.inj H
     go_wp2
     go_ret
     exact ⟨by first | rfl | (simp; done) | (simp [*]; done), by repeat (first | exact Drawn0.refl _ | apply Drawn0.step)⟩
end Go.Proofs.YtijfddobandcdaaDoor.X
end
section
namespace Go.Proofs.YtijfddobandcdaaDoor.X
open Go.RowKit YtijfddobandcdaaDoorW.PrintWords YtijfddobandcdaaDoorW.PrintLast YtijfddobandcdaaDoorW.PrintMore
attribute [local go_sem] max2_int min2_int max_two min_two max_three min_three max_four min_four
/-! ### sweep_Bags: function 32 -/
def sweep_Bags.f (k : Nat) (l0 : List Int) (l1 : List Int) : Option (List Int × Int) := (sweep_read.f k l0).bind fun bt278 => (if bt278.2 = true then ((sweep_town_isLayout.f k bt278.1 l1).bind fun t282 => (if t282 = true then ((sweep_town_bags.f k bt278.1 l1).bind fun t283 => (some (t283, 0))) else (some (([] : List Int), 2)))) else (some (([] : List Int), 2)))
set_option maxHeartbeats 8000000 in
set_option maxRecDepth 100000 in
theorem sweep_Bags.calls (k : Nat) (A0 : Option Addr) (c0 : Nat) (l0 : List Int) (A1 : Option Addr) (c1 : Nat) (l1 : List Int) (r1 : List Int) (r2 : Int) (w : World) (hGL : GL w) (hr0 : Kd.C (Kd.int .i64) w A0 l0.length l0) (hc0 : l0.length ≤ c0) (hr1 : Kd.C (Kd.int .i64) w A1 l1.length l1) (hc1 : l1.length ≤ c1) (h : sweep_Bags.f k l0 l1 = some (r1, r2)) :
  Calls Tryd.prog 32 #[.slice A0 l0.length c0, .slice A1 l1.length c1] w fun e w' => ∃ v0_ : Value, e = .returned (.tuple #[v0_, .int .i64 r2]) ∧ Kd.R (Kd.int .i64) 3 w' w.heap.size (fun _ => True) v0_ r1 ∧ Below w.heap.size w w' := by
 have HGL := Aside0.mk hGL
 clear hGL
 have HR0 := Aside0.mk hr0
 have HC0 := Aside0.mk hc0
 clear hr0 hc0
 have HR1 := Aside0.mk hr1
 have HC1 := Aside0.mk hc1
 clear hr1 hc1
 have HB := Aside0.mk (Below.refl w.heap.size w)
 have H : ((sweep_read.f k l0).bind fun bt278 => (if bt278.2 = true then ((sweep_town_isLayout.f k bt278.1 l1).bind fun t282 => (if t282 = true then ((sweep_town_bags.f k bt278.1 l1).bind fun t283 => (some (t283, 0))) else (some (([] : List Int), 2)))) else (some (([] : List Int), 2)))) = some (r1, r2) := h
 clear h
 replace H := Option.bind_eq_some_iff.mp H
 obtain ⟨⟨t278, t281⟩, A30, H⟩ := H
 replace H : (if t281 = true then ((sweep_town_isLayout.f k t278 l1).bind fun t282 => (if t282 = true then ((sweep_town_bags.f k t278 l1).bind fun t283 => (some (t283, 0))) else (some (([] : List Int), 2)))) else (some (([] : List Int), 2))) = some (r1, r2) := H
 have A3 := Aside0.mk A30
 clear A30
 by_cases c4 : t281 = true
 ·subst c4
  have H1 : ((sweep_town_isLayout.f k t278 l1).bind fun t282 => (if t282 = true then ((sweep_town_bags.f k t278 l1).bind fun t283 => (some (t283, 0))) else (some (([] : List Int), 2)))) = some (r1, r2) := by rw [if_pos rfl] at H; exact H
  clear H
  have H := H1
  clear H1
  replace H := Option.bind_eq_some_iff.mp H
  obtain ⟨t282, A50, H⟩ := H
  replace H : (if t282 = true then ((sweep_town_bags.f k t278 l1).bind fun t283 => (some (t283, 0))) else (some (([] : List Int), 2))) = some (r1, r2) := H
  have A5 := Aside0.mk A50
  clear A50
  by_cases c6 : t282 = true
  ·subst c6
   have H1 : ((sweep_town_bags.f k t278 l1).bind fun t283 => (some (t283, 0))) = some (r1, r2) := by rw [if_pos rfl] at H; exact H
   clear H
   have H := H1
   clear H1
   replace H := Option.bind_eq_some_iff.mp H
   obtain ⟨t283, A70, H⟩ := H
   replace H : (some (t283, 0)) = some (r1, r2) := H
   have A7 := Aside0.mk A70
   clear A70
   simp only [Option.some.injEq, Prod.mk.injEq] at H
   obtain ⟨rfl, rfl⟩ := H
   go_enter Tryd.func32, Tryd.ntmps32
   go_wp2_with (first | ((with_reducible refine gate_callee (f := 49) rfl ?_); refine goesL_ (some 10) rfl rfl Tryd.func49 (by kernel_rfl) rfl #[.slice A0 l0.length c0] rfl (Qls) ?_; (with_reducible refine (sweep_read.calls k (fun k_ => k_ < w.heap.size) _ _ l0 t278 true _ ?side1 A3.out).mono ?_); (case side1 => exact Kd.V_mk HC0.out (Kd.F_below (Kd.C_F (Kd.heap_int .i64) HR0.out) (Qaw))); rintro e w8 ⟨v279, rfl, ho0, hb⟩; refine ⟨_, rfl, ?_⟩; have n0_ := Aside0.mk (Kd.V_lower (Kd.V_mono (ok' := fun k_ => True) ho0 (fun k_ hk_ => trivial)) (below_size (Qaw))); have n1_ := Aside0.mk (below_step (Qaw) hb); clear HB; have HO280 := n0_; have HB := n1_; clear n0_ n1_; (try clear hb); (try clear hb2); (try clear hk); (try clear hi); (try clear ho0); obtain ⟨Ao9, co9, eo9⟩ := Kd.V_slice HO280.out; subst eo9) | (go_at_call 55; (with_reducible refine (sweep_town_isLayout.calls k _ _ t278 _ _ l1 true _ ?side1 ?side2 ?side3 ?side4 A5.out).mono ?_); (case side1 => exact Qsc (Kd.V_reads' HO280.out).2.2); (case side2 => exact (Kd.V_reads' HO280.out).2.1); (case side3 => exact Qsc (Kd.C_below HR1.out HB.out)); (case side4 => exact HC1.out); rintro e w' ⟨rfl, ⟨nd, rfl⟩⟩) | ((with_reducible refine gate_callee (f := 52) rfl ?_); refine goesL_ (some 23) rfl rfl Tryd.func52 (by kernel_rfl) rfl #[.slice Ao9 t278.length co9, .slice A1 l1.length c1] rfl (Qls) ?_; (with_reducible refine (sweep_town_bags.calls (hGL := (Qlg)) k _ _ t278 _ _ l1 t283 _ ?side1 ?side2 ?side3 ?side4 A7.out).mono ?_); (case side1 => exact Qsc (Kd.V_reads' HO280.out).2.2); (case side2 => exact (Kd.V_reads' HO280.out).2.1); (case side3 => repeat (first | exact (Kd.C_below HR1.out (Qaw)) | (with_reducible refine Kd.C_alloc ?_ _) | (with_reducible refine Kd.C_drewN ?_ _) | (with_reducible refine Kd.C_drew ?_))); (case side4 => exact HC1.out); rintro e w10 ⟨v284, rfl, ho0, hb⟩; refine ⟨_, rfl, ?_⟩; have n0_ := Aside0.mk (Kd.V_elder' (by (with_reducible repeat (first | apply Kd.V_alloc | apply Kd.V_drewN | apply Kd.V_drew)); exact HO280.out) (Kd.R_base ho0) hb); have n1_ := Aside0.mk (Kd.R_lower ho0 (below_size (Qaw))); have n2_ := Aside0.mk (below_step (Qaw) hb); clear HO280; clear HB; have HO280 := n0_; have HO285 := n1_; have HB := n2_; clear n0_ n1_ n2_; (try clear hb); (try clear hb2); (try clear hk); (try clear hi); (try clear ho0)))
   go_ret2
   exact ⟨_, by first | rfl | (simp [errW_none, errW_some] <;> rfl) | (simp [*, errW_none, errW_some] <;> rfl), by (with_reducible repeat (first | apply Kd.R_alloc | apply Kd.R_drewN | apply Kd.R_drew)); exact HO285.out, by repeat (first | (with_reducible first | exact HB.out | apply below_alloc | apply pw_below_drewN | apply below_drew1) | exact HB.out)⟩
  ·replace c6 := Bool.eq_false_iff.mpr c6
   subst c6
   have H1 : (some (([] : List Int), 2)) = some (r1, r2) := by rw [if_neg (show ¬ (false = true) by decide)] at H; exact H
   clear H
   have H := H1
   clear H1
   simp only [Option.some.injEq, Prod.mk.injEq] at H
   obtain ⟨rfl, rfl⟩ := H
   go_enter Tryd.func32, Tryd.ntmps32
   go_wp2_with (first | ((with_reducible refine gate_callee (f := 49) rfl ?_); refine goesL_ (some 10) rfl rfl Tryd.func49 (by kernel_rfl) rfl #[.slice A0 l0.length c0] rfl (Qls) ?_; (with_reducible refine (sweep_read.calls k (fun k_ => k_ < w.heap.size) _ _ l0 t278 true _ ?side1 A3.out).mono ?_); (case side1 => exact Kd.V_mk HC0.out (Kd.F_below (Kd.C_F (Kd.heap_int .i64) HR0.out) (Qaw))); rintro e w11 ⟨v279, rfl, ho0, hb⟩; refine ⟨_, rfl, ?_⟩; have n0_ := Aside0.mk (Kd.V_lower (Kd.V_mono (ok' := fun k_ => True) ho0 (fun k_ hk_ => trivial)) (below_size (Qaw))); have n1_ := Aside0.mk (below_step (Qaw) hb); clear HB; have HO280 := n0_; have HB := n1_; clear n0_ n1_; (try clear hb); (try clear hb2); (try clear hk); (try clear hi); (try clear ho0); obtain ⟨Ao12, co12, eo12⟩ := Kd.V_slice HO280.out; subst eo12) | (go_at_call 55; (with_reducible refine (sweep_town_isLayout.calls k _ _ t278 _ _ l1 false _ ?side1 ?side2 ?side3 ?side4 A5.out).mono ?_); (case side1 => exact Qsc (Kd.V_reads' HO280.out).2.2); (case side2 => exact (Kd.V_reads' HO280.out).2.1); (case side3 => exact Qsc (Kd.C_below HR1.out HB.out)); (case side4 => exact HC1.out); rintro e w' ⟨rfl, ⟨nd, rfl⟩⟩))
   go_ret2
   exact ⟨_, by first | rfl | (simp [errW_none, errW_some] <;> rfl) | (simp [*, errW_none, errW_some] <;> rfl), by first | exact Kd.R_nil _ _ _ _ _ | exact Kd.N_nil _ _ _ _ _ | exact Kd.V_nil _ _ _ _ _ | exact Kd.Q_nil _ _ _ _ _ | exact Kd.S_nil _ _ _ _ _, by repeat (first | (with_reducible first | exact HB.out | apply below_alloc | apply pw_below_drewN | apply below_drew1) | exact HB.out)⟩
 ·replace c4 := Bool.eq_false_iff.mpr c4
  subst c4
  have H1 : (some (([] : List Int), 2)) = some (r1, r2) := by rw [if_neg (show ¬ (false = true) by decide)] at H; exact H
  clear H
  have H := H1
  clear H1
  simp only [Option.some.injEq, Prod.mk.injEq] at H
  obtain ⟨rfl, rfl⟩ := H
  go_enter Tryd.func32, Tryd.ntmps32
  go_wp2_with (first | ((with_reducible refine gate_callee (f := 49) rfl ?_); refine goesL_ (some 10) rfl rfl Tryd.func49 (by kernel_rfl) rfl #[.slice A0 l0.length c0] rfl (Qls) ?_; (with_reducible refine (sweep_read.calls k (fun k_ => k_ < w.heap.size) _ _ l0 t278 false _ ?side1 A3.out).mono ?_); (case side1 => exact Kd.V_mk HC0.out (Kd.F_below (Kd.C_F (Kd.heap_int .i64) HR0.out) (Qaw))); rintro e w13 ⟨v279, rfl, ho0, hb⟩; refine ⟨_, rfl, ?_⟩; have n0_ := Aside0.mk (Kd.V_lower (Kd.V_mono (ok' := fun k_ => True) ho0 (fun k_ hk_ => trivial)) (below_size (Qaw))); have n1_ := Aside0.mk (below_step (Qaw) hb); clear HB; have HO280 := n0_; have HB := n1_; clear n0_ n1_; (try clear hb); (try clear hb2); (try clear hk); (try clear hi); (try clear ho0)))
  go_ret2
  exact ⟨_, by first | rfl | (simp [errW_none, errW_some] <;> rfl) | (simp [*, errW_none, errW_some] <;> rfl), by first | exact Kd.R_nil _ _ _ _ _ | exact Kd.N_nil _ _ _ _ _ | exact Kd.V_nil _ _ _ _ _ | exact Kd.Q_nil _ _ _ _ _ | exact Kd.S_nil _ _ _ _ _, by repeat (first | (with_reducible first | exact HB.out | apply below_alloc | apply pw_below_drewN | apply below_drew1) | exact HB.out)⟩
end Go.Proofs.YtijfddobandcdaaDoor.X
end
section
namespace Go.Proofs.YtijfddobandcdaaDoor.X
open Go.RowKit YtijfddobandcdaaDoorW.PrintWords YtijfddobandcdaaDoorW.PrintLast YtijfddobandcdaaDoorW.PrintMore
attribute [local go_sem] max2_int min2_int max_two min_two max_three min_three max_four min_four
/-! ### sweep_town_breadth: function 56 -/
def sweep_town_breadth.l0 : Nat → List Int → Int → Int → List Int → Int → Int → Option (Int)
 | 0, _, _, _, _, _, _ => none
 | k + 1, x0, x5, x6, x9, x10, x11 => if x11 < x10 then (if 0 ≤ x11 then (if x11 < (x9.length : Int) then (if 0 ≤ (rd x9 x11) then ((sweep_town_border.f x0 (Go.bits .or .i64 x5 (shl .i64 1 (rd x9 x11)))).bind fun t237 => ((sweep_count.f t237).bind fun t238 => (sweep_town_breadth.l0 k x0 (Go.bits .or .i64 x5 (shl .i64 1 (rd x9 x11))) (mx x6 t238) x9 x10 (wrap64 (x11 + 1))))) else (none)) else (none)) else (none)) else (some x6)
def sweep_town_breadth.f (k : Nat) (l0 : List Int) (l1 : List Int) : Option (Int) := sweep_town_breadth.l0 k l0 0 0 l1 (l1.length : Int) 0
set_option maxHeartbeats 8000000 in
set_option maxRecDepth 100000 in
theorem sweep_town_breadth.calls (k : Nat) (A0 : Option Addr) (c0 : Nat) (l0 : List Int) (A1 : Option Addr) (c1 : Nat) (l1 : List Int) (r : Int) (w : World) (hGL : GL w) (hr0 : Kd.C (Kd.int .i64) w A0 l0.length l0) (hc0 : l0.length ≤ c0) (hr1 : Kd.C (Kd.int .i64) w A1 l1.length l1) (hc1 : l1.length ≤ c1) (h : sweep_town_breadth.f k l0 l1 = some r) :
  Calls Tryd.prog 56 #[.slice A0 l0.length c0, .slice A1 l1.length c1] w fun e w' => e = .returned (.int .i64 r) ∧ Below w.heap.size w w' := by
 have HGL := Aside0.mk hGL
 clear hGL
 have HR0 := Aside0.mk hr0
 have HC0 := Aside0.mk hc0
 clear hr0 hc0
 have HR1 := Aside0.mk hr1
 have HC1 := Aside0.mk hc1
 clear hr1 hc1
 have HB := Aside0.mk (Below.refl w.heap.size w)
 have H : (sweep_town_breadth.l0 k l0 0 0 l1 (l1.length : Int) 0) = some r := h
 clear h
 have H' := Aside0.mk H
 clear H
 go_enter Tryd.func56, Tryd.ntmps56
 go_wp2
 go_loopg [5, 6, 11] k (fun kq v5 v6 v11 w' => ∃ (x5_1 : Int) (x6_1 : Int) (x11_1 : Int), v5 = .int .i64 x5_1 ∧ v6 = .int .i64 x6_1 ∧ v11 = .int .i64 x11_1 ∧ Aside0 (sweep_town_breadth.l0 kq l0 x5_1 x6_1 l1 (l1.length : Int) x11_1 = some r) ∧ Aside0 (kq ≤ k) ∧ Aside0 (Below w.heap.size w w'))
 case atStart => exact ⟨(0), (0), (0), (by first | rfl | (simp; done) | (simp [*]; done)), (by first | rfl | (simp; done) | (simp [*]; done)), (by first | rfl | (simp; done) | (simp [*]; done)), H', ⟨Nat.le_refl _⟩, ⟨by repeat (first | (with_reducible first | exact HB.out | apply below_alloc | apply pw_below_drewN | apply below_drew1) | exact HB.out)⟩⟩
 case round =>
  clear H'
  try clear c1
  try clear p2
  obtain ⟨x5_1, x6_1, x11_1, rfl, rfl, rfl, HA, HK1, HB⟩ := hrel
  cases gk with
  | zero => exact absurd HA.out (by simp [sweep_town_breadth.l0])
  | succ k1 =>
   have H := HA.out
   clear HA
   simp only [sweep_town_breadth.l0] at H
   by_cases c3 : x11_1 < (l1.length : Int)
   ·rw [if_pos c3] at H
    have c3b0 : decide (x11_1 < (l1.length : Int)) = true := decide_eq_true c3
    clear c3
    by_cases c4 : 0 ≤ x11_1
    ·rw [if_pos c4] at H
     have c4b0 : decide (0 ≤ x11_1) = true := decide_eq_true c4
     clear c4
     by_cases c5 : x11_1 < (l1.length : Int)
     ·rw [if_pos c5] at H
      have c5b0 : decide (x11_1 < (l1.length : Int)) = true := decide_eq_true c5
      clear c5
      by_cases c6 : 0 ≤ (rd l1 x11_1)
      ·rw [if_pos c6] at H
       have c6b0 := eq_true c6
       have c6b1 : decide (0 ≤ (rd l1 x11_1)) = true := decide_eq_true c6
       clear c6
       obtain ⟨ji7, hji7⟩ : ∃ j_ : Int, (shl .i64 1 (rd l1 x11_1)) = j_ := ⟨_, rfl⟩
       replace H : ((sweep_town_border.f l0 (Go.bits .or .i64 x5_1 (ji7))).bind fun t237 => ((sweep_count.f t237).bind fun t238 => (sweep_town_breadth.l0 k1 l0 (Go.bits .or .i64 x5_1 (ji7)) (mx x6_1 t238) l1 (l1.length : Int) (wrap64 (x11_1 + 1))))) = some r := by first | (rw [hji7] at H; exact H) | (simp only [hji7] at H ⊢; exact H)
       have hji7_ : (IntKind.i64.wrap (1 * 2 ^ min (rd l1 x11_1).toNat 64)) = ji7 := hji7
       have hji7z : (rd l1 x11_1) ≤ 64 → (IntKind.i64.wrap (1 * 2 ^ (rd l1 x11_1).toNat)) = ji7 := shl_small hji7
       have hji7u : (IntKind.i64.wrap (2 ^ min (rd l1 x11_1).toNat 64)) = ji7 := by have h_ := hji7_; rw [Int.one_mul] at h_; exact h_
       have hji7v : (rd l1 x11_1) ≤ 64 → (IntKind.i64.wrap (2 ^ (rd l1 x11_1).toNat)) = ji7 := fun hle_ => by have h_ := hji7z hle_; rw [Int.one_mul] at h_; exact h_
       have hji7y : (wrap64 (1 * 2 ^ min (rd l1 x11_1).toNat 64)) = ji7 := (i64_w _).symm.trans hji7_
       have hji7x : (rd l1 x11_1) ≤ 64 → (wrap64 (1 * 2 ^ (rd l1 x11_1).toNat)) = ji7 := fun h_ => (i64_w _).symm.trans (hji7z h_)
       replace H := Option.bind_eq_some_iff.mp H
       obtain ⟨t237, A80, H⟩ := H
       replace H : ((sweep_count.f t237).bind fun t238 => (sweep_town_breadth.l0 k1 l0 (Go.bits .or .i64 x5_1 (ji7)) (mx x6_1 t238) l1 (l1.length : Int) (wrap64 (x11_1 + 1)))) = some r := H
       have A8 := Aside0.mk A80
       clear A80
       replace H := Option.bind_eq_some_iff.mp H
       obtain ⟨t238, A90, H⟩ := H
       replace H : (sweep_town_breadth.l0 k1 l0 (Go.bits .or .i64 x5_1 (ji7)) (mx x6_1 t238) l1 (l1.length : Int) (wrap64 (x11_1 + 1))) = some r := H
       have A9 := Aside0.mk A90
       clear A90
       obtain ⟨ji10, hji10⟩ : ∃ j_ : Int, (mx x6_1 t238) = j_ := ⟨_, rfl⟩
       replace H : (sweep_town_breadth.l0 k1 l0 (Go.bits .or .i64 x5_1 (ji7)) ji10 l1 (l1.length : Int) (wrap64 (x11_1 + 1))) = some r := by first | (rw [hji10] at H; exact H) | (simp only [hji10] at H ⊢; exact H)
       (try rw [hji10] at A8)
       (try rw [hji10] at A9)
       have hji10_ : (if x6_1 < t238 then t238 else x6_1) = ji10 := hji10
       have H' := Aside0.mk H
       clear H
       have p236 : 0 ≤ (x11_1 : Int) := of_decide_eq_true (by first | (with_reducible assumption) | assumption)
       have q236 : x11_1 < (l1.length : Int) := of_decide_eq_true (by first | (with_reducible assumption) | assumption)
       obtain ⟨ad236, e236, hx236_0⟩ := Kd.at_int HR1.out x11_1 p236 q236
       cases e236
       replace hx236_0 := (HB.out.cell (World.block_lt_of_cell? w _ hx236_0)).trans hx236_0
       replace p236 := eq_true p236
       replace q236 := eq_true q236
       go_wp2_with (first | ((with_reducible refine gate_callee (f := 73) rfl ?_); refine goesL_ (some 22) rfl rfl Tryd.func73 (by kernel_rfl) rfl #[.slice A0 l0.length c0, .int .i64 (Go.bits .or .i64 x5_1 (ji7))] rfl (by (try simp only [List.map_toArray, List.map_cons, List.map_nil]); first | done | (simp only [hji7]; rfl) | rfl | (simp only [List.length_drop, List.length_take]; rfl)) ?_; (with_reducible refine (sweep_town_border.calls (hGL := (Qlg)) _ _ l0 (Go.bits .or .i64 x5_1 (ji7)) t237 _ ?side1 ?side2 A8.out).mono ?_); (case side1 => exact Qsc (Kd.C_below HR0.out HB.out)); (case side2 => exact HC0.out); rintro e w11 ⟨rfl, hb⟩; refine ⟨_, rfl, ?_⟩; have n0_ := Aside0.mk (below_step (Qaw) hb); clear HB; have HB := n0_; clear n0_; (try clear hb); (try clear hb2); (try clear hk); (try clear hi)) | ((with_reducible refine gate_callee (f := 63) rfl ?_); refine goesL_ (some 23) rfl rfl Tryd.func63 (by kernel_rfl) rfl #[.int .i64 t237] rfl (Qls) ?_; (with_reducible refine (sweep_count.calls t237 t238 _ A9.out).mono ?_); rintro e w' ⟨rfl, ⟨nd, rfl⟩⟩; refine ⟨_, rfl, ?_⟩))
       go_roundg k1
       case measure => have := HK1.out; omega
       case rel => exact ⟨(Go.bits .or .i64 x5_1 (ji7)), (ji10), (wrap64 (x11_1 + 1)), (by first | rfl | (simp; done) | (simp only [← hji7] <;> (first | rfl | simp)) | (simp [*]; done)), (by first | rfl | (simp; done) | (simp only [← hji10] <;> (first | rfl | simp)) | (simp [*]; done)), (by first | rfl | (simp; done) | (simp [*]; done)), H', ⟨by have := HK1.out; omega⟩, ⟨by repeat (first | (with_reducible first | exact HB.out | apply below_alloc | apply pw_below_drewN | apply below_drew1) | exact HB.out)⟩⟩
      ·rw [if_neg c6] at H
       exact absurd H (by simp)
     ·rw [if_neg c5] at H
      exact absurd H (by simp)
    ·rw [if_neg c4] at H
     exact absurd H (by simp)
   ·rw [if_neg c3] at H
    have c3b0 : decide (x11_1 < (l1.length : Int)) = false := decide_eq_false c3
    clear c3
    obtain rfl := Option.some.inj H
    go_wp2
    go_ret
    exact ⟨by first | rfl | (simp [errW_none, errW_some] <;> rfl) | (simp [*, errW_none, errW_some] <;> rfl), by repeat (first | (with_reducible first | exact HB.out | apply below_alloc | apply pw_below_drewN | apply below_drew1) | exact HB.out)⟩
end Go.Proofs.YtijfddobandcdaaDoor.X
end
section
namespace Go.Proofs.YtijfddobandcdaaDoor.X
open Go.RowKit YtijfddobandcdaaDoorW.PrintWords YtijfddobandcdaaDoorW.PrintLast YtijfddobandcdaaDoorW.PrintMore
attribute [local go_sem] max2_int min2_int max_two min_two max_three min_three max_four min_four
/-! ### sweep_Breadth: function 26 -/
def sweep_Breadth.f (k : Nat) (l0 : List Int) (l1 : List Int) : Option (Int × Int) := (sweep_read.f k l0).bind fun bt239 => (if bt239.2 = true then ((sweep_town_isLayout.f k bt239.1 l1).bind fun t243 => (if t243 = true then ((sweep_town_breadth.f k bt239.1 l1).bind fun t244 => (some (t244, 0))) else (some (0, 2)))) else (some (0, 2)))
set_option maxHeartbeats 8000000 in
set_option maxRecDepth 100000 in
theorem sweep_Breadth.calls (k : Nat) (A0 : Option Addr) (c0 : Nat) (l0 : List Int) (A1 : Option Addr) (c1 : Nat) (l1 : List Int) (r1 : Int) (r2 : Int) (w : World) (hGL : GL w) (hr0 : Kd.C (Kd.int .i64) w A0 l0.length l0) (hc0 : l0.length ≤ c0) (hr1 : Kd.C (Kd.int .i64) w A1 l1.length l1) (hc1 : l1.length ≤ c1) (h : sweep_Breadth.f k l0 l1 = some (r1, r2)) :
  Calls Tryd.prog 26 #[.slice A0 l0.length c0, .slice A1 l1.length c1] w fun e w' => e = .returned (.tuple #[.int .i64 r1, .int .i64 r2]) ∧ Below w.heap.size w w' := by
 have HGL := Aside0.mk hGL
 clear hGL
 have HR0 := Aside0.mk hr0
 have HC0 := Aside0.mk hc0
 clear hr0 hc0
 have HR1 := Aside0.mk hr1
 have HC1 := Aside0.mk hc1
 clear hr1 hc1
 have HB := Aside0.mk (Below.refl w.heap.size w)
 have H : ((sweep_read.f k l0).bind fun bt239 => (if bt239.2 = true then ((sweep_town_isLayout.f k bt239.1 l1).bind fun t243 => (if t243 = true then ((sweep_town_breadth.f k bt239.1 l1).bind fun t244 => (some (t244, 0))) else (some (0, 2)))) else (some (0, 2)))) = some (r1, r2) := h
 clear h
 replace H := Option.bind_eq_some_iff.mp H
 obtain ⟨⟨t239, t242⟩, A30, H⟩ := H
 replace H : (if t242 = true then ((sweep_town_isLayout.f k t239 l1).bind fun t243 => (if t243 = true then ((sweep_town_breadth.f k t239 l1).bind fun t244 => (some (t244, 0))) else (some (0, 2)))) else (some (0, 2))) = some (r1, r2) := H
 have A3 := Aside0.mk A30
 clear A30
 by_cases c4 : t242 = true
 ·subst c4
  have H1 : ((sweep_town_isLayout.f k t239 l1).bind fun t243 => (if t243 = true then ((sweep_town_breadth.f k t239 l1).bind fun t244 => (some (t244, 0))) else (some (0, 2)))) = some (r1, r2) := by rw [if_pos rfl] at H; exact H
  clear H
  have H := H1
  clear H1
  replace H := Option.bind_eq_some_iff.mp H
  obtain ⟨t243, A50, H⟩ := H
  replace H : (if t243 = true then ((sweep_town_breadth.f k t239 l1).bind fun t244 => (some (t244, 0))) else (some (0, 2))) = some (r1, r2) := H
  have A5 := Aside0.mk A50
  clear A50
  by_cases c6 : t243 = true
  ·subst c6
   have H1 : ((sweep_town_breadth.f k t239 l1).bind fun t244 => (some (t244, 0))) = some (r1, r2) := by rw [if_pos rfl] at H; exact H
   clear H
   have H := H1
   clear H1
   replace H := Option.bind_eq_some_iff.mp H
   obtain ⟨t244, A70, H⟩ := H
   replace H : (some (t244, 0)) = some (r1, r2) := H
   have A7 := Aside0.mk A70
   clear A70
   simp only [Option.some.injEq, Prod.mk.injEq] at H
   obtain ⟨rfl, rfl⟩ := H
   go_enter Tryd.func26, Tryd.ntmps26
   go_wp2_with (first | ((with_reducible refine gate_callee (f := 49) rfl ?_); refine goesL_ (some 10) rfl rfl Tryd.func49 (by kernel_rfl) rfl #[.slice A0 l0.length c0] rfl (Qls) ?_; (with_reducible refine (sweep_read.calls k (fun k_ => k_ < w.heap.size) _ _ l0 t239 true _ ?side1 A3.out).mono ?_); (case side1 => exact Kd.V_mk HC0.out (Kd.F_below (Kd.C_F (Kd.heap_int .i64) HR0.out) (Qaw))); rintro e w8 ⟨v240, rfl, ho0, hb⟩; refine ⟨_, rfl, ?_⟩; have n0_ := Aside0.mk (Kd.V_lower (Kd.V_mono (ok' := fun k_ => True) ho0 (fun k_ hk_ => trivial)) (below_size (Qaw))); have n1_ := Aside0.mk (below_step (Qaw) hb); clear HB; have HO241 := n0_; have HB := n1_; clear n0_ n1_; (try clear hb); (try clear hb2); (try clear hk); (try clear hi); (try clear ho0); obtain ⟨Ao9, co9, eo9⟩ := Kd.V_slice HO241.out; subst eo9) | (go_at_call 55; (with_reducible refine (sweep_town_isLayout.calls k _ _ t239 _ _ l1 true _ ?side1 ?side2 ?side3 ?side4 A5.out).mono ?_); (case side1 => exact Qsc (Kd.V_reads' HO241.out).2.2); (case side2 => exact (Kd.V_reads' HO241.out).2.1); (case side3 => exact Qsc (Kd.C_below HR1.out HB.out)); (case side4 => exact HC1.out); rintro e w' ⟨rfl, ⟨nd, rfl⟩⟩) | ((with_reducible refine gate_callee (f := 56) rfl ?_); refine goesL_ (some 23) rfl rfl Tryd.func56 (by kernel_rfl) rfl #[.slice Ao9 t239.length co9, .slice A1 l1.length c1] rfl (Qls) ?_; (with_reducible refine (sweep_town_breadth.calls (hGL := (Qlg)) k _ _ t239 _ _ l1 t244 _ ?side1 ?side2 ?side3 ?side4 A7.out).mono ?_); (case side1 => exact Qsc (Kd.V_reads' HO241.out).2.2); (case side2 => exact (Kd.V_reads' HO241.out).2.1); (case side3 => repeat (first | exact (Kd.C_below HR1.out (Qaw)) | (with_reducible refine Kd.C_alloc ?_ _) | (with_reducible refine Kd.C_drewN ?_ _) | (with_reducible refine Kd.C_drew ?_))); (case side4 => exact HC1.out); rintro e w10 ⟨rfl, hb⟩; refine ⟨_, rfl, ?_⟩; have n0_ := Aside0.mk (Kd.V_below (by (with_reducible repeat (first | apply Kd.V_alloc | apply Kd.V_drewN | apply Kd.V_drew)); exact HO241.out) hb); have n1_ := Aside0.mk (below_step (Qaw) hb); clear HO241; clear HB; have HO241 := n0_; have HB := n1_; clear n0_ n1_; (try clear hb); (try clear hb2); (try clear hk); (try clear hi)))
   go_ret2
   exact ⟨by first | rfl | (simp [errW_none, errW_some] <;> rfl) | (simp [*, errW_none, errW_some] <;> rfl), by repeat (first | (with_reducible first | exact HB.out | apply below_alloc | apply pw_below_drewN | apply below_drew1) | exact HB.out)⟩
  ·replace c6 := Bool.eq_false_iff.mpr c6
   subst c6
   have H1 : (some (0, 2)) = some (r1, r2) := by rw [if_neg (show ¬ (false = true) by decide)] at H; exact H
   clear H
   have H := H1
   clear H1
   simp only [Option.some.injEq, Prod.mk.injEq] at H
   obtain ⟨rfl, rfl⟩ := H
   go_enter Tryd.func26, Tryd.ntmps26
   go_wp2_with (first | ((with_reducible refine gate_callee (f := 49) rfl ?_); refine goesL_ (some 10) rfl rfl Tryd.func49 (by kernel_rfl) rfl #[.slice A0 l0.length c0] rfl (Qls) ?_; (with_reducible refine (sweep_read.calls k (fun k_ => k_ < w.heap.size) _ _ l0 t239 true _ ?side1 A3.out).mono ?_); (case side1 => exact Kd.V_mk HC0.out (Kd.F_below (Kd.C_F (Kd.heap_int .i64) HR0.out) (Qaw))); rintro e w11 ⟨v240, rfl, ho0, hb⟩; refine ⟨_, rfl, ?_⟩; have n0_ := Aside0.mk (Kd.V_lower (Kd.V_mono (ok' := fun k_ => True) ho0 (fun k_ hk_ => trivial)) (below_size (Qaw))); have n1_ := Aside0.mk (below_step (Qaw) hb); clear HB; have HO241 := n0_; have HB := n1_; clear n0_ n1_; (try clear hb); (try clear hb2); (try clear hk); (try clear hi); (try clear ho0); obtain ⟨Ao12, co12, eo12⟩ := Kd.V_slice HO241.out; subst eo12) | (go_at_call 55; (with_reducible refine (sweep_town_isLayout.calls k _ _ t239 _ _ l1 false _ ?side1 ?side2 ?side3 ?side4 A5.out).mono ?_); (case side1 => exact Qsc (Kd.V_reads' HO241.out).2.2); (case side2 => exact (Kd.V_reads' HO241.out).2.1); (case side3 => exact Qsc (Kd.C_below HR1.out HB.out)); (case side4 => exact HC1.out); rintro e w' ⟨rfl, ⟨nd, rfl⟩⟩))
   go_ret2
   exact ⟨by first | rfl | (simp [errW_none, errW_some] <;> rfl) | (simp [*, errW_none, errW_some] <;> rfl), by repeat (first | (with_reducible first | exact HB.out | apply below_alloc | apply pw_below_drewN | apply below_drew1) | exact HB.out)⟩
 ·replace c4 := Bool.eq_false_iff.mpr c4
  subst c4
  have H1 : (some (0, 2)) = some (r1, r2) := by rw [if_neg (show ¬ (false = true) by decide)] at H; exact H
  clear H
  have H := H1
  clear H1
  simp only [Option.some.injEq, Prod.mk.injEq] at H
  obtain ⟨rfl, rfl⟩ := H
  go_enter Tryd.func26, Tryd.ntmps26
  go_wp2_with (first | ((with_reducible refine gate_callee (f := 49) rfl ?_); refine goesL_ (some 10) rfl rfl Tryd.func49 (by kernel_rfl) rfl #[.slice A0 l0.length c0] rfl (Qls) ?_; (with_reducible refine (sweep_read.calls k (fun k_ => k_ < w.heap.size) _ _ l0 t239 false _ ?side1 A3.out).mono ?_); (case side1 => exact Kd.V_mk HC0.out (Kd.F_below (Kd.C_F (Kd.heap_int .i64) HR0.out) (Qaw))); rintro e w13 ⟨v240, rfl, ho0, hb⟩; refine ⟨_, rfl, ?_⟩; have n0_ := Aside0.mk (Kd.V_lower (Kd.V_mono (ok' := fun k_ => True) ho0 (fun k_ hk_ => trivial)) (below_size (Qaw))); have n1_ := Aside0.mk (below_step (Qaw) hb); clear HB; have HO241 := n0_; have HB := n1_; clear n0_ n1_; (try clear hb); (try clear hb2); (try clear hk); (try clear hi); (try clear ho0)))
  go_ret2
  exact ⟨by first | rfl | (simp [errW_none, errW_some] <;> rfl) | (simp [*, errW_none, errW_some] <;> rfl), by repeat (first | (with_reducible first | exact HB.out | apply below_alloc | apply pw_below_drewN | apply below_drew1) | exact HB.out)⟩
end Go.Proofs.YtijfddobandcdaaDoor.X
end
section
namespace Go.Proofs.YtijfddobandcdaaDoor.X
open Go.RowKit YtijfddobandcdaaDoorW.PrintWords YtijfddobandcdaaDoorW.PrintLast YtijfddobandcdaaDoorW.PrintMore
attribute [local go_sem] max2_int min2_int max_two min_two max_three min_three max_four min_four
/-! ### slices_Max_int_int: function 76 -/
def slices_Max_int_int.l0 : Nat → List Int → Int → Int → Option (Int)
 | 0, _, _, _ => none
 | k + 1, x0, x3, x4 => if x4 < (x0.length : Int) then (if 0 ≤ x4 then (slices_Max_int_int.l0 k x0 (mx x3 (rd x0 x4)) (wrap64 (x4 + 1))) else (none)) else (some x3)
def slices_Max_int_int.f (k : Nat) (l0 : List Int) : Option (Int) := if (l0.length : Int) < 1 then (none) else (if 0 < (l0.length : Int) then (slices_Max_int_int.l0 k l0 (rd l0 0) 1) else (none))
set_option maxHeartbeats 8000000 in
set_option maxRecDepth 100000 in
theorem slices_Max_int_int.calls (k : Nat) (A0 : Option Addr) (c0 : Nat) (l0 : List Int) (r : Int) (w : World) (hr0 : Kd.C (Kd.int .i64) w A0 l0.length l0) (hc0 : l0.length ≤ c0) (h : slices_Max_int_int.f k l0 = some r) :
  Calls Tryd.prog 76 #[.slice A0 l0.length c0] w fun e w' => e = .returned (.int .i64 r) ∧ Below w.heap.size w w' := by
 have HR0 := Aside0.mk hr0
 have HC0 := Aside0.mk hc0
 clear hr0 hc0
 have HB := Aside0.mk (Below.refl w.heap.size w)
 have H : (if (l0.length : Int) < 1 then (none) else (if 0 < (l0.length : Int) then (slices_Max_int_int.l0 k l0 (rd l0 0) 1) else (none))) = some r := h
 clear h
 by_cases c2 : (l0.length : Int) < 1
 ·rw [if_pos c2] at H
  exact absurd H (by simp)
 ·rw [if_neg c2] at H
  have c2b0 : decide ((l0.length : Int) < 1) = false := decide_eq_false c2
  have c2b1 : decide (l0.length < 1) = false := decide_eq_false (by omega)
  clear c2
  by_cases c3 : 0 < (l0.length : Int)
  ·rw [if_pos c3] at H
   have c3b0 : decide (0 < (l0.length : Int)) = true := decide_eq_true c3
   have c3b1 : decide (0 < l0.length) = true := decide_eq_true (by omega)
   clear c3
   have H' := Aside0.mk H
   clear H
   have p351 : 0 ≤ (0 : Int) := (by omega)
   have q351 : 0 < (l0.length : Int) := of_decide_eq_true (by first | (with_reducible assumption) | assumption)
   obtain ⟨ad351, e351, hx351_0⟩ := Kd.at_int HR0.out 0 p351 q351
   cases e351
   have qi351 : (0 < l0.length) = True := eq_true (by omega)
   (try rw [show ((0 : Int)).toNat = 0 from rfl] at hx351_0)
   (try rw [Addr.add_zero'] at hx351_0)
   replace p351 := eq_true p351
   replace q351 := eq_true q351
   go_enter Tryd.func76, Tryd.ntmps76
   go_wp2
   go_loopg [3, 4] k (fun kq v3 v4 w' => ∃ (x3_1 : Int) (x4_1 : Int), v3 = .int .i64 x3_1 ∧ v4 = .int .i64 x4_1 ∧ Aside0 (slices_Max_int_int.l0 kq l0 x3_1 x4_1 = some r) ∧ Aside0 (kq ≤ k) ∧ Aside0 (Below w.heap.size w w'))
   case atStart => exact ⟨(rd l0 0), (1), (by first | rfl | (simp; done) | (simp [*]; done)), (by first | rfl | (simp; done) | (simp [*]; done)), H', ⟨Nat.le_refl _⟩, ⟨by repeat (first | (with_reducible first | exact HB.out | apply below_alloc | apply pw_below_drewN | apply below_drew1) | exact HB.out)⟩⟩
   case round =>
    clear H'
    try clear c2
    try clear c2b0
    try clear c2b1
    try clear p2
    try clear c3
    try clear c3b0
    try clear c3b1
    try clear p3
    try clear q3
    try clear hx3
    try clear qi3
    try clear hx351_0
    try clear p351
    try clear q351
    obtain ⟨x3_1, x4_1, rfl, rfl, HA, HK1, HB⟩ := hrel
    cases gk with
    | zero => exact absurd HA.out (by simp [slices_Max_int_int.l0])
    | succ k1 =>
     have H := HA.out
     clear HA
     simp only [slices_Max_int_int.l0] at H
     by_cases c4 : x4_1 < (l0.length : Int)
     ·rw [if_pos c4] at H
      have c4b0 : decide (x4_1 < (l0.length : Int)) = true := decide_eq_true c4
      clear c4
      by_cases c5 : 0 ≤ x4_1
      ·rw [if_pos c5] at H
       have c5b0 : decide (0 ≤ x4_1) = true := decide_eq_true c5
       clear c5
       obtain ⟨ji6, hji6⟩ : ∃ j_ : Int, (mx x3_1 (rd l0 x4_1)) = j_ := ⟨_, rfl⟩
       replace H : (slices_Max_int_int.l0 k1 l0 ji6 (wrap64 (x4_1 + 1))) = some r := by first | (rw [hji6] at H; exact H) | (simp only [hji6] at H ⊢; exact H)
       have hji6_ : (if x3_1 < (rd l0 x4_1) then (rd l0 x4_1) else x3_1) = ji6 := hji6
       have H' := Aside0.mk H
       clear H
       have p352 : 0 ≤ (x4_1 : Int) := of_decide_eq_true (by first | (with_reducible assumption) | assumption)
       have q352 : x4_1 < (l0.length : Int) := of_decide_eq_true (by first | (with_reducible assumption) | assumption)
       obtain ⟨ad352, e352, hx352_0⟩ := Kd.at_int HR0.out x4_1 p352 q352
       obtain rfl : ad351 = ad352 := (by injection e352)
       replace hx352_0 := (HB.out.cell (World.block_lt_of_cell? w _ hx352_0)).trans hx352_0
       replace p352 := eq_true p352
       replace q352 := eq_true q352
       go_wp2
       go_roundg k1
       case measure => have := HK1.out; omega
       case rel => exact ⟨(ji6), (wrap64 (x4_1 + 1)), (by first | rfl | (simp; done) | (simp only [← hji6] <;> (first | rfl | simp)) | (simp [*]; done)), (by first | rfl | (simp; done) | (simp [*]; done)), H', ⟨by have := HK1.out; omega⟩, ⟨by repeat (first | (with_reducible first | exact HB.out | apply below_alloc | apply pw_below_drewN | apply below_drew1) | exact HB.out)⟩⟩
      ·rw [if_neg c5] at H
       exact absurd H (by simp)
     ·rw [if_neg c4] at H
      have c4b0 : decide (x4_1 < (l0.length : Int)) = false := decide_eq_false c4
      clear c4
      obtain rfl := Option.some.inj H
      go_wp2
      go_ret
      exact ⟨by first | rfl | (simp [errW_none, errW_some] <;> rfl) | (simp [*, errW_none, errW_some] <;> rfl), by repeat (first | (with_reducible first | exact HB.out | apply below_alloc | apply pw_below_drewN | apply below_drew1) | exact HB.out)⟩
  ·rw [if_neg c3] at H
   exact absurd H (by simp)
end Go.Proofs.YtijfddobandcdaaDoor.X
end
