/- Part 1 of what SweepBlockages rests on: contracts of the functions that it reaches, and what they compute, in plain words. -/
import Derived.Test.YtijfddobandcdaaDoorZSweepBlockages0
import Derived.ArgAppend
import Derived.OwnWalk
import Derived.Maps.AppendAt
import Derived.Deep.RegionHeld3
import Derived.WalkSpells
section
/- border, count, layout: what they compute, in plain words; Layout, Least, awake, Few. -/
set_option linter.unusedVariables false
namespace Go.Proofs.YtijfddobandcdaaDoor.X
open Go.RowKit Go.Proofs.YtijfddobandcdaaDoorW.PrintWords Go.Proofs.YtijfddobandcdaaDoorW.PrintLast Go.Proofs.YtijfddobandcdaaDoorW.PrintMore Go.Proofs.YtijfddobandcdaaDoor.T
theorem mx_nat (a b : Nat) : mx (a : Int) (b : Int) = ((max a b : Nat) : Int) := by unfold mx; split <;> omega
theorem mn_nat (a b : Nat) : mn (a : Int) (b : Int) = ((min a b : Nat) : Int) := by unfold mn; split <;> omega
theorem small (G : List Nat) (h : G.length ≤ 9) {x : Nat} (hx : x < 2 ^ G.length) : x < 512 := Nat.lt_of_lt_of_le hx (show 2 ^ G.length ≤ 2 ^ 9 from Nat.pow_le_pow_right (by omega) h)
theorem big {x : Nat} (h : x < 512) : x < 2 ^ 62 := by omega
theorem ctz_all : ∀ z : Fin 512, 0 < z.val → Lib.ctz 64 z.val < 9 ∧ z.val.testBit (Lib.ctz 64 z.val) = true ∧ rest z.val = diff z.val (2 ^ Lib.ctz 64 z.val) ∧ ∀ j : Fin 9, z.val.testBit j.val = true → Lib.ctz 64 z.val ≤ j.val := by decide +kernel
theorem ctz_bit {z : Nat} (hz : z < 512) (h0 : z ≠ 0) : bset z (Lib.ctz 64 z) := (ctz_all ⟨z, hz⟩ (by show 0 < z; omega)).2.1
theorem ctz_low {z : Nat} (hz : z < 512) (h0 : z ≠ 0) {j : Nat} (hj : bset z j) : Lib.ctz 64 z ≤ j := (ctz_all ⟨z, hz⟩ (by show 0 < z; omega)).2.2.2 ⟨j, bit_lt (n := 9) (by omega) hj⟩ hj
theorem rest_diff {z : Nat} (hz : z < 512) (h0 : z ≠ 0) : rest z = diff z (2 ^ Lib.ctz 64 z) := (ctz_all ⟨z, hz⟩ (by show 0 < z; omega)).2.2.1
theorem rest_bset {z : Nat} (hz : z < 512) (h0 : z ≠ 0) (j : Nat) : bset (rest z) j ↔ bset z j ∧ j ≠ Lib.ctz 64 z := by
 rw [rest_diff hz h0, diff_bset, two_pow_bit]
theorem rest_pc {z : Nat} (hz : z < 512) (h0 : z ≠ 0) : pc (rest z) 9 < pc z 9 := by
 have h1 := ctz_bit hz h0
 refine pc_lt (Lib.ctz 64 z) 9 (fun j _ h => ((rest_bset hz h0 j).1 h).1) (bit_lt (n := 9) (by omega) h1) ?_ h1
 have := rest_bset hz h0 (Lib.ctz 64 z)
 cases h : (rest z).testBit (Lib.ctz 64 z)
 ·rfl
 ·exact ((this.1 h).2 rfl).elim
theorem diff_ne {a b : Nat} : diff a b ≠ 0 ↔ ∃ u, bset a u ∧ ¬ bset b u := by
 constructor
 ·intro h
  obtain ⟨i, hi⟩ := Nat.exists_testBit_of_ne_zero h
  exact ⟨i, (diff_bset a b i).1 hi⟩
 ·rintro ⟨u, hu⟩ h
  have := (diff_bset a b u).2 hu
  rw [h] at this
  unfold bset at this
  simp at this
theorem count_all : ∀ x : Fin 512, sweep_count.f (x.val : Int) = some (pc x.val 9 : Int) := by decide +kernel
theorem count_eq (x : Nat) (hx : x < 512) : sweep_count.f (x : Int) = some (pc x 9 : Int) := count_all ⟨x, hx⟩
theorem rest_lt' {s n : Nat} (hs5 : s < 512) (h0 : s ≠ 0) (hs : s < 2 ^ n) : rest s < 2 ^ n := lt_of_bits fun j hj => bit_lt hs ((rest_bset hs5 h0 j).1 hj).1
theorem bordTo_eq (G : List Nat) (hG : Gr 7 G) (S : Nat) (hS : S < 2 ^ G.length) : ∀ (k s o : Nat), pc s 9 < k → s < 2 ^ G.length → o < 2 ^ G.length → (∀ j, bset s j → bset S j) →
  ∃ r : Nat, bordTo (gi G) S k s (o : Int) = some (r : Int) ∧ r < 2 ^ G.length ∧ ∀ j, bset r j ↔ bset o j ∨ (bset s j ∧ ∃ u, Adj G j u ∧ ¬ bset S u) := by
 have hn := hG.most
 intro k
 induction k with
 | zero => intro s o h; omega
 | succ k ih =>
  intro s o hk hs ho hsS
  have hs5 := small G (by omega) hs
  by_cases h0 : s = 0
  ·subst h0
   refine ⟨o, by rw [bordTo, if_pos rfl], ho, fun j => ⟨.inl, fun h => h.elim id (fun h => ?_)⟩⟩
   have := h.1
   unfold bset at this
   simp at this
  ·have hb := ctz_bit hs5 h0
   have hp := rest_pc hs5 h0
   have hr := rest_bset hs5 h0
   have hrl := rest_lt' hs5 h0 hs
   rw [bordTo, if_neg h0]
   generalize Lib.ctz 64 s = v at *
   have hv : v < G.length := bit_lt hs hb
   have hpv : 2 ^ v < 2 ^ G.length := Nat.pow_lt_pow_right (by omega) hv
   have hrow := hG.row v
   rw [if_pos (by rw [gi_length]; omega), rd_gi, b_andNot _ _ (big (small G (by omega) hrow)) (big (small G (by omega) hS)), s_one v (by omega), b_or _ _ (big (small G (by omega) ho)) (big (small G (by omega) hpv))]
   by_cases hd : diff (G.getD v 0) S = 0
   ·rw [hd, if_neg (by decide)]
    obtain ⟨r, h1, h2, h3⟩ := ih (rest s) o (by omega) hrl ho (fun j hj => hsS j ((hr j).1 hj).1)
    refine ⟨r, h1, h2, fun j => ?_⟩
    rw [h3, hr]
    constructor
    ·rintro (h | ⟨h, h'⟩)
     ·exact .inl h
     ·exact .inr ⟨h.1, h'⟩
    ·rintro (h | ⟨h, u, hu, hu'⟩)
     ·exact .inl h
     ·refine .inr ⟨⟨h, fun e => ?_⟩, u, hu, hu'⟩
      subst e
      exact (diff_ne.2 ⟨u, hu, hu'⟩ hd).elim
   ·have hd' : ((diff (G.getD v 0) S : Nat) : Int) ≠ 0 := by omega
    rw [if_pos (by simpa using hd)]
    obtain ⟨r, h1, h2, h3⟩ := ih (rest s) (o ||| 2 ^ v) (by omega) hrl (or_lt ho hpv) (fun j hj => hsS j ((hr j).1 hj).1)
    refine ⟨r, h1, h2, fun j => ?_⟩
    rw [h3, hr, or_bset, two_pow_bit]
    obtain ⟨u, hu, hu'⟩ := diff_ne.1 hd
    constructor
    ·rintro ((h | h) | ⟨h, h'⟩)
     ·exact .inl h
     ·subst h; exact .inr ⟨hb, u, hu, hu'⟩
     ·exact .inr ⟨h.1, h'⟩
    ·rintro (h | ⟨h, h'⟩)
     ·exact .inl (.inl h)
     ·by_cases e : j = v
      ·exact .inl (.inr e)
      ·exact .inr ⟨⟨h, e⟩, h'⟩
theorem border_eq (G : List Nat) (hG : Gr 7 G) (S : Nat) (hS : S < 2 ^ G.length) : sweep_town_border.f (gi G) (S : Int) = some ((bor G S : Nat) : Int) := by
 have hn := hG.most
 have hS5 := small G (by omega) hS
 unfold sweep_town_border.f
 rw [if_pos (by omega), if_pos (by have := big hS5; omega), Int.toNat_natCast]
 obtain ⟨r, h1, h2, h3⟩ := bordTo_eq G hG S hS 64 S 0 (by have := pc_le S 9; omega) hS (Nat.two_pow_pos _) (fun _ h => h)
 have e : r = bor G S := eq_of_bits fun j => by
  have a := h3 j
  have b := bor_bit hG S j
  unfold bset at *
  rw [a, b]
  simp
 subst e
 exact h1
noncomputable def bc (G : List Nat) (S : Nat) : Nat := pc (bor G S) 9
theorem cost_eq (G : List Nat) (hG : Gr 7 G) (S : Nat) (hS : S < 2 ^ G.length) : cost (gi G) (S : Int) = some ((bc G S : Nat) : Int) := by
 unfold cost bc
 rw [border_eq G hG S hS, Option.bind_some]
 exact count_eq _ (small G (by have := hG.most; omega) (bor_lt G S))
def PV (G : List Nat) (S x : Nat) : Prop := ∀ q, x ≤ q ↔ Lay G q S
theorem getD_set (W : List Nat) (i j x : Nat) (hi : i < W.length) : (W.set i x).getD j 0 = if j = i then x else W.getD j 0 := by
 simp only [List.getD_eq_getElem?_getD, List.getElem?_set]
 by_cases h : i = j
 ·subst h; simp [hi]
 ·rw [if_neg h, if_neg (fun e => h e.symm)]
theorem bestIn_eq (G : List Nat) (hG : Gr 7 G) (S : Nat) (hS : S < 2 ^ G.length) : ∀ (k s : Nat) (W : List Nat), pc s 9 < k → s < 2 ^ G.length → (∀ j, bset s j → ¬ bset S j) → W.length = 2 ^ G.length →
  ∃ x, bestIn (gi G) S k s (gi W) = some (gi (W.set S x)) ∧ ∀ q, x ≤ q ↔ W.getD S 0 ≤ q ∨ ∃ v, bset s v ∧ W.getD (S ||| 2 ^ v) 0 ≤ q ∧ bc G (S ||| 2 ^ v) ≤ q := by
 have hn := hG.most
 intro k
 induction k with
 | zero => intro s W h; omega
 | succ k ih =>
  intro s W hk hs hsS hW
  have hs5 := small G (by omega) hs
  by_cases h0 : s = 0
  ·subst h0
   refine ⟨W.getD S 0, ?_, fun q => ⟨.inl, fun h => h.elim id (fun ⟨v, h, _⟩ => by unfold bset at h; simp at h)⟩⟩
   rw [bestIn, if_pos rfl]
   congr 2
   apply List.ext_getElem?
   intro i
   rw [List.getElem?_set]
   by_cases e : S = i
   ·subst e
    rw [if_pos rfl, if_pos (by omega), List.getD_eq_getElem?_getD, List.getElem?_eq_getElem (by omega)]
    rfl
   ·rw [if_neg e]
  ·have hb := ctz_bit hs5 h0
   have hp := rest_pc hs5 h0
   have hr := rest_bset hs5 h0
   have hrl := rest_lt' hs5 h0 hs
   rw [bestIn, if_neg h0]
   unfold nxt
   generalize Lib.ctz 64 s = v at *
   have hv : v < G.length := bit_lt hs hb
   have hX := or_new hS hv
   have hgt := or_gt (hsS v hb)
   have hSW : S < W.length := by rw [hW]; exact hS
   have hXW : S ||| 2 ^ v < W.length := by rw [hW]; exact hX
   rw [if_pos (by rw [gi_length]; exact ⟨hSW, hXW⟩), cost_eq G hG _ hX, Option.bind_some, rd_gi, rd_gi, mx_nat, mn_nat, gi_set]
   obtain ⟨x, h1, h2⟩ := ih (rest s) (W.set S (min (W.getD S 0) (max (W.getD (S ||| 2 ^ v) 0) (bc G (S ||| 2 ^ v))))) (Nat.lt_of_lt_of_le hp (Nat.le_of_lt_succ hk)) hrl (fun j hj => hsS j ((hr j).1 hj).1) (by rw [List.length_set]; exact hW)
   refine ⟨x, by rw [h1, List.set_set], fun q => ?_⟩
   rw [h2, getD_set _ _ _ _ hSW, if_pos rfl]
   have hoth : ∀ u, bset (rest s) u → (W.set S (min (W.getD S 0) (max (W.getD (S ||| 2 ^ v) 0) (bc G (S ||| 2 ^ v))))).getD (S ||| 2 ^ u) 0 = W.getD (S ||| 2 ^ u) 0 := fun u hu => by
    have := or_gt (hsS u ((hr u).1 hu).1)
    rw [getD_set _ _ _ _ hSW, if_neg (Nat.ne_of_gt this)]
   clear hX hgt hSW hXW hs hrl hW hs5 hv hp hk ih h1 h2 h0
   constructor
   ·rintro (h | ⟨u, hu, h3, h4⟩)
    ·rcases Nat.le_total (W.getD S 0) (max (W.getD (S ||| 2 ^ v) 0) (bc G (S ||| 2 ^ v))) with h5 | h5
     ·rw [Nat.min_eq_left h5] at h
      exact .inl h
     ·rw [Nat.min_eq_right h5] at h
      exact .inr ⟨v, hb, Nat.le_trans (Nat.le_max_left _ _) h, Nat.le_trans (Nat.le_max_right _ _) h⟩
    ·rw [hoth u hu] at h3
     exact .inr ⟨u, ((hr u).1 hu).1, h3, h4⟩
   ·rintro (h | ⟨u, hu, h3, h4⟩)
    ·exact .inl (Nat.le_trans (Nat.min_le_left _ _) h)
    ·by_cases e : u = v
     ·subst e; exact .inl (Nat.le_trans (Nat.min_le_right _ _) (Nat.max_le.2 ⟨h3, h4⟩))
     ·have hu' := (hr u).2 ⟨hu, e⟩
      exact .inr ⟨u, hu', by rw [hoth u hu']; exact h3, h4⟩
theorem bestTo_eq (G : List Nat) (hG : Gr 7 G) : ∀ (d : Nat) (W : List Nat), d < 2 ^ G.length → W.length = 2 ^ G.length → (∀ T, d ≤ T → T < 2 ^ G.length → PV G T (W.getD T 0)) →
  ∃ W2 : List Nat, bestTo (gi G) d (gi W) = some (gi W2) ∧ W2.length = 2 ^ G.length ∧ ∀ T, T < 2 ^ G.length → PV G T (W2.getD T 0) := by
 have hn := hG.most
 intro d
 induction d with
 | zero => intro W _ hW h; exact ⟨W, rfl, hW, fun T hT => h T (by omega) hT⟩
 | succ d ih =>
  intro W hd hW h
  have hd' : d < 2 ^ G.length := by omega
  have hS5 := small G (by omega) hd'
  have h2 := Nat.two_pow_pos G.length
  have hc : ∀ j, bset (diff (2 ^ G.length - 1) d) j ↔ j < G.length ∧ ¬ bset d j := fun j => by rw [diff_bset, full_bit]
  rw [bestTo]
  simp only [gi_length]
  have e1 : (gi W).set d (G.length : Int) = gi (W.set d G.length) := gi_set W d G.length
  rw [e1]
  obtain ⟨x, h3, h4⟩ := bestIn_eq G hG d hd' 64 (diff (2 ^ G.length - 1) d) (W.set d G.length) (by have := pc_le (diff (2 ^ G.length - 1) d) 9; omega) (Nat.lt_of_le_of_lt (diff_le _ _) (by omega)) (fun j hj => ((hc j).1 hj).2) (by rw [List.length_set]; exact hW)
  rw [h3, Option.bind_some, List.set_set]
  refine ih _ hd' (by rw [List.length_set]; exact hW) fun T h5 h6 => ?_
  rw [getD_set _ _ _ _ (by omega)]
  by_cases e : T = d
  ·subst e
   rw [if_pos rfl]
   intro q
   rw [h4, getD_set _ _ _ _ (by omega), if_pos rfl]
   have hoth : ∀ v, v < G.length → ¬ bset T v → (W.set T G.length).getD (T ||| 2 ^ v) 0 = W.getD (T ||| 2 ^ v) 0 ∧ PV G (T ||| 2 ^ v) (W.getD (T ||| 2 ^ v) 0) := fun v hv hb => by
    have h7 := or_gt hb
    have h8 := or_new hd' hv
    rw [getD_set _ _ _ _ (by omega), if_neg (by omega)]
    exact ⟨rfl, h _ (by omega) h8⟩
   constructor
   ·rintro (h7 | ⟨v, hv, h7, h8⟩)
    ·exact lay_big (.inr h7) (by omega) _ _ rfl hd'
    ·obtain ⟨h9, h10⟩ := (hc v).1 hv
     obtain ⟨h11, h12⟩ := hoth v h9 h10
     rw [h11] at h7
     exact .step h9 h10 h8 ((h12 q).1 h7)
   ·intro h7
    cases h7 with
    | done => omega
    | step h9 h10 h8 h13 =>
     obtain ⟨h11, h12⟩ := hoth _ h9 h10
     exact .inr ⟨_, (hc _).2 ⟨h9, h10⟩, by rw [h11]; exact (h12 q).2 h13, h8⟩
  ·rw [if_neg e]
   exact h T (by omega) h6
def Can (G : List Nat) (m S v : Nat) : Prop := Lay G m (S ||| 2 ^ v) ∧ bc G (S ||| 2 ^ v) ≤ m
inductive Greedy (G : List Nat) (m : Nat) : Nat → List Nat → Prop
 | nil : Greedy G m (2 ^ G.length - 1) []
 | cons {S v : Nat} {L : List Nat} : v < G.length → ¬ bset S v → Can G m S v → (∀ u, u < v → ¬ bset S u → ¬ Can G m S u) → Greedy G m (S ||| 2 ^ v) L → Greedy G m S (v :: L)
theorem goOn_eq (G : List Nat) (hG : Gr 7 G) (W : List Nat) (m : Nat) (hW : W.length = 2 ^ G.length) (hP : ∀ T, T < 2 ^ G.length → PV G T (W.getD T 0)) (hm : W.getD 0 0 = m) (S : Nat) (hS : S < 2 ^ G.length) :
  ∀ (k s : Nat), pc s 9 < k → s < 2 ^ G.length → (∀ j, bset s j → ¬ bset S j) → (∃ v, bset s v ∧ Can G m S v) →
   ∃ v : Nat, goOn (gi G) (gi W) S k s = some (some ((v : Int), S ||| 2 ^ v)) ∧ bset s v ∧ Can G m S v ∧ ∀ u, u < v → bset s u → ¬ Can G m S u := by
 have hn := hG.most
 intro k
 induction k with
 | zero => intro s h; omega
 | succ k ih =>
  intro s hk hs hsS hex
  have hs5 := small G (by omega) hs
  have h0 : s ≠ 0 := fun e => by obtain ⟨v, h, _⟩ := hex; subst e; unfold bset at h; simp at h
  have hb := ctz_bit hs5 h0
  have hlow : ∀ j, bset s j → Lib.ctz 64 s ≤ j := fun j hj => ctz_low hs5 h0 hj
  have hp := rest_pc hs5 h0
  have hr := rest_bset hs5 h0
  have hrl := rest_lt' hs5 h0 hs
  rw [goOn, if_neg h0]
  unfold nxt
  generalize Lib.ctz 64 s = v at *
  have hv : v < G.length := bit_lt hs hb
  have hX := or_new hS hv
  have hXW : S ||| 2 ^ v < W.length := by rw [hW]; exact hX
  have hp' := Nat.lt_of_lt_of_le hp (Nat.le_of_lt_succ hk)
  rw [if_pos (by rw [gi_length]; exact hXW), cost_eq G hG _ hX, Option.bind_some, rd_gi, show rd (gi W) 0 = ((W.getD 0 0 : Nat) : Int) from rd_gi W 0, mx_nat, hm]
  have hPX := hP _ hX
  clear hX hs hW hs5 hv hp hk h0 hS hXW
  by_cases hc : max (W.getD (S ||| 2 ^ v) 0) (bc G (S ||| 2 ^ v)) ≤ m
  ·rw [if_pos (by omega)]
   exact ⟨v, rfl, hb, ⟨(hPX m).1 (by omega), by omega⟩, fun u hu hsu => by have := hlow u hsu; omega⟩
  ·rw [if_neg (by omega)]
   have hno : ¬ Can G m S v := fun h => hc (by have := (hPX m).2 h.1; have := h.2; omega)
   obtain ⟨u, h1, h2, h3, h4⟩ := ih (rest s) hp' hrl (fun j hj => hsS j ((hr j).1 hj).1) (by
    obtain ⟨u, hu, hcu⟩ := hex
    exact ⟨u, (hr u).2 ⟨hu, fun e => hno (e ▸ hcu)⟩, hcu⟩)
   refine ⟨u, h1, ((hr u).1 h2).1, h3, fun x hx hsx => ?_⟩
   by_cases e : x = v
   ·subst e; exact hno
   ·exact h4 x hx ((hr x).2 ⟨hsx, e⟩)
theorem layTo_eq (G : List Nat) (hG : Gr 7 G) (W : List Nat) (m : Nat) (hW : W.length = 2 ^ G.length) (hP : ∀ T, T < 2 ^ G.length → PV G T (W.getD T 0)) (hm : W.getD 0 0 = m) :
  ∀ (k S : Nat) (pre : List Int), pc (diff (2 ^ G.length - 1) S) 9 < k → S < 2 ^ G.length → Lay G m S → ∃ L, layTo (gi G) (gi W) k S pre = some (pre ++ gi L) ∧ Greedy G m S L := by
 have hn := hG.most
 intro k
 induction k with
 | zero => intro S pre h; omega
 | succ k ih =>
  intro S pre hk hS hL
  have h2 := Nat.two_pow_pos G.length
  rw [layTo]
  simp only [gi_length]
  by_cases e : S = 2 ^ G.length - 1
  ·rw [if_pos e, e]
   exact ⟨[], by simp [gi], .nil⟩
  ·rw [if_neg e]
   have hc : ∀ j, bset (diff (2 ^ G.length - 1) S) j ↔ j < G.length ∧ ¬ bset S j := fun j => by rw [diff_bset, full_bit]
   obtain ⟨v, h3, h4, h5, h6⟩ := goOn_eq G hG W m hW hP hm S hS 64 (diff (2 ^ G.length - 1) S) (by have := pc_le (diff (2 ^ G.length - 1) S) 9; omega) (Nat.lt_of_le_of_lt (diff_le _ _) (by omega)) (fun j hj => ((hc j).1 hj).2) (by
    cases hL with
    | done => exact (e rfl).elim
    | step h7 h8 h9 h10 => exact ⟨_, (hc _).2 ⟨h7, h8⟩, h10, h9⟩)
   rw [h3, Option.bind_some]
   obtain ⟨h7, h8⟩ := (hc v).1 h4
   have hX := or_new hS h7
   obtain ⟨L, h9, h10⟩ := ih (S ||| 2 ^ v) (pre ++ [(v : Int)]) (by
    refine Nat.lt_of_lt_of_le (pc_lt v 9 (fun j _ hj => ?_) (by omega) ?_ ((hc v).2 ⟨h7, h8⟩)) (show pc (diff (2 ^ G.length - 1) S) 9 ≤ k by omega)
    ·have a := (diff_bset (2 ^ G.length - 1) (S ||| 2 ^ v) j).1 hj
     exact (diff_bset _ _ _).2 ⟨a.1, fun h => a.2 ((or_bset _ _ _).2 (.inl h))⟩
    ·have a := diff_bset (2 ^ G.length - 1) (S ||| 2 ^ v) v
     cases hh : (diff (2 ^ G.length - 1) (S ||| 2 ^ v)).testBit v
     ·rfl
     ·exact ((a.1 hh).2 ((or_bset _ _ _).2 (.inr ((two_pow_bit v v).2 rfl)))).elim) hX h5.1
   refine ⟨v :: L, ?_, .cons h7 h8 h5 (fun u hu hSu => h6 u hu ((hc u).2 ⟨by omega, hSu⟩)) h10⟩
   show layTo (gi G) (gi W) k (S ||| 2 ^ v) (pre ++ [(v : Int)]) = _
   rw [h9]
   simp [gi]
theorem layout_eq (G : List Nat) (hG : Gr 7 G) : ∃ (L : List Nat) (m : Nat), sweep_town_layout.f (gi G) = some (gi L, (m : Int)) ∧ IsVs G m ∧ Greedy G m 0 L := by
 have hn := hG.most
 have h2 := Nat.two_pow_pos G.length
 have e : List.replicate (2 ^ G.length) (0 : Int) = gi (List.replicate (2 ^ G.length) 0) := by simp [gi]
 obtain ⟨W, h3, h4, h5⟩ := bestTo_eq G hG (2 ^ G.length - 1) (List.replicate (2 ^ G.length) 0) (by omega) (by simp) (fun T hT hT2 q => by
  have e : T = 2 ^ G.length - 1 := by omega
  subst e
  have : (List.replicate (2 ^ G.length) 0).getD (2 ^ G.length - 1) 0 = 0 := by simp [List.getD_eq_getElem?_getD, List.getElem?_replicate]; rw [if_pos (by omega)]; rfl
  rw [this]
  exact ⟨fun _ => .done, fun _ => by omega⟩)
 obtain ⟨L, h6, h7⟩ := layTo_eq G hG W (W.getD 0 0) h4 h5 rfl 11 0 [] (by have := pc_le (diff (2 ^ G.length - 1) 0) 9; omega) h2 ((h5 0 h2 _).1 (Nat.le_refl _))
 refine ⟨L, W.getD 0 0, ?_, h5 0 h2, h7⟩
 unfold sweep_town_layout.f
 simp only [gi_length]
 rw [if_pos ⟨hG.pos, by omega⟩, e, h3, Option.bind_some, h6]
 simp only [List.nil_append, Option.bind_some]
 rw [show rd (gi W) 0 = ((W.getD 0 0 : Nat) : Int) from rd_gi W 0]
theorem awake_ev : Ev (fun k => lampblacklaw03_awake.f k) true := by
 exact Ev.of (lampblacklaw03_awake.mono) (k := 40) (by decide +kernel)
theorem valid_ev (g : List Int) (hg : g.length < 2 ^ 60) : Ev (fun k => lampblackref03_Valid.f k g) (chk 7 g) := by
 unfold lampblackref03_Valid.f
 exact Ev.bind (isGraph_ev 7 (by omega) g hg) (Ev.some rfl)
theorem few_eq (g : List Int) (hg : g.length < 2 ^ 44) : ∃ h, lampblacklaw03_Few.f g = some h ∧ (chk 7 g = true → h = g) ∧ (chk 7 g = false → chk 7 h = false) ∧ h.length ≤ 11 := by
 have hm : mn (g.length : Int) 11 = ((min g.length 11 : Nat) : Int) := mn_nat g.length 11
 refine ⟨g.take (min g.length 11), ?_, ?_, ?_, ?_⟩
 ·unfold lampblacklaw03_Few.f slices_Clone_Graph.f
  simp only [hm, Int.toNat_natCast]
  rw [if_pos (by omega), if_pos (by omega)]
  simp only [Option.bind_some, List.length_nil, List.nil_append]
  rw [if_pos (by rw [List.length_take]; omega)]
  rfl
 ·intro h
  simp only [chk, Bool.and_eq_true, decide_eq_true_eq] at h
  exact List.take_of_length_le (by omega)
 ·intro h
  by_cases hl : g.length ≤ 11
  ·rw [List.take_of_length_le (by omega)]; exact h
  ·unfold chk
   have : ¬ (List.take (min g.length 11) g).length ≤ 7 := by rw [List.length_take]; omega
   rw [decide_eq_false this, Bool.and_false, Bool.false_and]
 ·rw [List.length_take]; omega
end Go.Proofs.YtijfddobandcdaaDoor.X
end
section
/- lampblackref03.layouts, by hand: all orders that begin in some way. -/
namespace Go.Proofs.YtijfddobandcdaaDoor.X
open Go.RowKit Go.Proofs.YtijfddobandcdaaDoorW.PrintWords Go.Proofs.YtijfddobandcdaaDoorW.PrintLast Go.Proofs.YtijfddobandcdaaDoorW.PrintMore Go.Proofs.YtijfddobandcdaaDoor.T
attribute [local go_sem] max2_int min2_int max_two min_two max_three min_three max_four min_four
set_option linter.unusedVariables false
set_option linter.unusedSimpArgs false
def layF (n : Nat) : Nat → List Int → List (List Int)
 | 0, l => [l]
 | d + 1, l => (List.range n).flatMap fun (v : Nat) => if (v : Int) ∈ l then [] else layF n d (l ++ [(v : Int)])
def outTo (n d : Nat) (l : List Int) (i : Nat) : List (List Int) := (List.range i).flatMap fun (v : Nat) => if (v : Int) ∈ l then [] else layF n d (l ++ [(v : Int)])
theorem outTo_succ (n d : Nat) (l : List Int) (i : Nat) : outTo n d l (i + 1) = outTo n d l i ++ (if (i : Int) ∈ l then [] else layF n d (l ++ [(i : Int)])) := by
 unfold outTo
 rw [List.range_succ, List.flatMap_append]
 simp
theorem layF_length (n : Nat) : ∀ d l, (layF n d l).length ≤ n ^ d
 | 0, l => by simp [layF]
 | d + 1, l => by
  have h : ∀ i, (outTo n d l i).length ≤ i * n ^ d := by
   intro i
   induction i with
   | zero => simp [outTo]
   | succ i ih =>
    rw [outTo_succ, List.length_append, Nat.succ_mul]
    split
    ·simp; omega
    ·have := layF_length n d (l ++ [(i : Int)]); omega
  have := h n
  rw [Nat.pow_succ, Nat.mul_comm]
  exact this
theorem outTo_length (n d : Nat) (l : List Int) (i : Nat) (hi : i ≤ n) : (outTo n d l i).length ≤ n ^ (d + 1) := by
 have h : ∀ i, (outTo n d l i).length ≤ i * n ^ d := by
  intro i
  induction i with
  | zero => simp [outTo]
  | succ i ih =>
   rw [outTo_succ, List.length_append, Nat.succ_mul]
   split
   ·simp; omega
   ·have := layF_length n d (l ++ [(i : Int)]); omega
 refine Nat.le_trans (h i) ?_
 rw [Nat.pow_succ, Nat.mul_comm]
 exact Nat.mul_le_mul_left _ hi
def Rows (B : Nat) (W : World) (rows : List Value) (Ls : List (List Int)) : Prop := rows.length = Ls.length ∧ ∀ (i : Nat) (L : List Int), Ls[i]? = some L → ∃ v, rows[i]? = some v ∧ W.ownsRow B 3 1 v L.length (L.map (Value.int .i64))
theorem Rows.append {B : Nat} {W : World} {r1 r2 : List Value} {L1 L2 : List (List Int)} (h1 : Rows B W r1 L1) (h2 : Rows B W r2 L2) : Rows B W (r1 ++ r2) (L1 ++ L2) := by
 refine ⟨by simp [h1.1, h2.1], fun i L hL => ?_⟩
 by_cases hi : i < L1.length
 ·rw [List.getElem?_append_left hi] at hL
  rw [List.getElem?_append_left (by rw [h1.1]; exact hi)]
  exact h1.2 i L hL
 ·rw [List.getElem?_append_right (by omega)] at hL
  rw [List.getElem?_append_right (by rw [h1.1]; omega), h1.1]
  exact h2.2 _ L hL
theorem Rows.imp {B : Nat} {W V : World} {rows : List Value} {Ls : List (List Int)} (h : Rows B W rows Ls) (hk : ∀ (v : Value) (L : List Int), W.ownsRow B 3 1 v L.length (L.map (Value.int .i64)) → V.ownsRow B 3 1 v L.length (L.map (Value.int .i64))) : Rows B V rows Ls :=
 ⟨h.1, fun i L hL => by obtain ⟨v, h1, h2⟩ := h.2 i L hL; exact ⟨v, h1, hk v L h2⟩⟩
theorem ownsRow_below {W V : World} {base : Nat} {e : TypeId} {size : Nat} {v : Value} {k : Nat} {xs : List Value} (h : W.ownsRow base e size v k xs) (hb : Below W.heap.size W V) : V.ownsRow base e size v k xs := by
 obtain ⟨h1, h2⟩ := h
 refine ⟨h1, ?_⟩
 rcases h2 with h2 | ⟨g, cap, cur, e1, hb1, hg, r⟩
 ·exact .inl h2
 ·exact .inr ⟨g, cap, cur, e1, hb1, (hb.block g (Array.getElem?_eq_some_iff.1 hg).1).trans hg, r⟩
theorem ownsRow_other {W V : World} {base base2 : Nat} {e e2 : TypeId} {size size2 : Nat} {v v2 : Value} {k k2 : Nat} {xs ys : List Value} (h : W.ownsRow base e size v k xs) (h2 : W.ownsRow base2 e2 size2 v2 k2 ys) (hne : e ≠ e2) (hg : W.grownBy V v2.ownBlock) : V.ownsRow base e size v k xs := by
 refine h.kept hg ?_
 rcases h.2 with ⟨rfl, _⟩ | ⟨g, cap, cur, rfl, _, hgb, _⟩
 ·exact .inl rfl
 ·refine .inr fun e' => ?_
  rcases h2.2 with ⟨rfl, _⟩ | ⟨g2, cap2, cur2, rfl, _, hgb2, _⟩
  ·simp [Value.ownBlock] at e'
  ·obtain rfl : g = g2 := by simpa [Value.ownBlock] using e'
   rw [hgb] at hgb2
   cases hgb2
   exact hne rfl
theorem ownsRow_reads {W : World} {base : Nat} {A : Option Addr} {cap : Nat} {l : List Int} (h : W.ownsRow base 3 1 (.slice A l.length cap) l.length (l.map (Value.int .i64))) : l.length ≤ cap ∧ (A = none → l.length = 0 ∧ cap = 0) ∧ ∀ (i : Nat), i < l.length → ∃ ad, A = some ad ∧ W.cell? (ad.add i) = some (.int .i64 (rd l (i : Int))) := by
 rcases h.2 with ⟨e, h0⟩ | ⟨g, cap', cur, e, _, hg, h1, _, h3, h4⟩
 ·injection e with e1 e2 e3
  subst e1 e3
  exact ⟨by omega, fun _ => ⟨h0, rfl⟩, fun i hi => by omega⟩
 ·injection e with e1 e2 e3
  subst e1 e3
  refine ⟨h1, (fun e => by cases e), fun i hi => ⟨_, rfl, ?_⟩⟩
  have h5 : (l.map (Value.int .i64))[i]? = some (.int .i64 (rd l (i : Int))) := by
   unfold rd
   rw [Int.toNat_natCast, List.getD_eq_getElem?_getD, List.getElem?_map, List.getElem?_eq_getElem hi]
   rfl
  rw [← h4, List.getElem?_take, if_pos (by omega)] at h5
  rw [Addr.add_lit, Nat.zero_add]
  unfold World.cell?
  rw [show W.heap[(⟨g, i, none⟩ : Addr).block]? = _ from hg]
  simpa using h5
theorem ownsRow_cells {W : World} {base : Nat} {e : TypeId} {g k cap : Nat} {xs : List Value} (h : W.ownsRow base e 1 (.slice (some ⟨g, 0, none⟩) k cap) k xs) (j : Nat) (u : Value) (hu : xs[j]? = some u) : W.cell? ((⟨g, 0, none⟩ : Addr).add j) = some u := by
 have hl := h.1
 have hj := (List.getElem?_eq_some_iff.1 hu).1
 rcases h.2 with ⟨e, h0⟩ | ⟨g', cap', cur, e, _, hg, h1, _, h3, h4⟩
 ·cases e
 ·injection e with e1 e2 e3
  injection e1 with e1
  injection e1 with e1
  subst e1
  rw [← h4, List.getElem?_take, if_pos (by omega)] at hu
  rw [Addr.add_lit, Nat.zero_add]
  unfold World.cell?
  rw [show W.heap[(⟨g, j, none⟩ : Addr).block]? = _ from hg]
  simpa using hu
theorem ownsRow_mono {W : World} {base base' : Nat} {e : TypeId} {size : Nat} {v : Value} {k : Nat} {xs : List Value} (h : W.ownsRow base e size v k xs) (hb : base' ≤ base) : W.ownsRow base' e size v k xs := by
 obtain ⟨h1, h2⟩ := h
 refine ⟨h1, ?_⟩
 rcases h2 with h2 | ⟨g, cap, cur, e1, hb1, r⟩
 ·exact .inl h2
 ·exact .inr ⟨g, cap, cur, e1, by omega, r⟩
theorem ownsRow_one {W : World} {base : Nat} {e : TypeId} {size : Nat} {v : Value} {k : Nat} {xs : List Value} (h : W.ownsRow base e size v k xs) : v.oneCell' = true := by
 rcases h.2 with ⟨rfl, _⟩ | ⟨g, cap, cur, rfl, _⟩ <;> rfl
theorem fresh_node (n : Nat) (l : List Int) (h : l.length < n) : ∃ v, v < n ∧ (v : Int) ∉ l := by
 apply Classical.byContradiction
 intro hno
 have := nodup_le (List.nodup_range (n := n)) (m := l.map Int.toNat) fun j hj => List.mem_map.2 ⟨(j : Int), Classical.byContradiction fun h => hno ⟨j, List.mem_range.1 hj, h⟩, rfl⟩
 simp at this
 omega
theorem layF_mem (n : Nat) : ∀ (d : Nat) (l : List Int), l.length + d = n → ∃ x, x ∈ layF n d l
 | 0, l, _ => ⟨l, by simp [layF]⟩
 | d + 1, l, h => by
  obtain ⟨v, hv, hn⟩ := fresh_node n l (by omega)
  obtain ⟨x, hx⟩ := layF_mem n d (l ++ [(v : Int)]) (by simp; omega)
  refine ⟨x, ?_⟩
  simp only [layF]
  exact List.mem_flatMap.2 ⟨v, List.mem_range.2 hv, by rw [if_neg hn]; exact hx⟩
theorem layF_small (n d : Nat) (hn : n ≤ 7) (hd : d ≤ 7) : n ^ d ≤ 7 ^ 7 := Nat.le_trans (Nat.pow_le_pow_left hn d) (Nat.pow_le_pow_right (by omega) hd)
theorem info22 : (Tryd.prog.info? 22).map (fun i => (i.zero, i.size, i.bytes)) = some (some (.slice none 0 0), 1, 24) := by kernel_rfl
theorem mem_take_succ (l : List Int) (x : Int) (j : Nat) (hj : j < l.length) : decide (x ∈ l.take (j + 1)) = (decide (x ∈ l.take j) || (rd l (j : Int) == x)) := by
 have e : rd l (j : Int) = l[j] := by unfold rd; rw [Int.toNat_natCast, List.getD_eq_getElem?_getD, List.getElem?_eq_getElem hj]; rfl
 rw [e]
 apply Bool.eq_iff_iff.2
 rw [decide_eq_true_eq, Bool.or_eq_true, decide_eq_true_eq, beq_iff_eq, List.take_add_one, List.getElem?_eq_getElem hj, List.mem_append]
 simp
 exact or_congr_right eq_comm
set_option maxHeartbeats 2000000 in
set_option maxRecDepth 100000 in
theorem layouts_calls (n : Nat) (hn : n ≤ 7) : ∀ (d : Nat) (l : List Int) (A : Option Addr) (cap B : Nat) (w : World), l.length + d = n → B ≤ w.heap.size → w.ownsRow B 3 1 (.slice A l.length cap) l.length (l.map (Value.int .i64)) →
  Calls Tryd.prog 58 #[.int .i64 n, .slice A l.length cap] w fun e w' => ∃ v rows, e = .returned v ∧ w'.ownsRow w.heap.size 22 1 v (layF n d l).length rows ∧ Rows B w' rows (layF n d l) ∧ Below w.heap.size w w' := by
 intro d
 induction d with
 | zero =>
  intro l A cap B w hl hB hown
  have hln : ((l.length : Int) == (n : Int)) = true := by simp; omega
  go_enter Tryd.func58, Tryd.ntmps58
  go_wp2
  go_ret
  refine ⟨_, [.slice A l.length cap], rfl, ⟨rfl, .inr ⟨w.heap.size, 1, #[.slice A l.length cap], rfl, Nat.le_refl _, World.alloc_heap_new w _, Nat.le_refl _, by unfold maxLen; omega, rfl, rfl⟩⟩, ⟨rfl, fun i L hL => ?_⟩, below_alloc (Below.refl _ _) _⟩
  cases i with
  | zero =>
   obtain rfl : l = L := by simpa [layF] using hL
   exact ⟨_, rfl, hown.alloc _⟩
  | succ i => simp [layF] at hL
 | succ d ih =>
  intro l A cap B w hl hB hown
  have hln : ((l.length : Int) == (n : Int)) = false := by simp; omega
  obtain ⟨hcap, hnone, hread⟩ := ownsRow_reads hown
  go_enter Tryd.func58, Tryd.ntmps58
  go_wp2
  go_loopg [5, 17] n (fun kq v5 v17 w' => ∃ (i : Nat) (rows : List Value), v17 = .int .i64 (i : Int) ∧ i + kq = n ∧ w'.ownsRow w.heap.size 22 1 v5 (outTo n d l i).length rows ∧ Rows B w' rows (outTo n d l i) ∧ Below w.heap.size w w')
  case atStart => exact ⟨0, [], rfl, by omega, World.ownsRow_nil _ _ _ _, ⟨rfl, fun i L h => by simp [outTo] at h⟩, Below.refl _ _⟩
  case round =>
   obtain ⟨i, rows, rfl, hi, ho, hR, hBw⟩ := hrel
   by_cases hin : i < n
   ·have hi1 : ((i : Int) < (n : Int)) = True := eq_true (by omega)
    have hi2 : decide ((i : Int) < (n : Int)) = true := decide_eq_true (by omega)
    go_wp2
    go_loopg [7, 22] l.length (fun kq v7 v22 w'' => ∃ (j : Nat), v22 = .int .i64 (j : Int) ∧ j + kq = l.length ∧ v7 = .bool (decide ((i : Int) ∈ l.take j)) ∧ w'' = wr)
    case atStart => exact ⟨0, rfl, by omega, by simp, rfl⟩
    case round =>
     obtain ⟨j, rfl, hj, rfl, rfl⟩ := hrel
     by_cases hjl : j < l.length
     ·obtain ⟨ad, e, hx⟩ := hread j hjl
      subst e
      have hx2 := (hBw.cell (World.block_lt_of_cell? w _ hx)).trans hx
      have hj1 : ((j : Int) < (l.length : Int)) = True := eq_true (by omega)
      have hj2 : decide ((j : Int) < (l.length : Int)) = true := decide_eq_true (by omega)
      have HWJ := Aside0.mk (wrap_succ j (by omega))
      by_cases hm : (i : Int) ∈ l.take j
      ·have hmb : decide ((i : Int) ∈ l.take j) = true := decide_eq_true hm
       rw [hmb]
       go_wp2
       go_roundg (l.length - (j + 1))
       case measure => omega
       case rel =>
        refine ⟨j + 1, ?_, by omega, ?_, rfl⟩
        ·first | exact congrArg (Value.int IntKind.i64) (by omega) | rw [HWJ.out] | rw [i64_w, HWJ.out]
        ·rw [mem_take_succ _ _ _ hjl, hmb]; rfl
      ·have hmb : decide ((i : Int) ∈ l.take j) = false := decide_eq_false hm
       rw [hmb]
       go_wp2
       go_roundg (l.length - (j + 1))
       case measure => omega
       case rel =>
        refine ⟨j + 1, ?_, by omega, ?_, rfl⟩
        ·first | exact congrArg (Value.int IntKind.i64) (by omega) | rw [HWJ.out] | rw [i64_w, HWJ.out]
        ·rw [mem_take_succ _ _ _ hjl, hmb]; first | rfl | simp
     ·have hj1 : ((j : Int) < (l.length : Int)) = False := eq_false (by omega)
      have hj2 : decide ((j : Int) < (l.length : Int)) = false := decide_eq_false (by omega)
      rw [List.take_of_length_le (by omega)]
      have HWI := Aside0.mk (wrap_succ i (by omega))
      by_cases hm : (i : Int) ∈ l
      ·have hmb : decide ((i : Int) ∈ l) = true := decide_eq_true hm
       rw [hmb]
       go_wp2
       go_roundg (n - (i + 1))
       case measure => omega
       case rel =>
        refine ⟨i + 1, rows, ?_, by omega, ?_, ?_, hBw⟩
        ·first | exact congrArg (Value.int IntKind.i64) (by omega) | rw [HWI.out] | rw [i64_w, HWI.out]
        ·rw [outTo_succ, if_pos hm, List.append_nil]; exact ho
        ·rw [outTo_succ, if_pos hm, List.append_nil]; exact hR
      ·have hmb : decide ((i : Int) ∈ l) = false := decide_eq_false hm
       rw [hmb]
       obtain ⟨i0, hi0, hz0, hz1, hz2⟩ := info_parts info3
       obtain ⟨i2, hi2', hy0, hy1, hy2⟩ := info_parts info22
       have hwz := hBw.size
       have hreadW : ∀ b, A = some b → ∀ (q : Nat) u, (l.map (Value.int .i64))[q]? = some u → (wr.alloc (.cells #[.int .i64 (i : Int)] 3)).cell? (b.add q) = some u := fun b hb q u hu => by
        have hq : q < l.length := by have := (List.getElem?_eq_some_iff.1 hu).1; simpa using this
        obtain ⟨ad, e, hx⟩ := hread q hq
        rw [hb] at e
        cases e
        have hx2 := ((below_alloc hBw (.cells #[.int .i64 (i : Int)] 3)).cell (World.block_lt_of_cell? w _ hx)).trans hx
        rw [hx2]
        rw [List.getElem?_map, List.getElem?_eq_getElem hq] at hu
        unfold rd
        rw [Int.toNat_natCast, List.getD_eq_getElem?_getD, List.getElem?_eq_getElem hq]
        exact hu
       have hnone2 : A = none → l.length = 0 ∧ l.length = 0 := fun h => ⟨(hnone h).1, (hnone h).1⟩
       go_wp2_with (first
        | (at_builtin; refine wpList_append_grows _ rfl _ _ 22 rfl 3 i0 (.int .i64 0) 1 8 Tryd.underlying22 hi0 hz0 hz1 hz2 rfl (by decide) A l.length l.length (l.map (Value.int .i64)) rfl hnone2 (by simp) hreadW ⟨wr.heap.size, 0, none⟩ 1 1 [.int .i64 (i : Int)] rfl rfl (cell_one_new _ _ _) (by simp [Value.oneCell']) (by omega) (by unfold maxLen; omega) (by omega) ?_; intro v1 w1 hown1 hg1; obtain ⟨g1, cap1, rfl⟩ := ownsRow_succ hown1))
       have hgz := hg1.size
       have hB1 : Below w.heap.size w w1 := (below_alloc hBw (.cells #[.int .i64 (i : Int)] 3)).grown hg1 (by simp; omega) (fun k e => by cases e)
       have hown1' : w1.ownsRow B 3 1 (.slice (some ⟨g1, 0, none⟩) (l ++ [(i : Int)]).length cap1) (l ++ [(i : Int)]).length ((l ++ [(i : Int)]).map (Value.int .i64)) := by
        have := ownsRow_mono hown1 (show B ≤ _ by simp; omega)
        simpa using this
       have IH := ih (l ++ [(i : Int)]) (some ⟨g1, 0, none⟩) cap1 B w1 (by simp; omega) (by have := hB1.size; omega) hown1'
       rw [show (l ++ [(i : Int)]).length = l.length + 1 by simp] at IH
       obtain ⟨x0, hx0⟩ := layF_mem n d (l ++ [(i : Int)]) (by simp; omega)
       obtain ⟨m2, hm2⟩ : ∃ m, (layF n d (l ++ [(i : Int)])).length = m + 1 := ⟨(layF n d (l ++ [(i : Int)])).length - 1, by have := List.length_pos_of_mem hx0; omega⟩
       have hml := layF_length n d (l ++ [(i : Int)])
       have hol := outTo_length n d l i (by omega)
       have hp1 := layF_small n d hn (by omega)
       have hp2 := layF_small n (d + 1) hn (by omega)
       have h77 : (7 : Nat) ^ 7 = 823543 := by rfl
       rw [h77] at hp1 hp2
       have hkm : (outTo n d l i).length + (m2 + 1) ≤ 1647086 := by omega
       have HKM := Aside0.mk hkm
       have HHB := Aside0.mk hB1
       have HM2 := Aside0.mk hm2
       clear hml hol hp1 hp2 h77 hkm hm2 hx0 x0
       refine IH.mono ?_
       rintro e w2 ⟨v2, rows2, rfl, ho2, hR2, hb2⟩
       rw [HM2.out] at ho2
       obtain ⟨g2, cap2, rfl⟩ := ownsRow_succ ho2
       have hB2 : Below w.heap.size w w2 := below_step hB1 hb2
       have ho1 : w1.ownsRow w.heap.size 22 1 u5 (outTo n d l i).length rows := (ho.alloc _).kept hg1 (by rcases ho.2 with ⟨rfl, _⟩ | ⟨g, c, cur, rfl, _⟩; exact .inl rfl; exact .inr (by simp [Value.ownBlock]))
       have ho3 : w2.ownsRow w.heap.size 22 1 u5 (outTo n d l i).length rows := ownsRow_below ho1 hb2
       have hR3 : Rows B w2 rows (outTo n d l i) := hR.imp fun v L h => ownsRow_below ((h.alloc _).kept hg1 (by rcases h.2 with ⟨rfl, _⟩ | ⟨g, c, cur, rfl, _⟩; exact .inl rfl; exact .inr (by simp [Value.ownBlock]))) hb2
       have hcells : ∀ (q : Nat) u, rows2[q]? = some u → w2.cell? ((⟨g2, 0, none⟩ : Addr).add q) = some u := ownsRow_cells ho2
       have hones : ∀ u ∈ rows2, u.oneCell' = true := fun u hu => by
        obtain ⟨q, hq, rfl⟩ := List.getElem_of_mem hu
        obtain ⟨v, h1, h2⟩ := hR2.2 q ((layF n d (l ++ [(i : Int)]))[q]'(by rw [← hR2.1]; exact hq)) (List.getElem?_eq_getElem _)
        rw [List.getElem?_eq_getElem hq] at h1
        cases h1
        exact ownsRow_one h2
       have hrl2 : rows2.length = (m2 + 1) * 1 := ho2.1
       have hz2 := hB2.size
       have hb63 : (outTo n d l i).length + (m2 + 1) ≤ maxLen := by have := HKM.out; unfold maxLen; omega
       have hb24 : ((outTo n d l i).length + (m2 + 1)) * 24 ≤ 140737488355328 := by have := HKM.out; omega
       dsimp only
       go_wp2_with (at_builtin; refine wpList_append_own_at _ rfl _ _ 88 rfl w.heap.size 22 i2 (.slice none 0 0) 1 24 Tryd.underlying88 hi2' hy0 hy1 hy2 rfl (by decide) u5 (outTo n d l i).length rows rfl ho3 ⟨g2, 0, none⟩ (m2 + 1) cap2 rows2 rfl hrl2 hcells hones hb63 hb24 hz2 ?_; intro v6 w3 ho6 hg6 _ _)
       go_roundg (n - (i + 1))
       case measure => omega
       case rel =>
        refine ⟨i + 1, rows ++ rows2, ?_, by omega, ?_, ?_, ?_⟩
        ·first | exact congrArg (Value.int IntKind.i64) (by omega) | rw [HWI.out] | rw [i64_w, HWI.out]
        ·rw [outTo_succ, if_neg hm, List.length_append, HM2.out]; exact ho6
        ·rw [outTo_succ, if_neg hm]
         exact (hR3.imp fun v L h => ownsRow_other h ho3 (by decide) hg6).append (hR2.imp fun v L h => ownsRow_other h ho3 (by decide) hg6)
        ·refine hB2.grown hg6 hz2 fun k e => ?_
         rcases ho3.2 with ⟨rfl, _⟩ | ⟨g, c, cur, rfl, hb, _⟩
         ·simp [Value.ownBlock] at e
         ·obtain rfl : g = k := by simpa [Value.ownBlock] using e
          exact hb
   ·have hi1 : ((i : Int) < (n : Int)) = False := eq_false (by omega)
    have hi2 : decide ((i : Int) < (n : Int)) = false := decide_eq_false (by omega)
    go_wp2
    go_ret
    have e : i = n := by omega
    subst e
    exact ⟨_, rows, rfl, ho, hR, hBw⟩
end Go.Proofs.YtijfddobandcdaaDoor.X
end
section
namespace Go.Proofs.YtijfddobandcdaaDoor.X
open Go.RowKit Go.Proofs.YtijfddobandcdaaDoorW.PrintWords Go.Proofs.YtijfddobandcdaaDoorW.PrintLast Go.Proofs.YtijfddobandcdaaDoorW.PrintMore
attribute [local go_sem] max2_int min2_int max_two min_two max_three min_three max_four min_four
set_option linter.unusedVariables false
set_option linter.unusedSimpArgs false
/-! ### lampblackref02_Size: function 53 -/
def lampblackref02_Size.l0 : Nat → Int → Int → Option (Int)
 | 0, _, _ => none
 | k + 1, x0, x3 => if x0 > 0 then (lampblackref02_Size.l0 k (Go.bits .and .i64 x0 (wrap64 (x0 - 1))) (wrap64 (x3 + 1))) else (some x3)
def lampblackref02_Size.f (k : Nat) (a0 : Int) : Option (Int) := lampblackref02_Size.l0 k a0 0
theorem lampblackref02_Size.mono_l : ∀ k, (∀ y0 y1, LeO (lampblackref02_Size.l0 k y0 y1) (lampblackref02_Size.l0 (k + 1) y0 y1))
 | 0 => fun _ _ r h => by simp [lampblackref02_Size.l0] at h
 | k + 1 => by
  have ih0 := lampblackref02_Size.mono_l k
  ·intro y0 y1
   unfold lampblackref02_Size.l0
   repeat' first
   | (with_reducible exact ih0 _ _)
   | (with_reducible exact LeO.refl _)
   | (with_reducible exact LeO.none _)
   | (with_reducible refine LeO.ite ?_ ?_)
   | (with_reducible refine LeO.bind ?_ (fun _ => ?_))
   | exact ih0 _ _
   | exact LeO.none _
   | refine LeO.ite ?_ ?_
   | refine LeO.bind ?_ (fun _ => ?_)
theorem lampblackref02_Size.mono : ∀ a0 k, LeO (lampblackref02_Size.f k a0) (lampblackref02_Size.f (k + 1) a0) := by
 intro a0 k
 have ih0 := lampblackref02_Size.mono_l k
 unfold lampblackref02_Size.f
 repeat' first
   | (with_reducible exact ih0 _ _)
   | (with_reducible exact LeO.refl _)
   | (with_reducible exact LeO.none _)
   | (with_reducible refine LeO.ite ?_ ?_)
   | (with_reducible refine LeO.bind ?_ (fun _ => ?_))
   | exact ih0 _ _
   | exact LeO.none _
   | refine LeO.ite ?_ ?_
   | refine LeO.bind ?_ (fun _ => ?_)
set_option maxHeartbeats 8000000 in
set_option maxRecDepth 100000 in
theorem lampblackref02_Size.calls (k : Nat) (a0 : Int) (r : Int) (w : World) (h : lampblackref02_Size.f k a0 = some r) :
  Calls Tryd.prog 53 #[.int .i64 a0] w fun e w' => e = .returned (.int .i64 r) ∧ Drawn0 w w' := by
 have H : (lampblackref02_Size.l0 k a0 0) = some r := h
 clear h
 have H' := Aside0.mk H
 clear H
 go_enter Tryd.func53, Tryd.ntmps53
 go_wp2
 go_loopg [0, 3] k (fun kq v0 v3 w' => ∃ (x0_1 : Int) (x3_1 : Int), v0 = .int .i64 x0_1 ∧ v3 = .int .i64 x3_1 ∧ Aside0 (lampblackref02_Size.l0 kq x0_1 x3_1 = some r) ∧ Aside0 (kq ≤ k) ∧ Drawn0 w w')
 case atStart => exact ⟨(a0), (0), (by first | rfl | (simp; done) | (simp [*]; done)), (by first | rfl | (simp; done) | (simp [*]; done)), H', ⟨Nat.le_refl _⟩, by repeat (first | exact Drawn0.refl _ | apply Drawn0.step)⟩
 case round =>
  clear H'
  obtain ⟨x0_1, x3_1, rfl, rfl, HA, HK1, ⟨m1, rfl⟩⟩ := hrel
  cases gk with
  | zero => exact absurd HA.out (by simp [lampblackref02_Size.l0])
  | succ k1 =>
   have H := HA.out
   clear HA
   simp only [lampblackref02_Size.l0] at H
   by_cases c2 : x0_1 > 0
   ·rw [if_pos c2] at H
    have c2b0 : decide (0 < x0_1) = true := decide_eq_true c2
    clear c2
    have H' := Aside0.mk H
    clear H
    go_wp2
    go_roundg k1
    case measure => have := HK1.out; omega
    case rel => exact ⟨(Go.bits .and .i64 x0_1 (wrap64 (x0_1 - 1))), (wrap64 (x3_1 + 1)), (by first | rfl | (simp; done) | (simp [*]; done)), (by first | rfl | (simp; done) | (simp [*]; done)), H', ⟨by have := HK1.out; omega⟩, by repeat (first | exact Drawn0.refl _ | apply Drawn0.step)⟩
   ·rw [if_neg c2] at H
    have c2b0 : decide (0 < x0_1) = false := decide_eq_false c2
    clear c2
    obtain rfl := Option.some.inj H
    go_wp2
    go_ret
    exact ⟨by first | rfl | (simp; done) | (simp [*]; done), by repeat (first | exact Drawn0.refl _ | apply Drawn0.step)⟩
end Go.Proofs.YtijfddobandcdaaDoor.X
end
section
/- lampblackref03.smoky and Play, by hand: a plan played street by street. -/
namespace Go.Proofs.YtijfddobandcdaaDoor.X
open Go.RowKit Go.Proofs.YtijfddobandcdaaDoorW.PrintWords Go.Proofs.YtijfddobandcdaaDoorW.PrintLast Go.Proofs.YtijfddobandcdaaDoorW.PrintMore Go.Proofs.YtijfddobandcdaaDoor.T
attribute [local go_sem] max2_int min2_int max_two min_two max_three min_three max_four min_four
set_option linter.unusedVariables false
set_option linter.unusedSimpArgs false
theorem shJ (v : Nat) (hv : v < 62) : ∃ J : Int, (wrap64 (2 ^ v) = J ∧ wrap64 (2 ^ min v 64) = J ∧ shl .i64 1 (v : Int) = J) ∧ J = ((2 ^ v : Nat) : Int) := by
 have e := s_one v hv
 have h : (2 : Nat) ^ v < 2 ^ 62 := Nat.pow_lt_pow_right (by omega) hv
 have h2 : wrap64 (2 ^ v) = ((2 ^ v : Nat) : Int) := by
  rw [show ((2 : Int) ^ v) = ((2 ^ v : Nat) : Int) by simp]
  generalize 2 ^ v = x at *
  exact w64_small _ (by omega) (by omega)
 exact ⟨_, ⟨h2, by rw [Nat.min_eq_left (by omega)]; exact h2, e⟩, rfl⟩
def BRow (W : World) (g : Nat) (C : List Bool) : Prop := W.heap[g]? = some (.cells (C.map Value.bool).toArray 81 (0, 0))
theorem BRow.lt {W : World} {g : Nat} {C : List Bool} (h : BRow W g C) : g < W.heap.size := (Array.getElem?_eq_some_iff.1 h).1
theorem BRow.cell {W : World} {g : Nat} {C : List Bool} (h : BRow W g C) (i : Nat) (hi : i < C.length) : W.cell? ⟨g, i, none⟩ = some (.bool (C.getD i false)) := by
 unfold World.cell?
 rw [show W.heap[(⟨g, i, none⟩ : Addr).block]? = _ from h]
 simp only [Option.isSome_none, Bool.false_eq_true, if_false]
 simp [List.getElem?_eq_getElem hi]
theorem BRow.frozen {W : World} {g : Nat} {C : List Bool} (h : BRow W g C) (i : Nat) : W.frozen? ⟨g, i, none⟩ = false := by
 unfold World.frozen?
 rw [show W.heap[(⟨g, i, none⟩ : Addr).block]? = _ from h]
 simp
theorem BRow.below {W V : World} {g : Nat} {C : List Bool} (h : BRow W g C) (hb : Below W.heap.size W V) : BRow V g C := (hb.block g h.lt).trans h
theorem BRow.other {W : World} {g : Nat} {C : List Bool} (h : BRow W g C) {p : Addr} (hne : g ≠ p.block) (u : Value) : BRow (W.setCell p u) g C := (Below.heap_setCell W p u g hne).trans h
theorem BRow.set {W : World} {g : Nat} {C : List Bool} (h : BRow W g C) (i : Nat) (v : Bool) : BRow (W.setCell ⟨g, i, none⟩ (.bool v)) g (C.set i v) := by
 obtain ⟨hlt, hk⟩ := Array.getElem?_eq_some_iff.1 h
 show (W.heap.modify g _)[g]? = _
 rw [Array.getElem?_eq_getElem (by rw [Array.size_modify]; exact hlt), Array.getElem_modify_self, hk]
 simp [List.map_set]
structure PS where
 gd : Nat
 most : Nat
 had : Nat
 bk : Bool
 C : List Bool
def p0 : PS := ⟨0, 0, 0, false, List.replicate 64 false⟩
theorem gi_toNat (G : List Nat) : (gi G).map Int.toNat = G := by
 unfold gi
 rw [List.map_map]
 conv => rhs; rw [← List.map_id G]
 exact List.map_congr_left fun x _ => by simp
end Go.Proofs.YtijfddobandcdaaDoor.X
end
section
namespace Go.Proofs.YtijfddobandcdaaDoor.X
open Go.RowKit Go.Proofs.YtijfddobandcdaaDoorW.PrintWords Go.Proofs.YtijfddobandcdaaDoorW.PrintLast Go.Proofs.YtijfddobandcdaaDoorW.PrintMore
attribute [local go_sem] max2_int min2_int max_two min_two max_three min_three max_four min_four
set_option linter.unusedVariables false
set_option linter.unusedSimpArgs false
/-! ### lampblackref03_Border: function 59 -/
def lampblackref03_Border.l0 : Nat → List Int → Int → Int → Int → Int → Option (Int)
 | 0, _, _, _, _, _ => none
 | k + 1, x0, x1, x5, x8, x9 => if x9 < x8 then (if 0 ≤ x9 then (if (Go.bits .and .i64 (shr .i64 x1 x9) 1) = 1 then (if x9 < (x0.length : Int) then (if (Go.bits .andNot .i64 (rd x0 x9) x1) = 0 then (lampblackref03_Border.l0 k x0 x1 x5 x8 (wrap64 (x9 + 1))) else (lampblackref03_Border.l0 k x0 x1 (Go.bits .or .i64 x5 (shl .i64 1 x9)) x8 (wrap64 (x9 + 1)))) else (none)) else (lampblackref03_Border.l0 k x0 x1 x5 x8 (wrap64 (x9 + 1)))) else (none)) else (some x5)
def lampblackref03_Border.f (k : Nat) (l0 : List Int) (a1 : Int) : Option (Int) := lampblackref03_Border.l0 k l0 a1 0 (l0.length : Int) 0
set_option maxHeartbeats 8000000 in
set_option maxRecDepth 100000 in
theorem lampblackref03_Border.calls (k : Nat) (A0 : Option Addr) (c0 : Nat) (l0 : List Int) (a1 : Int) (r : Int) (w : World) (hr0 : Kd.C (Kd.int .i64) w A0 l0.length l0) (hc0 : l0.length ≤ c0) (h : lampblackref03_Border.f k l0 a1 = some r) :
  Calls Tryd.prog 59 #[.slice A0 l0.length c0, .int .i64 a1] w fun e w' => e = .returned (.int .i64 r) ∧ Drawn0 w w' := by
 have HR0 := Aside0.mk hr0
 have HC0 := Aside0.mk hc0
 clear hr0 hc0
 have H : (lampblackref03_Border.l0 k l0 a1 0 (l0.length : Int) 0) = some r := h
 clear h
 have H' := Aside0.mk H
 clear H
 go_enter Tryd.func59, Tryd.ntmps59
 go_wp2
 go_loopg [5, 9] k (fun kq v5 v9 w' => ∃ (x5_1 : Int) (x9_1 : Int), v5 = .int .i64 x5_1 ∧ v9 = .int .i64 x9_1 ∧ Aside0 (lampblackref03_Border.l0 kq l0 a1 x5_1 (l0.length : Int) x9_1 = some r) ∧ Aside0 (kq ≤ k) ∧ Drawn0 w w')
 case atStart => exact ⟨(0), (0), (by first | rfl | (simp; done) | (simp [*]; done)), (by first | rfl | (simp; done) | (simp [*]; done)), H', ⟨Nat.le_refl _⟩, by repeat (first | exact Drawn0.refl _ | apply Drawn0.step)⟩
 case round =>
  clear H'
  try clear p2
  obtain ⟨x5_1, x9_1, rfl, rfl, HA, HK1, ⟨m1, rfl⟩⟩ := hrel
  cases gk with
  | zero => exact absurd HA.out (by simp [lampblackref03_Border.l0])
  | succ k1 =>
   have H := HA.out
   clear HA
   simp only [lampblackref03_Border.l0] at H
   by_cases c3 : x9_1 < (l0.length : Int)
   ·rw [if_pos c3] at H
    have c3b0 : decide (x9_1 < (l0.length : Int)) = true := decide_eq_true c3
    clear c3
    by_cases c4 : 0 ≤ x9_1
    ·rw [if_pos c4] at H
     have c4b0 := eq_true c4
     have c4b1 : decide (0 ≤ x9_1) = true := decide_eq_true c4
     clear c4
     obtain ⟨ji5, hji5⟩ : ∃ j_ : Int, (shr .i64 a1 x9_1) = j_ := ⟨_, rfl⟩
     replace H : (if (Go.bits .and .i64 (ji5) 1) = 1 then (if x9_1 < (l0.length : Int) then (if (Go.bits .andNot .i64 (rd l0 x9_1) a1) = 0 then (lampblackref03_Border.l0 k1 l0 a1 x5_1 (l0.length : Int) (wrap64 (x9_1 + 1))) else (lampblackref03_Border.l0 k1 l0 a1 (Go.bits .or .i64 x5_1 (shl .i64 1 x9_1)) (l0.length : Int) (wrap64 (x9_1 + 1)))) else (none)) else (lampblackref03_Border.l0 k1 l0 a1 x5_1 (l0.length : Int) (wrap64 (x9_1 + 1)))) = some r := by first | (rw [hji5] at H; exact H) | (simp only [hji5] at H ⊢; exact H)
     have hji5_ : (a1 / 2 ^ min x9_1.toNat 64) = ji5 := hji5
     have hji5z : x9_1 ≤ 64 → (a1 / 2 ^ x9_1.toNat) = ji5 := shr_small hji5
     by_cases c6 : (Go.bits .and .i64 (ji5) 1) = 1
     ·rw [if_pos c6] at H
      have c6b0 : ((Go.bits .and .i64 (ji5) 1) == 1) = true := beq_iff_eq.mpr c6
      have c6b1 : ((Go.bits .and .i64 (ji5) 1) != 1) = false := bne_eq_false_iff_eq.mpr c6
      clear c6
      by_cases c7 : x9_1 < (l0.length : Int)
      ·rw [if_pos c7] at H
       have c7b0 : decide (x9_1 < (l0.length : Int)) = true := decide_eq_true c7
       clear c7
       by_cases c8 : (Go.bits .andNot .i64 (rd l0 x9_1) a1) = 0
       ·rw [if_pos c8] at H
        have c8b0 : ((Go.bits .andNot .i64 (rd l0 x9_1) a1) == 0) = true := beq_iff_eq.mpr c8
        have c8b1 : ((Go.bits .andNot .i64 (rd l0 x9_1) a1) != 0) = false := bne_eq_false_iff_eq.mpr c8
        clear c8
        have H' := Aside0.mk H
        clear H
        have p136 : 0 ≤ (x9_1 : Int) := of_decide_eq_true (by first | (with_reducible assumption) | assumption)
        have q136 : x9_1 < (l0.length : Int) := of_decide_eq_true (by first | (with_reducible assumption) | assumption)
        obtain ⟨ad136, e136, hx136_0⟩ := Kd.at_int HR0.out x9_1 p136 q136
        cases e136
        replace p136 := eq_true p136
        replace q136 := eq_true q136
        go_wp2
        go_roundg k1
        case measure => have := HK1.out; omega
        case rel => exact ⟨(x5_1), (wrap64 (x9_1 + 1)), (by first | rfl | (simp; done) | (simp [*]; done)), (by first | rfl | (simp; done) | (simp [*]; done)), H', ⟨by have := HK1.out; omega⟩, by repeat (first | exact Drawn0.refl _ | apply Drawn0.step)⟩
       ·rw [if_neg c8] at H
        have c8b0 : ((Go.bits .andNot .i64 (rd l0 x9_1) a1) == 0) = false := beq_eq_false_iff_ne.mpr c8
        have c8b1 : ((Go.bits .andNot .i64 (rd l0 x9_1) a1) != 0) = true := bne_iff_ne.mpr c8
        have c9b0 := eq_true (of_decide_eq_true (by first | (with_reducible assumption) | assumption) : 0 ≤ x9_1)
        obtain ⟨ji10, hji10⟩ : ∃ j_ : Int, (shl .i64 1 x9_1) = j_ := ⟨_, rfl⟩
        replace H : (lampblackref03_Border.l0 k1 l0 a1 (Go.bits .or .i64 x5_1 (ji10)) (l0.length : Int) (wrap64 (x9_1 + 1))) = some r := by first | (rw [hji10] at H; exact H) | (simp only [hji10] at H ⊢; exact H)
        have hji10_ : (IntKind.i64.wrap (1 * 2 ^ min x9_1.toNat 64)) = ji10 := hji10
        have hji10z : x9_1 ≤ 64 → (IntKind.i64.wrap (1 * 2 ^ x9_1.toNat)) = ji10 := shl_small hji10
        have hji10u : (IntKind.i64.wrap (2 ^ min x9_1.toNat 64)) = ji10 := by have h_ := hji10_; rw [Int.one_mul] at h_; exact h_
        have hji10v : x9_1 ≤ 64 → (IntKind.i64.wrap (2 ^ x9_1.toNat)) = ji10 := fun hle_ => by have h_ := hji10z hle_; rw [Int.one_mul] at h_; exact h_
        have hji10y : (wrap64 (1 * 2 ^ min x9_1.toNat 64)) = ji10 := (i64_w _).symm.trans hji10_
        have hji10x : x9_1 ≤ 64 → (wrap64 (1 * 2 ^ x9_1.toNat)) = ji10 := fun h_ => (i64_w _).symm.trans (hji10z h_)
        have H' := Aside0.mk H
        clear H
        have p136 : 0 ≤ (x9_1 : Int) := of_decide_eq_true (by first | (with_reducible assumption) | assumption)
        have q136 : x9_1 < (l0.length : Int) := of_decide_eq_true (by first | (with_reducible assumption) | assumption)
        obtain ⟨ad136, e136, hx136_0⟩ := Kd.at_int HR0.out x9_1 p136 q136
        cases e136
        replace p136 := eq_true p136
        replace q136 := eq_true q136
        go_wp2
        go_roundg k1
        case measure => have := HK1.out; omega
        case rel => exact ⟨(Go.bits .or .i64 x5_1 (ji10)), (wrap64 (x9_1 + 1)), (by first | rfl | (simp; done) | (simp only [← hji10] <;> (first | rfl | simp)) | (simp [*]; done)), (by first | rfl | (simp; done) | (simp [*]; done)), H', ⟨by have := HK1.out; omega⟩, by repeat (first | exact Drawn0.refl _ | apply Drawn0.step)⟩
      ·rw [if_neg c7] at H
       exact absurd H (by simp)
     ·rw [if_neg c6] at H
      have c6b0 : ((Go.bits .and .i64 (ji5) 1) == 1) = false := beq_eq_false_iff_ne.mpr c6
      have c6b1 : ((Go.bits .and .i64 (ji5) 1) != 1) = true := bne_iff_ne.mpr c6
      have H' := Aside0.mk H
      clear H
      go_wp2
      go_roundg k1
      case measure => have := HK1.out; omega
      case rel => exact ⟨(x5_1), (wrap64 (x9_1 + 1)), (by first | rfl | (simp; done) | (simp [*]; done)), (by first | rfl | (simp; done) | (simp [*]; done)), H', ⟨by have := HK1.out; omega⟩, by repeat (first | exact Drawn0.refl _ | apply Drawn0.step)⟩
    ·rw [if_neg c4] at H
     exact absurd H (by simp)
   ·rw [if_neg c3] at H
    have c3b0 : decide (x9_1 < (l0.length : Int)) = false := decide_eq_false c3
    clear c3
    obtain rfl := Option.some.inj H
    go_wp2
    go_ret
    exact ⟨by first | rfl | (simp; done) | (simp [*]; done), by repeat (first | exact Drawn0.refl _ | apply Drawn0.step)⟩
end Go.Proofs.YtijfddobandcdaaDoor.X
end
section
namespace Go.Proofs.YtijfddobandcdaaDoor.X
open Go.RowKit Go.Proofs.YtijfddobandcdaaDoorW.PrintWords Go.Proofs.YtijfddobandcdaaDoorW.PrintLast Go.Proofs.YtijfddobandcdaaDoorW.PrintMore
attribute [local go_sem] max2_int min2_int max_two min_two max_three min_three max_four min_four
set_option linter.unusedVariables false
set_option linter.unusedSimpArgs false
/-! ### lampblackref03_Breadth: function 31 -/
def lampblackref03_Breadth.l0 : Nat → List Int → Int → Int → List Int → Int → Int → Option (Int)
 | 0, _, _, _, _, _, _ => none
 | k + 1, x0, x5, x6, x9, x10, x11 => if x11 < x10 then (if 0 ≤ x11 then (if x11 < (x9.length : Int) then (if 0 ≤ (rd x9 x11) then ((lampblackref03_Border.f k x0 (Go.bits .or .i64 x6 (shl .i64 1 (rd x9 x11)))).bind fun t138 => ((lampblackref02_Size.f k t138).bind fun t139 => (lampblackref03_Breadth.l0 k x0 (mx x5 t139) (Go.bits .or .i64 x6 (shl .i64 1 (rd x9 x11))) x9 x10 (wrap64 (x11 + 1))))) else (none)) else (none)) else (none)) else (some x5)
def lampblackref03_Breadth.f (k : Nat) (l0 : List Int) (l1 : List Int) : Option (Int) := lampblackref03_Breadth.l0 k l0 0 0 l1 (l1.length : Int) 0
set_option maxHeartbeats 8000000 in
set_option maxRecDepth 100000 in
theorem lampblackref03_Breadth.calls (k : Nat) (A0 : Option Addr) (c0 : Nat) (l0 : List Int) (A1 : Option Addr) (c1 : Nat) (l1 : List Int) (r : Int) (w : World) (hr0 : Kd.C (Kd.int .i64) w A0 l0.length l0) (hc0 : l0.length ≤ c0) (hr1 : Kd.C (Kd.int .i64) w A1 l1.length l1) (hc1 : l1.length ≤ c1) (h : lampblackref03_Breadth.f k l0 l1 = some r) :
  Calls Tryd.prog 31 #[.slice A0 l0.length c0, .slice A1 l1.length c1] w fun e w' => e = .returned (.int .i64 r) ∧ Below w.heap.size w w' := by
 have HR0 := Aside0.mk hr0
 have HC0 := Aside0.mk hc0
 clear hr0 hc0
 have HR1 := Aside0.mk hr1
 have HC1 := Aside0.mk hc1
 clear hr1 hc1
 have HB := Aside0.mk (Below.refl w.heap.size w)
 have H : (lampblackref03_Breadth.l0 k l0 0 0 l1 (l1.length : Int) 0) = some r := h
 clear h
 have H' := Aside0.mk H
 clear H
 go_enter Tryd.func31, Tryd.ntmps31
 go_wp2
 go_loopg [5, 6, 11] k (fun kq v5 v6 v11 w' => ∃ (x5_1 : Int) (x6_1 : Int) (x11_1 : Int), v5 = .int .i64 x5_1 ∧ v6 = .int .i64 x6_1 ∧ v11 = .int .i64 x11_1 ∧ Aside0 (lampblackref03_Breadth.l0 kq l0 x5_1 x6_1 l1 (l1.length : Int) x11_1 = some r) ∧ Aside0 (kq ≤ k) ∧ Aside0 (Below w.heap.size w w'))
 case atStart => exact ⟨(0), (0), (0), (by first | rfl | (simp; done) | (simp [*]; done)), (by first | rfl | (simp; done) | (simp [*]; done)), (by first | rfl | (simp; done) | (simp [*]; done)), H', ⟨Nat.le_refl _⟩, ⟨by repeat (first | (with_reducible first | exact HB.out | apply below_alloc | apply pw_below_drewN | apply below_drew1) | exact HB.out)⟩⟩
 case round =>
  clear H'
  try clear c1
  try clear p2
  obtain ⟨x5_1, x6_1, x11_1, rfl, rfl, rfl, HA, HK1, HB⟩ := hrel
  cases gk with
  | zero => exact absurd HA.out (by simp [lampblackref03_Breadth.l0])
  | succ k1 =>
   have H := HA.out
   clear HA
   simp only [lampblackref03_Breadth.l0] at H
   by_cases c3 : x11_1 < (l1.length : Int)
   ·rw [if_pos c3] at H
    have c3b0 : decide (x11_1 < (l1.length : Int)) = true := decide_eq_true c3
    clear c3
    by_cases c4 : 0 ≤ x11_1
    ·rw [if_pos c4] at H
     have c4b0 : decide (0 ≤ x11_1) = true := decide_eq_true c4
     clear c4
     by_cases c5 : x11_1 < (l1.length : Int)
     ·rw [if_pos c5] at H
      have c5b0 : decide (x11_1 < (l1.length : Int)) = true := decide_eq_true c5
      clear c5
      by_cases c6 : 0 ≤ (rd l1 x11_1)
      ·rw [if_pos c6] at H
       have c6b0 := eq_true c6
       have c6b1 : decide (0 ≤ (rd l1 x11_1)) = true := decide_eq_true c6
       clear c6
       obtain ⟨ji7, hji7⟩ : ∃ j_ : Int, (shl .i64 1 (rd l1 x11_1)) = j_ := ⟨_, rfl⟩
       replace H : ((lampblackref03_Border.f k1 l0 (Go.bits .or .i64 x6_1 (ji7))).bind fun t138 => ((lampblackref02_Size.f k1 t138).bind fun t139 => (lampblackref03_Breadth.l0 k1 l0 (mx x5_1 t139) (Go.bits .or .i64 x6_1 (ji7)) l1 (l1.length : Int) (wrap64 (x11_1 + 1))))) = some r := by first | (rw [hji7] at H; exact H) | (simp only [hji7] at H ⊢; exact H)
       have hji7_ : (IntKind.i64.wrap (1 * 2 ^ min (rd l1 x11_1).toNat 64)) = ji7 := hji7
       have hji7z : (rd l1 x11_1) ≤ 64 → (IntKind.i64.wrap (1 * 2 ^ (rd l1 x11_1).toNat)) = ji7 := shl_small hji7
       have hji7u : (IntKind.i64.wrap (2 ^ min (rd l1 x11_1).toNat 64)) = ji7 := by have h_ := hji7_; rw [Int.one_mul] at h_; exact h_
       have hji7v : (rd l1 x11_1) ≤ 64 → (IntKind.i64.wrap (2 ^ (rd l1 x11_1).toNat)) = ji7 := fun hle_ => by have h_ := hji7z hle_; rw [Int.one_mul] at h_; exact h_
       have hji7y : (wrap64 (1 * 2 ^ min (rd l1 x11_1).toNat 64)) = ji7 := (i64_w _).symm.trans hji7_
       have hji7x : (rd l1 x11_1) ≤ 64 → (wrap64 (1 * 2 ^ (rd l1 x11_1).toNat)) = ji7 := fun h_ => (i64_w _).symm.trans (hji7z h_)
       replace H := Option.bind_eq_some_iff.mp H
       obtain ⟨t138, A80, H⟩ := H
       replace H : ((lampblackref02_Size.f k1 t138).bind fun t139 => (lampblackref03_Breadth.l0 k1 l0 (mx x5_1 t139) (Go.bits .or .i64 x6_1 (ji7)) l1 (l1.length : Int) (wrap64 (x11_1 + 1)))) = some r := H
       have A8 := Aside0.mk A80
       clear A80
       replace H := Option.bind_eq_some_iff.mp H
       obtain ⟨t139, A90, H⟩ := H
       replace H : (lampblackref03_Breadth.l0 k1 l0 (mx x5_1 t139) (Go.bits .or .i64 x6_1 (ji7)) l1 (l1.length : Int) (wrap64 (x11_1 + 1))) = some r := H
       have A9 := Aside0.mk A90
       clear A90
       obtain ⟨ji10, hji10⟩ : ∃ j_ : Int, (mx x5_1 t139) = j_ := ⟨_, rfl⟩
       replace H : (lampblackref03_Breadth.l0 k1 l0 ji10 (Go.bits .or .i64 x6_1 (ji7)) l1 (l1.length : Int) (wrap64 (x11_1 + 1))) = some r := by first | (rw [hji10] at H; exact H) | (simp only [hji10] at H ⊢; exact H)
       (try rw [hji10] at A8)
       (try rw [hji10] at A9)
       have hji10_ : (if x5_1 < t139 then t139 else x5_1) = ji10 := hji10
       have H' := Aside0.mk H
       clear H
       have p137 : 0 ≤ (x11_1 : Int) := of_decide_eq_true (by first | (with_reducible assumption) | assumption)
       have q137 : x11_1 < (l1.length : Int) := of_decide_eq_true (by first | (with_reducible assumption) | assumption)
       obtain ⟨ad137, e137, hx137_0⟩ := Kd.at_int HR1.out x11_1 p137 q137
       cases e137
       replace hx137_0 := (HB.out.cell (World.block_lt_of_cell? w _ hx137_0)).trans hx137_0
       replace p137 := eq_true p137
       replace q137 := eq_true q137
       go_wp2_with (first | ((with_reducible refine gate_callee (f := 59) rfl ?_); refine goesL_ (some 22) rfl rfl Tryd.func59 (by kernel_rfl) rfl #[.slice A0 l0.length c0, .int .i64 (Go.bits .or .i64 x6_1 (ji7))] rfl (by (try simp only [List.map_toArray, List.map_cons, List.map_nil]); first | done | (simp only [hji7]; rfl) | rfl | (simp only [List.length_drop, List.length_take]; rfl)) ?_; (with_reducible refine (lampblackref03_Border.calls k1 _ _ l0 (Go.bits .or .i64 x6_1 (ji7)) t138 _ ?side1 ?side2 A8.out).mono ?_); (case side1 => repeat (first | exact (Kd.C_below HR0.out HB.out) | (with_reducible refine Kd.C_alloc ?_ _) | (with_reducible refine Kd.C_drewN ?_ _) | (with_reducible refine Kd.C_drew ?_))); (case side2 => exact HC0.out); rintro e w' ⟨rfl, ⟨nd, rfl⟩⟩; refine ⟨_, rfl, ?_⟩) | ((with_reducible refine gate_callee (f := 53) rfl ?_); refine goesL_ (some 23) rfl rfl Tryd.func53 (by kernel_rfl) rfl #[.int .i64 t138] rfl (by (try simp only [List.map_toArray, List.map_cons, List.map_nil]); first | done | rfl | (simp only [List.length_drop, List.length_take]; rfl)) ?_; (with_reducible refine (lampblackref02_Size.calls k1 t138 t139 _ A9.out).mono ?_); rintro e w' ⟨rfl, ⟨nd, rfl⟩⟩; refine ⟨_, rfl, ?_⟩))
       go_roundg k1
       case measure => have := HK1.out; omega
       case rel => exact ⟨(ji10), (Go.bits .or .i64 x6_1 (ji7)), (wrap64 (x11_1 + 1)), (by first | rfl | (simp; done) | (simp only [← hji10] <;> (first | rfl | simp)) | (simp [*]; done)), (by first | rfl | (simp; done) | (simp only [← hji7] <;> (first | rfl | simp)) | (simp [*]; done)), (by first | rfl | (simp; done) | (simp [*]; done)), H', ⟨by have := HK1.out; omega⟩, ⟨by repeat (first | (with_reducible first | exact HB.out | apply below_alloc | apply pw_below_drewN | apply below_drew1) | exact HB.out)⟩⟩
      ·rw [if_neg c6] at H
       exact absurd H (by simp)
     ·rw [if_neg c5] at H
      exact absurd H (by simp)
    ·rw [if_neg c4] at H
     exact absurd H (by simp)
   ·rw [if_neg c3] at H
    have c3b0 : decide (x11_1 < (l1.length : Int)) = false := decide_eq_false c3
    clear c3
    obtain rfl := Option.some.inj H
    go_wp2
    go_ret
    exact ⟨by first | rfl | (simp [errW_none, errW_some] <;> rfl) | (simp [*, errW_none, errW_some] <;> rfl), by repeat (first | (with_reducible first | exact HB.out | apply below_alloc | apply pw_below_drewN | apply below_drew1) | exact HB.out)⟩
end Go.Proofs.YtijfddobandcdaaDoor.X
end
section
/- lampblackref03.Layout, by hand: the first of all orders with the least breadth. -/
namespace Go.Proofs.YtijfddobandcdaaDoor.X
open Go.RowKit Go.Proofs.YtijfddobandcdaaDoorW.PrintWords Go.Proofs.YtijfddobandcdaaDoorW.PrintLast Go.Proofs.YtijfddobandcdaaDoorW.PrintMore Go.Proofs.YtijfddobandcdaaDoor.T
attribute [local go_sem] max2_int min2_int max_two min_two max_three min_three max_four min_four
set_option linter.unusedVariables false
set_option linter.unusedSimpArgs false
def bestOf (k : Nat) (g : List Int) : List (List Int) → List Int → Int → Option (List Int × Int)
 | [], best, least => some (best, least)
 | l :: Ls, best, least => (lampblackref03_Breadth.f k g l).bind fun b => if b < least then bestOf k g Ls l b else bestOf k g Ls best least
def lampblackref03_Layout.f (k : Nat) (l0 : List Int) : Option (List Int × Int) := if l0.length ≤ 7 then bestOf k l0 (layF l0.length l0.length []) [] 99 else none
theorem ownsRow_form {W : World} {base : Nat} {e : TypeId} {size : Nat} {v : Value} {k : Nat} {xs : List Value} (h : W.ownsRow base e size v k xs) : ∃ A cap, v = .slice A k cap := by
 rcases h.2 with ⟨rfl, rfl⟩ | ⟨g, cap, cur, rfl, _⟩
 ·exact ⟨none, 0, rfl⟩
 ·exact ⟨_, cap, rfl⟩
theorem C_of_row {W : World} {base : Nat} {A : Option Addr} {cap : Nat} {l : List Int} (h : W.ownsRow base 3 1 (.slice A l.length cap) l.length (l.map (Value.int .i64))) : l.length ≤ cap ∧ Kd.C (Kd.int .i64) W A l.length l :=
 (Kd.R_reads' (Kd.R_of_own (ok := fun _ => True) h (fun _ _ => trivial))).2
set_option maxHeartbeats 2000000 in
set_option maxRecDepth 100000 in
theorem lampblackref03_Layout.calls (k : Nat) (A0 : Option Addr) (c0 : Nat) (l0 : List Int) (r1 : List Int) (r2 : Int) (w : World) (hr0 : Kd.C (Kd.int .i64) w A0 l0.length l0) (hc0 : l0.length ≤ c0) (h : lampblackref03_Layout.f k l0 = some (r1, r2)) :
  Calls Tryd.prog 28 #[.slice A0 l0.length c0] w fun e w' => ∃ v0_ : Value, e = .returned (.tuple #[v0_, .int .i64 r2]) ∧ Kd.R (Kd.int .i64) 3 w' w.heap.size (fun _ => True) v0_ r1 ∧ Below w.heap.size w w' := by
 unfold lampblackref03_Layout.f at h
 by_cases hn : l0.length ≤ 7
 ·rw [if_pos hn] at h
  have HF := Aside0.mk h
  have HR := Aside0.mk hr0
  clear h hr0
  have hcall := layouts_calls l0.length hn l0.length [] none 0 w.heap.size w (by simp) (Nat.le_refl _) (World.ownsRow_nil _ _ _ _)
  obtain ⟨x0, hx0⟩ := layF_mem l0.length l0.length [] (by simp)
  obtain ⟨m, hm⟩ : ∃ m, (layF l0.length l0.length []).length = m + 1 := ⟨(layF l0.length l0.length []).length - 1, by have := List.length_pos_of_mem hx0; omega⟩
  have hml := Nat.le_trans (layF_length l0.length l0.length []) (layF_small l0.length l0.length hn hn)
  generalize layF l0.length l0.length [] = Ls at HF hcall hm hml
  have h77 : (7 : Nat) ^ 7 = 823543 := by rfl
  rw [hm, h77] at hml
  have HM := Aside0.mk hml
  have HL := Aside0.mk hm
  clear hml hm h77 hx0 x0
  go_enter Tryd.func28, Tryd.ntmps28
  go_wp2_with (go_at_call 58; refine hcall.mono ?_; rintro e w2 ⟨v, rows, rfl, ho, hR, hB2⟩; rw [HL.out] at ho; obtain ⟨g2, cap2, rfl⟩ := ownsRow_succ ho)
  go_loopg [4, 5, 13] (m + 1) (fun kq v4 v5 v13 w' => ∃ (i : Nat) (best : List Int) (least : Int), v13 = .int .i64 (i : Int) ∧ i + kq = m + 1 ∧ v5 = .int .i64 least ∧ w'.ownsRow w.heap.size 3 1 v4 best.length (best.map (Value.int .i64)) ∧ Aside0 (bestOf k l0 (Ls.drop i) best least = some (r1, r2)) ∧ Below w2.heap.size w2 w')
  case atStart => exact ⟨0, [], 99, rfl, by omega, rfl, World.ownsRow_nil _ _ _ _, ⟨by rw [List.drop_zero]; exact HF.out⟩, Below.refl _ _⟩
  case round =>
   obtain ⟨i, best, least, rfl, hi, rfl, hob, HF2, hBw⟩ := hrel
   by_cases him : i < m + 1
   ·have hi1 : ((i : Int) < ((m : Int) + 1)) = True := eq_true (by omega)
    have hi2 : decide ((i : Int) < ((m : Int) + 1)) = true := decide_eq_true (by omega)
    have hi3 : ((i : Int) < ((m + 1 : Nat) : Int)) = True := eq_true (by omega)
    have hi4 : decide ((i : Int) < ((m + 1 : Nat) : Int)) = true := decide_eq_true (by omega)
    have hil : i < Ls.length := by rw [HL.out]; exact him
    obtain ⟨v, hv, hov⟩ := hR.2 i Ls[i] (List.getElem?_eq_getElem hil)
    obtain ⟨A, cp, rfl⟩ := ownsRow_form hov
    have hcell := (hBw.cell (World.block_lt_of_cell? w2 _ (ownsRow_cells ho i _ hv))).trans (ownsRow_cells ho i _ hv)
    rw [Addr.add_lit, Nat.zero_add] at hcell
    have hov2 := ownsRow_below hov hBw
    obtain ⟨hcp, hC⟩ := C_of_row hov2
    have hC0 : Kd.C (Kd.int .i64) wr A0 l0.length l0 := Kd.C_below HR.out (below_step hB2 hBw)
    have HF3 := HF2.out
    rw [List.drop_eq_getElem_cons hil] at HF3
    simp only [bestOf] at HF3
    obtain ⟨b, hb, HF3⟩ := Option.bind_eq_some_iff.mp HF3
    have HFN := Aside0.mk HF3
    have HWI := Aside0.mk (show wrap64 ((i : Int) + 1) = ((i + 1 : Nat) : Int) from wrap_succ i (by have := HM.out; omega))
    clear HF3
    have hbc := lampblackref03_Breadth.calls k A0 c0 l0 A cp Ls[i] b wr hC0 hc0 hC hcp hb
    generalize Ls[i] = li at *
    by_cases hlt : b < least
    ·have hl1 : decide (b < least) = true := decide_eq_true hlt
     go_wp2_with (go_at_call 31; refine hbc.mono ?_; rintro e w3 ⟨rfl, hb3⟩)
     have HF4 := HFN.out
     rw [if_pos (by omega)] at HF4
     go_roundg (m + 1 - (i + 1))
     case measure => omega
     case rel =>
      refine ⟨i + 1, li, b, ?_, by omega, rfl, ?_, ⟨HF4⟩, ?_⟩
      ·first | rw [HWI.out] | exact congrArg (Value.int IntKind.i64) (by omega)
      ·exact ownsRow_below hov2 hb3
      ·exact below_step hBw hb3
    ·have hl1 : decide (b < least) = false := decide_eq_false hlt
     go_wp2_with (go_at_call 31; refine hbc.mono ?_; rintro e w3 ⟨rfl, hb3⟩)
     have HF4 := HFN.out
     rw [if_neg (by omega)] at HF4
     go_roundg (m + 1 - (i + 1))
     case measure => omega
     case rel =>
      refine ⟨i + 1, best, least, ?_, by omega, rfl, ?_, ⟨HF4⟩, ?_⟩
      ·first | rw [HWI.out] | exact congrArg (Value.int IntKind.i64) (by omega)
      ·exact ownsRow_below hob hb3
      ·exact below_step hBw hb3
   ·have hi1 : ((i : Int) < ((m : Int) + 1)) = False := eq_false (by omega)
    have hi2 : decide ((i : Int) < ((m : Int) + 1)) = false := decide_eq_false (by omega)
    have hi3 : ((i : Int) < ((m + 1 : Nat) : Int)) = False := eq_false (by omega)
    have hi4 : decide ((i : Int) < ((m + 1 : Nat) : Int)) = false := decide_eq_false (by omega)
    have HF3 := HF2.out
    rw [List.drop_eq_nil_of_le (by rw [HL.out]; omega)] at HF3
    simp only [bestOf, Option.some.injEq, Prod.mk.injEq] at HF3
    obtain ⟨rfl, rfl⟩ := HF3
    go_wp2
    go_ret2
    exact ⟨_, rfl, Kd.R_of_own hob (fun _ _ => trivial), below_step hB2 hBw⟩
 ·rw [if_neg hn] at h
  cases h
end Go.Proofs.YtijfddobandcdaaDoor.X
end
section
/- (family).sides and (town).family, by hand. -/
namespace Go.Proofs.YtijfddobandcdaaDoor.X
open Go.RowKit Go.Proofs.YtijfddobandcdaaDoorW.PrintWords Go.Proofs.YtijfddobandcdaaDoorW.PrintLast Go.Proofs.YtijfddobandcdaaDoorW.PrintMore Go.Proofs.YtijfddobandcdaaDoor.T
attribute [local go_sem] max2_int min2_int max_two min_two max_three min_three max_four min_four
set_option linter.unusedVariables false
set_option linter.unusedSimpArgs false
def bo (G : List Nat) (x : Nat) : Nat := ((sweep_town_border.f (gi G) (x : Int)).getD 0).toNat
theorem bo_eq {G : List Nat} (hG : Gr 7 G) {x : Nat} (hx : x < 2 ^ G.length) : bo G x = bor G x := by
 unfold bo
 rw [border_eq G hG x hx]
 simp
theorem bo_f {G : List Nat} (hG : Gr 7 G) {x : Nat} (hx : x < 2 ^ G.length) : sweep_town_border.f (gi G) (x : Int) = some ((bo G x : Nat) : Int) := by
 rw [bo_eq hG hx, border_eq G hG x hx]
theorem bo_lt {G : List Nat} (hG : Gr 7 G) {x : Nat} (hx : x < 2 ^ G.length) : bo G x < 2 ^ G.length := by rw [bo_eq hG hx]; exact bor_lt G x
theorem p7 {G : List Nat} (hn : G.length ≤ 7) : 2 ^ G.length ≤ 128 := Nat.pow_le_pow_right (n := 2) (by omega) hn
theorem all_f {G : List Nat} (hG : Gr 7 G) : sweep_town_all.f (gi G) = some ((2 ^ G.length - 1 : Nat) : Int) := by
 have hn := hG.most
 have hp := p7 hn
 have h0 := Nat.two_pow_pos G.length
 unfold sweep_town_all.f
 rw [gi_length, s_one _ (by omega)]
 generalize 2 ^ G.length = P at *
 rw [w64_small _ (by omega) (by omega)]
 congr 1
 omega
def sidesB (G : List Nat) (k x y : Nat) : Bool := (x ||| y == 2 ^ G.length - 1) && (diff (bo G x) y == 0) && decide (pc (x &&& y) 9 ≤ k)
set_option maxHeartbeats 4000000 in
set_option maxRecDepth 100000 in
theorem sides_calls (A0 : Option Addr) (c0 : Nat) (G : List Nat) (hG : Gr 7 G) (hc0 : G.length ≤ c0) (f k x y : Nat) (w : World) (hGL : GL w) (hr0 : Kd.C (Kd.int .i64) w A0 (gi G).length (gi G)) (h0 : w.cell? ⟨f, 0, none⟩ = some (.slice A0 G.length c0)) (h1 : w.cell? ⟨f, 1, none⟩ = some (.int .i64 (k : Int)))
  (hx : x < 2 ^ G.length) (hy : y < 2 ^ G.length) (R : Bool) (hR : sidesB G k x y = R) :
  Calls Tryd.prog 74 #[.pointer (some ⟨f, 0, none⟩), .int .i64 (x : Int), .int .i64 (y : Int)] w fun e w' => e = .returned (.bool R) ∧ Below w.heap.size w w' := by
 have hn := hG.most
 have hp := p7 hn
 have hx7 : x < 128 := Nat.lt_of_lt_of_le hx hp
 have hy7 : y < 128 := Nat.lt_of_lt_of_le hy hp
 have hblt := Nat.lt_of_lt_of_le (bo_lt hG hx) hp
 have hand : x &&& y < 128 := Nat.lt_of_le_of_lt Nat.and_le_left hx7
 have hor := b_or x y (by omega) (by omega)
 have han := b_and x y (by omega) (by omega)
 have hdi := b_andNot (bo G x) y (by omega) (by omega)
 have HALL := Aside0.mk (all_f hG)
 have HBO := Aside0.mk (bo_f hG hx)
 have HCN := Aside0.mk (count_eq (x &&& y) (by omega))
 have HGL := Aside0.mk hGL
 have HR := Aside0.mk hr0
 have HC0 := Aside0.mk hc0
 have HL := Aside0.mk (gi_length G)
 have f0 := World.block_lt_of_cell? w _ h0
 unfold sidesB at hR
 generalize x ||| y = o at *
 generalize x &&& y = an at *
 generalize bo G x = bx at *
 generalize diff bx y = dx at *
 generalize pc an 9 = pa at *
 generalize 2 ^ G.length - 1 = P at *
 clear hGL hr0 hc0 hp hx hy hn hG hand hblt
 have f1 := World.block_lt_of_cell? w _ h1
 have KEEP : Aside0 (∀ W, Below w.heap.size w W → W.cell? ⟨f, 0, none⟩ = some (.slice A0 G.length c0) ∧ W.cell? ⟨f, 1, none⟩ = some (.int .i64 (k : Int)) ∧ Below w.heap.size w W) := ⟨fun W hW => ⟨(hW.cell f0).trans h0, (hW.cell f1).trans h1, hW⟩⟩
 have CALL : Aside0 (∀ W, Below w.heap.size w W → Calls Tryd.prog 61 #[.slice A0 G.length c0] W fun e w' => e = .returned (.int .i64 (P : Int)) ∧ w'.cell? ⟨f, 0, none⟩ = some (.slice A0 G.length c0) ∧ w'.cell? ⟨f, 1, none⟩ = some (.int .i64 (k : Int)) ∧ Below w.heap.size w w') := ⟨fun W hW => by
  have := sweep_town_all.calls A0 c0 (gi G) _ W (Kd.C_below HR.out hW) (by rw [HL.out]; exact HC0.out) HALL.out
  rw [HL.out] at this
  exact this.mono fun e w' ⟨h, m, hm⟩ => ⟨h, KEEP.out w' (by rw [hm]; exact pw_below_drewN hW m)⟩⟩
 have CBOR : Aside0 (∀ W, Below w.heap.size w W → Calls Tryd.prog 73 #[.slice A0 G.length c0, .int .i64 (x : Int)] W fun e w' => e = .returned (.int .i64 (bx : Int)) ∧ w'.cell? ⟨f, 0, none⟩ = some (.slice A0 G.length c0) ∧ w'.cell? ⟨f, 1, none⟩ = some (.int .i64 (k : Int)) ∧ Below w.heap.size w w') := ⟨fun W hW => by
  have := sweep_town_border.calls A0 c0 (gi G) (x : Int) _ W (GL_below HGL.out hW) (Kd.C_below HR.out hW) (by rw [HL.out]; exact HC0.out) HBO.out
  rw [HL.out] at this
  exact this.mono fun e w' ⟨h, hb⟩ => ⟨h, KEEP.out w' (below_step hW hb)⟩⟩
 have CCNT : Aside0 (∀ W, Below w.heap.size w W → Calls Tryd.prog 63 #[.int .i64 (an : Int)] W fun e w' => e = .returned (.int .i64 (pa : Int)) ∧ w'.cell? ⟨f, 0, none⟩ = some (.slice A0 G.length c0) ∧ w'.cell? ⟨f, 1, none⟩ = some (.int .i64 (k : Int)) ∧ Below w.heap.size w w') := ⟨fun W hW =>
  (sweep_count.calls (an : Int) _ W HCN.out).mono fun e w' ⟨h, m, hm⟩ => ⟨h, KEEP.out w' (by rw [hm]; exact pw_below_drewN hW m)⟩⟩
 have HB0 : Below w.heap.size w w.drew := below_drew (Below.refl _ _)
 have h0d : w.drew.cell? ⟨f, 0, none⟩ = some (.slice A0 G.length c0) := h0
 have h1d : w.drew.cell? ⟨f, 1, none⟩ = some (.int .i64 (k : Int)) := h1
 clear h0 h1
 by_cases c1 : o = P
 ·have t1 : ((o : Int) == (P : Int)) = true := by simp [c1]
  by_cases c2 : dx = 0
  ·have t2 : ((dx : Int) == 0) = true := by simp [c2]
   have T3 : Aside0 (decide (pa ≤ k) = R) := ⟨by
    rw [← hR, c1, c2]
    simp⟩
   clear c1 c2 hR
   go_enter Tryd.func74, Tryd.ntmps74
   go_wp2_with (fail)
   refine start_ (n := 32) (S := fun w' => w'.cell? ⟨f, 0, none⟩ = some (.slice A0 G.length c0) ∧ w'.cell? ⟨f, 1, none⟩ = some (.int .i64 (k : Int)) ∧ Below w.heap.size w w') (ds := []) #[false, false, false, false, false, false, false, false, false, false, false, false, false, false, false, false, false, false, false, false, false, false, false, false, false, false, false, false, false, false, false, false] (by kernel_rfl) rfl rfl ⟨h0d, h1d, HB0⟩ (fun hHeld => ?_)
   refine pure_ (i := 0) (N := some 7) (v := ?_) (a' := ?_) #[true, false, false, false, false, false, false, false, false, false, false, false, false, false, false, false, false, false, false, false, false, false, false, false, false, false, false, false, false, false, false, false] rfl rfl (by kernel_rfl) (fun _ _ _ h => h) (Or.inl ⟨by rfl, ?_⟩) ?_ ?_
   rotate_left
   ·intro w'
    go_simp
    with_reducible rfl
   rotate_left
   ·simp only [Act.put, List.setIfInBounds_toArray, List.set_cons_zero, List.set_cons_succ, i64_w, i32_w]
    rfl
   refine pure_ (i := 1) (N := some 8) (v := ?_) (a' := ?_) #[true, true, false, false, false, false, false, false, false, false, false, false, false, false, false, false, false, false, false, false, false, false, false, false, false, false, false, false, false, false, false, false] rfl rfl (by kernel_rfl) (fun _ _ _ h => h) (Or.inl ⟨by rfl, ?_⟩) ?_ ?_
   rotate_left
   ·intro w'
    go_simp
    with_reducible rfl
   rotate_left
   ·simp only [Act.put, List.setIfInBounds_toArray, List.set_cons_zero, List.set_cons_succ, i64_w, i32_w]
    rfl
   refine pure_ (i := 2) (N := some 9) (v := ?_) (a' := ?_) #[true, true, true, false, false, false, false, false, false, false, false, false, false, false, false, false, false, false, false, false, false, false, false, false, false, false, false, false, false, false, false, false] rfl rfl (by kernel_rfl) (fun _ _ _ h => h) (Or.inl ⟨by rfl, ?_⟩) ?_ ?_
   rotate_left
   ·intro w'
    go_simp
    with_reducible rfl
   rotate_left
   ·simp only [Act.put, List.setIfInBounds_toArray, List.set_cons_zero, List.set_cons_succ, i64_w, i32_w]
    rfl
   refine pure_ (i := 3) (N := some 10) (v := ?_) (a' := ?_) #[true, true, true, true, false, false, false, false, false, false, false, false, false, false, false, false, false, false, false, false, false, false, false, false, false, false, false, false, false, false, false, false] rfl rfl (by kernel_rfl) (fun _ _ _ h => h) (Or.inl ⟨by rfl, ?_⟩) ?_ ?_
   rotate_left
   ·intro w'
    go_simp
    with_reducible rfl
   rotate_left
   ·simp only [Act.put, List.setIfInBounds_toArray, List.set_cons_zero, List.set_cons_succ, i64_w, i32_w]
    rfl
   refine pure_ (i := 4) (N := some 11) (v := ?_) (a' := ?_) #[true, true, true, true, true, false, false, false, false, false, false, false, false, false, false, false, false, false, false, false, false, false, false, false, false, false, false, false, false, false, false, false] rfl rfl (by kernel_rfl) (fun _ _ _ h => h) (Or.inl ⟨by rfl, ?_⟩) ?_ ?_
   rotate_left
   ·intro w'
    go_simp
    with_reducible rfl
   rotate_left
   ·simp only [Act.put, List.setIfInBounds_toArray, List.set_cons_zero, List.set_cons_succ, i64_w, i32_w]
    rfl
   refine pure_ (i := 5) (N := some 12) (v := ?_) (a' := ?_) #[true, true, true, true, true, true, false, false, false, false, false, false, false, false, false, false, false, false, false, false, false, false, false, false, false, false, false, false, false, false, false, false] rfl rfl (by kernel_rfl) (fun _ _ _ h => h) (Or.inl ⟨by rfl, ?_⟩) ?_ ?_
   rotate_left
   ·intro w'
    go_simp
    with_reducible rfl
   rotate_left
   ·simp only [Act.put, List.setIfInBounds_toArray, List.set_cons_zero, List.set_cons_succ, i64_w, i32_w]
    rfl
   refine take_ (i := 6) (N := some 13) (v := ?_) (a' := ?_) #[true, true, true, true, true, true, true, false, false, false, false, false, false, false, false, false, false, false, false, false, false, false, false, false, false, false, false, false, false, false, false, false] rfl rfl (by kernel_rfl) (fun _ _ _ h => h) (Or.inl ⟨by rfl, ?_⟩) hHeld ?_ ?_
   rotate_left
   ·rintro w' ⟨s0, s1, s2⟩
    go_simp
    with_reducible rfl
   rotate_left
   ·simp only [Act.put, List.setIfInBounds_toArray, List.set_cons_zero, List.set_cons_succ, i64_w, i32_w]
    rfl
   refine one_ (i := 7) (N := some 14) #[true, true, true, true, true, true, true, true, false, false, false, false, false, false, false, false, false, false, false, false, false, false, false, false, false, false, false, false, false, false, false, false] rfl rfl (by kernel_rfl) (by decide) (fun K hK => ?_)
   refine goes_ Tryd.func61 (by kernel_rfl) rfl #[.slice A0 G.length c0] (by rfl) rfl rfl (by simp only [List.map_toArray, List.map_cons, List.map_nil]; rfl) ?_
   with_reducible refine (CALL.out _ hHeld.2.2).mono ?_
   rintro e w3 ⟨rfl, f0', f1', fb'⟩
   refine ⟨_, rfl, ?_⟩
   refine hK.out _ _ ⟨f0', f1', fb'⟩ (fun hHeld => ?_)
   clear hK K
   refine norm_ (a' := ?_) ?_ ?_
   rotate_left
   ·show Act.put _ (some 14) _ = _
    simp only [Act.put, List.setIfInBounds_toArray, List.set_cons_zero, List.set_cons_succ, i64_w, i32_w]
    rfl
   refine pure_ (i := 8) (N := some 15) (v := ?_) (a' := ?_) #[true, true, true, true, true, true, true, true, true, false, false, false, false, false, false, false, false, false, false, false, false, false, false, false, false, false, false, false, false, false, false, false] rfl rfl (by kernel_rfl) (fun _ _ _ h => h) (Or.inl ⟨by rfl, ?_⟩) ?_ ?_
   rotate_left
   ·intro w'
    go_simp
    with_reducible rfl
   rotate_left
   ·simp only [Act.put, List.setIfInBounds_toArray, List.set_cons_zero, List.set_cons_succ, i64_w, i32_w]
    rfl
   refine pure_ (i := 9) (N := some 16) (v := ?_) (a' := ?_) #[true, true, true, true, true, true, true, true, true, true, false, false, false, false, false, false, false, false, false, false, false, false, false, false, false, false, false, false, false, false, false, false] rfl rfl (by kernel_rfl) (fun _ _ _ h => h) (Or.inl ⟨by rfl, ?_⟩) ?_ ?_
   rotate_left
   ·intro w'
    go_simp
    with_reducible rfl
   rotate_left
   ·simp only [Act.put, List.setIfInBounds_toArray, List.set_cons_zero, List.set_cons_succ, i64_w, i32_w]
    rfl
   refine pure_ (i := 10) (N := some 17) (v := ?_) (a' := ?_) #[true, true, true, true, true, true, true, true, true, true, true, false, false, false, false, false, false, false, false, false, false, false, false, false, false, false, false, false, false, false, false, false] rfl rfl (by kernel_rfl) (fun _ _ _ h => h) (Or.inl ⟨by rfl, ?_⟩) ?_ ?_
   rotate_left
   ·intro w'
    go_simp
    with_reducible rfl
   rotate_left
   ·simp only [Act.put, List.setIfInBounds_toArray, List.set_cons_zero, List.set_cons_succ, i64_w, i32_w]
    rfl
   refine pure_ (i := 11) (N := some 18) (v := ?_) (a' := ?_) #[true, true, true, true, true, true, true, true, true, true, true, true, false, false, false, false, false, false, false, false, false, false, false, false, false, false, false, false, false, false, false, false] rfl rfl (by kernel_rfl) (fun _ _ _ h => h) (Or.inl ⟨by rfl, ?_⟩) ?_ ?_
   rotate_left
   ·intro w'
    go_simp
    with_reducible rfl
   rotate_left
   ·simp only [Act.put, List.setIfInBounds_toArray, List.set_cons_zero, List.set_cons_succ, i64_w, i32_w]
    rfl
   refine pure_ (i := 12) (N := some 19) (v := ?_) (a' := ?_) #[true, true, true, true, true, true, true, true, true, true, true, true, true, false, false, false, false, false, false, false, false, false, false, false, false, false, false, false, false, false, false, false] rfl rfl (by kernel_rfl) (fun _ _ _ h => h) (Or.inl ⟨by rfl, ?_⟩) ?_ ?_
   rotate_left
   ·intro w'
    go_simp
    with_reducible rfl
   rotate_left
   ·simp only [Act.put, List.setIfInBounds_toArray, List.set_cons_zero, List.set_cons_succ, i64_w, i32_w]
    rfl
   refine pure_ (i := 14) (N := some 21) (v := ?_) (a' := ?_) #[true, true, true, true, true, true, true, true, true, true, true, true, true, false, true, false, false, false, false, false, false, false, false, false, false, false, false, false, false, false, false, false] rfl rfl (by kernel_rfl) (fun _ _ _ h => h) (Or.inl ⟨by rfl, ?_⟩) ?_ ?_
   rotate_left
   ·intro w'
    go_simp
    with_reducible rfl
   rotate_left
   ·simp only [Act.put, List.setIfInBounds_toArray, List.set_cons_zero, List.set_cons_succ, i64_w, i32_w]
    rfl
   refine pure_ (i := 16) (N := some 23) (v := ?_) (a' := ?_) #[true, true, true, true, true, true, true, true, true, true, true, true, true, false, true, false, true, false, false, false, false, false, false, false, false, false, false, false, false, false, false, false] rfl rfl (by kernel_rfl) (fun _ _ _ h => h) (Or.inl ⟨by rfl, ?_⟩) ?_ ?_
   rotate_left
   ·intro w'
    go_simp
    with_reducible rfl
   rotate_left
   ·simp only [Act.put, List.setIfInBounds_toArray, List.set_cons_zero, List.set_cons_succ, i64_w, i32_w]
    rfl
   refine take_ (i := 13) (N := some 20) (v := ?_) (a' := ?_) #[true, true, true, true, true, true, true, true, true, true, true, true, true, true, true, false, true, false, false, false, false, false, false, false, false, false, false, false, false, false, false, false] rfl rfl (by kernel_rfl) (fun _ _ _ h => h) (Or.inl ⟨by rfl, ?_⟩) hHeld ?_ ?_
   rotate_left
   ·rintro w' ⟨s0, s1, s2⟩
    go_simp
    with_reducible rfl
   rotate_left
   ·simp only [Act.put, List.setIfInBounds_toArray, List.set_cons_zero, List.set_cons_succ, i64_w, i32_w]
    rfl
   refine one_ (i := 15) (N := some 22) #[true, true, true, true, true, true, true, true, true, true, true, true, true, true, true, true, true, false, false, false, false, false, false, false, false, false, false, false, false, false, false, false] rfl rfl (by kernel_rfl) (by decide) (fun K hK => ?_)
   refine goes_ Tryd.func73 (by kernel_rfl) rfl #[.slice A0 G.length c0, .int .i64 (x : Int)] (by rfl) rfl rfl (by simp only [List.map_toArray, List.map_cons, List.map_nil]; rfl) ?_
   with_reducible refine (CBOR.out _ hHeld.2.2).mono ?_
   rintro e w3 ⟨rfl, f0', f1', fb'⟩
   refine ⟨_, rfl, ?_⟩
   refine hK.out _ _ ⟨f0', f1', fb'⟩ (fun hHeld => ?_)
   clear hK K
   refine norm_ (a' := ?_) ?_ ?_
   rotate_left
   ·show Act.put _ (some 22) _ = _
    simp only [Act.put, List.setIfInBounds_toArray, List.set_cons_zero, List.set_cons_succ, i64_w, i32_w]
    rfl
   refine pure_ (i := 17) (N := some 24) (v := ?_) (a' := ?_) #[true, true, true, true, true, true, true, true, true, true, true, true, true, true, true, true, true, true, false, false, false, false, false, false, false, false, false, false, false, false, false, false] rfl rfl (by kernel_rfl) (fun _ _ _ h => h) (Or.inl ⟨by rfl, ?_⟩) ?_ ?_
   rotate_left
   ·intro w'
    go_simp
    with_reducible rfl
   rotate_left
   ·simp only [Act.put, List.setIfInBounds_toArray, List.set_cons_zero, List.set_cons_succ, i64_w, i32_w]
    rfl
   refine pure_ (i := 18) (N := some 25) (v := ?_) (a' := ?_) #[true, true, true, true, true, true, true, true, true, true, true, true, true, true, true, true, true, true, true, false, false, false, false, false, false, false, false, false, false, false, false, false] rfl rfl (by kernel_rfl) (fun _ _ _ h => h) (Or.inl ⟨by rfl, ?_⟩) ?_ ?_
   rotate_left
   ·intro w'
    go_simp
    with_reducible rfl
   rotate_left
   ·simp only [Act.put, List.setIfInBounds_toArray, List.set_cons_zero, List.set_cons_succ, i64_w, i32_w]
    rfl
   refine pure_ (i := 19) (N := some 26) (v := ?_) (a' := ?_) #[true, true, true, true, true, true, true, true, true, true, true, true, true, true, true, true, true, true, true, true, false, false, false, false, false, false, false, false, false, false, false, false] rfl rfl (by kernel_rfl) (fun _ _ _ h => h) (Or.inl ⟨by rfl, ?_⟩) ?_ ?_
   rotate_left
   ·intro w'
    go_simp
    with_reducible rfl
   rotate_left
   ·simp only [Act.put, List.setIfInBounds_toArray, List.set_cons_zero, List.set_cons_succ, i64_w, i32_w]
    rfl
   refine pure_ (i := 20) (N := some 27) (v := ?_) (a' := ?_) #[true, true, true, true, true, true, true, true, true, true, true, true, true, true, true, true, true, true, true, true, true, false, false, false, false, false, false, false, false, false, false, false] rfl rfl (by kernel_rfl) (fun _ _ _ h => h) (Or.inl ⟨by rfl, ?_⟩) ?_ ?_
   rotate_left
   ·intro w'
    go_simp
    with_reducible rfl
   rotate_left
   ·simp only [Act.put, List.setIfInBounds_toArray, List.set_cons_zero, List.set_cons_succ, i64_w, i32_w]
    rfl
   refine pure_ (i := 21) (N := some 28) (v := ?_) (a' := ?_) #[true, true, true, true, true, true, true, true, true, true, true, true, true, true, true, true, true, true, true, true, true, true, false, false, false, false, false, false, false, false, false, false] rfl rfl (by kernel_rfl) (fun _ _ _ h => h) (Or.inl ⟨by rfl, ?_⟩) ?_ ?_
   rotate_left
   ·intro w'
    go_simp
    with_reducible rfl
   rotate_left
   ·simp only [Act.put, List.setIfInBounds_toArray, List.set_cons_zero, List.set_cons_succ, i64_w, i32_w]
    rfl
   refine pure_ (i := 22) (N := some 29) (v := ?_) (a' := ?_) #[true, true, true, true, true, true, true, true, true, true, true, true, true, true, true, true, true, true, true, true, true, true, true, false, false, false, false, false, false, false, false, false] rfl rfl (by kernel_rfl) (fun _ _ _ h => h) (Or.inl ⟨by rfl, ?_⟩) ?_ ?_
   rotate_left
   ·intro w'
    go_simp
    with_reducible rfl
   rotate_left
   ·simp only [Act.put, List.setIfInBounds_toArray, List.set_cons_zero, List.set_cons_succ, i64_w, i32_w]
    rfl
   refine pure_ (i := 23) (N := some 30) (v := ?_) (a' := ?_) #[true, true, true, true, true, true, true, true, true, true, true, true, true, true, true, true, true, true, true, true, true, true, true, true, false, false, false, false, false, false, false, false] rfl rfl (by kernel_rfl) (fun _ _ _ h => h) (Or.inl ⟨by rfl, ?_⟩) ?_ ?_
   rotate_left
   ·intro w'
    go_simp
    with_reducible rfl
   rotate_left
   ·simp only [Act.put, List.setIfInBounds_toArray, List.set_cons_zero, List.set_cons_succ, i64_w, i32_w]
    rfl
   refine pure_ (i := 25) (N := some 32) (v := ?_) (a' := ?_) #[true, true, true, true, true, true, true, true, true, true, true, true, true, true, true, true, true, true, true, true, true, true, true, true, false, true, false, false, false, false, false, false] rfl rfl (by kernel_rfl) (fun _ _ _ h => h) (Or.inl ⟨by rfl, ?_⟩) ?_ ?_
   rotate_left
   ·intro w'
    go_simp
    with_reducible rfl
   rotate_left
   ·simp only [Act.put, List.setIfInBounds_toArray, List.set_cons_zero, List.set_cons_succ, i64_w, i32_w]
    rfl
   refine pure_ (i := 26) (N := some 33) (v := ?_) (a' := ?_) #[true, true, true, true, true, true, true, true, true, true, true, true, true, true, true, true, true, true, true, true, true, true, true, true, false, true, true, false, false, false, false, false] rfl rfl (by kernel_rfl) (fun _ _ _ h => h) (Or.inl ⟨by rfl, ?_⟩) ?_ ?_
   rotate_left
   ·intro w'
    go_simp
    with_reducible rfl
   rotate_left
   ·simp only [Act.put, List.setIfInBounds_toArray, List.set_cons_zero, List.set_cons_succ, i64_w, i32_w]
    rfl
   refine pure_ (i := 27) (N := some 34) (v := ?_) (a' := ?_) #[true, true, true, true, true, true, true, true, true, true, true, true, true, true, true, true, true, true, true, true, true, true, true, true, false, true, true, true, false, false, false, false] rfl rfl (by kernel_rfl) (fun _ _ _ h => h) (Or.inl ⟨by rfl, ?_⟩) ?_ ?_
   rotate_left
   ·intro w'
    go_simp
    with_reducible rfl
   rotate_left
   ·simp only [Act.put, List.setIfInBounds_toArray, List.set_cons_zero, List.set_cons_succ, i64_w, i32_w]
    rfl
   refine take_ (i := 28) (N := some 35) (v := ?_) (a' := ?_) #[true, true, true, true, true, true, true, true, true, true, true, true, true, true, true, true, true, true, true, true, true, true, true, true, false, true, true, true, true, false, false, false] rfl rfl (by kernel_rfl) (fun _ _ _ h => h) (Or.inl ⟨by rfl, ?_⟩) hHeld ?_ ?_
   rotate_left
   ·rintro w' ⟨s0, s1, s2⟩
    go_simp
    with_reducible rfl
   rotate_left
   ·simp only [Act.put, List.setIfInBounds_toArray, List.set_cons_zero, List.set_cons_succ, i64_w, i32_w]
    rfl
   refine one_ (i := 24) (N := some 31) #[true, true, true, true, true, true, true, true, true, true, true, true, true, true, true, true, true, true, true, true, true, true, true, true, true, true, true, true, true, false, false, false] rfl rfl (by kernel_rfl) (by decide) (fun K hK => ?_)
   refine goes_ Tryd.func63 (by kernel_rfl) rfl #[.int .i64 (an : Int)] (by rfl) rfl rfl (by simp only [List.map_toArray, List.map_cons, List.map_nil]; rfl) ?_
   with_reducible refine (CCNT.out _ hHeld.2.2).mono ?_
   rintro e w3 ⟨rfl, f0', f1', fb'⟩
   refine ⟨_, rfl, ?_⟩
   refine hK.out _ _ ⟨f0', f1', fb'⟩ (fun hHeld => ?_)
   clear hK K
   refine norm_ (a' := ?_) ?_ ?_
   rotate_left
   ·show Act.put _ (some 31) _ = _
    simp only [Act.put, List.setIfInBounds_toArray, List.set_cons_zero, List.set_cons_succ, i64_w, i32_w]
    rfl
   refine pure_ (i := 29) (N := some 36) (v := ?_) (a' := ?_) #[true, true, true, true, true, true, true, true, true, true, true, true, true, true, true, true, true, true, true, true, true, true, true, true, true, true, true, true, true, true, false, false] rfl rfl (by kernel_rfl) (fun _ _ _ h => h) (Or.inl ⟨by rfl, ?_⟩) ?_ ?_
   rotate_left
   ·intro w'
    go_simp
    with_reducible rfl
   rotate_left
   ·simp only [Act.put, List.setIfInBounds_toArray, List.set_cons_zero, List.set_cons_succ, i64_w, i32_w]
    rfl
   refine pure_ (i := 30) (N := some 37) (v := ?_) (a' := ?_) #[true, true, true, true, true, true, true, true, true, true, true, true, true, true, true, true, true, true, true, true, true, true, true, true, true, true, true, true, true, true, true, false] rfl rfl (by kernel_rfl) (fun _ _ _ h => h) (Or.inl ⟨by rfl, ?_⟩) ?_ ?_
   rotate_left
   ·intro w'
    go_simp
    with_reducible rfl
   rotate_left
   ·simp only [Act.put, List.setIfInBounds_toArray, List.set_cons_zero, List.set_cons_succ, i64_w, i32_w]
    rfl
   refine pure_ (i := 31) (N := some 6) (v := ?_) (a' := ?_) #[true, true, true, true, true, true, true, true, true, true, true, true, true, true, true, true, true, true, true, true, true, true, true, true, true, true, true, true, true, true, true, true] rfl rfl (by kernel_rfl) (fun _ _ _ h => h) (Or.inl ⟨by rfl, ?_⟩) ?_ ?_
   rotate_left
   ·intro w'
    go_simp
    with_reducible rfl
   rotate_left
   ·simp only [Act.put, List.setIfInBounds_toArray, List.set_cons_zero, List.set_cons_succ, i64_w, i32_w]
    rfl
   refine done_ (by kernel_rfl) ?_
   go_wp2
   go_ret
   refine ⟨?_, by assumption⟩
   show Ending.returned (Value.bool (decide (pa ≤ k))) = _
   rw [T3.out]
  ·have t2 : ((dx : Int) == 0) = false := by simp; omega
   obtain rfl : false = R := by
    rw [← hR]
    simp [c2]
   clear c1 c2 hR
   go_enter Tryd.func74, Tryd.ntmps74
   go_wp2_with (fail)
   refine start_ (n := 32) (S := fun w' => w'.cell? ⟨f, 0, none⟩ = some (.slice A0 G.length c0) ∧ w'.cell? ⟨f, 1, none⟩ = some (.int .i64 (k : Int)) ∧ Below w.heap.size w w') (ds := []) #[false, false, false, false, false, false, false, false, false, false, false, false, false, false, false, false, false, false, false, false, false, false, false, false, false, false, false, false, false, false, false, false] (by kernel_rfl) rfl rfl ⟨h0d, h1d, HB0⟩ (fun hHeld => ?_)
   refine pure_ (i := 0) (N := some 7) (v := ?_) (a' := ?_) #[true, false, false, false, false, false, false, false, false, false, false, false, false, false, false, false, false, false, false, false, false, false, false, false, false, false, false, false, false, false, false, false] rfl rfl (by kernel_rfl) (fun _ _ _ h => h) (Or.inl ⟨by rfl, ?_⟩) ?_ ?_
   rotate_left
   ·intro w'
    go_simp
    with_reducible rfl
   rotate_left
   ·simp only [Act.put, List.setIfInBounds_toArray, List.set_cons_zero, List.set_cons_succ, i64_w, i32_w]
    rfl
   refine pure_ (i := 1) (N := some 8) (v := ?_) (a' := ?_) #[true, true, false, false, false, false, false, false, false, false, false, false, false, false, false, false, false, false, false, false, false, false, false, false, false, false, false, false, false, false, false, false] rfl rfl (by kernel_rfl) (fun _ _ _ h => h) (Or.inl ⟨by rfl, ?_⟩) ?_ ?_
   rotate_left
   ·intro w'
    go_simp
    with_reducible rfl
   rotate_left
   ·simp only [Act.put, List.setIfInBounds_toArray, List.set_cons_zero, List.set_cons_succ, i64_w, i32_w]
    rfl
   refine pure_ (i := 2) (N := some 9) (v := ?_) (a' := ?_) #[true, true, true, false, false, false, false, false, false, false, false, false, false, false, false, false, false, false, false, false, false, false, false, false, false, false, false, false, false, false, false, false] rfl rfl (by kernel_rfl) (fun _ _ _ h => h) (Or.inl ⟨by rfl, ?_⟩) ?_ ?_
   rotate_left
   ·intro w'
    go_simp
    with_reducible rfl
   rotate_left
   ·simp only [Act.put, List.setIfInBounds_toArray, List.set_cons_zero, List.set_cons_succ, i64_w, i32_w]
    rfl
   refine pure_ (i := 3) (N := some 10) (v := ?_) (a' := ?_) #[true, true, true, true, false, false, false, false, false, false, false, false, false, false, false, false, false, false, false, false, false, false, false, false, false, false, false, false, false, false, false, false] rfl rfl (by kernel_rfl) (fun _ _ _ h => h) (Or.inl ⟨by rfl, ?_⟩) ?_ ?_
   rotate_left
   ·intro w'
    go_simp
    with_reducible rfl
   rotate_left
   ·simp only [Act.put, List.setIfInBounds_toArray, List.set_cons_zero, List.set_cons_succ, i64_w, i32_w]
    rfl
   refine pure_ (i := 4) (N := some 11) (v := ?_) (a' := ?_) #[true, true, true, true, true, false, false, false, false, false, false, false, false, false, false, false, false, false, false, false, false, false, false, false, false, false, false, false, false, false, false, false] rfl rfl (by kernel_rfl) (fun _ _ _ h => h) (Or.inl ⟨by rfl, ?_⟩) ?_ ?_
   rotate_left
   ·intro w'
    go_simp
    with_reducible rfl
   rotate_left
   ·simp only [Act.put, List.setIfInBounds_toArray, List.set_cons_zero, List.set_cons_succ, i64_w, i32_w]
    rfl
   refine pure_ (i := 5) (N := some 12) (v := ?_) (a' := ?_) #[true, true, true, true, true, true, false, false, false, false, false, false, false, false, false, false, false, false, false, false, false, false, false, false, false, false, false, false, false, false, false, false] rfl rfl (by kernel_rfl) (fun _ _ _ h => h) (Or.inl ⟨by rfl, ?_⟩) ?_ ?_
   rotate_left
   ·intro w'
    go_simp
    with_reducible rfl
   rotate_left
   ·simp only [Act.put, List.setIfInBounds_toArray, List.set_cons_zero, List.set_cons_succ, i64_w, i32_w]
    rfl
   refine take_ (i := 6) (N := some 13) (v := ?_) (a' := ?_) #[true, true, true, true, true, true, true, false, false, false, false, false, false, false, false, false, false, false, false, false, false, false, false, false, false, false, false, false, false, false, false, false] rfl rfl (by kernel_rfl) (fun _ _ _ h => h) (Or.inl ⟨by rfl, ?_⟩) hHeld ?_ ?_
   rotate_left
   ·rintro w' ⟨s0, s1, s2⟩
    go_simp
    with_reducible rfl
   rotate_left
   ·simp only [Act.put, List.setIfInBounds_toArray, List.set_cons_zero, List.set_cons_succ, i64_w, i32_w]
    rfl
   refine one_ (i := 7) (N := some 14) #[true, true, true, true, true, true, true, true, false, false, false, false, false, false, false, false, false, false, false, false, false, false, false, false, false, false, false, false, false, false, false, false] rfl rfl (by kernel_rfl) (by decide) (fun K hK => ?_)
   refine goes_ Tryd.func61 (by kernel_rfl) rfl #[.slice A0 G.length c0] (by rfl) rfl rfl (by simp only [List.map_toArray, List.map_cons, List.map_nil]; rfl) ?_
   with_reducible refine (CALL.out _ hHeld.2.2).mono ?_
   rintro e w3 ⟨rfl, f0', f1', fb'⟩
   refine ⟨_, rfl, ?_⟩
   refine hK.out _ _ ⟨f0', f1', fb'⟩ (fun hHeld => ?_)
   clear hK K
   refine norm_ (a' := ?_) ?_ ?_
   rotate_left
   ·show Act.put _ (some 14) _ = _
    simp only [Act.put, List.setIfInBounds_toArray, List.set_cons_zero, List.set_cons_succ, i64_w, i32_w]
    rfl
   refine pure_ (i := 8) (N := some 15) (v := ?_) (a' := ?_) #[true, true, true, true, true, true, true, true, true, false, false, false, false, false, false, false, false, false, false, false, false, false, false, false, false, false, false, false, false, false, false, false] rfl rfl (by kernel_rfl) (fun _ _ _ h => h) (Or.inl ⟨by rfl, ?_⟩) ?_ ?_
   rotate_left
   ·intro w'
    go_simp
    with_reducible rfl
   rotate_left
   ·simp only [Act.put, List.setIfInBounds_toArray, List.set_cons_zero, List.set_cons_succ, i64_w, i32_w]
    rfl
   refine pure_ (i := 9) (N := some 16) (v := ?_) (a' := ?_) #[true, true, true, true, true, true, true, true, true, true, false, false, false, false, false, false, false, false, false, false, false, false, false, false, false, false, false, false, false, false, false, false] rfl rfl (by kernel_rfl) (fun _ _ _ h => h) (Or.inl ⟨by rfl, ?_⟩) ?_ ?_
   rotate_left
   ·intro w'
    go_simp
    with_reducible rfl
   rotate_left
   ·simp only [Act.put, List.setIfInBounds_toArray, List.set_cons_zero, List.set_cons_succ, i64_w, i32_w]
    rfl
   refine pure_ (i := 10) (N := some 17) (v := ?_) (a' := ?_) #[true, true, true, true, true, true, true, true, true, true, true, false, false, false, false, false, false, false, false, false, false, false, false, false, false, false, false, false, false, false, false, false] rfl rfl (by kernel_rfl) (fun _ _ _ h => h) (Or.inl ⟨by rfl, ?_⟩) ?_ ?_
   rotate_left
   ·intro w'
    go_simp
    with_reducible rfl
   rotate_left
   ·simp only [Act.put, List.setIfInBounds_toArray, List.set_cons_zero, List.set_cons_succ, i64_w, i32_w]
    rfl
   refine pure_ (i := 11) (N := some 18) (v := ?_) (a' := ?_) #[true, true, true, true, true, true, true, true, true, true, true, true, false, false, false, false, false, false, false, false, false, false, false, false, false, false, false, false, false, false, false, false] rfl rfl (by kernel_rfl) (fun _ _ _ h => h) (Or.inl ⟨by rfl, ?_⟩) ?_ ?_
   rotate_left
   ·intro w'
    go_simp
    with_reducible rfl
   rotate_left
   ·simp only [Act.put, List.setIfInBounds_toArray, List.set_cons_zero, List.set_cons_succ, i64_w, i32_w]
    rfl
   refine pure_ (i := 12) (N := some 19) (v := ?_) (a' := ?_) #[true, true, true, true, true, true, true, true, true, true, true, true, true, false, false, false, false, false, false, false, false, false, false, false, false, false, false, false, false, false, false, false] rfl rfl (by kernel_rfl) (fun _ _ _ h => h) (Or.inl ⟨by rfl, ?_⟩) ?_ ?_
   rotate_left
   ·intro w'
    go_simp
    with_reducible rfl
   rotate_left
   ·simp only [Act.put, List.setIfInBounds_toArray, List.set_cons_zero, List.set_cons_succ, i64_w, i32_w]
    rfl
   refine pure_ (i := 14) (N := some 21) (v := ?_) (a' := ?_) #[true, true, true, true, true, true, true, true, true, true, true, true, true, false, true, false, false, false, false, false, false, false, false, false, false, false, false, false, false, false, false, false] rfl rfl (by kernel_rfl) (fun _ _ _ h => h) (Or.inl ⟨by rfl, ?_⟩) ?_ ?_
   rotate_left
   ·intro w'
    go_simp
    with_reducible rfl
   rotate_left
   ·simp only [Act.put, List.setIfInBounds_toArray, List.set_cons_zero, List.set_cons_succ, i64_w, i32_w]
    rfl
   refine pure_ (i := 16) (N := some 23) (v := ?_) (a' := ?_) #[true, true, true, true, true, true, true, true, true, true, true, true, true, false, true, false, true, false, false, false, false, false, false, false, false, false, false, false, false, false, false, false] rfl rfl (by kernel_rfl) (fun _ _ _ h => h) (Or.inl ⟨by rfl, ?_⟩) ?_ ?_
   rotate_left
   ·intro w'
    go_simp
    with_reducible rfl
   rotate_left
   ·simp only [Act.put, List.setIfInBounds_toArray, List.set_cons_zero, List.set_cons_succ, i64_w, i32_w]
    rfl
   refine take_ (i := 13) (N := some 20) (v := ?_) (a' := ?_) #[true, true, true, true, true, true, true, true, true, true, true, true, true, true, true, false, true, false, false, false, false, false, false, false, false, false, false, false, false, false, false, false] rfl rfl (by kernel_rfl) (fun _ _ _ h => h) (Or.inl ⟨by rfl, ?_⟩) hHeld ?_ ?_
   rotate_left
   ·rintro w' ⟨s0, s1, s2⟩
    go_simp
    with_reducible rfl
   rotate_left
   ·simp only [Act.put, List.setIfInBounds_toArray, List.set_cons_zero, List.set_cons_succ, i64_w, i32_w]
    rfl
   refine one_ (i := 15) (N := some 22) #[true, true, true, true, true, true, true, true, true, true, true, true, true, true, true, true, true, false, false, false, false, false, false, false, false, false, false, false, false, false, false, false] rfl rfl (by kernel_rfl) (by decide) (fun K hK => ?_)
   refine goes_ Tryd.func73 (by kernel_rfl) rfl #[.slice A0 G.length c0, .int .i64 (x : Int)] (by rfl) rfl rfl (by simp only [List.map_toArray, List.map_cons, List.map_nil]; rfl) ?_
   with_reducible refine (CBOR.out _ hHeld.2.2).mono ?_
   rintro e w3 ⟨rfl, f0', f1', fb'⟩
   refine ⟨_, rfl, ?_⟩
   refine hK.out _ _ ⟨f0', f1', fb'⟩ (fun hHeld => ?_)
   clear hK K
   refine norm_ (a' := ?_) ?_ ?_
   rotate_left
   ·show Act.put _ (some 22) _ = _
    simp only [Act.put, List.setIfInBounds_toArray, List.set_cons_zero, List.set_cons_succ, i64_w, i32_w]
    rfl
   refine pure_ (i := 17) (N := some 24) (v := ?_) (a' := ?_) #[true, true, true, true, true, true, true, true, true, true, true, true, true, true, true, true, true, true, false, false, false, false, false, false, false, false, false, false, false, false, false, false] rfl rfl (by kernel_rfl) (fun _ _ _ h => h) (Or.inl ⟨by rfl, ?_⟩) ?_ ?_
   rotate_left
   ·intro w'
    go_simp
    with_reducible rfl
   rotate_left
   ·simp only [Act.put, List.setIfInBounds_toArray, List.set_cons_zero, List.set_cons_succ, i64_w, i32_w]
    rfl
   refine pure_ (i := 18) (N := some 25) (v := ?_) (a' := ?_) #[true, true, true, true, true, true, true, true, true, true, true, true, true, true, true, true, true, true, true, false, false, false, false, false, false, false, false, false, false, false, false, false] rfl rfl (by kernel_rfl) (fun _ _ _ h => h) (Or.inl ⟨by rfl, ?_⟩) ?_ ?_
   rotate_left
   ·intro w'
    go_simp
    with_reducible rfl
   rotate_left
   ·simp only [Act.put, List.setIfInBounds_toArray, List.set_cons_zero, List.set_cons_succ, i64_w, i32_w]
    rfl
   refine pure_ (i := 19) (N := some 26) (v := ?_) (a' := ?_) #[true, true, true, true, true, true, true, true, true, true, true, true, true, true, true, true, true, true, true, true, false, false, false, false, false, false, false, false, false, false, false, false] rfl rfl (by kernel_rfl) (fun _ _ _ h => h) (Or.inl ⟨by rfl, ?_⟩) ?_ ?_
   rotate_left
   ·intro w'
    go_simp
    with_reducible rfl
   rotate_left
   ·simp only [Act.put, List.setIfInBounds_toArray, List.set_cons_zero, List.set_cons_succ, i64_w, i32_w]
    rfl
   refine pure_ (i := 20) (N := some 27) (v := ?_) (a' := ?_) #[true, true, true, true, true, true, true, true, true, true, true, true, true, true, true, true, true, true, true, true, true, false, false, false, false, false, false, false, false, false, false, false] rfl rfl (by kernel_rfl) (fun _ _ _ h => h) (Or.inl ⟨by rfl, ?_⟩) ?_ ?_
   rotate_left
   ·intro w'
    go_simp
    with_reducible rfl
   rotate_left
   ·simp only [Act.put, List.setIfInBounds_toArray, List.set_cons_zero, List.set_cons_succ, i64_w, i32_w]
    rfl
   refine pure_ (i := 21) (N := some 28) (v := undef) (a' := ?_) #[true, true, true, true, true, true, true, true, true, true, true, true, true, true, true, true, true, true, true, true, true, true, false, false, false, false, false, false, false, false, false, false] rfl rfl (by kernel_rfl) (fun _ _ _ h => h) (Or.inr ⟨by rfl, rfl⟩) ?_ ?_
   rotate_left
   ·simp only [Act.put, List.setIfInBounds_toArray, List.set_cons_zero, List.set_cons_succ, i64_w, i32_w]
    rfl
   refine pure_ (i := 22) (N := some 29) (v := undef) (a' := ?_) #[true, true, true, true, true, true, true, true, true, true, true, true, true, true, true, true, true, true, true, true, true, true, true, false, false, false, false, false, false, false, false, false] rfl rfl (by kernel_rfl) (fun _ _ _ h => h) (Or.inr ⟨by rfl, rfl⟩) ?_ ?_
   rotate_left
   ·simp only [Act.put, List.setIfInBounds_toArray, List.set_cons_zero, List.set_cons_succ, i64_w, i32_w]
    rfl
   refine pure_ (i := 23) (N := some 30) (v := undef) (a' := ?_) #[true, true, true, true, true, true, true, true, true, true, true, true, true, true, true, true, true, true, true, true, true, true, true, true, false, false, false, false, false, false, false, false] rfl rfl (by kernel_rfl) (fun _ _ _ h => h) (Or.inr ⟨by rfl, rfl⟩) ?_ ?_
   rotate_left
   ·simp only [Act.put, List.setIfInBounds_toArray, List.set_cons_zero, List.set_cons_succ, i64_w, i32_w]
    rfl
   refine pure_ (i := 24) (N := some 31) (v := undef) (a' := ?_) #[true, true, true, true, true, true, true, true, true, true, true, true, true, true, true, true, true, true, true, true, true, true, true, true, true, false, false, false, false, false, false, false] rfl rfl (by kernel_rfl) (fun _ _ _ h => h) (Or.inr ⟨by rfl, rfl⟩) ?_ ?_
   rotate_left
   ·simp only [Act.put, List.setIfInBounds_toArray, List.set_cons_zero, List.set_cons_succ, i64_w, i32_w]
    rfl
   refine pure_ (i := 25) (N := some 32) (v := undef) (a' := ?_) #[true, true, true, true, true, true, true, true, true, true, true, true, true, true, true, true, true, true, true, true, true, true, true, true, true, true, false, false, false, false, false, false] rfl rfl (by kernel_rfl) (fun _ _ _ h => h) (Or.inr ⟨by rfl, rfl⟩) ?_ ?_
   rotate_left
   ·simp only [Act.put, List.setIfInBounds_toArray, List.set_cons_zero, List.set_cons_succ, i64_w, i32_w]
    rfl
   refine pure_ (i := 26) (N := some 33) (v := undef) (a' := ?_) #[true, true, true, true, true, true, true, true, true, true, true, true, true, true, true, true, true, true, true, true, true, true, true, true, true, true, true, false, false, false, false, false] rfl rfl (by kernel_rfl) (fun _ _ _ h => h) (Or.inr ⟨by rfl, rfl⟩) ?_ ?_
   rotate_left
   ·simp only [Act.put, List.setIfInBounds_toArray, List.set_cons_zero, List.set_cons_succ, i64_w, i32_w]
    rfl
   refine pure_ (i := 27) (N := some 34) (v := undef) (a' := ?_) #[true, true, true, true, true, true, true, true, true, true, true, true, true, true, true, true, true, true, true, true, true, true, true, true, true, true, true, true, false, false, false, false] rfl rfl (by kernel_rfl) (fun _ _ _ h => h) (Or.inr ⟨by rfl, rfl⟩) ?_ ?_
   rotate_left
   ·simp only [Act.put, List.setIfInBounds_toArray, List.set_cons_zero, List.set_cons_succ, i64_w, i32_w]
    rfl
   refine pure_ (i := 28) (N := some 35) (v := undef) (a' := ?_) #[true, true, true, true, true, true, true, true, true, true, true, true, true, true, true, true, true, true, true, true, true, true, true, true, true, true, true, true, true, false, false, false] rfl rfl (by kernel_rfl) (fun _ _ _ h => h) (Or.inr ⟨by rfl, rfl⟩) ?_ ?_
   rotate_left
   ·simp only [Act.put, List.setIfInBounds_toArray, List.set_cons_zero, List.set_cons_succ, i64_w, i32_w]
    rfl
   refine pure_ (i := 29) (N := some 36) (v := undef) (a' := ?_) #[true, true, true, true, true, true, true, true, true, true, true, true, true, true, true, true, true, true, true, true, true, true, true, true, true, true, true, true, true, true, false, false] rfl rfl (by kernel_rfl) (fun _ _ _ h => h) (Or.inr ⟨by rfl, rfl⟩) ?_ ?_
   rotate_left
   ·simp only [Act.put, List.setIfInBounds_toArray, List.set_cons_zero, List.set_cons_succ, i64_w, i32_w]
    rfl
   refine pure_ (i := 30) (N := some 37) (v := ?_) (a' := ?_) #[true, true, true, true, true, true, true, true, true, true, true, true, true, true, true, true, true, true, true, true, true, true, true, true, true, true, true, true, true, true, true, false] rfl rfl (by kernel_rfl) (fun _ _ _ h => h) (Or.inl ⟨by rfl, ?_⟩) ?_ ?_
   rotate_left
   ·intro w'
    go_simp
    with_reducible rfl
   rotate_left
   ·simp only [Act.put, List.setIfInBounds_toArray, List.set_cons_zero, List.set_cons_succ, i64_w, i32_w]
    rfl
   refine pure_ (i := 31) (N := some 6) (v := ?_) (a' := ?_) #[true, true, true, true, true, true, true, true, true, true, true, true, true, true, true, true, true, true, true, true, true, true, true, true, true, true, true, true, true, true, true, true] rfl rfl (by kernel_rfl) (fun _ _ _ h => h) (Or.inl ⟨by rfl, ?_⟩) ?_ ?_
   rotate_left
   ·intro w'
    go_simp
    with_reducible rfl
   rotate_left
   ·simp only [Act.put, List.setIfInBounds_toArray, List.set_cons_zero, List.set_cons_succ, i64_w, i32_w]
    rfl
   refine done_ (by kernel_rfl) ?_
   go_wp2
   go_ret
   exact ⟨rfl, by assumption⟩
 ·have t1 : ((o : Int) == (P : Int)) = false := by simp; omega
  obtain rfl : false = R := by
   rw [← hR]
   simp [c1]
  clear c1 hR
  go_enter Tryd.func74, Tryd.ntmps74
  go_wp2_with (fail)
  refine start_ (n := 32) (S := fun w' => w'.cell? ⟨f, 0, none⟩ = some (.slice A0 G.length c0) ∧ w'.cell? ⟨f, 1, none⟩ = some (.int .i64 (k : Int)) ∧ Below w.heap.size w w') (ds := []) #[false, false, false, false, false, false, false, false, false, false, false, false, false, false, false, false, false, false, false, false, false, false, false, false, false, false, false, false, false, false, false, false] (by kernel_rfl) rfl rfl ⟨h0d, h1d, HB0⟩ (fun hHeld => ?_)
  refine pure_ (i := 0) (N := some 7) (v := ?_) (a' := ?_) #[true, false, false, false, false, false, false, false, false, false, false, false, false, false, false, false, false, false, false, false, false, false, false, false, false, false, false, false, false, false, false, false] rfl rfl (by kernel_rfl) (fun _ _ _ h => h) (Or.inl ⟨by rfl, ?_⟩) ?_ ?_
  rotate_left
  ·intro w'
   go_simp
   with_reducible rfl
  rotate_left
  ·simp only [Act.put, List.setIfInBounds_toArray, List.set_cons_zero, List.set_cons_succ, i64_w, i32_w]
   rfl
  refine pure_ (i := 1) (N := some 8) (v := ?_) (a' := ?_) #[true, true, false, false, false, false, false, false, false, false, false, false, false, false, false, false, false, false, false, false, false, false, false, false, false, false, false, false, false, false, false, false] rfl rfl (by kernel_rfl) (fun _ _ _ h => h) (Or.inl ⟨by rfl, ?_⟩) ?_ ?_
  rotate_left
  ·intro w'
   go_simp
   with_reducible rfl
  rotate_left
  ·simp only [Act.put, List.setIfInBounds_toArray, List.set_cons_zero, List.set_cons_succ, i64_w, i32_w]
   rfl
  refine pure_ (i := 2) (N := some 9) (v := ?_) (a' := ?_) #[true, true, true, false, false, false, false, false, false, false, false, false, false, false, false, false, false, false, false, false, false, false, false, false, false, false, false, false, false, false, false, false] rfl rfl (by kernel_rfl) (fun _ _ _ h => h) (Or.inl ⟨by rfl, ?_⟩) ?_ ?_
  rotate_left
  ·intro w'
   go_simp
   with_reducible rfl
  rotate_left
  ·simp only [Act.put, List.setIfInBounds_toArray, List.set_cons_zero, List.set_cons_succ, i64_w, i32_w]
   rfl
  refine pure_ (i := 3) (N := some 10) (v := ?_) (a' := ?_) #[true, true, true, true, false, false, false, false, false, false, false, false, false, false, false, false, false, false, false, false, false, false, false, false, false, false, false, false, false, false, false, false] rfl rfl (by kernel_rfl) (fun _ _ _ h => h) (Or.inl ⟨by rfl, ?_⟩) ?_ ?_
  rotate_left
  ·intro w'
   go_simp
   with_reducible rfl
  rotate_left
  ·simp only [Act.put, List.setIfInBounds_toArray, List.set_cons_zero, List.set_cons_succ, i64_w, i32_w]
   rfl
  refine pure_ (i := 4) (N := some 11) (v := ?_) (a' := ?_) #[true, true, true, true, true, false, false, false, false, false, false, false, false, false, false, false, false, false, false, false, false, false, false, false, false, false, false, false, false, false, false, false] rfl rfl (by kernel_rfl) (fun _ _ _ h => h) (Or.inl ⟨by rfl, ?_⟩) ?_ ?_
  rotate_left
  ·intro w'
   go_simp
   with_reducible rfl
  rotate_left
  ·simp only [Act.put, List.setIfInBounds_toArray, List.set_cons_zero, List.set_cons_succ, i64_w, i32_w]
   rfl
  refine pure_ (i := 5) (N := some 12) (v := ?_) (a' := ?_) #[true, true, true, true, true, true, false, false, false, false, false, false, false, false, false, false, false, false, false, false, false, false, false, false, false, false, false, false, false, false, false, false] rfl rfl (by kernel_rfl) (fun _ _ _ h => h) (Or.inl ⟨by rfl, ?_⟩) ?_ ?_
  rotate_left
  ·intro w'
   go_simp
   with_reducible rfl
  rotate_left
  ·simp only [Act.put, List.setIfInBounds_toArray, List.set_cons_zero, List.set_cons_succ, i64_w, i32_w]
   rfl
  refine take_ (i := 6) (N := some 13) (v := ?_) (a' := ?_) #[true, true, true, true, true, true, true, false, false, false, false, false, false, false, false, false, false, false, false, false, false, false, false, false, false, false, false, false, false, false, false, false] rfl rfl (by kernel_rfl) (fun _ _ _ h => h) (Or.inl ⟨by rfl, ?_⟩) hHeld ?_ ?_
  rotate_left
  ·rintro w' ⟨s0, s1, s2⟩
   go_simp
   with_reducible rfl
  rotate_left
  ·simp only [Act.put, List.setIfInBounds_toArray, List.set_cons_zero, List.set_cons_succ, i64_w, i32_w]
   rfl
  refine one_ (i := 7) (N := some 14) #[true, true, true, true, true, true, true, true, false, false, false, false, false, false, false, false, false, false, false, false, false, false, false, false, false, false, false, false, false, false, false, false] rfl rfl (by kernel_rfl) (by decide) (fun K hK => ?_)
  refine goes_ Tryd.func61 (by kernel_rfl) rfl #[.slice A0 G.length c0] (by rfl) rfl rfl (by simp only [List.map_toArray, List.map_cons, List.map_nil]; rfl) ?_
  with_reducible refine (CALL.out _ hHeld.2.2).mono ?_
  rintro e w3 ⟨rfl, f0', f1', fb'⟩
  refine ⟨_, rfl, ?_⟩
  refine hK.out _ _ ⟨f0', f1', fb'⟩ (fun hHeld => ?_)
  clear hK K
  refine norm_ (a' := ?_) ?_ ?_
  rotate_left
  ·show Act.put _ (some 14) _ = _
   simp only [Act.put, List.setIfInBounds_toArray, List.set_cons_zero, List.set_cons_succ, i64_w, i32_w]
   rfl
  refine pure_ (i := 8) (N := some 15) (v := ?_) (a' := ?_) #[true, true, true, true, true, true, true, true, true, false, false, false, false, false, false, false, false, false, false, false, false, false, false, false, false, false, false, false, false, false, false, false] rfl rfl (by kernel_rfl) (fun _ _ _ h => h) (Or.inl ⟨by rfl, ?_⟩) ?_ ?_
  rotate_left
  ·intro w'
   go_simp
   with_reducible rfl
  rotate_left
  ·simp only [Act.put, List.setIfInBounds_toArray, List.set_cons_zero, List.set_cons_succ, i64_w, i32_w]
   rfl
  refine pure_ (i := 9) (N := some 16) (v := ?_) (a' := ?_) #[true, true, true, true, true, true, true, true, true, true, false, false, false, false, false, false, false, false, false, false, false, false, false, false, false, false, false, false, false, false, false, false] rfl rfl (by kernel_rfl) (fun _ _ _ h => h) (Or.inl ⟨by rfl, ?_⟩) ?_ ?_
  rotate_left
  ·intro w'
   go_simp
   with_reducible rfl
  rotate_left
  ·simp only [Act.put, List.setIfInBounds_toArray, List.set_cons_zero, List.set_cons_succ, i64_w, i32_w]
   rfl
  refine pure_ (i := 10) (N := some 17) (v := undef) (a' := ?_) #[true, true, true, true, true, true, true, true, true, true, true, false, false, false, false, false, false, false, false, false, false, false, false, false, false, false, false, false, false, false, false, false] rfl rfl (by kernel_rfl) (fun _ _ _ h => h) (Or.inr ⟨by rfl, rfl⟩) ?_ ?_
  rotate_left
  ·simp only [Act.put, List.setIfInBounds_toArray, List.set_cons_zero, List.set_cons_succ, i64_w, i32_w]
   rfl
  refine pure_ (i := 11) (N := some 18) (v := undef) (a' := ?_) #[true, true, true, true, true, true, true, true, true, true, true, true, false, false, false, false, false, false, false, false, false, false, false, false, false, false, false, false, false, false, false, false] rfl rfl (by kernel_rfl) (fun _ _ _ h => h) (Or.inr ⟨by rfl, rfl⟩) ?_ ?_
  rotate_left
  ·simp only [Act.put, List.setIfInBounds_toArray, List.set_cons_zero, List.set_cons_succ, i64_w, i32_w]
   rfl
  refine pure_ (i := 12) (N := some 19) (v := undef) (a' := ?_) #[true, true, true, true, true, true, true, true, true, true, true, true, true, false, false, false, false, false, false, false, false, false, false, false, false, false, false, false, false, false, false, false] rfl rfl (by kernel_rfl) (fun _ _ _ h => h) (Or.inr ⟨by rfl, rfl⟩) ?_ ?_
  rotate_left
  ·simp only [Act.put, List.setIfInBounds_toArray, List.set_cons_zero, List.set_cons_succ, i64_w, i32_w]
   rfl
  refine pure_ (i := 13) (N := some 20) (v := undef) (a' := ?_) #[true, true, true, true, true, true, true, true, true, true, true, true, true, true, false, false, false, false, false, false, false, false, false, false, false, false, false, false, false, false, false, false] rfl rfl (by kernel_rfl) (fun _ _ _ h => h) (Or.inr ⟨by rfl, rfl⟩) ?_ ?_
  rotate_left
  ·simp only [Act.put, List.setIfInBounds_toArray, List.set_cons_zero, List.set_cons_succ, i64_w, i32_w]
   rfl
  refine pure_ (i := 14) (N := some 21) (v := undef) (a' := ?_) #[true, true, true, true, true, true, true, true, true, true, true, true, true, true, true, false, false, false, false, false, false, false, false, false, false, false, false, false, false, false, false, false] rfl rfl (by kernel_rfl) (fun _ _ _ h => h) (Or.inr ⟨by rfl, rfl⟩) ?_ ?_
  rotate_left
  ·simp only [Act.put, List.setIfInBounds_toArray, List.set_cons_zero, List.set_cons_succ, i64_w, i32_w]
   rfl
  refine pure_ (i := 15) (N := some 22) (v := undef) (a' := ?_) #[true, true, true, true, true, true, true, true, true, true, true, true, true, true, true, true, false, false, false, false, false, false, false, false, false, false, false, false, false, false, false, false] rfl rfl (by kernel_rfl) (fun _ _ _ h => h) (Or.inr ⟨by rfl, rfl⟩) ?_ ?_
  rotate_left
  ·simp only [Act.put, List.setIfInBounds_toArray, List.set_cons_zero, List.set_cons_succ, i64_w, i32_w]
   rfl
  refine pure_ (i := 16) (N := some 23) (v := undef) (a' := ?_) #[true, true, true, true, true, true, true, true, true, true, true, true, true, true, true, true, true, false, false, false, false, false, false, false, false, false, false, false, false, false, false, false] rfl rfl (by kernel_rfl) (fun _ _ _ h => h) (Or.inr ⟨by rfl, rfl⟩) ?_ ?_
  rotate_left
  ·simp only [Act.put, List.setIfInBounds_toArray, List.set_cons_zero, List.set_cons_succ, i64_w, i32_w]
   rfl
  refine pure_ (i := 17) (N := some 24) (v := undef) (a' := ?_) #[true, true, true, true, true, true, true, true, true, true, true, true, true, true, true, true, true, true, false, false, false, false, false, false, false, false, false, false, false, false, false, false] rfl rfl (by kernel_rfl) (fun _ _ _ h => h) (Or.inr ⟨by rfl, rfl⟩) ?_ ?_
  rotate_left
  ·simp only [Act.put, List.setIfInBounds_toArray, List.set_cons_zero, List.set_cons_succ, i64_w, i32_w]
   rfl
  refine pure_ (i := 18) (N := some 25) (v := undef) (a' := ?_) #[true, true, true, true, true, true, true, true, true, true, true, true, true, true, true, true, true, true, true, false, false, false, false, false, false, false, false, false, false, false, false, false] rfl rfl (by kernel_rfl) (fun _ _ _ h => h) (Or.inr ⟨by rfl, rfl⟩) ?_ ?_
  rotate_left
  ·simp only [Act.put, List.setIfInBounds_toArray, List.set_cons_zero, List.set_cons_succ, i64_w, i32_w]
   rfl
  refine pure_ (i := 19) (N := some 26) (v := ?_) (a' := ?_) #[true, true, true, true, true, true, true, true, true, true, true, true, true, true, true, true, true, true, true, true, false, false, false, false, false, false, false, false, false, false, false, false] rfl rfl (by kernel_rfl) (fun _ _ _ h => h) (Or.inl ⟨by rfl, ?_⟩) ?_ ?_
  rotate_left
  ·intro w'
   go_simp
   with_reducible rfl
  rotate_left
  ·simp only [Act.put, List.setIfInBounds_toArray, List.set_cons_zero, List.set_cons_succ, i64_w, i32_w]
   rfl
  refine pure_ (i := 20) (N := some 27) (v := ?_) (a' := ?_) #[true, true, true, true, true, true, true, true, true, true, true, true, true, true, true, true, true, true, true, true, true, false, false, false, false, false, false, false, false, false, false, false] rfl rfl (by kernel_rfl) (fun _ _ _ h => h) (Or.inl ⟨by rfl, ?_⟩) ?_ ?_
  rotate_left
  ·intro w'
   go_simp
   with_reducible rfl
  rotate_left
  ·simp only [Act.put, List.setIfInBounds_toArray, List.set_cons_zero, List.set_cons_succ, i64_w, i32_w]
   rfl
  refine pure_ (i := 21) (N := some 28) (v := undef) (a' := ?_) #[true, true, true, true, true, true, true, true, true, true, true, true, true, true, true, true, true, true, true, true, true, true, false, false, false, false, false, false, false, false, false, false] rfl rfl (by kernel_rfl) (fun _ _ _ h => h) (Or.inr ⟨by rfl, rfl⟩) ?_ ?_
  rotate_left
  ·simp only [Act.put, List.setIfInBounds_toArray, List.set_cons_zero, List.set_cons_succ, i64_w, i32_w]
   rfl
  refine pure_ (i := 22) (N := some 29) (v := undef) (a' := ?_) #[true, true, true, true, true, true, true, true, true, true, true, true, true, true, true, true, true, true, true, true, true, true, true, false, false, false, false, false, false, false, false, false] rfl rfl (by kernel_rfl) (fun _ _ _ h => h) (Or.inr ⟨by rfl, rfl⟩) ?_ ?_
  rotate_left
  ·simp only [Act.put, List.setIfInBounds_toArray, List.set_cons_zero, List.set_cons_succ, i64_w, i32_w]
   rfl
  refine pure_ (i := 23) (N := some 30) (v := undef) (a' := ?_) #[true, true, true, true, true, true, true, true, true, true, true, true, true, true, true, true, true, true, true, true, true, true, true, true, false, false, false, false, false, false, false, false] rfl rfl (by kernel_rfl) (fun _ _ _ h => h) (Or.inr ⟨by rfl, rfl⟩) ?_ ?_
  rotate_left
  ·simp only [Act.put, List.setIfInBounds_toArray, List.set_cons_zero, List.set_cons_succ, i64_w, i32_w]
   rfl
  refine pure_ (i := 24) (N := some 31) (v := undef) (a' := ?_) #[true, true, true, true, true, true, true, true, true, true, true, true, true, true, true, true, true, true, true, true, true, true, true, true, true, false, false, false, false, false, false, false] rfl rfl (by kernel_rfl) (fun _ _ _ h => h) (Or.inr ⟨by rfl, rfl⟩) ?_ ?_
  rotate_left
  ·simp only [Act.put, List.setIfInBounds_toArray, List.set_cons_zero, List.set_cons_succ, i64_w, i32_w]
   rfl
  refine pure_ (i := 25) (N := some 32) (v := undef) (a' := ?_) #[true, true, true, true, true, true, true, true, true, true, true, true, true, true, true, true, true, true, true, true, true, true, true, true, true, true, false, false, false, false, false, false] rfl rfl (by kernel_rfl) (fun _ _ _ h => h) (Or.inr ⟨by rfl, rfl⟩) ?_ ?_
  rotate_left
  ·simp only [Act.put, List.setIfInBounds_toArray, List.set_cons_zero, List.set_cons_succ, i64_w, i32_w]
   rfl
  refine pure_ (i := 26) (N := some 33) (v := undef) (a' := ?_) #[true, true, true, true, true, true, true, true, true, true, true, true, true, true, true, true, true, true, true, true, true, true, true, true, true, true, true, false, false, false, false, false] rfl rfl (by kernel_rfl) (fun _ _ _ h => h) (Or.inr ⟨by rfl, rfl⟩) ?_ ?_
  rotate_left
  ·simp only [Act.put, List.setIfInBounds_toArray, List.set_cons_zero, List.set_cons_succ, i64_w, i32_w]
   rfl
  refine pure_ (i := 27) (N := some 34) (v := undef) (a' := ?_) #[true, true, true, true, true, true, true, true, true, true, true, true, true, true, true, true, true, true, true, true, true, true, true, true, true, true, true, true, false, false, false, false] rfl rfl (by kernel_rfl) (fun _ _ _ h => h) (Or.inr ⟨by rfl, rfl⟩) ?_ ?_
  rotate_left
  ·simp only [Act.put, List.setIfInBounds_toArray, List.set_cons_zero, List.set_cons_succ, i64_w, i32_w]
   rfl
  refine pure_ (i := 28) (N := some 35) (v := undef) (a' := ?_) #[true, true, true, true, true, true, true, true, true, true, true, true, true, true, true, true, true, true, true, true, true, true, true, true, true, true, true, true, true, false, false, false] rfl rfl (by kernel_rfl) (fun _ _ _ h => h) (Or.inr ⟨by rfl, rfl⟩) ?_ ?_
  rotate_left
  ·simp only [Act.put, List.setIfInBounds_toArray, List.set_cons_zero, List.set_cons_succ, i64_w, i32_w]
   rfl
  refine pure_ (i := 29) (N := some 36) (v := undef) (a' := ?_) #[true, true, true, true, true, true, true, true, true, true, true, true, true, true, true, true, true, true, true, true, true, true, true, true, true, true, true, true, true, true, false, false] rfl rfl (by kernel_rfl) (fun _ _ _ h => h) (Or.inr ⟨by rfl, rfl⟩) ?_ ?_
  rotate_left
  ·simp only [Act.put, List.setIfInBounds_toArray, List.set_cons_zero, List.set_cons_succ, i64_w, i32_w]
   rfl
  refine pure_ (i := 30) (N := some 37) (v := ?_) (a' := ?_) #[true, true, true, true, true, true, true, true, true, true, true, true, true, true, true, true, true, true, true, true, true, true, true, true, true, true, true, true, true, true, true, false] rfl rfl (by kernel_rfl) (fun _ _ _ h => h) (Or.inl ⟨by rfl, ?_⟩) ?_ ?_
  rotate_left
  ·intro w'
   go_simp
   with_reducible rfl
  rotate_left
  ·simp only [Act.put, List.setIfInBounds_toArray, List.set_cons_zero, List.set_cons_succ, i64_w, i32_w]
   rfl
  refine pure_ (i := 31) (N := some 6) (v := ?_) (a' := ?_) #[true, true, true, true, true, true, true, true, true, true, true, true, true, true, true, true, true, true, true, true, true, true, true, true, true, true, true, true, true, true, true, true] rfl rfl (by kernel_rfl) (fun _ _ _ h => h) (Or.inl ⟨by rfl, ?_⟩) ?_ ?_
  rotate_left
  ·intro w'
   go_simp
   with_reducible rfl
  rotate_left
  ·simp only [Act.put, List.setIfInBounds_toArray, List.set_cons_zero, List.set_cons_succ, i64_w, i32_w]
   rfl
  refine done_ (by kernel_rfl) ?_
  go_wp2
  go_ret
  exact ⟨rfl, by assumption⟩
theorem own_ne_blk {W : World} {base g : Nat} {e t : TypeId} {size : Nat} {v : Value} {k : Nat} {xs : List Value} {cs : Array Value} (h : W.ownsRow base e size v k xs) (hb : W.heap[g]? = some (.cells cs t (0, 0))) (hne : e ≠ t) : v.ownBlock ≠ some g := by
 rcases h.2 with ⟨rfl, _⟩ | ⟨g2, cap, cur, rfl, _, hg, _⟩
 ·simp [Value.ownBlock]
 ·intro e2
  obtain rfl : g2 = g := by simpa [Value.ownBlock] using e2
  rw [hg] at hb
  injection hb with hb
  injection hb with _ h2
  exact hne h2
structure FamI (w W : World) (gf H : Nat) (A0 : Option Addr) (c0 n k : Nat) (v2 v3 : Value) (bs : List Bool) (Ls : List (List Int)) : Prop where
 blk : W.heap[gf]? = some (.cells #[.slice A0 n c0, .int .i64 (k : Int), v2, v3] 96 (0, 0))
 ge : w.heap.size ≤ gf
 lt : gf < H
 own2 : W.ownsRow w.heap.size 4 1 v2 bs.length (bs.map Value.bool)
 lt2 : ∀ b, v2.ownBlock = some b → b < H
 own3 : ∃ rows, W.ownsRow w.heap.size 22 1 v3 Ls.length rows ∧ Rows w.heap.size W rows Ls ∧ ∀ v ∈ rows, ∀ b, v.ownBlock = some b → b < H
 lt3 : ∀ b, v3.ownBlock = some b → b < H
 below : Below w.heap.size w W
 top : H ≤ W.heap.size
theorem FamI.kept {w W V : World} {gf H : Nat} {A0 : Option Addr} {c0 n k : Nat} {v2 v3 : Value} {bs : List Bool} {Ls : List (List Int)} {row : Option Nat} (h : FamI w W gf H A0 c0 n k v2 v3 bs Ls) (hg : W.grownBy V row) (hr : ∀ r, row = some r → H ≤ r) : FamI w V gf H A0 c0 n k v2 v3 bs Ls := by
 have ne : ∀ b, b < H → some b ≠ row := fun b hb e => by have := hr b e.symm; omega
 have hlt := h.lt
 have hge := h.ge
 obtain ⟨rows, r1, r2, r3⟩ := h.own3
 refine ⟨blk_grown h.blk hg (ne _ hlt), hge, hlt, own_kept h.own2 hg (fun b hb => ne b (h.lt2 b hb)), h.lt2, ⟨rows, own_kept r1 hg (fun b hb => ne b (h.lt3 b hb)), ⟨r2.1, fun i L hL => ?_⟩, r3⟩, h.lt3, h.below.grown hg h.below.size (fun j e => by have := hr j e; omega), Nat.le_trans h.top hg.size⟩
 obtain ⟨v, q1, q2⟩ := r2.2 i L hL
 exact ⟨v, q1, own_kept q2 hg (fun b hb => ne b (r3 v (List.mem_of_getElem? q1) b hb))⟩
theorem FamI.low {w W V : World} {gf H : Nat} {A0 : Option Addr} {c0 n k : Nat} {v2 v3 : Value} {bs : List Bool} {Ls : List (List Int)} (h : FamI w W gf H A0 c0 n k v2 v3 bs Ls) (hb : Below W.heap.size W V) : FamI w V gf H A0 c0 n k v2 v3 bs Ls := h.kept (grown_of_below hb none) (fun r e => by cases e)
theorem FamI.up {w W : World} {gf H H2 : Nat} {A0 : Option Addr} {c0 n k : Nat} {v2 v3 : Value} {bs : List Bool} {Ls : List (List Int)} (h : FamI w W gf H A0 c0 n k v2 v3 bs Ls) (h1 : H ≤ H2) (h2 : H2 ≤ W.heap.size) : FamI w W gf H2 A0 c0 n k v2 v3 bs Ls := by
 obtain ⟨rows, r1, r2, r3⟩ := h.own3
 exact ⟨h.blk, h.ge, Nat.lt_of_lt_of_le h.lt h1, h.own2, fun b hb => Nat.lt_of_lt_of_le (h.lt2 b hb) h1, ⟨rows, r1, r2, fun v hv b hb => Nat.lt_of_lt_of_le (r3 v hv b hb) h1⟩, fun b hb => Nat.lt_of_lt_of_le (h.lt3 b hb) h1, h.below, h2⟩
theorem FamI.small {w W V : World} {gf H : Nat} {A0 : Option Addr} {c0 n k : Nat} {v2 v3 v2' : Value} {bs : List Bool} {Ls : List (List Int)} {b : Bool} {o : Obj} (h : FamI w W gf H A0 c0 n k v2 v3 bs Ls) (hg : (W.alloc o).grownBy V v2.ownBlock) (hown : V.ownsRow w.heap.size 4 1 v2' (bs.length + 1) (bs.map Value.bool ++ [.bool b])) :
  FamI w (V.setCell ⟨gf, 2, none⟩ v2') gf V.heap.size A0 c0 n k v2' v3 (bs ++ [b]) Ls := by
 have hge := h.ge
 have hlt := h.lt
 have htop := h.top
 have hgs := hg.size
 simp only [World.size_alloc] at hgs
 have hsz : (V.setCell ⟨gf, 2, none⟩ v2').heap.size = V.heap.size := World.size_setCell _ _ _
 obtain ⟨rows, r1, r2, r3⟩ := h.own3
 have hb1 : V.heap[gf]? = some (.cells #[.slice A0 n c0, .int .i64 (k : Int), v2, v3] 96 (0, 0)) := blk_grown (blk_alloc h.blk o) hg (fun e => own_ne_blk (h.own2.alloc o) (blk_alloc h.blk o) (by decide) e.symm)
 have hnb := own_ne_blk hown hb1 (by decide)
 have set_kept : ∀ {base : Nat} {e : TypeId} {v : Value} {m : Nat} {xs : List Value}, V.ownsRow base e 1 v m xs → e ≠ 96 → (V.setCell ⟨gf, 2, none⟩ v2').ownsRow base e 1 v m xs := fun ho he =>
  own_kept ho (grownBy_set V _ _) (fun b hb e2 => own_ne_blk ho hb1 he (by rw [hb]; exact e2))
 refine ⟨by simpa using blk_set hb1 2 v2', hge, by omega, ?_, fun b hb => own_lt hown b hb, ⟨rows, ?_, ?_, fun v hv b hb => ?_⟩, fun b hb => ?_, ?_, by omega⟩
 ·rw [List.length_append, List.map_append]
  exact set_kept hown (by decide)
 ·exact set_kept (ownsRow_other (r1.alloc o) (h.own2.alloc o) (by decide) hg) (by decide)
 ·exact r2.imp fun v L hv => set_kept (ownsRow_other (hv.alloc o) (h.own2.alloc o) (by decide) hg) (by decide)
 ·have := r3 v hv b hb; omega
 ·have := h.lt3 b hb; omega
 ·exact below_set ((below_alloc h.below o).grown hg (by have := h.below.size; simp; omega) (fun j e => by
   rcases (h.own2.alloc o).2 with ⟨e1, _⟩ | ⟨g2, cap, cur, e1, hb2, _⟩
   ·rw [e1] at e; simp [Value.ownBlock] at e
   ·rw [e1] at e
    obtain rfl : g2 = j := by simpa [Value.ownBlock] using e
    exact hb2)) hge
theorem FamI.other {w W V : World} {gf H HH : Nat} {A0 : Option Addr} {c0 n k : Nat} {v2 v3 v3' v7 : Value} {bs : List Bool} {Ls : List (List Int)} {rows : List Value} {L : List Int} {o : Obj} (h : FamI w W gf H A0 c0 n k v2 v3 bs Ls) (hHH : w.heap.size ≤ HH) (h7 : W.ownsRow HH 3 1 v7 L.length (L.map (Value.int .i64))) (r1 : W.ownsRow w.heap.size 22 1 v3 Ls.length rows) (r2 : Rows w.heap.size W rows Ls) (r3 : ∀ v ∈ rows, ∀ b, v.ownBlock = some b → b < H)
  (hg : (W.alloc o).grownBy V v3.ownBlock) (hown : V.ownsRow w.heap.size 22 1 v3' (Ls.length + 1) (rows ++ [v7])) :
  FamI w (V.setCell ⟨gf, 3, none⟩ v3') gf V.heap.size A0 c0 n k v2 v3' bs (Ls ++ [L]) := by
 have hge := h.ge
 have hlt := h.lt
 have htop := h.top
 have hgs := hg.size
 simp only [World.size_alloc] at hgs
 have hsz : (V.setCell ⟨gf, 3, none⟩ v3').heap.size = V.heap.size := World.size_setCell _ _ _
 have hb1 : V.heap[gf]? = some (.cells #[.slice A0 n c0, .int .i64 (k : Int), v2, v3] 96 (0, 0)) := blk_grown (blk_alloc h.blk o) hg (fun e => own_ne_blk (r1.alloc o) (blk_alloc h.blk o) (by decide) e.symm)
 have set_kept : ∀ {base : Nat} {e : TypeId} {v : Value} {m : Nat} {xs : List Value}, V.ownsRow base e 1 v m xs → e ≠ 96 → (V.setCell ⟨gf, 3, none⟩ v3').ownsRow base e 1 v m xs := fun ho he =>
  own_kept ho (grownBy_set V _ _) (fun b hb e2 => own_ne_blk ho hb1 he (by rw [hb]; exact e2))
 refine ⟨by simpa using blk_set hb1 3 v3', hge, by omega, ?_, fun b hb => ?_, ⟨rows ++ [v7], ?_, ?_, fun v hv b hb => ?_⟩, fun b hb => own_lt hown b hb, ?_, by omega⟩
 ·exact set_kept (ownsRow_other (h.own2.alloc o) (r1.alloc o) (by decide) hg) (by decide)
 ·have := h.lt2 b hb; omega
 ·rw [List.length_append]
  exact set_kept hown (by decide)
 ·have q1 : Rows w.heap.size (V.setCell ⟨gf, 3, none⟩ v3') rows Ls := r2.imp fun v L hv => set_kept (ownsRow_other (hv.alloc o) (r1.alloc o) (by decide) hg) (by decide)
  refine q1.append ⟨rfl, fun i L2 hL => ?_⟩
  cases i with
  | zero =>
   obtain rfl : L = L2 := by simpa using hL
   exact ⟨v7, rfl, set_kept (ownsRow_other ((ownsRow_mono h7 hHH).alloc o) (r1.alloc o) (by decide) hg) (by decide)⟩
  | succ i => simp at hL
 ·rcases List.mem_append.1 hv with h1 | h1
  ·have := r3 v h1 b hb; omega
  ·rw [List.mem_singleton.1 h1] at hb
   have := own_lt h7 b hb; omega
 ·exact below_set ((below_alloc h.below o).grown hg (by have := h.below.size; simp; omega) (fun j e => by
   rcases (r1.alloc o).2 with ⟨e1, _⟩ | ⟨g2, cap, cur, e1, hb2, _⟩
   ·rw [e1] at e; simp [Value.ownBlock] at e
   ·rw [e1] at e
    obtain rfl : g2 = j := by simpa [Value.ownBlock] using e
    exact hb2)) hge
def othTo (G : List Nat) (k x : Nat) : Nat → Nat → List Int
 | 0, _ => []
 | d + 1, y => if sidesB G k x y then (y : Int) :: othTo G k x d (y + 1) else othTo G k x d (y + 1)
def smTo (G : List Nat) (k : Nat) : Nat → Nat → List Bool
 | 0, _ => []
 | d + 1, x => decide (pc (bo G x) 9 ≤ k) :: smTo G k d (x + 1)
def otTo (G : List Nat) (k : Nat) : Nat → Nat → List (List Int)
 | 0, _ => []
 | d + 1, x => othTo G k x (2 ^ G.length) 0 :: otTo G k d (x + 1)
theorem othTo_len (G : List Nat) (k x : Nat) : ∀ d y, (othTo G k x d y).length ≤ d
 | 0, _ => Nat.le_refl _
 | d + 1, y => by
  have := othTo_len G k x d (y + 1)
  simp only [othTo]
  split <;> simp <;> omega
set_option maxHeartbeats 8000000 in
set_option maxRecDepth 100000 in
theorem family_calls (A0 : Option Addr) (c0 : Nat) (G : List Nat) (hG : Gr 7 G) (hc0 : G.length ≤ c0) (k : Nat) (hk : k ≤ 7) (w : World) (hGL : GL w) (hr0 : Kd.C (Kd.int .i64) w A0 (gi G).length (gi G)) :
  Calls Tryd.prog 60 #[.slice A0 G.length c0, .int .i64 (k : Int)] w fun e w' => ∃ gf H v2 v3, e = .returned (.pointer (some ⟨gf, 0, none⟩)) ∧ FamI w w' gf H A0 c0 G.length k v2 v3 (smTo G k (2 ^ G.length) 0) (otTo G k (2 ^ G.length) 0) := by
 have hn := hG.most
 have HP7 := Aside0.mk (p7 hn)
 have HG := Aside0.mk hG
 have HGL := Aside0.mk hGL
 have HR := Aside0.mk hr0
 have HC0 := Aside0.mk hc0
 have HL := Aside0.mk (gi_length G)
 obtain ⟨i4, hi4, hp0, hp1, hp2⟩ := info_parts info4
 obtain ⟨i3, hi3, hq0, hq1, hq2⟩ := info_parts info3
 obtain ⟨i22, hi22, hs0, hs1, hs2⟩ := info_parts info22
 obtain ⟨J, ⟨hS1, hS2, hS3⟩, hS4⟩ := shJ G.length (by omega)
 have HS1 := Aside0.mk hS1
 have HS2 := Aside0.mk hS2
 have HJ := Aside0.mk hS4
 clear hG hGL hr0 hc0 hS1 hS2 hS3 hS4
 obtain ⟨N, hN⟩ : ∃ N, 2 ^ G.length = N := ⟨_, rfl⟩
 have HN := Aside0.mk hN
 have hN7 : N ≤ 128 := by rw [← hN]; exact HP7.out
 rw [hN] at HJ
 rw [hN]
 obtain ⟨BS, hBS⟩ : ∃ b, smTo G k N 0 = b := ⟨_, rfl⟩
 obtain ⟨LS, hLS⟩ : ∃ b, otTo G k N 0 = b := ⟨_, rfl⟩
 rw [hBS, hLS]
 have HBS := Aside0.mk hBS
 have HLS := Aside0.mk hLS
 clear hBS hLS hN
 have hS1 := HS1.out
 have hS2 := HS2.out
 go_enter Tryd.func60, Tryd.ntmps60
 go_wp2
 rw [HS1.out]
 clear hS1 hS2
 have HRC : Aside0 (∀ W gf H v2 v3 bs Ls, FamI w W gf H A0 c0 G.length k v2 v3 bs Ls → ∀ x : Nat, x < 2 ^ G.length → Calls Tryd.prog 73 #[.slice A0 G.length c0, .int .i64 (x : Int)] W fun e w' => e = .returned (.int .i64 ((bo G x : Nat) : Int)) ∧ w'.cell? ⟨gf, 2, none⟩ = some v2 ∧ FamI w w' gf H A0 c0 G.length k v2 v3 bs Ls) := ⟨fun W gf H v2 v3 bs Ls h x hx => by
  have := sweep_town_border.calls A0 c0 (gi G) (x : Int) _ W (GL_below HGL.out h.below) (Kd.C_below HR.out h.below) (by rw [HL.out]; exact HC0.out) (bo_f HG.out hx)
  rw [HL.out] at this
  exact this.mono fun e w' ⟨h1, hb⟩ => ⟨h1, (blk_cell (h.low hb).blk 2).trans rfl, h.low hb⟩⟩
 have HCC : Aside0 (∀ W gf H v2 v3 bs Ls, FamI w W gf H A0 c0 G.length k v2 v3 bs Ls → ∀ b : Nat, b < 128 → Calls Tryd.prog 63 #[.int .i64 (b : Int)] W fun e w' => e = .returned (.int .i64 ((pc b 9 : Nat) : Int)) ∧ w'.cell? ⟨gf, 2, none⟩ = some v2 ∧ FamI w w' gf H A0 c0 G.length k v2 v3 bs Ls) := ⟨fun W gf H v2 v3 bs Ls h b hb => 
by
  have hq := count_eq b (Nat.lt_of_lt_of_le hb (by decide))
  refine (sweep_count.calls (b : Int) _ W hq).mono ?_
  rintro e w' ⟨h1, m, rfl⟩
  exact ⟨h1, (blk_cell h.blk 2).trans rfl, h.low (pw_below_drewN (Below.refl _ _) m)⟩⟩
 have start : FamI w (w.alloc (.cells #[.slice A0 G.length c0, .int .i64 (k : Int), .slice none 0 0, .slice none 0 0] 96)) w.heap.size (w.heap.size + 1) A0 c0 G.length k (.slice none 0 0) (.slice none 0 0) [] [] :=
  ⟨heap_alloc_new w _, Nat.le_refl _, by omega, World.ownsRow_nil _ _ _ _, (fun b hb => by simp [Value.ownBlock] at hb), ⟨[], World.ownsRow_nil _ _ _ _, ⟨rfl, fun i L h => by simp at h⟩, fun v hv => by simp at hv⟩, (fun b hb => by simp [Value.ownBlock] at hb), below_alloc (Below.refl _ _) _, by simp⟩
 have START := Aside0.mk start
 clear start
 go_loopg [16] N (fun kq v16 w' => ∃ (x H : Nat) (v2 v3 : Value) (bs : List Bool) (Ls : List (List Int)), v16 = .int .i64 (x : Int) ∧ x + kq = N ∧ Aside0 (bs.length = x ∧ Ls.length = x ∧ bs ++ smTo G k kq x = BS ∧ Ls ++ otTo G k kq x = LS) ∧ Aside0 (FamI w w' w.heap.size H A0 c0 G.length k v2 v3 bs Ls))
 case atStart => exact ⟨0, w.heap.size + 1, _, _, [], [], rfl, by omega, ⟨rfl, rfl, HBS.out, HLS.out⟩, START⟩
 case round =>
  clear START HBS HLS
  obtain ⟨x, H, v2, v3, bs, Ls, rfl, hx, HX, HF⟩ := hrel
  by_cases hxn : x < N
  ·have hj2 : decide ((x : Int) < J) = true := decide_eq_true (by have := HJ.out; omega)
   have hj1 : ((x : Int) < J) = True := eq_true (by have := HJ.out; omega)
   cases gk with
   | zero => omega
   | succ gx =>
   obtain ⟨hx1, hx2, hx3, hx4⟩ := HX.out
   simp only [smTo, otTo] at hx3 hx4
   have HX3 := Aside0.mk hx3
   have HX4 := Aside0.mk hx4
   have HX1 := Aside0.mk hx1
   have HX2 := Aside0.mk hx2
   have hb1 : bs.length ≤ x := by omega
   have hl1 : Ls.length ≤ x := by omega
   clear hx1 hx2
   have hxP : x < 2 ^ G.length := by rw [HN.out]; exact hxn
   have hbl : bo G x < 128 := Nat.lt_of_lt_of_le (bo_lt HG.out hxP) HP7.out
   have hcell : wr.drew.cell? ⟨w.heap.size, 2, none⟩ = some v2 := (blk_cell HF.out.blk 2).trans rfl
   have HFD : FamI w wr.drew w.heap.size H A0 c0 G.length k v2 v3 bs Ls := HF.out.low (below_drew (Below.refl _ _))
   clear hx3 hx4 HX HF
   go_wp2_with (fail)
   refine start_ (n := 16) (S := fun w' => w'.cell? ⟨w.heap.size, 2, none⟩ = some v2 ∧ FamI w w' w.heap.size H A0 c0 G.length k v2 v3 bs Ls) (ds := [12, 15]) #[false, false, false, false, false, false, false, false, false, false, false, false, false, false, false, false] (by kernel_rfl) rfl rfl ⟨hcell, HFD⟩ (fun hHeld => ?_)
   refine pure_ (i := 0) (N := some 19) (v := ?_) (a' := ?_) #[true, false, false, false, false, false, false, false, false, false, false, false, false, false, false, false] rfl rfl (by kernel_rfl) (fun _ _ _ h => h) (Or.inl ⟨by rfl, ?_⟩) ?_ ?_
   rotate_left
   ·intro w'
    go_simp
    with_reducible rfl
   rotate_left
   ·simp only [Act.put, List.setIfInBounds_toArray, List.set_cons_zero, List.set_cons_succ, i64_w, i32_w]
    rfl
   refine pure_ (i := 1) (N := some 20) (v := ?_) (a' := ?_) #[true, true, false, false, false, false, false, false, false, false, false, false, false, false, false, false] rfl rfl (by kernel_rfl) (fun _ _ _ h => h) (Or.inl ⟨by rfl, ?_⟩) ?_ ?_
   rotate_left
   ·intro w'
    go_simp
    with_reducible rfl
   rotate_left
   ·simp only [Act.put, List.setIfInBounds_toArray, List.set_cons_zero, List.set_cons_succ, i64_w, i32_w]
    rfl
   refine pure_ (i := 2) (N := some 21) (v := ?_) (a' := ?_) #[true, true, true, false, false, false, false, false, false, false, false, false, false, false, false, false] rfl rfl (by kernel_rfl) (fun _ _ _ h => h) (Or.inl ⟨by rfl, ?_⟩) ?_ ?_
   rotate_left
   ·intro w'
    go_simp
    with_reducible rfl
   rotate_left
   ·simp only [Act.put, List.setIfInBounds_toArray, List.set_cons_zero, List.set_cons_succ, i64_w, i32_w]
    rfl
   refine pure_ (i := 3) (N := some 22) (v := ?_) (a' := ?_) #[true, true, true, true, false, false, false, false, false, false, false, false, false, false, false, false] rfl rfl (by kernel_rfl) (fun _ _ _ h => h) (Or.inl ⟨by rfl, ?_⟩) ?_ ?_
   rotate_left
   ·intro w'
    go_simp
    with_reducible rfl
   rotate_left
   ·simp only [Act.put, List.setIfInBounds_toArray, List.set_cons_zero, List.set_cons_succ, i64_w, i32_w]
    rfl
   refine pure_ (i := 5) (N := some 24) (v := ?_) (a' := ?_) #[true, true, true, true, false, true, false, false, false, false, false, false, false, false, false, false] rfl rfl (by kernel_rfl) (fun _ _ _ h => h) (Or.inl ⟨by rfl, ?_⟩) ?_ ?_
   rotate_left
   ·intro w'
    go_simp
    with_reducible rfl
   rotate_left
   ·simp only [Act.put, List.setIfInBounds_toArray, List.set_cons_zero, List.set_cons_succ, i64_w, i32_w]
    rfl
   refine pure_ (i := 6) (N := some 25) (v := ?_) (a' := ?_) #[true, true, true, true, false, true, true, false, false, false, false, false, false, false, false, false] rfl rfl (by kernel_rfl) (fun _ _ _ h => h) (Or.inl ⟨by rfl, ?_⟩) ?_ ?_
   rotate_left
   ·intro w'
    go_simp
    with_reducible rfl
   rotate_left
   ·simp only [Act.put, List.setIfInBounds_toArray, List.set_cons_zero, List.set_cons_succ, i64_w, i32_w]
    rfl
   refine pure_ (i := 9) (N := some 28) (v := ?_) (a' := ?_) #[true, true, true, true, false, true, true, false, false, true, false, false, false, false, false, false] rfl rfl (by kernel_rfl) (fun _ _ _ h => h) (Or.inl ⟨by rfl, ?_⟩) ?_ ?_
   rotate_left
   ·intro w'
    go_simp
    with_reducible rfl
   rotate_left
   ·simp only [Act.put, List.setIfInBounds_toArray, List.set_cons_zero, List.set_cons_succ, i64_w, i32_w]
    rfl
   refine take_ (i := 4) (N := some 23) (v := ?_) (a' := ?_) #[true, true, true, true, true, true, true, false, false, true, false, false, false, false, false, false] rfl rfl (by kernel_rfl) (fun _ _ _ h => h) (Or.inl ⟨by rfl, ?_⟩) hHeld ?_ ?_
   rotate_left
   ·rintro w' ⟨s0, s1⟩
    go_simp
    with_reducible rfl
   rotate_left
   ·simp only [Act.put, List.setIfInBounds_toArray, List.set_cons_zero, List.set_cons_succ, i64_w, i32_w]
    rfl
   refine one_ (i := 7) (N := some 26) #[true, true, true, true, true, true, true, true, false, true, false, false, false, false, false, false] rfl rfl (by kernel_rfl) (by decide) (fun K hK => ?_)
   refine goes_ Tryd.func73 (by kernel_rfl) rfl #[.slice A0 G.length c0, .int .i64 (x : Int)] (by rfl) rfl rfl (by simp only [List.map_toArray, List.map_cons, List.map_nil]; rfl) ?_
   with_reducible refine (HRC.out _ _ _ _ _ _ _ hHeld.2 x hxP).mono ?_
   rintro e w3 ⟨rfl, hc', hf'⟩
   refine ⟨_, rfl, ?_⟩
   refine hK.out _ _ ⟨hc', hf'⟩ (fun hHeld => ?_)
   clear hK K
   refine norm_ (a' := ?_) ?_ ?_
   rotate_left
   ·show Act.put _ (some 26) _ = _
    simp only [Act.put, List.setIfInBounds_toArray, List.set_cons_zero, List.set_cons_succ, i64_w, i32_w]
    rfl
   refine one_ (i := 8) (N := some 27) #[true, true, true, true, true, true, true, true, true, true, false, false, false, false, false, false] rfl rfl (by kernel_rfl) (by decide) (fun K hK => ?_)
   refine goes_ Tryd.func63 (by kernel_rfl) rfl #[.int .i64 ((bo G x : Nat) : Int)] (by rfl) rfl rfl (by simp only [List.map_toArray, List.map_cons, List.map_nil]; rfl) ?_
   with_reducible refine (HCC.out _ _ _ _ _ _ _ hHeld.2 _ hbl).mono ?_
   rintro e w4 ⟨rfl, hc', hf'⟩
   refine ⟨_, rfl, ?_⟩
   refine hK.out _ _ ⟨hc', hf'⟩ (fun hHeld => ?_)
   clear hK K
   refine norm_ (a' := ?_) ?_ ?_
   rotate_left
   ·show Act.put _ (some 27) _ = _
    simp only [Act.put, List.setIfInBounds_toArray, List.set_cons_zero, List.set_cons_succ, i64_w, i32_w]
    rfl
   refine pure_ (i := 10) (N := some 29) (v := ?_) (a' := ?_) #[true, true, true, true, true, true, true, true, true, true, true, false, false, false, false, false] rfl rfl (by kernel_rfl) (fun _ _ _ h => h) (Or.inl ⟨by rfl, ?_⟩) ?_ ?_
   rotate_left
   ·intro w'
    go_simp
    with_reducible rfl
   rotate_left
   ·simp only [Act.put, List.setIfInBounds_toArray, List.set_cons_zero, List.set_cons_succ, i64_w, i32_w]
    rfl
   refine one_ (i := 11) (N := some 30) #[true, true, true, true, true, true, true, true, true, true, true, true, false, false, false, false] rfl rfl (by kernel_rfl) (by decide) (fun K hK => ?_)
   refine value_ (w1 := ?_) (v := ?_) (by rfl) rfl ?_ ?_
   rotate_left 2
   ·go_simp
    constructor
    ·rfl
    ·rfl
   refine hK.out _ _ ⟨(blk_cell (hHeld.2.kept (World.grownBy_alloc _ _ none) (fun r e => by cases e)).blk 2).trans rfl, hHeld.2.kept (World.grownBy_alloc _ _ none) (fun r e => by cases e)⟩ (fun hHeld => ?_)
   clear hK K
   refine norm_ (a' := ?_) ?_ ?_
   rotate_left
   ·show Act.put _ (some 30) _ = _
    simp only [Act.put, List.setIfInBounds_toArray, List.set_cons_zero, List.set_cons_succ, i64_w, i32_w]
    rfl
   refine last_ (i := 12) (N := some 31) #[true, true, true, true, true, true, true, true, true, true, true, true, true, false, false, false] rfl rfl (by kernel_rfl) (by decide) (fun K hK => ?_)
   refine step_append_lies _ (by rfl) _ _ 93 (by rfl) w.heap.size 4 i4 (.bool false) 1 1 Tryd.underlying93 hi4 hp0 hp1 hp2 rfl (by decide) v2 bs.length (bs.map Value.bool) rfl hHeld.2.own2 ⟨w4.heap.size, 0, none⟩ 1 1 [.bool (decide (pc (bo G x) 9 ≤ k))] rfl rfl (by intro j u hu; exact cell_one_new _ _ _ j u hu) (by simp [Value.oneCell']) (by omega) (by unfold maxLen; omega) (by omega) (by have := hHeld.2.below.size; simpa using this) (w4.heap.size + 1) (by simp) ?_
   intro g2 cap2 w5 hown5 hgrow5 hat5 hlt5
   have hb5 := blk_grown hHeld.2.blk hgrow5 (fun e => own_ne_blk hHeld.2.own2 hHeld.2.blk (by decide) e.symm)
   have hc5 : w5.cell? ⟨w.heap.size, 2, none⟩ = some v2 := (blk_cell hb5 2).trans rfl
   have hfr5 := blk_frozen hb5 2
   refine hK.out _ _ ?_
   clear hK K
   refine norm_ (a' := ?_) ?_ ?_
   rotate_left
   ·show Act.put _ (some 31) _ = _
    simp only [Act.put, List.setIfInBounds_toArray, List.set_cons_zero, List.set_cons_succ, i64_w, i32_w]
    rfl
   refine pure_ (i := 13) (N := some 32) (v := ?_) (a' := ?_) #[true, true, true, true, true, true, true, true, true, true, true, true, true, true, false, false] rfl rfl (by kernel_rfl) (fun _ _ _ h => h) (Or.inl ⟨by rfl, ?_⟩) ?_ ?_
   rotate_left
   ·intro w'
    go_simp
    with_reducible rfl
   rotate_left
   ·simp only [Act.put, List.setIfInBounds_toArray, List.set_cons_zero, List.set_cons_succ, i64_w, i32_w]
    rfl
   refine pure_ (i := 14) (N := some 33) (v := ?_) (a' := ?_) #[true, true, true, true, true, true, true, true, true, true, true, true, true, true, true, false] rfl rfl (by kernel_rfl) (fun _ _ _ h => h) (Or.inl ⟨by rfl, ?_⟩) ?_ ?_
   rotate_left
   ·intro w'
    go_simp
    with_reducible rfl
   rotate_left
   ·simp only [Act.put, List.setIfInBounds_toArray, List.set_cons_zero, List.set_cons_succ, i64_w, i32_w]
    rfl
   refine last_ (i := 15) (N := none) #[true, true, true, true, true, true, true, true, true, true, true, true, true, true, true, true] rfl rfl (by kernel_rfl) (by decide) (fun K hK => ?_)
   refine skip_ (w1 := ?_) (by rfl) rfl ?_ ?_
   rotate_left
   ·go_simp
    rfl
   refine hK.out _ _ ?_
   clear hK K
   refine done_ (by kernel_rfl) ?_
   have hF6 : FamI w (w5.setCell ⟨w.heap.size, 2, none⟩ (.slice (some ⟨g2, 0, none⟩) (bs.length + 1) cap2)) w.heap.size w5.heap.size A0 c0 G.length k (.slice (some ⟨g2, 0, none⟩) (bs.length + 1) cap2) v3 (bs ++ [decide (pc (bo G x) 9 ≤ k)]) Ls := FamI.small hf' hgrow5 hown5
   have hz6 : (w5.setCell ⟨w.heap.size, 2, none⟩ (.slice (some ⟨g2, 0, none⟩) (bs.length + 1) cap2)).heap.size = w5.heap.size := World.size_setCell _ _ _
   rw [← hz6] at hF6
   clear hz6
   generalize w5.setCell ⟨w.heap.size, 2, none⟩ (.slice (some ⟨g2, 0, none⟩) (bs.length + 1) cap2) = w6 at *
   have HF6 := Aside0.mk hF6
   clear hf' hc' hgrow5 hown5 hb5 hc5 hfr5 hat5 hlt5 hF6
   have hS1 := HS1.out
   have hS2 := HS2.out
   go_wp2
   rw [HS1.out]
   clear hS1 hS2
   obtain ⟨LX, hLX⟩ : ∃ L, othTo G k x N 0 = L := ⟨_, rfl⟩
   have HLX := Aside0.mk hLX
   rw [HN.out, hLX] at HX4
   clear hLX
   obtain ⟨HH, hHH⟩ : ∃ H, w6.heap.size = H := ⟨_, rfl⟩
   rw [hHH] at HF6
   have hwH : w.heap.size ≤ HH := by rw [← hHH]; exact HF6.out.below.size
   clear hHH
   go_loopg [7, 37] N (fun kq v7 v37 w' => ∃ (y : Nat) (ys : List Int), v37 = .int .i64 (y : Int) ∧ y + kq = N ∧ Aside0 (ys ++ othTo G k x kq y = LX ∧ ys.length ≤ y) ∧ Aside0 (FamI w w' w.heap.size HH A0 c0 G.length k (.slice (some ⟨g2, 0, none⟩) (bs.length + 1) cap2) v3 (bs ++ [decide (pc (bo G x) 9 ≤ k)]) Ls) ∧ Aside0 (w'.ownsRow HH 3 1 v7 ys.length (ys.map (Value.int .i64))))
   case atStart => exact ⟨0, [], rfl, by omega, ⟨HLX.out, Nat.le_refl _⟩, HF6, ⟨World.ownsRow_nil _ _ _ _⟩⟩
   case round =>
    clear HLX HF6
    obtain ⟨y, ys, rfl, hy, HY, HFY, HO⟩ := hrel
    have hyl := HY.out.2
    by_cases hyn : y < N
    ·have hk2 : decide ((y : Int) < J) = true := decide_eq_true (by have := HJ.out; omega)
     have hk1 : ((y : Int) < J) = True := eq_true (by have := HJ.out; omega)
     cases gk with
     | zero => omega
     | succ gy =>
     have hy1 := HY.out.1
     simp only [othTo] at hy1
     obtain ⟨R, hR⟩ : ∃ R, sidesB G k x y = R := ⟨_, rfl⟩
     rw [hR] at hy1
     have HY1 := Aside0.mk hy1
     have hyP : y < 2 ^ G.length := by rw [HN.out]; exact hyn
     have HSD := Aside0.mk (sides_calls A0 c0 G HG.out HC0.out w.heap.size k x y wr (GL_below HGL.out HFY.out.below) (Kd.C_below HR.out HFY.out.below) ((blk_cell HFY.out.blk 0).trans rfl) ((blk_cell HFY.out.blk 1).trans rfl) hxP hyP R hR)
     clear hR hy1 hyP HY
     cases R
     ·go_wp2_with (go_at_call 74; refine HSD.out.mono ?_; rintro e w7 ⟨rfl, hb7⟩)
      go_roundg gy
      case measure => omega
      case rel => exact ⟨y + 1, ys, by go_num, by omega, ⟨by simpa using HY1.out, by omega⟩, ⟨HFY.out.low hb7⟩, ⟨ownsRow_below HO.out hb7⟩⟩
     ·go_wp2_with (first
       | (go_at_call 74; refine HSD.out.mono ?_; rintro e w7 ⟨rfl, hb7⟩; have hF7 := Aside0.mk (HFY.out.low hb7); have hO7 := Aside0.mk (ownsRow_below HO.out hb7); clear hb7)
       | (at_builtin; refine wpList_append_own_at _ rfl _ _ 22 rfl HH 3 i3 (.int .i64 0) 1 8 Tryd.underlying22 hi3 hq0 hq1 hq2 rfl (by decide) u7 ys.length (ys.map (Value.int .i64)) rfl (hO7.out.alloc _) ⟨w7.heap.size, 0, none⟩ 1 1 [.int .i64 (y : Int)] rfl rfl (cell_one_new _ _ _) (by simp [Value.oneCell']) (by unfold maxLen; omega) (by omega) (by have := hF7.out.top; simp; omega) ?_; intro v8 w8 hown8 hg8 _ _))
      go_roundg gy
      case measure => omega
      case rel =>
       refine ⟨y + 1, ys ++ [(y : Int)], by go_num, by omega, ⟨by simpa using HY1.out, by simp; omega⟩, ⟨(hF7.out.kept (World.grownBy_alloc _ _ none) (fun r e => by cases e)).kept hg8 (fun r e => own_base hO7.out r e)⟩, ⟨?_⟩⟩
       rw [List.length_append, List.map_append]
       exact hown8
    ·have hk2 : decide ((y : Int) < J) = false := decide_eq_false (by have := HJ.out; omega)
     have hk1 : ((y : Int) < J) = False := eq_false (by have := HJ.out; omega)
     obtain rfl : gk = 0 := by omega
     have hy1 := HY.out.1
     simp only [othTo, List.append_nil] at hy1
     obtain rfl : ys = LX := hy1
     obtain ⟨rows, r1, r2, r3⟩ := HFY.out.own3
     have R1 := Aside0.mk r1
     have R2 := Aside0.mk r2
     have R3 := Aside0.mk r3
     have hc3 : wr.cell? ⟨w.heap.size, 3, none⟩ = some v3 := (blk_cell HFY.out.blk 3).trans rfl
     obtain ⟨A7, cp7, rfl⟩ := ownsRow_form HO.out
     have hm9 : Ls.length + 1 ≤ maxLen := by unfold maxLen; omega
     have hn9 : (Ls.length + 1) * 24 ≤ 140737488355328 := by omega
     have ho9 : w.heap.size ≤ (wr.alloc (.cells #[.slice A7 ys.length cp7] 22)).heap.size := by have := HFY.out.below.size; simp; omega
     have HM9 := Aside0.mk hm9
     have HN9 := Aside0.mk hn9
     have HO9 := Aside0.mk ho9
     clear hm9 hn9 ho9
     clear HY r1 r2 r3 hxP hbl
     go_wp2_with (at_builtin; (refine wpList_append_own_at _ rfl _ _ 88 rfl w.heap.size 22 i22 (.slice none 0 0) 1 24 Tryd.underlying88 hi22 hs0 hs1 hs2 rfl (by decide) v3 Ls.length rows rfl (R1.out.alloc (.cells #[.slice A7 ys.length cp7] 22)) ⟨wr.heap.size, 0, none⟩ 1 1 [.slice A7 ys.length cp7] rfl rfl (cell_one_new _ _ _) (by simp [Value.oneCell']) HM9.out HN9.out HO9.out ?_; intro v9 w9 hown9 hg9 _ _; obtain ⟨g9, cap9, rfl⟩ := ownsRow_succ hown9; have hb9 := blk_grown (blk_alloc HFY.out.blk (.cells #[.slice A7 ys.length cp7] 22)) hg9 (fun e => own_ne_blk (R1.out.alloc (.cells #[.slice A7 ys.length cp7] 22)) (blk_alloc HFY.out.blk (.cells #[.slice A7 ys.length cp7] 22)) (by decide) e.symm); have hc9 : w9.cell? ⟨w.heap.size, 3, none⟩ = some v3 := (blk_cell hb9 3).trans rfl; have hf9 := blk_frozen hb9 3))
     have hF9 := FamI.other HFY.out hwH HO.out R1.out R2.out R3.out hg9 hown9
     go_roundg gx
     case measure => omega
     case rel => exact ⟨x + 1, _, _, _, _, _, by go_num, by omega, ⟨by have := HX1.out; simp; omega, by have := HX2.out; simp; omega, by simpa using HX3.out, by simpa using HX4.out⟩, ⟨hF9⟩⟩
  ·have hj2 : decide ((x : Int) < J) = false := decide_eq_false (by have := HJ.out; omega)
   have hj1 : ((x : Int) < J) = False := eq_false (by have := HJ.out; omega)
   obtain rfl : gk = 0 := by omega
   obtain ⟨hx1, hx2, hx3, hx4⟩ := HX.out
   simp only [smTo, otTo, List.append_nil] at hx3 hx4
   subst hx3 hx4
   clear HX hx1 hx2
   go_wp2
   go_ret
   exact ⟨_, _, _, _, rfl, HF.out⟩
end Go.Proofs.YtijfddobandcdaaDoor.X
end
section
namespace Go.Proofs.YtijfddobandcdaaDoor.X
open Go.RowKit Go.Proofs.YtijfddobandcdaaDoorW.PrintWords Go.Proofs.YtijfddobandcdaaDoorW.PrintLast Go.Proofs.YtijfddobandcdaaDoorW.PrintMore
attribute [local go_sem] max2_int min2_int max_two min_two max_three min_three max_four min_four
set_option linter.unusedVariables false
set_option linter.unusedSimpArgs false
def IsS96 (w0 W : World) (g : Nat) (f0 : List Int) (f1 : Int) (f2 : List Bool) (f3 : List (List Int)) : Prop := ∃ A0 c0, ∃ A2 c2, ∃ A3 c3, W.heap[g]? = some (.cells #[.slice A0 f0.length c0, .int .i64 f1, .slice A2 f2.length c2, .slice A3 f3.length c3] 96 (0, 0)) ∧ True ∧ Kd.C (Kd.int .i64) w0 A0 f0.length f0 ∧ Kd.C Kd.bool w0 A2 f2.length f2 ∧ Kd.C (Kd.slice 3 (Kd.int .i64)) w0 A3 f3.length f3
theorem IsS96.grown {w0 W : World} {g : Nat} {f0 : List Int} {f1 : Int} {f2 : List Bool} {f3 : List (List Int)} {W1 : World} {row : Option Nat} (h : IsS96 w0 W g f0 f1 f2 f3) (hw : W.grownBy W1 row) (hne : some g ≠ row) : IsS96 w0 W1 g f0 f1 f2 f3 := by
 obtain ⟨A0, c0, A2, c2, A3, c3, hb, hg, hr0, hr2, hr3⟩ := h
 exact ⟨A0, c0, A2, c2, A3, c3, blk_grown hb hw hne, hg, hr0, hr2, hr3⟩
theorem IsS96.kept {w0 W : World} {g : Nat} {f0 : List Int} {f1 : Int} {f2 : List Bool} {f3 : List (List Int)} {W1 : World} {S : Nat → Prop} (h : IsS96 w0 W g f0 f1 f2 f3) (hk : Kept W W1 S) (hne : ¬ S g) : IsS96 w0 W1 g f0 f1 f2 f3 := by
 obtain ⟨A0, c0, A2, c2, A3, c3, hb, hg, hr0, hr2, hr3⟩ := h
 exact ⟨A0, c0, A2, c2, A3, c3, blk_kept hb hk hne, hg, hr0, hr2, hr3⟩
theorem IsS96.below {w0 W : World} {g : Nat} {f0 : List Int} {f1 : Int} {f2 : List Bool} {f3 : List (List Int)} {W1 : World} (h : IsS96 w0 W g f0 f1 f2 f3) (hw : Below W.heap.size W W1) : IsS96 w0 W1 g f0 f1 f2 f3 := h.grown (grown_of_below hw none) (by simp)
theorem IsS96.alloc {w0 W : World} {g : Nat} {f0 : List Int} {f1 : Int} {f2 : List Bool} {f3 : List (List Int)} (h : IsS96 w0 W g f0 f1 f2 f3) (o : Obj) : IsS96 w0 (W.alloc o) g f0 f1 f2 f3 := h.below (below_alloc (Below.refl _ _) o)
theorem IsS96.drewN {w0 W : World} {g : Nat} {f0 : List Int} {f1 : Int} {f2 : List Bool} {f3 : List (List Int)} (h : IsS96 w0 W g f0 f1 f2 f3) (m : Nat) : IsS96 w0 (W.drewN m) g f0 f1 f2 f3 := h
theorem IsS96.drew {w0 W : World} {g : Nat} {f0 : List Int} {f1 : Int} {f2 : List Bool} {f3 : List (List Int)} (h : IsS96 w0 W g f0 f1 f2 f3) : IsS96 w0 W.drew g f0 f1 f2 f3 := h
theorem IsS96.apart {w0 W : World} {g : Nat} {f0 : List Int} {f1 : Int} {f2 : List Bool} {f3 : List (List Int)} {α : Type} {d : Kd α} {e : Nat} {base : Nat} {ok : Nat → Prop} {v : Value} {xs : List α} (h : IsS96 w0 W g f0 f1 f2 f3) (ho : d.R e W base ok v xs) (ht : ∀ q, q ∈ e :: d.E → q ≠ 96) : d.R e W base (fun k => ok k ∧ k ≠ g) v xs := by
 obtain ⟨A0, c0, A2, c2, A3, c3, hb, hg, hr0, hr2, hr3⟩ := h
 exact Kd.R_types ho hb ht
theorem IsS96.own_ne {w0 W : World} {g : Nat} {f0 : List Int} {f1 : Int} {f2 : List Bool} {f3 : List (List Int)} {α : Type} {d : Kd α} {e : Nat} {base : Nat} {ok : Nat → Prop} {v : Value} {xs : List α} (h : IsS96 w0 W g f0 f1 f2 f3) (ho : d.R e W base ok v xs) (ht : e ≠ 96) : some g ≠ v.ownBlock := by
 obtain ⟨A0, c0, A2, c2, A3, c3, hb, hg, hr0, hr2, hr3⟩ := h
 exact Kd.R_ne ho hb ht
theorem IsS96.lt {w0 W : World} {g : Nat} {f0 : List Int} {f1 : Int} {f2 : List Bool} {f3 : List (List Int)} (h : IsS96 w0 W g f0 f1 f2 f3) : g < W.heap.size := by
 obtain ⟨A0, c0, A2, c2, A3, c3, hb, hg, hr0, hr2, hr3⟩ := h
 exact blk_lt hb
theorem cellS96_0 {W : World} {g : Nat} {A0 : Option Addr} {c0 : Nat} {A2 : Option Addr} {c2 : Nat} {A3 : Option Addr} {c3 : Nat} {f0 : List Int} {f1 : Int} {f2 : List Bool} {f3 : List (List Int)} (h : W.heap[g]? = some (.cells #[.slice A0 f0.length c0, .int .i64 f1, .slice A2 f2.length c2, .slice A3 f3.length c3] 96 (0, 0))) : W.cell? ⟨g, 0, none⟩ = some (.slice A0 f0.length c0) := (blk_cell h 0).trans rfl
theorem cellS96_1 {W : World} {g : Nat} {A0 : Option Addr} {c0 : Nat} {A2 : Option Addr} {c2 : Nat} {A3 : Option Addr} {c3 : Nat} {f0 : List Int} {f1 : Int} {f2 : List Bool} {f3 : List (List Int)} (h : W.heap[g]? = some (.cells #[.slice A0 f0.length c0, .int .i64 f1, .slice A2 f2.length c2, .slice A3 f3.length c3] 96 (0, 0))) : W.cell? ⟨g, 1, none⟩ = some (.int .i64 f1) := (blk_cell h 1).trans rfl
theorem IsS96.set_1 {w0 W : World} {g : Nat} {f0 : List Int} {f1 : Int} {f2 : List Bool} {f3 : List (List Int)} (h : IsS96 w0 W g f0 f1 f2 f3) (x : Int) : IsS96 w0 (W.setCell ⟨g, 1, none⟩ (.int .i64 x)) g f0 x f2 f3 := by
 obtain ⟨A0, c0, A2, c2, A3, c3, hb, hg, hr0, hr2, hr3⟩ := h
 exact ⟨A0, c0, A2, c2, A3, c3, by simpa using blk_set hb 1 (.int .i64 x), hg, hr0, hr2, hr3⟩
theorem cellS96_2 {W : World} {g : Nat} {A0 : Option Addr} {c0 : Nat} {A2 : Option Addr} {c2 : Nat} {A3 : Option Addr} {c3 : Nat} {f0 : List Int} {f1 : Int} {f2 : List Bool} {f3 : List (List Int)} (h : W.heap[g]? = some (.cells #[.slice A0 f0.length c0, .int .i64 f1, .slice A2 f2.length c2, .slice A3 f3.length c3] 96 (0, 0))) : W.cell? ⟨g, 2, none⟩ = some (.slice A2 f2.length c2) := (blk_cell h 2).trans rfl
theorem cellS96_3 {W : World} {g : Nat} {A0 : Option Addr} {c0 : Nat} {A2 : Option Addr} {c2 : Nat} {A3 : Option Addr} {c3 : Nat} {f0 : List Int} {f1 : Int} {f2 : List Bool} {f3 : List (List Int)} (h : W.heap[g]? = some (.cells #[.slice A0 f0.length c0, .int .i64 f1, .slice A2 f2.length c2, .slice A3 f3.length c3] 96 (0, 0))) : W.cell? ⟨g, 3, none⟩ = some (.slice A3 f3.length c3) := (blk_cell h 3).trans rfl
theorem IsS96.new (w0 W : World) (A0 : Option Addr) (c0 : Nat) (A2 : Option Addr) (c2 : Nat) (A3 : Option Addr) (c3 : Nat) (f0 : List Int) (f1 : Int) (f2 : List Bool) (f3 : List (List Int)) (hB : Below w0.heap.size w0 W) (hr0 : Kd.C (Kd.int .i64) w0 A0 f0.length f0) (hr2 : Kd.C Kd.bool w0 A2 f2.length f2) (hr3 : Kd.C (Kd.slice 3 (Kd.int .i64)) w0 A3 f3.length f3) : IsS96 w0 (W.alloc (.cells #[.slice A0 f0.length c0, .int .i64 f1, .slice A2 f2.length c2, .slice A3 f3.length c3] 96)) W.heap.size f0 f1 f2 f3 := ⟨A0, c0, A2, c2, A3, c3, by simpa using heap_alloc_new W _, trivial, hr0, hr2, hr3⟩
/-! ### sweep_family_decide: function 82 -/
mutual
def sweep_family_decide.l0 : Nat → List Int → Int → Int → List Bool → Int → Int → List Int → Int → List Bool → List (List Int) → Option (Bool × Int × List Int)
 | 0, _, _, _, _, _, _, _, _, _, _ => none
 | k + 1, x1, x2, x3, x32, x33, x34, x1000, x1001, x1002, x1003 => if x34 < x33 then (if 0 ≤ x34 then (if x34 < (x32.length : Int) then (if x3 = 1 then (if (Go.bits .andNot .i64 x34 x2) = 0 then (if rdOf false x32 x34 = true then ((sweep_family_decide.f k x1000 x1001 x1002 x1003 x1 x34 x3).bind fun bt432 => (if bt432.1 = true then (sweep_family_decide.l0 k bt432.2.2 x2 x3 x32 x33 (wrap64 (x34 + 1)) x1000 bt432.2.1 x1002 x1003) else (some (false, bt432.2.1, bt432.2.2)))) else (sweep_family_decide.l0 k x1 x2 x3 x32 x33 (wrap64 (x34 + 1)) x1000 x1001 x1002 x1003)) else (if x3 = 2 then (if rdOf false x32 x34 = true then (if (Go.bits .andNot .i64 x2 x34) = 0 then ((sweep_family_decide.f k x1000 x1001 x1002 x1003 x1 x34 x3).bind fun bt435 => (if bt435.1 = true then (sweep_family_decide.l0 k bt435.2.2 x2 x3 x32 x33 (wrap64 (x34 + 1)) x1000 bt435.2.1 x1002 x1003) else (some (false, bt435.2.1, bt435.2.2)))) else (sweep_family_decide.l0 k x1 x2 x3 x32 x33 (wrap64 (x34 + 1)) x1000 x1001 x1002 x1003)) else (sweep_family_decide.l0 k x1 x2 x3 x32 x33 (wrap64 (x34 + 1)) x1000 x1001 x1002 x1003)) else (if rdOf false x32 x34 = true then (sweep_family_decide.l0 k x1 x2 x3 x32 x33 (wrap64 (x34 + 1)) x1000 x1001 x1002 x1003) else (sweep_family_decide.l0 k x1 x2 x3 x32 x33 (wrap64 (x34 + 1)) x1000 x1001 x1002 x1003)))) else (if x3 = 2 then (if rdOf false x32 x34 = true then (if (Go.bits .andNot .i64 x2 x34) = 0 then ((sweep_family_decide.f k x1000 x1001 x1002 x1003 x1 x34 x3).bind fun bt438 => (if bt438.1 = true then (sweep_family_decide.l0 k bt438.2.2 x2 x3 x32 x33 (wrap64 (x34 + 1)) x1000 bt438.2.1 x1002 x1003) else (some (false, bt438.2.1, bt438.2.2)))) else (sweep_family_decide.l0 k x1 x2 x3 x32 x33 (wrap64 (x34 + 1)) x1000 x1001 x1002 x1003)) else (sweep_family_decide.l0 k x1 x2 x3 x32 x33 (wrap64 (x34 + 1)) x1000 x1001 x1002 x1003)) else (if rdOf false x32 x34 = true then (sweep_family_decide.l0 k x1 x2 x3 x32 x33 (wrap64 (x34 + 1)) x1000 x1001 x1002 x1003) else (sweep_family_decide.l0 k x1 x2 x3 x32 x33 (wrap64 (x34 + 1)) x1000 x1001 x1002 x1003)))) else (none)) else (none)) else (if 0 ≤ x2 then (if x2 < (x1003.length : Int) then (sweep_family_decide.l1 k x1 x3 (rd_L4 x1003 x2) ((rd_L4 x1003 x2).length : Int) 0 x1000 x1001 x1002 x1003) else (none)) else (none))
def sweep_family_decide.l1 : Nat → List Int → Int → List Int → Int → Int → List Int → Int → List Bool → List (List Int) → Option (Bool × Int × List Int)
 | 0, _, _, _, _, _, _, _, _, _ => none
 | k + 1, x1, x3, x76, x77, x78, x1000, x1001, x1002, x1003 => if x78 < x77 then (if 0 ≤ x78 then (if x78 < (x76.length : Int) then ((sweep_family_decide.f k x1000 x1001 x1002 x1003 x1 (rd x76 x78) (IntKind.i8.wrap (3 - x3))).bind fun bt443 => (if bt443.1 = true then (sweep_family_decide.l1 k bt443.2.2 x3 x76 x77 (wrap64 (x78 + 1)) x1000 bt443.2.1 x1002 x1003) else (some (false, bt443.2.1, bt443.2.2)))) else (none)) else (none)) else (some (true, x1001, x1))
def sweep_family_decide.f : Nat → List Int → Int → List Bool → List (List Int) → List Int → Int → Int → Option (Bool × Int × List Int)
 | 0, _, _, _, _, _, _, _ => none
 | k + 1, s0_0, s0_1, s0_2, s0_3, l1, a2, a3 => if 0 ≤ a2 then (if a2 < (l1.length : Int) then (if (rd l1 a2) = 0 then (sweep_family_decide.l0 k (l1.set (a2 : Int).toNat a3) a2 a3 s0_2 (s0_2.length : Int) 0 s0_0 s0_1 s0_2 s0_3) else (some (((rd l1 a2) == a3), s0_1, l1))) else (none)) else (none)
end
theorem sweep_family_decide.mono_l : ∀ k, (∀ y0 y1 y2 y3 y4 y5 y6, LeO (sweep_family_decide.f k y0 y1 y2 y3 y4 y5 y6) (sweep_family_decide.f (k + 1) y0 y1 y2 y3 y4 y5 y6)) ∧ (∀ y0 y1 y2 y3 y4 y5 y6 y7 y8 y9, LeO (sweep_family_decide.l0 k y0 y1 y2 y3 y4 y5 y6 y7 y8 y9) (sweep_family_decide.l0 (k + 1) y0 y1 y2 y3 y4 y5 y6 y7 y8 y9)) ∧ (∀ y0 y1 y2 y3 y4 y5 y6 y7 y8, LeO (sweep_family_decide.l1 k y0 y1 y2 y3 y4 y5 y6 y7 y8) (sweep_family_decide.l1 (k + 1) y0 y1 y2 y3 y4 y5 y6 y7 y8))
 | 0 => ⟨fun _ _ _ _ _ _ _ r h => by simp [sweep_family_decide.f] at h, fun _ _ _ _ _ _ _ _ _ _ r h => by simp [sweep_family_decide.l0] at h, fun _ _ _ _ _ _ _ _ _ r h => by simp [sweep_family_decide.l1] at h⟩
 | k + 1 => by
  obtain ⟨ih0, ih1, ih2⟩ := sweep_family_decide.mono_l k
  refine ⟨?_, ?_, ?_⟩
  ·intro y0 y1 y2 y3 y4 y5 y6
   unfold sweep_family_decide.f
   repeat' first
   | (with_reducible exact ih0 _ _ _ _ _ _ _)
   | (with_reducible exact ih1 _ _ _ _ _ _ _ _ _ _)
   | (with_reducible exact ih2 _ _ _ _ _ _ _ _ _)
   | (with_reducible exact LeO.refl _)
   | (with_reducible exact LeO.none _)
   | (with_reducible refine LeO.ite ?_ ?_)
   | (with_reducible refine LeO.bind ?_ (fun _ => ?_))
   | exact ih0 _ _ _ _ _ _ _
   | exact ih1 _ _ _ _ _ _ _ _ _ _
   | exact ih2 _ _ _ _ _ _ _ _ _
   | exact LeO.none _
   | refine LeO.ite ?_ ?_
   | refine LeO.bind ?_ (fun _ => ?_)
  ·intro y0 y1 y2 y3 y4 y5 y6 y7 y8 y9
   unfold sweep_family_decide.l0
   repeat' first
   | (with_reducible exact ih0 _ _ _ _ _ _ _)
   | (with_reducible exact ih1 _ _ _ _ _ _ _ _ _ _)
   | (with_reducible exact ih2 _ _ _ _ _ _ _ _ _)
   | (with_reducible exact LeO.refl _)
   | (with_reducible exact LeO.none _)
   | (with_reducible refine LeO.ite ?_ ?_)
   | (with_reducible refine LeO.bind ?_ (fun _ => ?_))
   | exact ih0 _ _ _ _ _ _ _
   | exact ih1 _ _ _ _ _ _ _ _ _ _
   | exact ih2 _ _ _ _ _ _ _ _ _
   | exact LeO.none _
   | refine LeO.ite ?_ ?_
   | refine LeO.bind ?_ (fun _ => ?_)
  ·intro y0 y1 y2 y3 y4 y5 y6 y7 y8
   unfold sweep_family_decide.l1
   repeat' first
   | (with_reducible exact ih0 _ _ _ _ _ _ _)
   | (with_reducible exact ih1 _ _ _ _ _ _ _ _ _ _)
   | (with_reducible exact ih2 _ _ _ _ _ _ _ _ _)
   | (with_reducible exact LeO.refl _)
   | (with_reducible exact LeO.none _)
   | (with_reducible refine LeO.ite ?_ ?_)
   | (with_reducible refine LeO.bind ?_ (fun _ => ?_))
   | exact ih0 _ _ _ _ _ _ _
   | exact ih1 _ _ _ _ _ _ _ _ _ _
   | exact ih2 _ _ _ _ _ _ _ _ _
   | exact LeO.none _
   | refine LeO.ite ?_ ?_
   | refine LeO.bind ?_ (fun _ => ?_)
theorem sweep_family_decide.mono : ∀ a0 a1 a2 a3 a4 a5 a6 k, LeO (sweep_family_decide.f k a0 a1 a2 a3 a4 a5 a6) (sweep_family_decide.f (k + 1) a0 a1 a2 a3 a4 a5 a6) := by
 intro a0 a1 a2 a3 a4 a5 a6 k
 obtain ⟨ih0, ih1, ih2⟩ := sweep_family_decide.mono_l k
 exact ih0 a0 a1 a2 a3 a4 a5 a6
set_option maxHeartbeats 8000000 in
set_option maxRecDepth 100000 in
theorem sweep_family_decide.calls (k : Nat) : ∀ (g : Nat) (s0_0 : List Int) (s0_1 : Int) (s0_2 : List Bool) (s0_3 : List (List Int)) (P1_ : Nat → Prop) (u9000_ : Value) (l1 : List Int) (a2 : Int) (a3 : Int) (r1 : Bool) (r2 : Int) (r3 : List Int) (w0 w : World) (hI : IsS96 w0 w g s0_0 s0_1 s0_2 s0_3) (hB : Below w0.heap.size w0 w) (ho1 : Kd.R (Kd.int .i8) 107 w w0.heap.size P1_ u9000_ l1) (h : sweep_family_decide.f k s0_0 s0_1 s0_2 s0_3 l1 a2 a3 = some (r1, r2, r3)),
  Calls Tryd.prog 82 #[.pointer (some ⟨g, 0, none⟩), u9000_, .int .i64 a2, .int .i8 a3] w fun e w' => e = .returned (.bool r1) ∧ IsS96 w0 w' g s0_0 r2 s0_2 s0_3 ∧ Kd.R (Kd.int .i8) 107 w' w0.heap.size (fun k_ => (P1_ k_ ∨ w.heap.size ≤ k_)) u9000_ r3 ∧ Below w0.heap.size w0 w' ∧ Kept w w' (fun k_ => (P1_ k_) ∨ k_ = g) := by
 induction k using Nat.strongRecOn with
 | _ k ih =>
 intro g s0_0 s0_1 s0_2 s0_3 P1_ u9000_ l1 a2 a3 r1 r2 r3 w0 w hI hB ho1 h
 cases k with
 | zero => exact absurd h (by simp [sweep_family_decide.f])
 | succ k =>
 simp only [sweep_family_decide.f] at h
 have HO1 := Aside0.mk (show Kd.R (Kd.int .i8) 107 w w0.heap.size (fun k_ => (P1_ k_ ∨ w.heap.size ≤ k_)) u9000_ l1 from Kd.R_mono ho1 (fun k_ hk => (.inl hk)))
 have HI0 := Aside0.mk hI
 have HL := Aside0.mk hB.size
 clear hI
 have HK := Aside0.mk (Kept.refl w (fun k_ => (P1_ k_) ∨ k_ = g))
 have HW0 := Aside0.mk hB.size
 have HB := Aside0.mk hB
 clear hB
 have H : (if 0 ≤ a2 then (if a2 < (l1.length : Int) then (if (rd l1 a2) = 0 then (sweep_family_decide.l0 k (l1.set (a2 : Int).toNat a3) a2 a3 s0_2 (s0_2.length : Int) 0 s0_0 s0_1 s0_2 s0_3) else (some (((rd l1 a2) == a3), s0_1, l1))) else (none)) else (none)) = some (r1, r2, r3) := h
 clear h
 by_cases c5 : 0 ≤ a2
 ·rw [if_pos c5] at H
  have c5b0 : decide (0 ≤ a2) = true := decide_eq_true c5
  clear c5
  by_cases c6 : a2 < (l1.length : Int)
  ·rw [if_pos c6] at H
   have c6b0 : decide (a2 < (l1.length : Int)) = true := decide_eq_true c6
   clear c6
   by_cases c7 : (rd l1 a2) = 0
   ·rw [if_pos c7] at H
    have c7b0 : ((rd l1 a2) == 0) = true := beq_iff_eq.mpr c7
    have c7b1 : ((rd l1 a2) != 0) = false := bne_eq_false_iff_eq.mpr c7
    clear c7
    obtain ⟨y430, hy430⟩ : ∃ y_ : List Int, y_ = (l1.set (a2 : Int).toNat a3) := ⟨_, rfl⟩
    replace H : (sweep_family_decide.l0 k y430 a2 a3 s0_2 (s0_2.length : Int) 0 s0_0 s0_1 s0_2 s0_3) = some (r1, r2, r3) := by first | (rw [hy430]; with_reducible exact H) | (have H2_ := (Option.bind_some _ _).symm.trans H; rw [hy430]; with_reducible exact H2_) | (have H2_ := (Option.bind_some _ _).symm.trans H; with_reducible exact H2_) | with_reducible exact H | (rw [hy430]; exact H) | exact H
    have Ny430 := Aside0.mk hy430
    clear hy430
    have H' := Aside0.mk H
    clear H
    obtain ⟨Ao9, co9, eo9⟩ := Kd.R_slice HO1.out
    subst eo9
    have p428 : 0 ≤ (a2 : Int) := of_decide_eq_true (by first | (with_reducible assumption) | assumption)
    have q428 : a2 < (l1.length : Int) := of_decide_eq_true (by first | (with_reducible assumption) | assumption)
    obtain ⟨ad428, e428, hx428_0⟩ := Kd.at_int (Kd.R_reads' HO1.out).2.2 a2 p428 q428
    cases e428
    replace p428 := eq_true p428
    replace q428 := eq_true q428
    have p8 : 0 ≤ (a2 : Int) := of_decide_eq_true (by first | (with_reducible assumption) | assumption)
    have q8 : (a2 : Int) < ((l1.length : Int) : Int) := of_decide_eq_true (by first | (with_reducible assumption) | assumption)
    obtain ⟨go8, co8, eo8, gb8, gl8, cl8, HG8⟩ := Kd.R_form HO1.out (by omega)
    (first | cases eo8 | (injection eo8 with ea_ en_ ec_; (first | subst ea_ | (injection ea_ with ea_; subst ea_)); subst ec_; clear en_))
    have GB8 := Aside0.mk gb8
    have GG8 := Aside0.mk HG8
    clear gb8 gl8 HG8
    have HMgo8 := Aside0.mk (show (P1_ go8 ∨ w.heap.size ≤ go8) from (HO1.out.1 _ rfl))
    (first | simp only [add_plain] at hx428_0 | skip)
    obtain ⟨hx8_0, hf8_0⟩ := Kd.R_celln 0 HO1.out (a2 : Int) p8 q8
    replace p8 := eq_true p8
    replace q8 := eq_true q8
    have HP10 := Kd.R_putg HO1.out (a2 : Int) a3
    go_enter Tryd.func82, Tryd.ntmps82
    go_wp2_with (first | ((with_reducible refine gate_store (t := 107) (p := 28) rfl ?_); refine store_event (t := 107) (p := 28) (v := ?vo_w11) (w1 := (w.setCell ⟨go8, (a2 : Int).toNat, none⟩ (.int .i8 a3))) ?hg ?ho ?hn ?hr ?_; (case ho => rfl); (case hg => rfl); (case hn => rfl); (case hr => first | (go_simp; done) | (go_simp; rfl)); intro w11 hw; have hg : w.grownBy w11 (some go8) := (by rw [hw]; exact HP10.2); have hp_ : Kd.R (Kd.int .i8) 107 w11 w0.heap.size (fun k_ => (P1_ k_ ∨ w.heap.size ≤ k_)) (.slice (some ⟨go8, 0, none⟩) l1.length co9) y430 := (by rw [hw, Ny430.out]; exact HP10.1); clear HP10; have n0_ := Aside0.mk (IsS96.grown (by repeat (first | (with_reducible first | exact HI0.out | apply IsS96.alloc | apply IsS96.drewN | apply IsS96.drew | apply IsS96.set_1) | exact HI0.out)) hg (IsS96.own_ne HI0.out HO1.out (by decide))); have n1_ := Aside0.mk (hp_); have n2_ := Aside0.mk ((by rw [hw]; exact below_set (HB.out) GB8.out : Below w0.heap.size w0 w11)); have n3_ := Aside0.mk (Kept.of_grown (S := (fun k_ => (P1_ k_) ∨ k_ = g)) hg (by repeat (first | (with_reducible first | exact HK.out | apply Kept.alloc | apply Kept.drewN | apply Kept.drew | refine Kept.setCell ?_ (.inl (.inr rfl)) _) | exact HK.out)) (fun k_ e_ => Or.imp_left Or.inl ((HO1.out.1 k_ e_)))); clear HI0; clear HO1; clear HB; clear HK; have HI0 := n0_; have HO1 := n1_; have HB := n2_; have HK := n3_; clear n0_ n1_ n2_ n3_; clear hg hw hp_; obtain ⟨ASz12_0, cSz12_0, ASz12_2, cSz12_2, ASz12_3, cSz12_3, HGz12, hgz12, HSz12_0, HSz12_2, HSz12_3⟩ := HI0.out; have hcz12_0 := cellS96_0 HGz12; have hcz12_1 := cellS96_1 HGz12; have hcz12_2 := cellS96_2 HGz12; have hcz12_3 := cellS96_3 HGz12; have hfz12_1 := blk_frozen HGz12 1; clear HGz12 hgz12))
    go_loopg [34] k (fun kq v34 w' => ∃ (x1_1 : List Int) (x34_1 : Int) (x1001_1 : Int), v34 = .int .i64 x34_1 ∧ Aside0 (sweep_family_decide.l0 kq x1_1 a2 a3 s0_2 (s0_2.length : Int) x34_1 s0_0 x1001_1 s0_2 s0_3 = some (r1, r2, r3)) ∧ Aside0 (kq ≤ k) ∧ Aside0 (Kd.R (Kd.int .i8) 107 w' w0.heap.size (fun k_ => (P1_ k_ ∨ w.heap.size ≤ k_)) (.slice (some ⟨go8, 0, none⟩) l1.length co9) x1_1) ∧ Aside0 (IsS96 w0 w' g s0_0 x1001_1 s0_2 s0_3) ∧ Aside0 (Kept w w' (fun k_ => (P1_ k_) ∨ k_ = g)) ∧ Aside0 (Below w0.heap.size w0 w'))
    case atStart => exact ⟨(y430), (0), (s0_1), (by first | rfl | (simp; done) | (simp [*]; done)), H', ⟨Nat.le_refl _⟩, ⟨by (with_reducible repeat (first | apply Kd.R_alloc | apply Kd.R_drewN | apply Kd.R_drew)); exact HO1.out⟩, ⟨by repeat (first | (with_reducible first | exact HI0.out | apply IsS96.alloc | apply IsS96.drewN | apply IsS96.drew | apply IsS96.set_1) | exact HI0.out)⟩, ⟨by repeat (first | (with_reducible first | exact HK.out | apply Kept.alloc | apply Kept.drewN | apply Kept.drew | refine Kept.setCell ?_ (.inl (.inr rfl)) _) | exact HK.out)⟩, ⟨by repeat (first | (with_reducible first | exact HB.out | apply below_alloc | apply pw_below_drewN | apply below_drew1 | refine below_set ?_ (IsS96.ge HI0.out)) | exact HB.out)⟩⟩
    case round =>
     clear H'
     try clear p2
     try clear p4
     try clear q4
     try clear hx4
     try clear c5
     try clear c5b0
     try clear c6
     try clear c6b0
     try clear c7
     try clear c7b0
     try clear c7b1
     try clear c8
     try clear p8
     try clear q8
     try clear hx8
     try clear hf8
     try clear hcz12_0
     try clear hcz12_1
     try clear hcz12_2
     try clear hcz12_3
     try clear hfz12_1
     try clear hx428_0
     try clear hx8_0
     try clear p428
     try clear p8
     try clear q428
     try clear q8
     obtain ⟨x1_1, x34_1, x1001_1, rfl, HA, HK1, HO_1, HI0, HK, HB⟩ := hrel
     have hl1_1 := (Kd.R_reads' HO_1.out).1
     rw [hl1_1] at HO_1
     (try simp only [hl1_1])
     cases gk with
     | zero => exact absurd HA.out (by simp [sweep_family_decide.l0])
     | succ k1 =>
      have H := HA.out
      clear HA
      simp only [sweep_family_decide.l0] at H
      by_cases c13 : x34_1 < (s0_2.length : Int)
      ·rw [if_pos c13] at H
       have c13b0 : decide (x34_1 < (s0_2.length : Int)) = true := decide_eq_true c13
       clear c13
       by_cases c14 : 0 ≤ x34_1
       ·rw [if_pos c14] at H
        have c14b0 : decide (0 ≤ x34_1) = true := decide_eq_true c14
        clear c14
        by_cases c15 : x34_1 < (s0_2.length : Int)
        ·rw [if_pos c15] at H
         have c15b0 : decide (x34_1 < (s0_2.length : Int)) = true := decide_eq_true c15
         clear c15
         by_cases c16 : a3 = 1
         ·rw [if_pos c16] at H
          have c16b0 : (a3 == 1) = true := beq_iff_eq.mpr c16
          have c16b1 : (a3 != 1) = false := bne_eq_false_iff_eq.mpr c16
          clear c16
          by_cases c17 : (Go.bits .andNot .i64 x34_1 a2) = 0
          ·rw [if_pos c17] at H
           have c17b0 : ((Go.bits .andNot .i64 x34_1 a2) == 0) = true := beq_iff_eq.mpr c17
           have c17b1 : ((Go.bits .andNot .i64 x34_1 a2) != 0) = false := bne_eq_false_iff_eq.mpr c17
           clear c17
           obtain ⟨bq18, hbq18⟩ : ∃ b_ : Bool, b_ = (rdOf false s0_2 x34_1) := ⟨_, rfl⟩
           replace H : (if bq18 = true then ((sweep_family_decide.f k1 s0_0 x1001_1 s0_2 s0_3 x1_1 x34_1 a3).bind fun bt432 => (if bt432.1 = true then (sweep_family_decide.l0 k1 bt432.2.2 a2 a3 s0_2 (s0_2.length : Int) (wrap64 (x34_1 + 1)) s0_0 bt432.2.1 s0_2 s0_3) else (some (false, bt432.2.1, bt432.2.2)))) else (sweep_family_decide.l0 k1 x1_1 a2 a3 s0_2 (s0_2.length : Int) (wrap64 (x34_1 + 1)) s0_0 x1001_1 s0_2 s0_3)) = some (r1, r2, r3) := by rw [← hbq18] at H; exact H
           have Nbq18 := Aside0.mk hbq18
           clear hbq18
           by_cases c19 : bq18 = true
           ·subst c19
            have H1 : ((sweep_family_decide.f k1 s0_0 x1001_1 s0_2 s0_3 x1_1 x34_1 a3).bind fun bt432 => (if bt432.1 = true then (sweep_family_decide.l0 k1 bt432.2.2 a2 a3 s0_2 (s0_2.length : Int) (wrap64 (x34_1 + 1)) s0_0 bt432.2.1 s0_2 s0_3) else (some (false, bt432.2.1, bt432.2.2)))) = some (r1, r2, r3) := by rw [if_pos rfl] at H; exact H
            clear H
            have H := H1
            clear H1
            replace H := Option.bind_eq_some_iff.mp H
            obtain ⟨⟨t432, t433, t434⟩, A200, H⟩ := H
            replace H : (if t432 = true then (sweep_family_decide.l0 k1 t434 a2 a3 s0_2 (s0_2.length : Int) (wrap64 (x34_1 + 1)) s0_0 t433 s0_2 s0_3) else (some (false, t433, t434))) = some (r1, r2, r3) := H
            have A20 := Aside0.mk A200
            clear A200
            by_cases c21 : t432 = true
            ·subst c21
             have H1 : (sweep_family_decide.l0 k1 t434 a2 a3 s0_2 (s0_2.length : Int) (wrap64 (x34_1 + 1)) s0_0 t433 s0_2 s0_3) = some (r1, r2, r3) := by rw [if_pos rfl] at H; exact H
             clear H
             have H := H1
             clear H1
             have H' := Aside0.mk H
             clear H
             obtain ⟨ASz22_0, cSz22_0, ASz22_2, cSz22_2, ASz22_3, cSz22_3, HGz22, hgz22, HSz22_0, HSz22_2, HSz22_3⟩ := HI0.out
             have hcz22_0 := cellS96_0 HGz22
             have hcz22_1 := cellS96_1 HGz22
             have hcz22_2 := cellS96_2 HGz22
             have hcz22_3 := cellS96_3 HGz22
             have hfz22_1 := blk_frozen HGz22 1
             clear HGz22 hgz22
             have p431 : 0 ≤ (x34_1 : Int) := of_decide_eq_true (by first | (with_reducible assumption) | assumption)
             have q431 : x34_1 < (s0_2.length : Int) := of_decide_eq_true (by first | (with_reducible assumption) | assumption)
             obtain ⟨ad431, e431, hx431_0⟩ := Kd.at_bool HSz12_2 x34_1 p431 q431
             (try rw [← Nbq18.out] at hx431_0)
             cases e431
             replace hx431_0 := pw_cell_below HB.out hx431_0
             replace p431 := eq_true p431
             replace q431 := eq_true q431
             go_wp2_with (first | (go_at_call 82; (with_reducible refine (ih k1 (by have := HK1.out; omega) g s0_0 x1001_1 s0_2 s0_3 (fun k_ => some k_ = (.slice (some ⟨go8, 0, none⟩) x1_1.length co9 : Value).ownBlock) (.slice (some ⟨go8, 0, none⟩) x1_1.length co9) x1_1 x34_1 a3 true t433 t434 w0 _ ?side1 ?side2 ?side3 A20.out).mono ?_); (case side1 => repeat (first | (with_reducible first | exact HI0.out | apply IsS96.alloc | apply IsS96.drewN | apply IsS96.drew | apply IsS96.set_1) | exact HI0.out)); (case side2 => repeat (first | (with_reducible first | exact HB.out | apply below_alloc | apply pw_below_drewN | apply below_drew1 | refine below_set ?_ (IsS96.ge HI0.out)) | exact HB.out)); (case side3 => exact Kd.R_tight rfl HO_1.out); rintro e w23 ⟨rfl, hi, hy0, hb, hkp⟩; have n0_ := Aside0.mk (Kd.R_reok rfl hy0 (fun k_ e_ => HO_1.out.1 k_ e_)); have n1_ := Aside0.mk (hi); have n2_ := Aside0.mk (Kept.then_ (S := (fun k_ => (P1_ k_) ∨ k_ = g)) (by repeat (first | (with_reducible first | exact HK.out | apply Kept.alloc | apply Kept.drewN | apply Kept.drew | refine Kept.setCell ?_ (.inl (.inr rfl)) _) | exact HK.out)) hkp (fun k_ hs_ => Or.elim hs_ (fun hs_ => (fun e_ => Or.imp_left Or.inl ((HO_1.out.1 k_ e_.symm))) hs_) (fun e_ => .inl (.inr e_)))); have n3_ := Aside0.mk (hb); clear HO_1; clear HI0; clear HK; clear HB; have HO_1 := n0_; have HI0 := n1_; have HK := n2_; have HB := n3_; clear n0_ n1_ n2_ n3_; (try clear hb); (try clear hkp); (try clear hy0)))
             (try simp only [← hl1_1])
             go_roundg k1
             case measure => have := HK1.out; omega
             case rel => exact ⟨(t434), (wrap64 (x34_1 + 1)), (t433), (by first | rfl | (simp; done) | (simp [*]; done)), H', ⟨by have := HK1.out; omega⟩, ⟨by (try simp only [hl1_1]); (with_reducible repeat (first | apply Kd.R_alloc | apply Kd.R_drewN | apply Kd.R_drew)); exact HO_1.out⟩, ⟨by repeat (first | (with_reducible first | exact HI0.out | apply IsS96.alloc | apply IsS96.drewN | apply IsS96.drew | apply IsS96.set_1) | exact HI0.out)⟩, ⟨by repeat (first | (with_reducible first | exact HK.out | apply Kept.alloc | apply Kept.drewN | apply Kept.drew | refine Kept.setCell ?_ (.inl (.inr rfl)) _) | exact HK.out)⟩, ⟨by repeat (first | (with_reducible first | exact HB.out | apply below_alloc | apply pw_below_drewN | apply below_drew1 | refine below_set ?_ (IsS96.ge HI0.out)) | exact HB.out)⟩⟩
            ·replace c21 := Bool.eq_false_iff.mpr c21
             subst c21
             have H1 : (some (false, t433, t434)) = some (r1, r2, r3) := by rw [if_neg (show ¬ (false = true) by decide)] at H; exact H
             clear H
             have H := H1
             clear H1
             simp only [Option.some.injEq, Prod.mk.injEq] at H
             obtain ⟨rfl, rfl, rfl⟩ := H
             obtain ⟨ASz24_0, cSz24_0, ASz24_2, cSz24_2, ASz24_3, cSz24_3, HGz24, hgz24, HSz24_0, HSz24_2, HSz24_3⟩ := HI0.out
             have hcz24_0 := cellS96_0 HGz24
             have hcz24_1 := cellS96_1 HGz24
             have hcz24_2 := cellS96_2 HGz24
             have hcz24_3 := cellS96_3 HGz24
             have hfz24_1 := blk_frozen HGz24 1
             clear HGz24 hgz24
             have p431 : 0 ≤ (x34_1 : Int) := of_decide_eq_true (by first | (with_reducible assumption) | assumption)
             have q431 : x34_1 < (s0_2.length : Int) := of_decide_eq_true (by first | (with_reducible assumption) | assumption)
             obtain ⟨ad431, e431, hx431_0⟩ := Kd.at_bool HSz12_2 x34_1 p431 q431
             (try rw [← Nbq18.out] at hx431_0)
             cases e431
             replace hx431_0 := pw_cell_below HB.out hx431_0
             replace p431 := eq_true p431
             replace q431 := eq_true q431
             go_wp2_with (first | (go_at_call 82; (with_reducible refine (ih k1 (by have := HK1.out; omega) g s0_0 x1001_1 s0_2 s0_3 (fun k_ => some k_ = (.slice (some ⟨go8, 0, none⟩) x1_1.length co9 : Value).ownBlock) (.slice (some ⟨go8, 0, none⟩) x1_1.length co9) x1_1 x34_1 a3 false t433 t434 w0 _ ?side1 ?side2 ?side3 A20.out).mono ?_); (case side1 => repeat (first | (with_reducible first | exact HI0.out | apply IsS96.alloc | apply IsS96.drewN | apply IsS96.drew | apply IsS96.set_1) | exact HI0.out)); (case side2 => repeat (first | (with_reducible first | exact HB.out | apply below_alloc | apply pw_below_drewN | apply below_drew1 | refine below_set ?_ (IsS96.ge HI0.out)) | exact HB.out)); (case side3 => exact Kd.R_tight rfl HO_1.out); rintro e w25 ⟨rfl, hi, hy0, hb, hkp⟩; have n0_ := Aside0.mk (Kd.R_reok rfl hy0 (fun k_ e_ => HO_1.out.1 k_ e_)); have n1_ := Aside0.mk (hi); have n2_ := Aside0.mk (Kept.then_ (S := (fun k_ => (P1_ k_) ∨ k_ = g)) (by repeat (first | (with_reducible first | exact HK.out | apply Kept.alloc | apply Kept.drewN | apply Kept.drew | refine Kept.setCell ?_ (.inl (.inr rfl)) _) | exact HK.out)) hkp (fun k_ hs_ => Or.elim hs_ (fun hs_ => (fun e_ => Or.imp_left Or.inl ((HO_1.out.1 k_ e_.symm))) hs_) (fun e_ => .inl (.inr e_)))); have n3_ := Aside0.mk (hb); clear HO_1; clear HI0; clear HK; clear HB; have HO_1 := n0_; have HI0 := n1_; have HK := n2_; have HB := n3_; clear n0_ n1_ n2_ n3_; (try clear hb); (try clear hkp); (try clear hy0)))
             go_ret
             exact ⟨by first | rfl | (simp [errW_none, errW_some] <;> rfl) | (simp [*, errW_none, errW_some] <;> rfl), by repeat (first | (with_reducible first | exact HI0.out | apply IsS96.alloc | apply IsS96.drewN | apply IsS96.drew | apply IsS96.set_1) | exact HI0.out), (by first | exact (by (with_reducible repeat (first | apply Kd.R_alloc | apply Kd.R_drewN | apply Kd.R_drew)); exact HO_1.out) | (simp only [hl1_1]; exact (by (with_reducible repeat (first | apply Kd.R_alloc | apply Kd.R_drewN | apply Kd.R_drew)); exact HO_1.out))), by repeat (first | (with_reducible first | exact HB.out | apply below_alloc | apply pw_below_drewN | apply below_drew1 | refine below_set ?_ (IsS96.ge HI0.out)) | exact HB.out), by repeat (first | (with_reducible first | exact HK.out | apply Kept.alloc | apply Kept.drewN | apply Kept.drew | refine Kept.setCell ?_ (.inl (.inr rfl)) _) | exact HK.out)⟩
           ·replace c19 := Bool.eq_false_iff.mpr c19
            subst c19
            have H1 : (sweep_family_decide.l0 k1 x1_1 a2 a3 s0_2 (s0_2.length : Int) (wrap64 (x34_1 + 1)) s0_0 x1001_1 s0_2 s0_3) = some (r1, r2, r3) := by rw [if_neg (show ¬ (false = true) by decide)] at H; exact H
            clear H
            have H := H1
            clear H1
            have H' := Aside0.mk H
            clear H
            obtain ⟨ASz26_0, cSz26_0, ASz26_2, cSz26_2, ASz26_3, cSz26_3, HGz26, hgz26, HSz26_0, HSz26_2, HSz26_3⟩ := HI0.out
            have hcz26_0 := cellS96_0 HGz26
            have hcz26_1 := cellS96_1 HGz26
            have hcz26_2 := cellS96_2 HGz26
            have hcz26_3 := cellS96_3 HGz26
            have hfz26_1 := blk_frozen HGz26 1
            clear HGz26 hgz26
            have p431 : 0 ≤ (x34_1 : Int) := of_decide_eq_true (by first | (with_reducible assumption) | assumption)
            have q431 : x34_1 < (s0_2.length : Int) := of_decide_eq_true (by first | (with_reducible assumption) | assumption)
            obtain ⟨ad431, e431, hx431_0⟩ := Kd.at_bool HSz12_2 x34_1 p431 q431
            (try rw [← Nbq18.out] at hx431_0)
            cases e431
            replace hx431_0 := pw_cell_below HB.out hx431_0
            replace p431 := eq_true p431
            replace q431 := eq_true q431
            go_wp2
            (try simp only [← hl1_1])
            go_roundg k1
            case measure => have := HK1.out; omega
            case rel => exact ⟨(x1_1), (wrap64 (x34_1 + 1)), (x1001_1), (by first | rfl | (simp; done) | (simp [*]; done)), H', ⟨by have := HK1.out; omega⟩, ⟨by (try simp only [hl1_1]); (with_reducible repeat (first | apply Kd.R_alloc | apply Kd.R_drewN | apply Kd.R_drew)); exact HO_1.out⟩, ⟨by repeat (first | (with_reducible first | exact HI0.out | apply IsS96.alloc | apply IsS96.drewN | apply IsS96.drew | apply IsS96.set_1) | exact HI0.out)⟩, ⟨by repeat (first | (with_reducible first | exact HK.out | apply Kept.alloc | apply Kept.drewN | apply Kept.drew | refine Kept.setCell ?_ (.inl (.inr rfl)) _) | exact HK.out)⟩, ⟨by repeat (first | (with_reducible first | exact HB.out | apply below_alloc | apply pw_below_drewN | apply below_drew1 | refine below_set ?_ (IsS96.ge HI0.out)) | exact HB.out)⟩⟩
          ·rw [if_neg c17] at H
           have c17b0 : ((Go.bits .andNot .i64 x34_1 a2) == 0) = false := beq_eq_false_iff_ne.mpr c17
           have c17b1 : ((Go.bits .andNot .i64 x34_1 a2) != 0) = true := bne_iff_ne.mpr c17
           by_cases c27 : a3 = 2
           ·rw [if_pos c27] at H
            have c27b0 : (a3 == 2) = true := beq_iff_eq.mpr c27
            have c27b1 : (a3 != 2) = false := bne_eq_false_iff_eq.mpr c27
            clear c27
            obtain ⟨bq28, hbq28⟩ : ∃ b_ : Bool, b_ = (rdOf false s0_2 x34_1) := ⟨_, rfl⟩
            replace H : (if bq28 = true then (if (Go.bits .andNot .i64 a2 x34_1) = 0 then ((sweep_family_decide.f k1 s0_0 x1001_1 s0_2 s0_3 x1_1 x34_1 a3).bind fun bt435 => (if bt435.1 = true then (sweep_family_decide.l0 k1 bt435.2.2 a2 a3 s0_2 (s0_2.length : Int) (wrap64 (x34_1 + 1)) s0_0 bt435.2.1 s0_2 s0_3) else (some (false, bt435.2.1, bt435.2.2)))) else (sweep_family_decide.l0 k1 x1_1 a2 a3 s0_2 (s0_2.length : Int) (wrap64 (x34_1 + 1)) s0_0 x1001_1 s0_2 s0_3)) else (sweep_family_decide.l0 k1 x1_1 a2 a3 s0_2 (s0_2.length : Int) (wrap64 (x34_1 + 1)) s0_0 x1001_1 s0_2 s0_3)) = some (r1, r2, r3) := by rw [← hbq28] at H; exact H
            have Nbq28 := Aside0.mk hbq28
            clear hbq28
            by_cases c29 : bq28 = true
            ·subst c29
             have H1 : (if (Go.bits .andNot .i64 a2 x34_1) = 0 then ((sweep_family_decide.f k1 s0_0 x1001_1 s0_2 s0_3 x1_1 x34_1 a3).bind fun bt435 => (if bt435.1 = true then (sweep_family_decide.l0 k1 bt435.2.2 a2 a3 s0_2 (s0_2.length : Int) (wrap64 (x34_1 + 1)) s0_0 bt435.2.1 s0_2 s0_3) else (some (false, bt435.2.1, bt435.2.2)))) else (sweep_family_decide.l0 k1 x1_1 a2 a3 s0_2 (s0_2.length : Int) (wrap64 (x34_1 + 1)) s0_0 x1001_1 s0_2 s0_3)) = some (r1, r2, r3) := by rw [if_pos rfl] at H; exact H
             clear H
             have H := H1
             clear H1
             by_cases c30 : (Go.bits .andNot .i64 a2 x34_1) = 0
             ·rw [if_pos c30] at H
              have c30b0 : ((Go.bits .andNot .i64 a2 x34_1) == 0) = true := beq_iff_eq.mpr c30
              have c30b1 : ((Go.bits .andNot .i64 a2 x34_1) != 0) = false := bne_eq_false_iff_eq.mpr c30
              clear c30
              replace H := Option.bind_eq_some_iff.mp H
              obtain ⟨⟨t435, t436, t437⟩, A310, H⟩ := H
              replace H : (if t435 = true then (sweep_family_decide.l0 k1 t437 a2 a3 s0_2 (s0_2.length : Int) (wrap64 (x34_1 + 1)) s0_0 t436 s0_2 s0_3) else (some (false, t436, t437))) = some (r1, r2, r3) := H
              have A31 := Aside0.mk A310
              clear A310
              by_cases c32 : t435 = true
              ·subst c32
               have H1 : (sweep_family_decide.l0 k1 t437 a2 a3 s0_2 (s0_2.length : Int) (wrap64 (x34_1 + 1)) s0_0 t436 s0_2 s0_3) = some (r1, r2, r3) := by rw [if_pos rfl] at H; exact H
               clear H
               have H := H1
               clear H1
               have H' := Aside0.mk H
               clear H
               obtain ⟨ASz33_0, cSz33_0, ASz33_2, cSz33_2, ASz33_3, cSz33_3, HGz33, hgz33, HSz33_0, HSz33_2, HSz33_3⟩ := HI0.out
               have hcz33_0 := cellS96_0 HGz33
               have hcz33_1 := cellS96_1 HGz33
               have hcz33_2 := cellS96_2 HGz33
               have hcz33_3 := cellS96_3 HGz33
               have hfz33_1 := blk_frozen HGz33 1
               clear HGz33 hgz33
               have p431 : 0 ≤ (x34_1 : Int) := of_decide_eq_true (by first | (with_reducible assumption) | assumption)
               have q431 : x34_1 < (s0_2.length : Int) := of_decide_eq_true (by first | (with_reducible assumption) | assumption)
               obtain ⟨ad431, e431, hx431_0⟩ := Kd.at_bool HSz12_2 x34_1 p431 q431
               (try rw [← Nbq28.out] at hx431_0)
               cases e431
               replace hx431_0 := pw_cell_below HB.out hx431_0
               replace p431 := eq_true p431
               replace q431 := eq_true q431
               go_wp2_with (first | (go_at_call 82; (with_reducible refine (ih k1 (by have := HK1.out; omega) g s0_0 x1001_1 s0_2 s0_3 (fun k_ => some k_ = (.slice (some ⟨go8, 0, none⟩) x1_1.length co9 : Value).ownBlock) (.slice (some ⟨go8, 0, none⟩) x1_1.length co9) x1_1 x34_1 a3 true t436 t437 w0 _ ?side1 ?side2 ?side3 A31.out).mono ?_); (case side1 => repeat (first | (with_reducible first | exact HI0.out | apply IsS96.alloc | apply IsS96.drewN | apply IsS96.drew | apply IsS96.set_1) | exact HI0.out)); (case side2 => repeat (first | (with_reducible first | exact HB.out | apply below_alloc | apply pw_below_drewN | apply below_drew1 | refine below_set ?_ (IsS96.ge HI0.out)) | exact HB.out)); (case side3 => exact Kd.R_tight rfl HO_1.out); rintro e w34 ⟨rfl, hi, hy0, hb, hkp⟩; have n0_ := Aside0.mk (Kd.R_reok rfl hy0 (fun k_ e_ => HO_1.out.1 k_ e_)); have n1_ := Aside0.mk (hi); have n2_ := Aside0.mk (Kept.then_ (S := (fun k_ => (P1_ k_) ∨ k_ = g)) (by repeat (first | (with_reducible first | exact HK.out | apply Kept.alloc | apply Kept.drewN | apply Kept.drew | refine Kept.setCell ?_ (.inl (.inr rfl)) _) | exact HK.out)) hkp (fun k_ hs_ => Or.elim hs_ (fun hs_ => (fun e_ => Or.imp_left Or.inl ((HO_1.out.1 k_ e_.symm))) hs_) (fun e_ => .inl (.inr e_)))); have n3_ := Aside0.mk (hb); clear HO_1; clear HI0; clear HK; clear HB; have HO_1 := n0_; have HI0 := n1_; have HK := n2_; have HB := n3_; clear n0_ n1_ n2_ n3_; (try clear hb); (try clear hkp); (try clear hy0)))
               (try simp only [← hl1_1])
               go_roundg k1
               case measure => have := HK1.out; omega
               case rel => exact ⟨(t437), (wrap64 (x34_1 + 1)), (t436), (by first | rfl | (simp; done) | (simp [*]; done)), H', ⟨by have := HK1.out; omega⟩, ⟨by (try simp only [hl1_1]); (with_reducible repeat (first | apply Kd.R_alloc | apply Kd.R_drewN | apply Kd.R_drew)); exact HO_1.out⟩, ⟨by repeat (first | (with_reducible first | exact HI0.out | apply IsS96.alloc | apply IsS96.drewN | apply IsS96.drew | apply IsS96.set_1) | exact HI0.out)⟩, ⟨by repeat (first | (with_reducible first | exact HK.out | apply Kept.alloc | apply Kept.drewN | apply Kept.drew | refine Kept.setCell ?_ (.inl (.inr rfl)) _) | exact HK.out)⟩, ⟨by repeat (first | (with_reducible first | exact HB.out | apply below_alloc | apply pw_below_drewN | apply below_drew1 | refine below_set ?_ (IsS96.ge HI0.out)) | exact HB.out)⟩⟩
              ·replace c32 := Bool.eq_false_iff.mpr c32
               subst c32
               have H1 : (some (false, t436, t437)) = some (r1, r2, r3) := by rw [if_neg (show ¬ (false = true) by decide)] at H; exact H
               clear H
               have H := H1
               clear H1
               simp only [Option.some.injEq, Prod.mk.injEq] at H
               obtain ⟨rfl, rfl, rfl⟩ := H
               obtain ⟨ASz35_0, cSz35_0, ASz35_2, cSz35_2, ASz35_3, cSz35_3, HGz35, hgz35, HSz35_0, HSz35_2, HSz35_3⟩ := HI0.out
               have hcz35_0 := cellS96_0 HGz35
               have hcz35_1 := cellS96_1 HGz35
               have hcz35_2 := cellS96_2 HGz35
               have hcz35_3 := cellS96_3 HGz35
               have hfz35_1 := blk_frozen HGz35 1
               clear HGz35 hgz35
               have p431 : 0 ≤ (x34_1 : Int) := of_decide_eq_true (by first | (with_reducible assumption) | assumption)
               have q431 : x34_1 < (s0_2.length : Int) := of_decide_eq_true (by first | (with_reducible assumption) | assumption)
               obtain ⟨ad431, e431, hx431_0⟩ := Kd.at_bool HSz12_2 x34_1 p431 q431
               (try rw [← Nbq28.out] at hx431_0)
               cases e431
               replace hx431_0 := pw_cell_below HB.out hx431_0
               replace p431 := eq_true p431
               replace q431 := eq_true q431
               go_wp2_with (first | (go_at_call 82; (with_reducible refine (ih k1 (by have := HK1.out; omega) g s0_0 x1001_1 s0_2 s0_3 (fun k_ => some k_ = (.slice (some ⟨go8, 0, none⟩) x1_1.length co9 : Value).ownBlock) (.slice (some ⟨go8, 0, none⟩) x1_1.length co9) x1_1 x34_1 a3 false t436 t437 w0 _ ?side1 ?side2 ?side3 A31.out).mono ?_); (case side1 => repeat (first | (with_reducible first | exact HI0.out | apply IsS96.alloc | apply IsS96.drewN | apply IsS96.drew | apply IsS96.set_1) | exact HI0.out)); (case side2 => repeat (first | (with_reducible first | exact HB.out | apply below_alloc | apply pw_below_drewN | apply below_drew1 | refine below_set ?_ (IsS96.ge HI0.out)) | exact HB.out)); (case side3 => exact Kd.R_tight rfl HO_1.out); rintro e w36 ⟨rfl, hi, hy0, hb, hkp⟩; have n0_ := Aside0.mk (Kd.R_reok rfl hy0 (fun k_ e_ => HO_1.out.1 k_ e_)); have n1_ := Aside0.mk (hi); have n2_ := Aside0.mk (Kept.then_ (S := (fun k_ => (P1_ k_) ∨ k_ = g)) (by repeat (first | (with_reducible first | exact HK.out | apply Kept.alloc | apply Kept.drewN | apply Kept.drew | refine Kept.setCell ?_ (.inl (.inr rfl)) _) | exact HK.out)) hkp (fun k_ hs_ => Or.elim hs_ (fun hs_ => (fun e_ => Or.imp_left Or.inl ((HO_1.out.1 k_ e_.symm))) hs_) (fun e_ => .inl (.inr e_)))); have n3_ := Aside0.mk (hb); clear HO_1; clear HI0; clear HK; clear HB; have HO_1 := n0_; have HI0 := n1_; have HK := n2_; have HB := n3_; clear n0_ n1_ n2_ n3_; (try clear hb); (try clear hkp); (try clear hy0)))
               go_ret
               exact ⟨by first | rfl | (simp [errW_none, errW_some] <;> rfl) | (simp [*, errW_none, errW_some] <;> rfl), by repeat (first | (with_reducible first | exact HI0.out | apply IsS96.alloc | apply IsS96.drewN | apply IsS96.drew | apply IsS96.set_1) | exact HI0.out), (by first | exact (by (with_reducible repeat (first | apply Kd.R_alloc | apply Kd.R_drewN | apply Kd.R_drew)); exact HO_1.out) | (simp only [hl1_1]; exact (by (with_reducible repeat (first | apply Kd.R_alloc | apply Kd.R_drewN | apply Kd.R_drew)); exact HO_1.out))), by repeat (first | (with_reducible first | exact HB.out | apply below_alloc | apply pw_below_drewN | apply below_drew1 | refine below_set ?_ (IsS96.ge HI0.out)) | exact HB.out), by repeat (first | (with_reducible first | exact HK.out | apply Kept.alloc | apply Kept.drewN | apply Kept.drew | refine Kept.setCell ?_ (.inl (.inr rfl)) _) | exact HK.out)⟩
             ·rw [if_neg c30] at H
              have c30b0 : ((Go.bits .andNot .i64 a2 x34_1) == 0) = false := beq_eq_false_iff_ne.mpr c30
              have c30b1 : ((Go.bits .andNot .i64 a2 x34_1) != 0) = true := bne_iff_ne.mpr c30
              have H' := Aside0.mk H
              clear H
              obtain ⟨ASz37_0, cSz37_0, ASz37_2, cSz37_2, ASz37_3, cSz37_3, HGz37, hgz37, HSz37_0, HSz37_2, HSz37_3⟩ := HI0.out
              have hcz37_0 := cellS96_0 HGz37
              have hcz37_1 := cellS96_1 HGz37
              have hcz37_2 := cellS96_2 HGz37
              have hcz37_3 := cellS96_3 HGz37
              have hfz37_1 := blk_frozen HGz37 1
              clear HGz37 hgz37
              have p431 : 0 ≤ (x34_1 : Int) := of_decide_eq_true (by first | (with_reducible assumption) | assumption)
              have q431 : x34_1 < (s0_2.length : Int) := of_decide_eq_true (by first | (with_reducible assumption) | assumption)
              obtain ⟨ad431, e431, hx431_0⟩ := Kd.at_bool HSz12_2 x34_1 p431 q431
              (try rw [← Nbq28.out] at hx431_0)
              cases e431
              replace hx431_0 := pw_cell_below HB.out hx431_0
              replace p431 := eq_true p431
              replace q431 := eq_true q431
              go_wp2
              (try simp only [← hl1_1])
              go_roundg k1
              case measure => have := HK1.out; omega
              case rel => exact ⟨(x1_1), (wrap64 (x34_1 + 1)), (x1001_1), (by first | rfl | (simp; done) | (simp [*]; done)), H', ⟨by have := HK1.out; omega⟩, ⟨by (try simp only [hl1_1]); (with_reducible repeat (first | apply Kd.R_alloc | apply Kd.R_drewN | apply Kd.R_drew)); exact HO_1.out⟩, ⟨by repeat (first | (with_reducible first | exact HI0.out | apply IsS96.alloc | apply IsS96.drewN | apply IsS96.drew | apply IsS96.set_1) | exact HI0.out)⟩, ⟨by repeat (first | (with_reducible first | exact HK.out | apply Kept.alloc | apply Kept.drewN | apply Kept.drew | refine Kept.setCell ?_ (.inl (.inr rfl)) _) | exact HK.out)⟩, ⟨by repeat (first | (with_reducible first | exact HB.out | apply below_alloc | apply pw_below_drewN | apply below_drew1 | refine below_set ?_ (IsS96.ge HI0.out)) | exact HB.out)⟩⟩
            ·replace c29 := Bool.eq_false_iff.mpr c29
             subst c29
             have H1 : (sweep_family_decide.l0 k1 x1_1 a2 a3 s0_2 (s0_2.length : Int) (wrap64 (x34_1 + 1)) s0_0 x1001_1 s0_2 s0_3) = some (r1, r2, r3) := by rw [if_neg (show ¬ (false = true) by decide)] at H; exact H
             clear H
             have H := H1
             clear H1
             have H' := Aside0.mk H
             clear H
             obtain ⟨ASz38_0, cSz38_0, ASz38_2, cSz38_2, ASz38_3, cSz38_3, HGz38, hgz38, HSz38_0, HSz38_2, HSz38_3⟩ := HI0.out
             have hcz38_0 := cellS96_0 HGz38
             have hcz38_1 := cellS96_1 HGz38
             have hcz38_2 := cellS96_2 HGz38
             have hcz38_3 := cellS96_3 HGz38
             have hfz38_1 := blk_frozen HGz38 1
             clear HGz38 hgz38
             have p431 : 0 ≤ (x34_1 : Int) := of_decide_eq_true (by first | (with_reducible assumption) | assumption)
             have q431 : x34_1 < (s0_2.length : Int) := of_decide_eq_true (by first | (with_reducible assumption) | assumption)
             obtain ⟨ad431, e431, hx431_0⟩ := Kd.at_bool HSz12_2 x34_1 p431 q431
             (try rw [← Nbq28.out] at hx431_0)
             cases e431
             replace hx431_0 := pw_cell_below HB.out hx431_0
             replace p431 := eq_true p431
             replace q431 := eq_true q431
             go_wp2
             (try simp only [← hl1_1])
             go_roundg k1
             case measure => have := HK1.out; omega
             case rel => exact ⟨(x1_1), (wrap64 (x34_1 + 1)), (x1001_1), (by first | rfl | (simp; done) | (simp [*]; done)), H', ⟨by have := HK1.out; omega⟩, ⟨by (try simp only [hl1_1]); (with_reducible repeat (first | apply Kd.R_alloc | apply Kd.R_drewN | apply Kd.R_drew)); exact HO_1.out⟩, ⟨by repeat (first | (with_reducible first | exact HI0.out | apply IsS96.alloc | apply IsS96.drewN | apply IsS96.drew | apply IsS96.set_1) | exact HI0.out)⟩, ⟨by repeat (first | (with_reducible first | exact HK.out | apply Kept.alloc | apply Kept.drewN | apply Kept.drew | refine Kept.setCell ?_ (.inl (.inr rfl)) _) | exact HK.out)⟩, ⟨by repeat (first | (with_reducible first | exact HB.out | apply below_alloc | apply pw_below_drewN | apply below_drew1 | refine below_set ?_ (IsS96.ge HI0.out)) | exact HB.out)⟩⟩
           ·rw [if_neg c27] at H
            have c27b0 : (a3 == 2) = false := beq_eq_false_iff_ne.mpr c27
            have c27b1 : (a3 != 2) = true := bne_iff_ne.mpr c27
            obtain ⟨bq39, hbq39⟩ : ∃ b_ : Bool, b_ = (rdOf false s0_2 x34_1) := ⟨_, rfl⟩
            replace H : (if bq39 = true then (sweep_family_decide.l0 k1 x1_1 a2 a3 s0_2 (s0_2.length : Int) (wrap64 (x34_1 + 1)) s0_0 x1001_1 s0_2 s0_3) else (sweep_family_decide.l0 k1 x1_1 a2 a3 s0_2 (s0_2.length : Int) (wrap64 (x34_1 + 1)) s0_0 x1001_1 s0_2 s0_3)) = some (r1, r2, r3) := by rw [← hbq39] at H; exact H
            have Nbq39 := Aside0.mk hbq39
            clear hbq39
            by_cases c40 : bq39 = true
            ·subst c40
             have H1 : (sweep_family_decide.l0 k1 x1_1 a2 a3 s0_2 (s0_2.length : Int) (wrap64 (x34_1 + 1)) s0_0 x1001_1 s0_2 s0_3) = some (r1, r2, r3) := by rw [if_pos rfl] at H; exact H
             clear H
             have H := H1
             clear H1
             have H' := Aside0.mk H
             clear H
             obtain ⟨ASz41_0, cSz41_0, ASz41_2, cSz41_2, ASz41_3, cSz41_3, HGz41, hgz41, HSz41_0, HSz41_2, HSz41_3⟩ := HI0.out
             have hcz41_0 := cellS96_0 HGz41
             have hcz41_1 := cellS96_1 HGz41
             have hcz41_2 := cellS96_2 HGz41
             have hcz41_3 := cellS96_3 HGz41
             have hfz41_1 := blk_frozen HGz41 1
             clear HGz41 hgz41
             have p431 : 0 ≤ (x34_1 : Int) := of_decide_eq_true (by first | (with_reducible assumption) | assumption)
             have q431 : x34_1 < (s0_2.length : Int) := of_decide_eq_true (by first | (with_reducible assumption) | assumption)
             obtain ⟨ad431, e431, hx431_0⟩ := Kd.at_bool HSz12_2 x34_1 p431 q431
             (try rw [← Nbq39.out] at hx431_0)
             cases e431
             replace hx431_0 := pw_cell_below HB.out hx431_0
             replace p431 := eq_true p431
             replace q431 := eq_true q431
             go_wp2
             (try simp only [← hl1_1])
             go_roundg k1
             case measure => have := HK1.out; omega
             case rel => exact ⟨(x1_1), (wrap64 (x34_1 + 1)), (x1001_1), (by first | rfl | (simp; done) | (simp [*]; done)), H', ⟨by have := HK1.out; omega⟩, ⟨by (try simp only [hl1_1]); (with_reducible repeat (first | apply Kd.R_alloc | apply Kd.R_drewN | apply Kd.R_drew)); exact HO_1.out⟩, ⟨by repeat (first | (with_reducible first | exact HI0.out | apply IsS96.alloc | apply IsS96.drewN | apply IsS96.drew | apply IsS96.set_1) | exact HI0.out)⟩, ⟨by repeat (first | (with_reducible first | exact HK.out | apply Kept.alloc | apply Kept.drewN | apply Kept.drew | refine Kept.setCell ?_ (.inl (.inr rfl)) _) | exact HK.out)⟩, ⟨by repeat (first | (with_reducible first | exact HB.out | apply below_alloc | apply pw_below_drewN | apply below_drew1 | refine below_set ?_ (IsS96.ge HI0.out)) | exact HB.out)⟩⟩
            ·replace c40 := Bool.eq_false_iff.mpr c40
             subst c40
             have H1 : (sweep_family_decide.l0 k1 x1_1 a2 a3 s0_2 (s0_2.length : Int) (wrap64 (x34_1 + 1)) s0_0 x1001_1 s0_2 s0_3) = some (r1, r2, r3) := by rw [if_neg (show ¬ (false = true) by decide)] at H; exact H
             clear H
             have H := H1
             clear H1
             have H' := Aside0.mk H
             clear H
             obtain ⟨ASz42_0, cSz42_0, ASz42_2, cSz42_2, ASz42_3, cSz42_3, HGz42, hgz42, HSz42_0, HSz42_2, HSz42_3⟩ := HI0.out
             have hcz42_0 := cellS96_0 HGz42
             have hcz42_1 := cellS96_1 HGz42
             have hcz42_2 := cellS96_2 HGz42
             have hcz42_3 := cellS96_3 HGz42
             have hfz42_1 := blk_frozen HGz42 1
             clear HGz42 hgz42
             have p431 : 0 ≤ (x34_1 : Int) := of_decide_eq_true (by first | (with_reducible assumption) | assumption)
             have q431 : x34_1 < (s0_2.length : Int) := of_decide_eq_true (by first | (with_reducible assumption) | assumption)
             obtain ⟨ad431, e431, hx431_0⟩ := Kd.at_bool HSz12_2 x34_1 p431 q431
             (try rw [← Nbq39.out] at hx431_0)
             cases e431
             replace hx431_0 := pw_cell_below HB.out hx431_0
             replace p431 := eq_true p431
             replace q431 := eq_true q431
             go_wp2
             (try simp only [← hl1_1])
             go_roundg k1
             case measure => have := HK1.out; omega
             case rel => exact ⟨(x1_1), (wrap64 (x34_1 + 1)), (x1001_1), (by first | rfl | (simp; done) | (simp [*]; done)), H', ⟨by have := HK1.out; omega⟩, ⟨by (try simp only [hl1_1]); (with_reducible repeat (first | apply Kd.R_alloc | apply Kd.R_drewN | apply Kd.R_drew)); exact HO_1.out⟩, ⟨by repeat (first | (with_reducible first | exact HI0.out | apply IsS96.alloc | apply IsS96.drewN | apply IsS96.drew | apply IsS96.set_1) | exact HI0.out)⟩, ⟨by repeat (first | (with_reducible first | exact HK.out | apply Kept.alloc | apply Kept.drewN | apply Kept.drew | refine Kept.setCell ?_ (.inl (.inr rfl)) _) | exact HK.out)⟩, ⟨by repeat (first | (with_reducible first | exact HB.out | apply below_alloc | apply pw_below_drewN | apply below_drew1 | refine below_set ?_ (IsS96.ge HI0.out)) | exact HB.out)⟩⟩
         ·rw [if_neg c16] at H
          have c16b0 : (a3 == 1) = false := beq_eq_false_iff_ne.mpr c16
          have c16b1 : (a3 != 1) = true := bne_iff_ne.mpr c16
          by_cases c43 : a3 = 2
          ·rw [if_pos c43] at H
           have c43b0 : (a3 == 2) = true := beq_iff_eq.mpr c43
           have c43b1 : (a3 != 2) = false := bne_eq_false_iff_eq.mpr c43
           clear c43
           obtain ⟨bq44, hbq44⟩ : ∃ b_ : Bool, b_ = (rdOf false s0_2 x34_1) := ⟨_, rfl⟩
           replace H : (if bq44 = true then (if (Go.bits .andNot .i64 a2 x34_1) = 0 then ((sweep_family_decide.f k1 s0_0 x1001_1 s0_2 s0_3 x1_1 x34_1 a3).bind fun bt438 => (if bt438.1 = true then (sweep_family_decide.l0 k1 bt438.2.2 a2 a3 s0_2 (s0_2.length : Int) (wrap64 (x34_1 + 1)) s0_0 bt438.2.1 s0_2 s0_3) else (some (false, bt438.2.1, bt438.2.2)))) else (sweep_family_decide.l0 k1 x1_1 a2 a3 s0_2 (s0_2.length : Int) (wrap64 (x34_1 + 1)) s0_0 x1001_1 s0_2 s0_3)) else (sweep_family_decide.l0 k1 x1_1 a2 a3 s0_2 (s0_2.length : Int) (wrap64 (x34_1 + 1)) s0_0 x1001_1 s0_2 s0_3)) = some (r1, r2, r3) := by rw [← hbq44] at H; exact H
           have Nbq44 := Aside0.mk hbq44
           clear hbq44
           by_cases c45 : bq44 = true
           ·subst c45
            have H1 : (if (Go.bits .andNot .i64 a2 x34_1) = 0 then ((sweep_family_decide.f k1 s0_0 x1001_1 s0_2 s0_3 x1_1 x34_1 a3).bind fun bt438 => (if bt438.1 = true then (sweep_family_decide.l0 k1 bt438.2.2 a2 a3 s0_2 (s0_2.length : Int) (wrap64 (x34_1 + 1)) s0_0 bt438.2.1 s0_2 s0_3) else (some (false, bt438.2.1, bt438.2.2)))) else (sweep_family_decide.l0 k1 x1_1 a2 a3 s0_2 (s0_2.length : Int) (wrap64 (x34_1 + 1)) s0_0 x1001_1 s0_2 s0_3)) = some (r1, r2, r3) := by rw [if_pos rfl] at H; exact H
            clear H
            have H := H1
            clear H1
            by_cases c46 : (Go.bits .andNot .i64 a2 x34_1) = 0
            ·rw [if_pos c46] at H
             have c46b0 : ((Go.bits .andNot .i64 a2 x34_1) == 0) = true := beq_iff_eq.mpr c46
             have c46b1 : ((Go.bits .andNot .i64 a2 x34_1) != 0) = false := bne_eq_false_iff_eq.mpr c46
             clear c46
             replace H := Option.bind_eq_some_iff.mp H
             obtain ⟨⟨t438, t439, t440⟩, A470, H⟩ := H
             replace H : (if t438 = true then (sweep_family_decide.l0 k1 t440 a2 a3 s0_2 (s0_2.length : Int) (wrap64 (x34_1 + 1)) s0_0 t439 s0_2 s0_3) else (some (false, t439, t440))) = some (r1, r2, r3) := H
             have A47 := Aside0.mk A470
             clear A470
             by_cases c48 : t438 = true
             ·subst c48
              have H1 : (sweep_family_decide.l0 k1 t440 a2 a3 s0_2 (s0_2.length : Int) (wrap64 (x34_1 + 1)) s0_0 t439 s0_2 s0_3) = some (r1, r2, r3) := by rw [if_pos rfl] at H; exact H
              clear H
              have H := H1
              clear H1
              have H' := Aside0.mk H
              clear H
              obtain ⟨ASz49_0, cSz49_0, ASz49_2, cSz49_2, ASz49_3, cSz49_3, HGz49, hgz49, HSz49_0, HSz49_2, HSz49_3⟩ := HI0.out
              have hcz49_0 := cellS96_0 HGz49
              have hcz49_1 := cellS96_1 HGz49
              have hcz49_2 := cellS96_2 HGz49
              have hcz49_3 := cellS96_3 HGz49
              have hfz49_1 := blk_frozen HGz49 1
              clear HGz49 hgz49
              have p431 : 0 ≤ (x34_1 : Int) := of_decide_eq_true (by first | (with_reducible assumption) | assumption)
              have q431 : x34_1 < (s0_2.length : Int) := of_decide_eq_true (by first | (with_reducible assumption) | assumption)
              obtain ⟨ad431, e431, hx431_0⟩ := Kd.at_bool HSz12_2 x34_1 p431 q431
              (try rw [← Nbq44.out] at hx431_0)
              cases e431
              replace hx431_0 := pw_cell_below HB.out hx431_0
              replace p431 := eq_true p431
              replace q431 := eq_true q431
              go_wp2_with (first | (go_at_call 82; (with_reducible refine (ih k1 (by have := HK1.out; omega) g s0_0 x1001_1 s0_2 s0_3 (fun k_ => some k_ = (.slice (some ⟨go8, 0, none⟩) x1_1.length co9 : Value).ownBlock) (.slice (some ⟨go8, 0, none⟩) x1_1.length co9) x1_1 x34_1 a3 true t439 t440 w0 _ ?side1 ?side2 ?side3 A47.out).mono ?_); (case side1 => repeat (first | (with_reducible first | exact HI0.out | apply IsS96.alloc | apply IsS96.drewN | apply IsS96.drew | apply IsS96.set_1) | exact HI0.out)); (case side2 => repeat (first | (with_reducible first | exact HB.out | apply below_alloc | apply pw_below_drewN | apply below_drew1 | refine below_set ?_ (IsS96.ge HI0.out)) | exact HB.out)); (case side3 => exact Kd.R_tight rfl HO_1.out); rintro e w50 ⟨rfl, hi, hy0, hb, hkp⟩; have n0_ := Aside0.mk (Kd.R_reok rfl hy0 (fun k_ e_ => HO_1.out.1 k_ e_)); have n1_ := Aside0.mk (hi); have n2_ := Aside0.mk (Kept.then_ (S := (fun k_ => (P1_ k_) ∨ k_ = g)) (by repeat (first | (with_reducible first | exact HK.out | apply Kept.alloc | apply Kept.drewN | apply Kept.drew | refine Kept.setCell ?_ (.inl (.inr rfl)) _) | exact HK.out)) hkp (fun k_ hs_ => Or.elim hs_ (fun hs_ => (fun e_ => Or.imp_left Or.inl ((HO_1.out.1 k_ e_.symm))) hs_) (fun e_ => .inl (.inr e_)))); have n3_ := Aside0.mk (hb); clear HO_1; clear HI0; clear HK; clear HB; have HO_1 := n0_; have HI0 := n1_; have HK := n2_; have HB := n3_; clear n0_ n1_ n2_ n3_; (try clear hb); (try clear hkp); (try clear hy0)))
              (try simp only [← hl1_1])
              go_roundg k1
              case measure => have := HK1.out; omega
              case rel => exact ⟨(t440), (wrap64 (x34_1 + 1)), (t439), (by first | rfl | (simp; done) | (simp [*]; done)), H', ⟨by have := HK1.out; omega⟩, ⟨by (try simp only [hl1_1]); (with_reducible repeat (first | apply Kd.R_alloc | apply Kd.R_drewN | apply Kd.R_drew)); exact HO_1.out⟩, ⟨by repeat (first | (with_reducible first | exact HI0.out | apply IsS96.alloc | apply IsS96.drewN | apply IsS96.drew | apply IsS96.set_1) | exact HI0.out)⟩, ⟨by repeat (first | (with_reducible first | exact HK.out | apply Kept.alloc | apply Kept.drewN | apply Kept.drew | refine Kept.setCell ?_ (.inl (.inr rfl)) _) | exact HK.out)⟩, ⟨by repeat (first | (with_reducible first | exact HB.out | apply below_alloc | apply pw_below_drewN | apply below_drew1 | refine below_set ?_ (IsS96.ge HI0.out)) | exact HB.out)⟩⟩
             ·replace c48 := Bool.eq_false_iff.mpr c48
              subst c48
              have H1 : (some (false, t439, t440)) = some (r1, r2, r3) := by rw [if_neg (show ¬ (false = true) by decide)] at H; exact H
              clear H
              have H := H1
              clear H1
              simp only [Option.some.injEq, Prod.mk.injEq] at H
              obtain ⟨rfl, rfl, rfl⟩ := H
              obtain ⟨ASz51_0, cSz51_0, ASz51_2, cSz51_2, ASz51_3, cSz51_3, HGz51, hgz51, HSz51_0, HSz51_2, HSz51_3⟩ := HI0.out
              have hcz51_0 := cellS96_0 HGz51
              have hcz51_1 := cellS96_1 HGz51
              have hcz51_2 := cellS96_2 HGz51
              have hcz51_3 := cellS96_3 HGz51
              have hfz51_1 := blk_frozen HGz51 1
              clear HGz51 hgz51
              have p431 : 0 ≤ (x34_1 : Int) := of_decide_eq_true (by first | (with_reducible assumption) | assumption)
              have q431 : x34_1 < (s0_2.length : Int) := of_decide_eq_true (by first | (with_reducible assumption) | assumption)
              obtain ⟨ad431, e431, hx431_0⟩ := Kd.at_bool HSz12_2 x34_1 p431 q431
              (try rw [← Nbq44.out] at hx431_0)
              cases e431
              replace hx431_0 := pw_cell_below HB.out hx431_0
              replace p431 := eq_true p431
              replace q431 := eq_true q431
              go_wp2_with (first | (go_at_call 82; (with_reducible refine (ih k1 (by have := HK1.out; omega) g s0_0 x1001_1 s0_2 s0_3 (fun k_ => some k_ = (.slice (some ⟨go8, 0, none⟩) x1_1.length co9 : Value).ownBlock) (.slice (some ⟨go8, 0, none⟩) x1_1.length co9) x1_1 x34_1 a3 false t439 t440 w0 _ ?side1 ?side2 ?side3 A47.out).mono ?_); (case side1 => repeat (first | (with_reducible first | exact HI0.out | apply IsS96.alloc | apply IsS96.drewN | apply IsS96.drew | apply IsS96.set_1) | exact HI0.out)); (case side2 => repeat (first | (with_reducible first | exact HB.out | apply below_alloc | apply pw_below_drewN | apply below_drew1 | refine below_set ?_ (IsS96.ge HI0.out)) | exact HB.out)); (case side3 => exact Kd.R_tight rfl HO_1.out); rintro e w52 ⟨rfl, hi, hy0, hb, hkp⟩; have n0_ := Aside0.mk (Kd.R_reok rfl hy0 (fun k_ e_ => HO_1.out.1 k_ e_)); have n1_ := Aside0.mk (hi); have n2_ := Aside0.mk (Kept.then_ (S := (fun k_ => (P1_ k_) ∨ k_ = g)) (by repeat (first | (with_reducible first | exact HK.out | apply Kept.alloc | apply Kept.drewN | apply Kept.drew | refine Kept.setCell ?_ (.inl (.inr rfl)) _) | exact HK.out)) hkp (fun k_ hs_ => Or.elim hs_ (fun hs_ => (fun e_ => Or.imp_left Or.inl ((HO_1.out.1 k_ e_.symm))) hs_) (fun e_ => .inl (.inr e_)))); have n3_ := Aside0.mk (hb); clear HO_1; clear HI0; clear HK; clear HB; have HO_1 := n0_; have HI0 := n1_; have HK := n2_; have HB := n3_; clear n0_ n1_ n2_ n3_; (try clear hb); (try clear hkp); (try clear hy0)))
              go_ret
              exact ⟨by first | rfl | (simp [errW_none, errW_some] <;> rfl) | (simp [*, errW_none, errW_some] <;> rfl), by repeat (first | (with_reducible first | exact HI0.out | apply IsS96.alloc | apply IsS96.drewN | apply IsS96.drew | apply IsS96.set_1) | exact HI0.out), (by first | exact (by (with_reducible repeat (first | apply Kd.R_alloc | apply Kd.R_drewN | apply Kd.R_drew)); exact HO_1.out) | (simp only [hl1_1]; exact (by (with_reducible repeat (first | apply Kd.R_alloc | apply Kd.R_drewN | apply Kd.R_drew)); exact HO_1.out))), by repeat (first | (with_reducible first | exact HB.out | apply below_alloc | apply pw_below_drewN | apply below_drew1 | refine below_set ?_ (IsS96.ge HI0.out)) | exact HB.out), by repeat (first | (with_reducible first | exact HK.out | apply Kept.alloc | apply Kept.drewN | apply Kept.drew | refine Kept.setCell ?_ (.inl (.inr rfl)) _) | exact HK.out)⟩
            ·rw [if_neg c46] at H
             have c46b0 : ((Go.bits .andNot .i64 a2 x34_1) == 0) = false := beq_eq_false_iff_ne.mpr c46
             have c46b1 : ((Go.bits .andNot .i64 a2 x34_1) != 0) = true := bne_iff_ne.mpr c46
             have H' := Aside0.mk H
             clear H
             obtain ⟨ASz53_0, cSz53_0, ASz53_2, cSz53_2, ASz53_3, cSz53_3, HGz53, hgz53, HSz53_0, HSz53_2, HSz53_3⟩ := HI0.out
             have hcz53_0 := cellS96_0 HGz53
             have hcz53_1 := cellS96_1 HGz53
             have hcz53_2 := cellS96_2 HGz53
             have hcz53_3 := cellS96_3 HGz53
             have hfz53_1 := blk_frozen HGz53 1
             clear HGz53 hgz53
             have p431 : 0 ≤ (x34_1 : Int) := of_decide_eq_true (by first | (with_reducible assumption) | assumption)
             have q431 : x34_1 < (s0_2.length : Int) := of_decide_eq_true (by first | (with_reducible assumption) | assumption)
             obtain ⟨ad431, e431, hx431_0⟩ := Kd.at_bool HSz12_2 x34_1 p431 q431
             (try rw [← Nbq44.out] at hx431_0)
             cases e431
             replace hx431_0 := pw_cell_below HB.out hx431_0
             replace p431 := eq_true p431
             replace q431 := eq_true q431
             go_wp2
             (try simp only [← hl1_1])
             go_roundg k1
             case measure => have := HK1.out; omega
             case rel => exact ⟨(x1_1), (wrap64 (x34_1 + 1)), (x1001_1), (by first | rfl | (simp; done) | (simp [*]; done)), H', ⟨by have := HK1.out; omega⟩, ⟨by (try simp only [hl1_1]); (with_reducible repeat (first | apply Kd.R_alloc | apply Kd.R_drewN | apply Kd.R_drew)); exact HO_1.out⟩, ⟨by repeat (first | (with_reducible first | exact HI0.out | apply IsS96.alloc | apply IsS96.drewN | apply IsS96.drew | apply IsS96.set_1) | exact HI0.out)⟩, ⟨by repeat (first | (with_reducible first | exact HK.out | apply Kept.alloc | apply Kept.drewN | apply Kept.drew | refine Kept.setCell ?_ (.inl (.inr rfl)) _) | exact HK.out)⟩, ⟨by repeat (first | (with_reducible first | exact HB.out | apply below_alloc | apply pw_below_drewN | apply below_drew1 | refine below_set ?_ (IsS96.ge HI0.out)) | exact HB.out)⟩⟩
           ·replace c45 := Bool.eq_false_iff.mpr c45
            subst c45
            have H1 : (sweep_family_decide.l0 k1 x1_1 a2 a3 s0_2 (s0_2.length : Int) (wrap64 (x34_1 + 1)) s0_0 x1001_1 s0_2 s0_3) = some (r1, r2, r3) := by rw [if_neg (show ¬ (false = true) by decide)] at H; exact H
            clear H
            have H := H1
            clear H1
            have H' := Aside0.mk H
            clear H
            obtain ⟨ASz54_0, cSz54_0, ASz54_2, cSz54_2, ASz54_3, cSz54_3, HGz54, hgz54, HSz54_0, HSz54_2, HSz54_3⟩ := HI0.out
            have hcz54_0 := cellS96_0 HGz54
            have hcz54_1 := cellS96_1 HGz54
            have hcz54_2 := cellS96_2 HGz54
            have hcz54_3 := cellS96_3 HGz54
            have hfz54_1 := blk_frozen HGz54 1
            clear HGz54 hgz54
            have p431 : 0 ≤ (x34_1 : Int) := of_decide_eq_true (by first | (with_reducible assumption) | assumption)
            have q431 : x34_1 < (s0_2.length : Int) := of_decide_eq_true (by first | (with_reducible assumption) | assumption)
            obtain ⟨ad431, e431, hx431_0⟩ := Kd.at_bool HSz12_2 x34_1 p431 q431
            (try rw [← Nbq44.out] at hx431_0)
            cases e431
            replace hx431_0 := pw_cell_below HB.out hx431_0
            replace p431 := eq_true p431
            replace q431 := eq_true q431
            go_wp2
            (try simp only [← hl1_1])
            go_roundg k1
            case measure => have := HK1.out; omega
            case rel => exact ⟨(x1_1), (wrap64 (x34_1 + 1)), (x1001_1), (by first | rfl | (simp; done) | (simp [*]; done)), H', ⟨by have := HK1.out; omega⟩, ⟨by (try simp only [hl1_1]); (with_reducible repeat (first | apply Kd.R_alloc | apply Kd.R_drewN | apply Kd.R_drew)); exact HO_1.out⟩, ⟨by repeat (first | (with_reducible first | exact HI0.out | apply IsS96.alloc | apply IsS96.drewN | apply IsS96.drew | apply IsS96.set_1) | exact HI0.out)⟩, ⟨by repeat (first | (with_reducible first | exact HK.out | apply Kept.alloc | apply Kept.drewN | apply Kept.drew | refine Kept.setCell ?_ (.inl (.inr rfl)) _) | exact HK.out)⟩, ⟨by repeat (first | (with_reducible first | exact HB.out | apply below_alloc | apply pw_below_drewN | apply below_drew1 | refine below_set ?_ (IsS96.ge HI0.out)) | exact HB.out)⟩⟩
          ·rw [if_neg c43] at H
           have c43b0 : (a3 == 2) = false := beq_eq_false_iff_ne.mpr c43
           have c43b1 : (a3 != 2) = true := bne_iff_ne.mpr c43
           obtain ⟨bq55, hbq55⟩ : ∃ b_ : Bool, b_ = (rdOf false s0_2 x34_1) := ⟨_, rfl⟩
           replace H : (if bq55 = true then (sweep_family_decide.l0 k1 x1_1 a2 a3 s0_2 (s0_2.length : Int) (wrap64 (x34_1 + 1)) s0_0 x1001_1 s0_2 s0_3) else (sweep_family_decide.l0 k1 x1_1 a2 a3 s0_2 (s0_2.length : Int) (wrap64 (x34_1 + 1)) s0_0 x1001_1 s0_2 s0_3)) = some (r1, r2, r3) := by rw [← hbq55] at H; exact H
           have Nbq55 := Aside0.mk hbq55
           clear hbq55
           by_cases c56 : bq55 = true
           ·subst c56
            have H1 : (sweep_family_decide.l0 k1 x1_1 a2 a3 s0_2 (s0_2.length : Int) (wrap64 (x34_1 + 1)) s0_0 x1001_1 s0_2 s0_3) = some (r1, r2, r3) := by rw [if_pos rfl] at H; exact H
            clear H
            have H := H1
            clear H1
            have H' := Aside0.mk H
            clear H
            obtain ⟨ASz57_0, cSz57_0, ASz57_2, cSz57_2, ASz57_3, cSz57_3, HGz57, hgz57, HSz57_0, HSz57_2, HSz57_3⟩ := HI0.out
            have hcz57_0 := cellS96_0 HGz57
            have hcz57_1 := cellS96_1 HGz57
            have hcz57_2 := cellS96_2 HGz57
            have hcz57_3 := cellS96_3 HGz57
            have hfz57_1 := blk_frozen HGz57 1
            clear HGz57 hgz57
            have p431 : 0 ≤ (x34_1 : Int) := of_decide_eq_true (by first | (with_reducible assumption) | assumption)
            have q431 : x34_1 < (s0_2.length : Int) := of_decide_eq_true (by first | (with_reducible assumption) | assumption)
            obtain ⟨ad431, e431, hx431_0⟩ := Kd.at_bool HSz12_2 x34_1 p431 q431
            (try rw [← Nbq55.out] at hx431_0)
            cases e431
            replace hx431_0 := pw_cell_below HB.out hx431_0
            replace p431 := eq_true p431
            replace q431 := eq_true q431
            go_wp2
            (try simp only [← hl1_1])
            go_roundg k1
            case measure => have := HK1.out; omega
            case rel => exact ⟨(x1_1), (wrap64 (x34_1 + 1)), (x1001_1), (by first | rfl | (simp; done) | (simp [*]; done)), H', ⟨by have := HK1.out; omega⟩, ⟨by (try simp only [hl1_1]); (with_reducible repeat (first | apply Kd.R_alloc | apply Kd.R_drewN | apply Kd.R_drew)); exact HO_1.out⟩, ⟨by repeat (first | (with_reducible first | exact HI0.out | apply IsS96.alloc | apply IsS96.drewN | apply IsS96.drew | apply IsS96.set_1) | exact HI0.out)⟩, ⟨by repeat (first | (with_reducible first | exact HK.out | apply Kept.alloc | apply Kept.drewN | apply Kept.drew | refine Kept.setCell ?_ (.inl (.inr rfl)) _) | exact HK.out)⟩, ⟨by repeat (first | (with_reducible first | exact HB.out | apply below_alloc | apply pw_below_drewN | apply below_drew1 | refine below_set ?_ (IsS96.ge HI0.out)) | exact HB.out)⟩⟩
           ·replace c56 := Bool.eq_false_iff.mpr c56
            subst c56
            have H1 : (sweep_family_decide.l0 k1 x1_1 a2 a3 s0_2 (s0_2.length : Int) (wrap64 (x34_1 + 1)) s0_0 x1001_1 s0_2 s0_3) = some (r1, r2, r3) := by rw [if_neg (show ¬ (false = true) by decide)] at H; exact H
            clear H
            have H := H1
            clear H1
            have H' := Aside0.mk H
            clear H
            obtain ⟨ASz58_0, cSz58_0, ASz58_2, cSz58_2, ASz58_3, cSz58_3, HGz58, hgz58, HSz58_0, HSz58_2, HSz58_3⟩ := HI0.out
            have hcz58_0 := cellS96_0 HGz58
            have hcz58_1 := cellS96_1 HGz58
            have hcz58_2 := cellS96_2 HGz58
            have hcz58_3 := cellS96_3 HGz58
            have hfz58_1 := blk_frozen HGz58 1
            clear HGz58 hgz58
            have p431 : 0 ≤ (x34_1 : Int) := of_decide_eq_true (by first | (with_reducible assumption) | assumption)
            have q431 : x34_1 < (s0_2.length : Int) := of_decide_eq_true (by first | (with_reducible assumption) | assumption)
            obtain ⟨ad431, e431, hx431_0⟩ := Kd.at_bool HSz12_2 x34_1 p431 q431
            (try rw [← Nbq55.out] at hx431_0)
            cases e431
            replace hx431_0 := pw_cell_below HB.out hx431_0
            replace p431 := eq_true p431
            replace q431 := eq_true q431
            go_wp2
            (try simp only [← hl1_1])
            go_roundg k1
            case measure => have := HK1.out; omega
            case rel => exact ⟨(x1_1), (wrap64 (x34_1 + 1)), (x1001_1), (by first | rfl | (simp; done) | (simp [*]; done)), H', ⟨by have := HK1.out; omega⟩, ⟨by (try simp only [hl1_1]); (with_reducible repeat (first | apply Kd.R_alloc | apply Kd.R_drewN | apply Kd.R_drew)); exact HO_1.out⟩, ⟨by repeat (first | (with_reducible first | exact HI0.out | apply IsS96.alloc | apply IsS96.drewN | apply IsS96.drew | apply IsS96.set_1) | exact HI0.out)⟩, ⟨by repeat (first | (with_reducible first | exact HK.out | apply Kept.alloc | apply Kept.drewN | apply Kept.drew | refine Kept.setCell ?_ (.inl (.inr rfl)) _) | exact HK.out)⟩, ⟨by repeat (first | (with_reducible first | exact HB.out | apply below_alloc | apply pw_below_drewN | apply below_drew1 | refine below_set ?_ (IsS96.ge HI0.out)) | exact HB.out)⟩⟩
        ·rw [if_neg c15] at H
         exact absurd H (by simp)
       ·rw [if_neg c14] at H
        exact absurd H (by simp)
      ·rw [if_neg c13] at H
       have c13b0 : decide (x34_1 < (s0_2.length : Int)) = false := decide_eq_false c13
       clear c13
       by_cases c59 : 0 ≤ a2
       ·rw [if_pos c59] at H
        have c59b0 : decide (0 ≤ a2) = true := decide_eq_true c59
        clear c59
        by_cases c60 : a2 < (s0_3.length : Int)
        ·rw [if_pos c60] at H
         have c60b0 : decide (a2 < (s0_3.length : Int)) = true := decide_eq_true c60
         clear c60
         have H' := Aside0.mk H
         clear H
         obtain ⟨ASz61_0, cSz61_0, ASz61_2, cSz61_2, ASz61_3, cSz61_3, HGz61, hgz61, HSz61_0, HSz61_2, HSz61_3⟩ := HI0.out
         have hcz61_0 := cellS96_0 HGz61
         have hcz61_1 := cellS96_1 HGz61
         have hcz61_2 := cellS96_2 HGz61
         have hcz61_3 := cellS96_3 HGz61
         have hfz61_1 := blk_frozen HGz61 1
         clear HGz61 hgz61
         have p441 : 0 ≤ (a2 : Int) := of_decide_eq_true (by first | (with_reducible assumption) | assumption)
         have q441 : a2 < (s0_3.length : Int) := of_decide_eq_true (by first | (with_reducible assumption) | assumption)
         obtain ⟨ad441, A441_0, c441_0, e441, hx441_0, hl441_0, hi441_0⟩ := at_L4 HSz61_3 a2 p441 q441
         cases e441
         replace hx441_0 := pw_cell_below HB.out hx441_0
         have HR441_0 := Aside0.mk hi441_0
         have HC441_0 := Aside0.mk hl441_0
         clear hi441_0 hl441_0
         replace p441 := eq_true p441
         replace q441 := eq_true q441
         go_wp2
         go_loopg [78] k1 (fun kq v78 w' => ∃ (x1_2 : List Int) (x78_2 : Int) (x1001_2 : Int), v78 = .int .i64 x78_2 ∧ Aside0 (sweep_family_decide.l1 kq x1_2 a3 (rd_L4 s0_3 a2) ((rd_L4 s0_3 a2).length : Int) x78_2 s0_0 x1001_2 s0_2 s0_3 = some (r1, r2, r3)) ∧ Aside0 (kq ≤ k1) ∧ Aside0 (Kd.R (Kd.int .i8) 107 w' w0.heap.size (fun k_ => (P1_ k_ ∨ w.heap.size ≤ k_)) (.slice (some ⟨go8, 0, none⟩) x1_1.length co9) x1_2) ∧ Aside0 (IsS96 w0 w' g s0_0 x1001_2 s0_2 s0_3) ∧ Aside0 (Kept w w' (fun k_ => (P1_ k_) ∨ k_ = g)) ∧ Aside0 (Below w0.heap.size w0 w'))
         case atStart => exact ⟨(x1_1), (0), (x1001_1), (by first | rfl | (simp; done) | (simp [*]; done)), H', ⟨Nat.le_refl _⟩, ⟨by (try simp only [hl1_1]); (with_reducible repeat (first | apply Kd.R_alloc | apply Kd.R_drewN | apply Kd.R_drew)); exact HO_1.out⟩, ⟨by repeat (first | (with_reducible first | exact HI0.out | apply IsS96.alloc | apply IsS96.drewN | apply IsS96.drew | apply IsS96.set_1) | exact HI0.out)⟩, ⟨by repeat (first | (with_reducible first | exact HK.out | apply Kept.alloc | apply Kept.drewN | apply Kept.drew | refine Kept.setCell ?_ (.inl (.inr rfl)) _) | exact HK.out)⟩, ⟨by repeat (first | (with_reducible first | exact HB.out | apply below_alloc | apply pw_below_drewN | apply below_drew1 | refine below_set ?_ (IsS96.ge HI0.out)) | exact HB.out)⟩⟩
         case round =>
          clear H'
          try clear c1
          try clear q1
          try clear c2
          try clear p2
          try clear q2
          try clear c3
          try clear q3
          try clear c4
          try clear p4
          try clear q4
          try clear hx4
          try clear c5
          try clear c5b0
          try clear q5
          try clear c6
          try clear c6b0
          try clear p6
          try clear c7
          try clear c7b0
          try clear c7b1
          try clear c8
          try clear p8
          try clear q8
          try clear hx8
          try clear hf8
          try clear c13
          try clear c13b0
          try clear c14
          try clear c14b0
          try clear c15
          try clear c15b0
          try clear c16
          try clear c16b0
          try clear c16b1
          try clear c17
          try clear c17b0
          try clear c17b1
          try clear q18
          try clear c19
          try clear c21
          try clear c27
          try clear c27b0
          try clear c27b1
          try clear q28
          try clear c29
          try clear c30
          try clear c30b0
          try clear c30b1
          try clear c32
          try clear q39
          try clear c40
          try clear p42
          try clear q42
          try clear hx42
          try clear c43
          try clear c43b0
          try clear c43b1
          try clear p43
          try clear q43
          try clear hx43
          try clear c44
          try clear p44
          try clear q44
          try clear hx44
          try clear c45
          try clear c46
          try clear c46b0
          try clear c46b1
          try clear c48
          try clear q55
          try clear c56
          try clear c59
          try clear c59b0
          try clear c60
          try clear c60b0
          try clear hcz12_0
          try clear hcz12_1
          try clear hcz12_2
          try clear hcz12_3
          try clear hcz22_0
          try clear hcz22_1
          try clear hcz22_2
          try clear hcz22_3
          try clear hcz24_0
          try clear hcz24_1
          try clear hcz24_2
          try clear hcz24_3
          try clear hcz26_0
          try clear hcz26_1
          try clear hcz26_2
          try clear hcz26_3
          try clear hcz33_0
          try clear hcz33_1
          try clear hcz33_2
          try clear hcz33_3
          try clear hcz35_0
          try clear hcz35_1
          try clear hcz35_2
          try clear hcz35_3
          try clear hcz37_0
          try clear hcz37_1
          try clear hcz37_2
          try clear hcz37_3
          try clear hcz38_0
          try clear hcz38_1
          try clear hcz38_2
          try clear hcz38_3
          try clear hcz41_0
          try clear hcz41_1
          try clear hcz41_2
          try clear hcz41_3
          try clear hcz42_0
          try clear hcz42_1
          try clear hcz42_2
          try clear hcz42_3
          try clear hcz49_0
          try clear hcz49_1
          try clear hcz49_2
          try clear hcz49_3
          try clear hcz51_0
          try clear hcz51_1
          try clear hcz51_2
          try clear hcz51_3
          try clear hcz53_0
          try clear hcz53_1
          try clear hcz53_2
          try clear hcz53_3
          try clear hcz54_0
          try clear hcz54_1
          try clear hcz54_2
          try clear hcz54_3
          try clear hcz57_0
          try clear hcz57_1
          try clear hcz57_2
          try clear hcz57_3
          try clear hcz58_0
          try clear hcz58_1
          try clear hcz58_2
          try clear hcz58_3
          try clear hcz61_0
          try clear hcz61_1
          try clear hcz61_2
          try clear hcz61_3
          try clear hfz12_1
          try clear hfz22_1
          try clear hfz24_1
          try clear hfz26_1
          try clear hfz33_1
          try clear hfz35_1
          try clear hfz37_1
          try clear hfz38_1
          try clear hfz41_1
          try clear hfz42_1
          try clear hfz49_1
          try clear hfz51_1
          try clear hfz53_1
          try clear hfz54_1
          try clear hfz57_1
          try clear hfz58_1
          try clear hfz61_1
          try clear hx428_0
          try clear hx431_0
          try clear hx441_0
          try clear hx8_0
          try clear p2
          try clear p4
          try clear p428
          try clear p431
          try clear p441
          try clear p8
          try clear q4
          try clear q428
          try clear q431
          try clear q441
          try clear q8
          obtain ⟨x1_2, x78_2, x1001_2, rfl, HA, HK2, HO_1, HI0, HK, HB⟩ := hrel
          have hl1_2 := (Kd.R_reads' HO_1.out).1
          rw [hl1_2] at HO_1
          (try simp only [hl1_2])
          cases gk with
          | zero => exact absurd HA.out (by simp [sweep_family_decide.l1])
          | succ k2 =>
           have H := HA.out
           clear HA
           simp only [sweep_family_decide.l1] at H
           by_cases c62 : x78_2 < ((rd_L4 s0_3 a2).length : Int)
           ·rw [if_pos c62] at H
            have c62b0 : decide (x78_2 < ((rd_L4 s0_3 a2).length : Int)) = true := decide_eq_true c62
            clear c62
            by_cases c63 : 0 ≤ x78_2
            ·rw [if_pos c63] at H
             have c63b0 : decide (0 ≤ x78_2) = true := decide_eq_true c63
             clear c63
             by_cases c64 : x78_2 < ((rd_L4 s0_3 a2).length : Int)
             ·rw [if_pos c64] at H
              have c64b0 : decide (x78_2 < ((rd_L4 s0_3 a2).length : Int)) = true := decide_eq_true c64
              clear c64
              replace H := Option.bind_eq_some_iff.mp H
              obtain ⟨⟨t443, t444, t445⟩, A650, H⟩ := H
              replace H : (if t443 = true then (sweep_family_decide.l1 k2 t445 a3 (rd_L4 s0_3 a2) ((rd_L4 s0_3 a2).length : Int) (wrap64 (x78_2 + 1)) s0_0 t444 s0_2 s0_3) else (some (false, t444, t445))) = some (r1, r2, r3) := H
              have A65 := Aside0.mk A650
              clear A650
              by_cases c66 : t443 = true
              ·subst c66
               have H1 : (sweep_family_decide.l1 k2 t445 a3 (rd_L4 s0_3 a2) ((rd_L4 s0_3 a2).length : Int) (wrap64 (x78_2 + 1)) s0_0 t444 s0_2 s0_3) = some (r1, r2, r3) := by rw [if_pos rfl] at H; exact H
               clear H
               have H := H1
               clear H1
               have H' := Aside0.mk H
               clear H
               have p442 : 0 ≤ (x78_2 : Int) := of_decide_eq_true (by first | (with_reducible assumption) | assumption)
               have q442 : x78_2 < ((rd_L4 s0_3 a2).length : Int) := of_decide_eq_true (by first | (with_reducible assumption) | assumption)
               obtain ⟨ad442, e442, hx442_0⟩ := Kd.at_int HR441_0.out x78_2 p442 q442
               cases e442
               replace hx442_0 := pw_cell_below HB.out hx442_0
               replace p442 := eq_true p442
               replace q442 := eq_true q442
               go_wp2_with (first | ((with_reducible refine gate_callee (f := 82) rfl ?_); refine goesL_ (some 87) rfl rfl Tryd.func82 (by kernel_rfl) rfl #[.pointer (some ⟨g, 0, none⟩), .slice (some ⟨go8, 0, none⟩) x1_2.length co9, .int .i64 (rd (rd_L4 s0_3 a2) x78_2), .int .i8 (IntKind.i8.wrap (3 - a3))] rfl (by (try simp only [List.map_toArray, List.map_cons, List.map_nil]); first | done | rfl | (simp only [List.length_drop, List.length_take]; rfl)) ?_; (with_reducible refine (ih k2 (by have := HK1.out; have := HK2.out; omega) g s0_0 x1001_2 s0_2 s0_3 (fun k_ => some k_ = (.slice (some ⟨go8, 0, none⟩) x1_2.length co9 : Value).ownBlock) (.slice (some ⟨go8, 0, none⟩) x1_2.length co9) x1_2 (rd (rd_L4 s0_3 a2) x78_2) (IntKind.i8.wrap (3 - a3)) true t444 t445 w0 _ ?side1 ?side2 ?side3 A65.out).mono ?_); (case side1 => repeat (first | (with_reducible first | exact HI0.out | apply IsS96.alloc | apply IsS96.drewN | apply IsS96.drew | apply IsS96.set_1) | exact HI0.out)); (case side2 => repeat (first | (with_reducible first | exact HB.out | apply below_alloc | apply pw_below_drewN | apply below_drew1 | refine below_set ?_ (IsS96.ge HI0.out)) | exact HB.out)); (case side3 => exact Kd.R_tight rfl HO_1.out); rintro e w67 ⟨rfl, hi, hy0, hb, hkp⟩; refine ⟨_, rfl, ?_⟩; have n0_ := Aside0.mk (Kd.R_reok rfl hy0 (fun k_ e_ => HO_1.out.1 k_ e_)); have n1_ := Aside0.mk (hi); have n2_ := Aside0.mk (Kept.then_ (S := (fun k_ => (P1_ k_) ∨ k_ = g)) (by repeat (first | (with_reducible first | exact HK.out | apply Kept.alloc | apply Kept.drewN | apply Kept.drew | refine Kept.setCell ?_ (.inl (.inr rfl)) _) | exact HK.out)) hkp (fun k_ hs_ => Or.elim hs_ (fun hs_ => (fun e_ => Or.imp_left Or.inl ((HO_1.out.1 k_ e_.symm))) hs_) (fun e_ => .inl (.inr e_)))); have n3_ := Aside0.mk (hb); clear HO_1; clear HI0; clear HK; clear HB; have HO_1 := n0_; have HI0 := n1_; have HK := n2_; have HB := n3_; clear n0_ n1_ n2_ n3_; (try clear hb); (try clear hkp); (try clear hy0)))
               (try simp only [← hl1_2])
               go_roundg k2
               case measure => have := HK1.out; have := HK2.out; omega
               case rel => exact ⟨(t445), (wrap64 (x78_2 + 1)), (t444), (by first | rfl | (simp; done) | (simp [*]; done)), H', ⟨by have := HK1.out; have := HK2.out; omega⟩, ⟨by (try simp only [hl1_1]); (try simp only [hl1_2]); (with_reducible repeat (first | apply Kd.R_alloc | apply Kd.R_drewN | apply Kd.R_drew)); exact HO_1.out⟩, ⟨by repeat (first | (with_reducible first | exact HI0.out | apply IsS96.alloc | apply IsS96.drewN | apply IsS96.drew | apply IsS96.set_1) | exact HI0.out)⟩, ⟨by repeat (first | (with_reducible first | exact HK.out | apply Kept.alloc | apply Kept.drewN | apply Kept.drew | refine Kept.setCell ?_ (.inl (.inr rfl)) _) | exact HK.out)⟩, ⟨by repeat (first | (with_reducible first | exact HB.out | apply below_alloc | apply pw_below_drewN | apply below_drew1 | refine below_set ?_ (IsS96.ge HI0.out)) | exact HB.out)⟩⟩
              ·replace c66 := Bool.eq_false_iff.mpr c66
               subst c66
               have H1 : (some (false, t444, t445)) = some (r1, r2, r3) := by rw [if_neg (show ¬ (false = true) by decide)] at H; exact H
               clear H
               have H := H1
               clear H1
               simp only [Option.some.injEq, Prod.mk.injEq] at H
               obtain ⟨rfl, rfl, rfl⟩ := H
               have p442 : 0 ≤ (x78_2 : Int) := of_decide_eq_true (by first | (with_reducible assumption) | assumption)
               have q442 : x78_2 < ((rd_L4 s0_3 a2).length : Int) := of_decide_eq_true (by first | (with_reducible assumption) | assumption)
               obtain ⟨ad442, e442, hx442_0⟩ := Kd.at_int HR441_0.out x78_2 p442 q442
               cases e442
               replace hx442_0 := pw_cell_below HB.out hx442_0
               replace p442 := eq_true p442
               replace q442 := eq_true q442
               go_wp2_with (first | ((with_reducible refine gate_callee (f := 82) rfl ?_); refine goesL_ (some 87) rfl rfl Tryd.func82 (by kernel_rfl) rfl #[.pointer (some ⟨g, 0, none⟩), .slice (some ⟨go8, 0, none⟩) x1_2.length co9, .int .i64 (rd (rd_L4 s0_3 a2) x78_2), .int .i8 (IntKind.i8.wrap (3 - a3))] rfl (by (try simp only [List.map_toArray, List.map_cons, List.map_nil]); first | done | rfl | (simp only [List.length_drop, List.length_take]; rfl)) ?_; (with_reducible refine (ih k2 (by have := HK1.out; have := HK2.out; omega) g s0_0 x1001_2 s0_2 s0_3 (fun k_ => some k_ = (.slice (some ⟨go8, 0, none⟩) x1_2.length co9 : Value).ownBlock) (.slice (some ⟨go8, 0, none⟩) x1_2.length co9) x1_2 (rd (rd_L4 s0_3 a2) x78_2) (IntKind.i8.wrap (3 - a3)) false t444 t445 w0 _ ?side1 ?side2 ?side3 A65.out).mono ?_); (case side1 => repeat (first | (with_reducible first | exact HI0.out | apply IsS96.alloc | apply IsS96.drewN | apply IsS96.drew | apply IsS96.set_1) | exact HI0.out)); (case side2 => repeat (first | (with_reducible first | exact HB.out | apply below_alloc | apply pw_below_drewN | apply below_drew1 | refine below_set ?_ (IsS96.ge HI0.out)) | exact HB.out)); (case side3 => exact Kd.R_tight rfl HO_1.out); rintro e w68 ⟨rfl, hi, hy0, hb, hkp⟩; refine ⟨_, rfl, ?_⟩; have n0_ := Aside0.mk (Kd.R_reok rfl hy0 (fun k_ e_ => HO_1.out.1 k_ e_)); have n1_ := Aside0.mk (hi); have n2_ := Aside0.mk (Kept.then_ (S := (fun k_ => (P1_ k_) ∨ k_ = g)) (by repeat (first | (with_reducible first | exact HK.out | apply Kept.alloc | apply Kept.drewN | apply Kept.drew | refine Kept.setCell ?_ (.inl (.inr rfl)) _) | exact HK.out)) hkp (fun k_ hs_ => Or.elim hs_ (fun hs_ => (fun e_ => Or.imp_left Or.inl ((HO_1.out.1 k_ e_.symm))) hs_) (fun e_ => .inl (.inr e_)))); have n3_ := Aside0.mk (hb); clear HO_1; clear HI0; clear HK; clear HB; have HO_1 := n0_; have HI0 := n1_; have HK := n2_; have HB := n3_; clear n0_ n1_ n2_ n3_; (try clear hb); (try clear hkp); (try clear hy0)))
               go_ret
               exact ⟨by first | rfl | (simp [errW_none, errW_some] <;> rfl) | (simp [*, errW_none, errW_some] <;> rfl), by repeat (first | (with_reducible first | exact HI0.out | apply IsS96.alloc | apply IsS96.drewN | apply IsS96.drew | apply IsS96.set_1) | exact HI0.out), (by first | exact (by (with_reducible repeat (first | apply Kd.R_alloc | apply Kd.R_drewN | apply Kd.R_drew)); exact HO_1.out) | (simp only [hl1_1, hl1_2]; exact (by (with_reducible repeat (first | apply Kd.R_alloc | apply Kd.R_drewN | apply Kd.R_drew)); exact HO_1.out))), by repeat (first | (with_reducible first | exact HB.out | apply below_alloc | apply pw_below_drewN | apply below_drew1 | refine below_set ?_ (IsS96.ge HI0.out)) | exact HB.out), by repeat (first | (with_reducible first | exact HK.out | apply Kept.alloc | apply Kept.drewN | apply Kept.drew | refine Kept.setCell ?_ (.inl (.inr rfl)) _) | exact HK.out)⟩
             ·rw [if_neg c64] at H
              exact absurd H (by simp)
            ·rw [if_neg c63] at H
             exact absurd H (by simp)
           ·rw [if_neg c62] at H
            have c62b0 : decide (x78_2 < ((rd_L4 s0_3 a2).length : Int)) = false := decide_eq_false c62
            clear c62
            simp only [Option.some.injEq, Prod.mk.injEq] at H
            obtain ⟨rfl, rfl, rfl⟩ := H
            go_wp2
            go_ret
            exact ⟨by first | rfl | (simp [errW_none, errW_some] <;> rfl) | (simp [*, errW_none, errW_some] <;> rfl), by repeat (first | (with_reducible first | exact HI0.out | apply IsS96.alloc | apply IsS96.drewN | apply IsS96.drew | apply IsS96.set_1) | exact HI0.out), (by first | exact (by (with_reducible repeat (first | apply Kd.R_alloc | apply Kd.R_drewN | apply Kd.R_drew)); exact HO_1.out) | (simp only [hl1_1, hl1_2]; exact (by (with_reducible repeat (first | apply Kd.R_alloc | apply Kd.R_drewN | apply Kd.R_drew)); exact HO_1.out))), by repeat (first | (with_reducible first | exact HB.out | apply below_alloc | apply pw_below_drewN | apply below_drew1 | refine below_set ?_ (IsS96.ge HI0.out)) | exact HB.out), by repeat (first | (with_reducible first | exact HK.out | apply Kept.alloc | apply Kept.drewN | apply Kept.drew | refine Kept.setCell ?_ (.inl (.inr rfl)) _) | exact HK.out)⟩
        ·rw [if_neg c60] at H
         exact absurd H (by simp)
       ·rw [if_neg c59] at H
        exact absurd H (by simp)
   ·rw [if_neg c7] at H
    have c7b0 : ((rd l1 a2) == 0) = false := beq_eq_false_iff_ne.mpr c7
    have c7b1 : ((rd l1 a2) != 0) = true := bne_iff_ne.mpr c7
    simp only [Option.some.injEq, Prod.mk.injEq] at H
    obtain ⟨rfl, rfl, rfl⟩ := H
    obtain ⟨Ao69, co69, eo69⟩ := Kd.R_slice HO1.out
    subst eo69
    have p428 : 0 ≤ (a2 : Int) := of_decide_eq_true (by first | (with_reducible assumption) | assumption)
    have q428 : a2 < (l1.length : Int) := of_decide_eq_true (by first | (with_reducible assumption) | assumption)
    obtain ⟨ad428, e428, hx428_0⟩ := Kd.at_int (Kd.R_reads' HO1.out).2.2 a2 p428 q428
    cases e428
    replace p428 := eq_true p428
    replace q428 := eq_true q428
    have p429 : 0 ≤ (a2 : Int) := of_decide_eq_true (by first | (with_reducible assumption) | assumption)
    have q429 : a2 < (l1.length : Int) := of_decide_eq_true (by first | (with_reducible assumption) | assumption)
    obtain ⟨ad429, e429, hx429_0⟩ := Kd.at_int (Kd.R_reads' HO1.out).2.2 a2 p429 q429
    obtain rfl : ad428 = ad429 := (by injection e429)
    replace p429 := eq_true p429
    replace q429 := eq_true q429
    go_enter Tryd.func82, Tryd.ntmps82
    go_wp2
    go_ret
    exact ⟨by first | rfl | (simp [errW_none, errW_some] <;> rfl) | (simp [*, errW_none, errW_some] <;> rfl), by repeat (first | (with_reducible first | exact HI0.out | apply IsS96.alloc | apply IsS96.drewN | apply IsS96.drew | apply IsS96.set_1) | exact HI0.out), by (with_reducible repeat (first | apply Kd.R_alloc | apply Kd.R_drewN | apply Kd.R_drew)); exact HO1.out, by repeat (first | (with_reducible first | exact HB.out | apply below_alloc | apply pw_below_drewN | apply below_drew1 | refine below_set ?_ (IsS96.ge HI0.out)) | exact HB.out), by repeat (first | (with_reducible first | exact HK.out | apply Kept.alloc | apply Kept.drewN | apply Kept.drew | refine Kept.setCell ?_ (.inl (.inr rfl)) _) | exact HK.out)⟩
  ·rw [if_neg c6] at H
   exact absurd H (by simp)
 ·rw [if_neg c5] at H
  exact absurd H (by simp)
end Go.Proofs.YtijfddobandcdaaDoor.X
end
section
namespace Go.Proofs.YtijfddobandcdaaDoor.X
open Go.RowKit Go.Proofs.YtijfddobandcdaaDoorW.PrintWords Go.Proofs.YtijfddobandcdaaDoorW.PrintLast Go.Proofs.YtijfddobandcdaaDoorW.PrintMore
attribute [local go_sem] max2_int min2_int max_two min_two max_three min_three max_four min_four
set_option linter.unusedVariables false
set_option linter.unusedSimpArgs false
/-! ### sweep_choice: function 81 -/
def sweep_choice.f (l0 : List Int) : Option (List Int) := (some (([] : List Int) : List Int)).bind fun y422 => (if y422.length + l0.length < 140737488355328 then (some (y422 ++ l0)) else (none))
set_option maxHeartbeats 8000000 in
set_option maxRecDepth 100000 in
theorem sweep_choice.calls_some (a0 : Addr) (c0 : Nat) (l0 : List Int) (r : List Int) (w : World) (hr0 : Kd.C (Kd.int .i8) w (some a0) l0.length l0) (hc0 : l0.length ≤ c0) (h : sweep_choice.f l0 = some r) :
  Calls Tryd.prog 81 #[.slice (some a0) l0.length c0] w fun e w' => ∃ v0_ : Value, e = .returned (v0_) ∧ Kd.R (Kd.int .i8) 107 w' w.heap.size (fun _ => True) v0_ r ∧ Below w.heap.size w w' := by
 have HR0 := Aside0.mk hr0
 have HC0 := Aside0.mk hc0
 clear hr0 hc0
 have HB := Aside0.mk (Below.refl w.heap.size w)
 have H : ((some (([] : List Int) : List Int)).bind fun y422 => (if y422.length + l0.length < 140737488355328 then (some (y422 ++ l0)) else (none))) = some r := h
 clear h
 obtain ⟨y422, hy422⟩ : ∃ y_ : List Int, y_ = (([] : List Int)) := ⟨_, rfl⟩
 replace H : (if y422.length + l0.length < 140737488355328 then (some (y422 ++ l0)) else (none)) = some r := by first | (rw [hy422]; with_reducible exact H) | (have H2_ := (Option.bind_some _ _).symm.trans H; rw [hy422]; with_reducible exact H2_) | (have H2_ := (Option.bind_some _ _).symm.trans H; with_reducible exact H2_) | with_reducible exact H | (rw [hy422]; exact H) | exact H
 have Ny422 := Aside0.mk hy422
 clear hy422
 by_cases c2 : y422.length + l0.length < 140737488355328
 ·rw [if_pos c2] at H
  have LMc2 := Aside0.mk c2
  clear c2
  obtain ⟨y425, hy425⟩ : ∃ y_ : List Int, y_ = (y422 ++ l0) := ⟨_, rfl⟩
  replace H : (some y425) = some r := by first | (rw [hy425]; with_reducible exact H) | (have H2_ := (Option.bind_some _ _).symm.trans H; rw [hy425]; with_reducible exact H2_) | (have H2_ := (Option.bind_some _ _).symm.trans H; with_reducible exact H2_) | with_reducible exact H | (rw [hy425]; exact H) | exact H
  have Ny425 := Aside0.mk hy425
  clear hy425
  obtain rfl := Option.some.inj H
  have heq_ := fun (w : World) => Lib.run_eql_slice_nil (P := Tryd.prog) w 104 107 (some a0) l0.length c0 0 0 Tryd.underlying104
  go_enter Tryd.func81, Tryd.ntmps81
  go_wp2_with (first | ((with_reducible refine gate_dst (N := 5) rfl ?_); refine Kd.R_lit (Kd.int .i8) _ 107 ?hg (N := 5) ?hd (xs := ([] : List Int)) (inner := []) (ok := fun _ => True) (okp := fun _ => True) ?hr ?hp (fun _ hk => hk) trivial (Below.refl _ _) (Nat.le_refl _) (by simp) ?_; (case hd => rfl); (case hg => rfl); (case hr => first | (go_simp; done) | (go_simp; rfl)); (case hp => exact (Reps.none _ _)); intro v423 w3 ho4 hb hg_ hnew_; clear hg_ hnew_; (first | rw [← Ny422.out] at ho4 | (simp only [Int.reduceToNat] at ho4; rw [← Ny422.out] at ho4)); have n0_ := Aside0.mk (Kd.R_lower ho4 (below_size (by repeat (first | (with_reducible first | exact HB.out | apply below_alloc | apply pw_below_drewN | apply below_drew1) | exact HB.out)))); have n1_ := Aside0.mk (below_step (by repeat (first | (with_reducible first | exact HB.out | apply below_alloc | apply pw_below_drewN | apply below_drew1) | exact HB.out)) hb); clear HB; have HO424 := n0_; have HB := n1_; clear n0_ n1_; clear hb ho4) | ((with_reducible refine gate_builtin (b := .append) (xs := #[.tmp 5, .tmp 6]) rfl ?_); at_builtin; refine Kd.R_append_rows (Kd.int .i8) (w0 := w) w.heap.size rfl (.tmp 5) (.tmp 6) 104 107 (.int .i8 0) 1 rfl Tryd.underlying104 info107 rfl (by decide) (by omega) v423 y422 l0 _ _ _ (fun _ => True) (fun _ => False) rfl rfl ?aO ?aR (fun _ _ h => h) (fun _ h => h.elim) ?aF ?aB ?aS ?aL ?_; (case aR => repeat (first | exact (Kd.C_below HR0.out HB.out) | (with_reducible refine Kd.C_alloc ?_ _) | (with_reducible refine Kd.C_drewN ?_ _) | (with_reducible refine Kd.C_drew ?_))); (case aB => exact (by repeat (first | (with_reducible first | exact HB.out | apply below_alloc | apply pw_below_drewN | apply below_drew1) | exact HB.out))); (case aF => exact (fun _ _ => trivial)); (case aO => exact (by (with_reducible repeat (first | apply Kd.R_alloc | apply Kd.R_drewN | apply Kd.R_drew)); exact HO424.out)); (case aS => exact (below_size (by repeat (first | (with_reducible first | exact HB.out | apply below_alloc | apply pw_below_drewN | apply below_drew1) | exact HB.out)))); (case aL => have := LMc2.out; omega); intro v426 w5 ho hb hg hat; rw [← Ny425.out] at ho; have n0_ := Aside0.mk (hb); have n1_ := Aside0.mk (ho); clear HB; clear HO424; have HB := n0_; have HO427 := n1_; clear n0_ n1_; clear ho hb hg hat))
  go_ret
  exact ⟨_, by first | rfl | (simp [errW_none, errW_some] <;> rfl) | (simp [*, errW_none, errW_some] <;> rfl), by (with_reducible repeat (first | apply Kd.R_alloc | apply Kd.R_drewN | apply Kd.R_drew)); exact HO427.out, by repeat (first | (with_reducible first | exact HB.out | apply below_alloc | apply pw_below_drewN | apply below_drew1) | exact HB.out)⟩
 ·rw [if_neg c2] at H
  exact absurd H (by simp)
theorem sweep_choice.calls (A0 : Option Addr) (c0 : Nat) (l0 : List Int) (r : List Int) (w : World) (hr0 : Kd.C (Kd.int .i8) w A0 l0.length l0) (hc0 : l0.length ≤ c0) (h : sweep_choice.f l0 = some r) :
  Calls Tryd.prog 81 #[.slice A0 l0.length c0] w fun e w' => ∃ v0_ : Value, e = .returned (v0_) ∧ Kd.R (Kd.int .i8) 107 w' w.heap.size (fun _ => True) v0_ r ∧ Below w.heap.size w w' := by
 cases A0 with
 | some a0 => exact sweep_choice.calls_some a0 c0 l0 r w hr0 hc0 h
 | none =>
  have hl : l0 = [] := by
   rcases Nat.eq_zero_or_pos l0.length with h0 | h0
   ·exact List.length_eq_zero_iff.mp h0
   ·obtain ⟨ad, he, _⟩ := hr0.2.2 h0
    cases he
  subst hl
  obtain rfl : [] = r := by simpa [sweep_choice.f] using h
  clear h hr0 hc0
  have heq_ := fun (w : World) => Lib.run_eql_slice_nil (P := Tryd.prog) w 104 107 none 0 c0 0 0 Tryd.underlying104
  go_enter Tryd.func81, Tryd.ntmps81
  go_wp2
  go_ret
  exact ⟨_, rfl, Kd.R_nil _ _ _ _ _, Below.refl _ _⟩
end Go.Proofs.YtijfddobandcdaaDoor.X
end
section
/- (family).choose, by hand. -/
namespace Go.Proofs.YtijfddobandcdaaDoor.X
open Go.RowKit Go.Proofs.YtijfddobandcdaaDoorW.PrintWords Go.Proofs.YtijfddobandcdaaDoorW.PrintLast Go.Proofs.YtijfddobandcdaaDoorW.PrintMore Go.Proofs.YtijfddobandcdaaDoor.T
attribute [local go_sem] max2_int min2_int max_two min_two max_three min_three max_four min_four
set_option linter.unusedVariables false
set_option linter.unusedSimpArgs false
def pk (BS : List Bool) (st : List Int) : Nat → Nat → Int → Int
 | 0, _, x => x
 | d + 1, y, x => pk BS st d (y + 1) (if BS.getD y false && (rd st (y : Int) == 0) && (decide (x < 0) || decide (pc y 9 < pc x.toNat 9)) then (y : Int) else x)
def tryC (kd : Nat) (S0 : List Int) (kk : Int) (BS : List Bool) (LS : List (List Int)) (g : List Int → Option (Option (List Int))) (st : List Int) (x c : Int) : Option (Option (List Int)) :=
 (sweep_family_decide.f kd S0 kk BS LS st x c).bind fun r => if r.1 then g r.2.2 else some none
def tailC (g : Int → Option (Option (List Int))) : List Int → Option (Option (List Int))
 | [] => some none
 | c :: cs => (g c).bind fun o => match o with
  | some d => some (some d)
  | none => tailC g cs
def chF (kd : Nat) (S0 : List Int) (kk : Int) (BS : List Bool) (LS : List (List Int)) : Nat → List Int → Option (Option (List Int))
 | 0, _ => none
 | m + 1, st => if pk BS st BS.length 0 (-1) < 0 then some (some st) else tailC (tryC kd S0 kk BS LS (chF kd S0 kk BS LS m) st (pk BS st BS.length 0 (-1))) [1, 2]
def csFrom (j : Nat) : List Int := ([1, 2] : List Int).drop j
theorem csFrom_succ (j : Nat) (h : j < 2) : csFrom j = (if j = 0 then (1 : Int) else 2) :: csFrom (j + 1) := by
 match j, h with
 | 0, _ => rfl
 | 1, _ => rfl
theorem IsS96.raise {w0 V : World} {g : Nat} {f0 : List Int} {f1 : Int} {f2 : List Bool} {f3 : List (List Int)} (h : IsS96 w0 w0 g f0 f1 f2 f3) (hb : Below w0.heap.size w0 V) : IsS96 V V g f0 f1 f2 f3 := by
 obtain ⟨A0, c0, A2, c2, A3, c3, hb1, hg, hr0, hr2, hr3⟩ := h
 exact ⟨A0, c0, A2, c2, A3, c3, blk_below hb1 hb, hg, Kd.C_below hr0 hb, Kd.C_below hr2 hb, Kd.C_below hr3 hb⟩
theorem rdOfB' (H : List Bool) (x : Nat) : rdOf false H (x : Int) = H.getD x false := by unfold rdOf; rw [Int.toNat_natCast]
def Chosen (N : Nat) (w' : World) (v : Value) : Option (List Int) → Prop
 | none => v = .slice none 0 0
 | some d => d.length = N ∧ ∃ A c, v = .slice (some A) N c ∧ N ≤ c ∧ Kd.C (Kd.int .i8) w' (some A) d.length d
theorem pk_lt (BS : List Bool) (st : List Int) : ∀ (d y : Nat) (x : Int), x < ((y + d : Nat) : Int) → -1 ≤ x → pk BS st d y x < ((y + d : Nat) : Int) ∧ -1 ≤ pk BS st d y x
 | 0, y, x, h, h1 => ⟨h, h1⟩
 | d + 1, y, x, h, h1 => by
  simp only [pk]
  have := pk_lt BS st d (y + 1) (if BS.getD y false && (rd st (y : Int) == 0) && (decide (x < 0) || decide (pc y 9 < pc x.toNat 9)) then (y : Int) else x) (by split <;> omega) (by split <;> omega)
  rw [show y + (d + 1) = y + 1 + d by omega]
  exact this
set_option maxHeartbeats 8000000 in
set_option maxRecDepth 100000 in
theorem choose_calls (kd gf N : Nat) (S0 : List Int) (kk : Int) (BS : List Bool) (LS : List (List Int)) (hN : BS.length = N) (hN7 : N ≤ 128) (hN1 : 1 ≤ N) : ∀ (m : Nat) (st : List Int) (A : Option Addr) (c : Nat) (w : World) (r : Option (List Int)), st.length = N → IsS96 w w gf S0 kk BS LS → Kd.C (Kd.int .i8) w A st.length st → st.length ≤ c →
  chF kd S0 kk BS LS m st = some r → Calls Tryd.prog 67 #[.pointer (some ⟨gf, 0, none⟩), .slice A N c] w fun e w' => ∃ v, e = .returned v ∧ Chosen N w' v r ∧ Below w.heap.size w w' := by
 intro m
 induction m with
 | zero => intro st A c w r _ _ _ _ h; cases h
 | succ m ih =>
  intro st A c w r hst hI hC hc h
  simp only [chF] at h
  rw [hN] at h
  have IH := Aside0.mk ih
  have HI := Aside0.mk hI
  have HC := Aside0.mk hC
  have HST := Aside0.mk hst
  obtain ⟨A0, c0, A2, c2, A3, c3, hblk, _, hr0, hr2, hr3⟩ := id hI
  obtain ⟨ad, eA, _⟩ := Kd.at_int hC 0 (by omega) (by omega)
  subst eA
  obtain ⟨ad2, eA2, _⟩ := Kd.at_bool hr2 0 (by omega) (by omega)
  subst eA2
  have HR2 := Aside0.mk hr2
  have HBLK := Aside0.mk hblk
  obtain ⟨X, hX⟩ : ∃ X, pk BS st N 0 (-1) = X := ⟨_, rfl⟩
  rw [hX] at h
  have HX := Aside0.mk hX
  have HH := Aside0.mk h
  have HBN := Aside0.mk hN
  have hfc2 : w.cell? ⟨gf, 2, none⟩ = some (.slice (some ad2) N c2) := by
   have := (blk_cell hblk 2).trans rfl
   rw [← hN]; exact this
  clear ih hI hC hst hr0 hr2 hr3 hblk hX h hN
  go_enter Tryd.func67, Tryd.ntmps67
  go_wp2
  go_loopg [5, 17] N (fun kq v5 v17 w' => ∃ (y : Nat) (x : Int), v5 = .int .i64 x ∧ v17 = .int .i64 (y : Int) ∧ y + kq = N ∧ Aside0 (pk BS st kq y x = X) ∧ Aside0 (-1 ≤ x ∧ x < (N : Int)) ∧ ∃ n, w' = w.drewN n)
  case atStart => exact ⟨0, -1, rfl, rfl, by omega, HX, ⟨by omega, by omega⟩, 0, rfl⟩
  case round =>
   clear HX
   obtain ⟨y, x, rfl, rfl, hy, HX, HXB, n0, rfl⟩ := hrel
   by_cases hyn : y < N
   ·have hj1 : ((y : Int) < (N : Int)) = True := eq_true (by omega)
    have hj2 : decide ((y : Int) < (N : Int)) = true := decide_eq_true (by omega)
    cases gk with
    | zero => omega
    | succ gy =>
    have hx1 := HX.out
    simp only [pk] at hx1
    obtain ⟨ad2', e2, hsc⟩ := Kd.at_bool HR2.out (y : Int) (by omega) (by rw [HBN.out]; omega)
    injection e2 with e2
    subst e2
    obtain ⟨ad', e3, hst⟩ := Kd.at_int HC.out (y : Int) (by omega) (by rw [HST.out]; omega)
    injection e3 with e3
    subst e3
    rw [Int.toNat_natCast] at hsc hst
    rw [rdOfB' BS y] at hsc
    generalize BS.getD y false = sB at *
    generalize rd st (y : Int) = sv at *
    clear HX
    cases sB
    ·have HX1 := Aside0.mk hx1
     clear hx1
     go_wp2
     go_roundg gy
     case measure => omega
     case rel => exact ⟨y + 1, x, rfl, by go_num, by omega, ⟨by simpa using HX1.out⟩, ⟨HXB.out.1, HXB.out.2⟩, _, rfl⟩
    ·by_cases hs0 : sv = 0
     ·have hs1 : (sv == 0) = true := beq_iff_eq.mpr hs0
      rw [hs1] at hx1
      clear hs0
      by_cases hx0 : x < 0
      ·have hx2 : decide (x < 0) = true := decide_eq_true hx0
       rw [hx2] at hx1
       have HX1 := Aside0.mk hx1
       clear hx1 hx0
       go_wp2
       go_roundg gy
       case measure => omega
       case rel => exact ⟨y + 1, (y : Int), rfl, by go_num, by omega, ⟨by simpa using HX1.out⟩, ⟨by omega, by omega⟩, _, rfl⟩
      ·have hx2 : decide (x < 0) = false := decide_eq_false hx0
       rw [hx2] at hx1
       obtain ⟨xn, rfl⟩ := Int.eq_ofNat_of_zero_le (show 0 ≤ x by omega)
       have hxb := HXB.out.2
       rw [Int.toNat_natCast] at hx1
       have HCY := Aside0.mk (count_eq y (by omega))
       have HCX := Aside0.mk (count_eq xn (by omega))
       generalize pc y 9 = py at *
       generalize pc xn 9 = px at *
       clear hx0
       by_cases hlt : py < px
       ·have hl1 : decide (py < px) = true := decide_eq_true hlt
        have hl2 : decide ((py : Int) < (px : Int)) = true := decide_eq_true (by omega)
        rw [hl1] at hx1
        have HX1 := Aside0.mk hx1
        clear hx1 hlt
        go_wp2_with (go_at_call 63; (first | (with_reducible refine (sweep_count.calls (y : Int) _ _ HCY.out).mono ?_) | (with_reducible refine (sweep_count.calls (xn : Int) _ _ HCX.out).mono ?_)); rintro e w' ⟨rfl, m1, rfl⟩)
        go_roundg gy
        case measure => omega
        case rel => exact ⟨y + 1, (y : Int), rfl, by go_num, by omega, ⟨by simpa using HX1.out⟩, ⟨by omega, by omega⟩, _, rfl⟩
       ·have hl1 : decide (py < px) = false := decide_eq_false hlt
        have hl2 : decide ((py : Int) < (px : Int)) = false := decide_eq_false (by omega)
        rw [hl1] at hx1
        have HX1 := Aside0.mk hx1
        clear hx1 hlt
        go_wp2_with (go_at_call 63; (first | (with_reducible refine (sweep_count.calls (y : Int) _ _ HCY.out).mono ?_) | (with_reducible refine (sweep_count.calls (xn : Int) _ _ HCX.out).mono ?_)); rintro e w' ⟨rfl, m1, rfl⟩)
        go_roundg gy
        case measure => omega
        case rel => exact ⟨y + 1, (xn : Int), rfl, by go_num, by omega, ⟨by simpa using HX1.out⟩, ⟨by omega, hxb⟩, _, rfl⟩
     ·have hs1 : (sv == 0) = false := beq_eq_false_iff_ne.mpr hs0
      rw [hs1] at hx1
      have HX1 := Aside0.mk hx1
      clear hx1 hs0
      go_wp2
      go_roundg gy
      case measure => omega
      case rel => exact ⟨y + 1, x, rfl, by go_num, by omega, ⟨by simpa using HX1.out⟩, ⟨HXB.out.1, HXB.out.2⟩, _, rfl⟩
   ·have hj1 : ((y : Int) < (N : Int)) = False := eq_false (by omega)
    have hj2 : decide ((y : Int) < (N : Int)) = false := decide_eq_false (by omega)
    obtain rfl : gk = 0 := by omega
    obtain rfl : x = X := HX.out
    clear HX
    have hxb := HXB.out.2
    by_cases hx0 : x < 0
    ·have hx2 : decide (x < 0) = true := decide_eq_true hx0
     have hh := HH.out
     rw [if_pos hx0] at hh
     have hr := Option.some.inj hh
     have HRR := Aside0.mk hr
     clear hh hr hx0
     go_wp2
     go_ret
     refine ⟨_, rfl, ?_, pw_below_drewN (Below.refl _ _) n0⟩
     rw [← HRR.out]
     exact ⟨HST.out, ad, c, rfl, by have := HST.out; omega, HC.out⟩
    ·have hx2 : decide (x < 0) = false := decide_eq_false hx0
     have hh := HH.out
     rw [if_neg hx0] at hh
     have HT : Aside0 (tailC (tryC kd S0 kk BS LS (chF kd S0 kk BS LS m) st x) (csFrom 0) = some r) := ⟨hh⟩
     clear hh HH hx0 hfc2
     go_wp2
     have HB2 : Aside0 (Below w.heap.size w ((w.drewN n0).alloc (.cells #[.int .i8 1, .int .i8 2] 107))) := ⟨below_alloc (pw_below_drewN (Below.refl _ _) n0) _⟩
     have HK2 : Aside0 (((w.drewN n0).alloc (.cells #[.int .i8 1, .int .i8 2] 107)).heap[w.heap.size]? = some (.cells #[.int .i8 1, .int .i8 2] 107 (0, 0))) := ⟨heap_alloc_new (w.drewN n0) _⟩
     go_loopg [48] 2 (fun kq v48 w' => ∃ (j : Nat), v48 = .int .i64 (j : Int) ∧ j + kq = 2 ∧ Aside0 (tailC (tryC kd S0 kk BS LS (chF kd S0 kk BS LS m) st x) (csFrom j) = some r) ∧ Aside0 (w'.heap[w.heap.size]? = some (.cells #[.int .i8 1, .int .i8 2] 107 (0, 0))) ∧ Aside0 (Below w.heap.size w w'))
     case atStart => exact ⟨0, rfl, by omega, HT, HK2, HB2⟩
     case round =>
      clear HT HB2 HK2
      obtain ⟨j, rfl, hj, HT, HK, HB⟩ := hrel
      by_cases hj2 : j < 2
      ·have hk1 : ((j : Int) < 2) = True := eq_true (by omega)
       have hk2 : decide ((j : Int) < 2) = true := decide_eq_true (by omega)
       cases gk with
       | zero => omega
       | succ gj =>
       have ht := HT.out
       rw [csFrom_succ j hj2] at ht
       have hcl : wr.cell? ⟨w.heap.size, j, none⟩ = some (.int .i8 (if j = 0 then (1 : Int) else 2)) := by
        rw [blk_cell HK.out j]
        match j, hj2 with
        | 0, _ => rfl
        | 1, _ => rfl
       generalize (if j = 0 then (1 : Int) else 2) = cv at *
       simp only [tailC] at ht
       obtain ⟨o, ho, ht⟩ := Option.bind_eq_some_iff.mp ht
       unfold tryC at ho
       obtain ⟨⟨ok, r2, st1⟩, hde, ho⟩ := Option.bind_eq_some_iff.mp ho
       dsimp only at ho
       have HT1 := Aside0.mk ht
       have HO := Aside0.mk ho
       have HDE := Aside0.mk hde
       have hIr := Aside0.mk (HI.out.raise HB.out)
       have hCr := Aside0.mk (Kd.C_below HC.out HB.out)
       have hcho : sweep_choice.f st = some st := by
        unfold sweep_choice.f
        simp only [Option.bind_some, List.length_nil, List.nil_append]
        rw [if_pos (by have := HST.out; omega)]
       have HCL := Aside0.mk (sweep_choice.calls (some ad) c st st wr hCr.out hc hcho)
       rw [HST.out] at HCL
       clear ht ho hde hcho HT
       cases ok
       ·have ht := HT1.out
        have ho := HO.out
        rw [if_neg Bool.false_ne_true] at ho
        cases ho
        have HT2 : Aside0 (tailC (tryC kd S0 kk BS LS (chF kd S0 kk BS LS m) st x) (csFrom (j + 1)) = some r) := ⟨ht⟩
        clear ht HT1 HO
        go_wp2_with (first
         | (go_at_call 81; (with_reducible refine HCL.out.mono ?_); rintro e w1 ⟨u, rfl, hu, hb1⟩; obtain ⟨A1, c1, eu, hc1, hC1⟩ := Kd.R_reads hu; rw [HST.out] at eu hc1; subst eu; have HU := Aside0.mk hu; have HB1 := Aside0.mk hb1; have HCC1 := Aside0.mk hc1; clear hu hb1 hc1 hC1)
         | (go_at_call 82; (with_reducible refine (sweep_family_decide.calls kd gf S0 kk BS LS (fun _ => True) (.slice A1 N c1) st x cv false r2 st1 wr _ ?hI ?hB ?ho1 HDE.out).mono ?_); (case hI => exact (hIr.out.below HB1.out)); (case hB => exact HB1.out); (case ho1 => exact HU.out); rintro e w2 ⟨rfl, _, hu2, hb2, _⟩; obtain ⟨hl2, _, hC2⟩ := Kd.R_reads' hu2; have HC2 := Aside0.mk hC2; have HL2 := Aside0.mk hl2; have HB2 := Aside0.mk hb2; clear hu2 hb2 hC2 hl2))
        go_roundg gj
        case measure => omega
        case rel => exact ⟨j + 1, by go_num, by omega, HT2, ⟨blk_below HK.out HB2.out⟩, ⟨below_step HB.out HB2.out⟩⟩
       ·have ht := HT1.out
        have ho := HO.out
        rw [if_pos rfl] at ho
        have hnil := fun (a : Option Addr) (l c : Nat) (W : World) => run_neq_slice_nil_any (P := Tryd.prog) W 104 107 a l c 0 0 Tryd.underlying104
        cases o with
        | none =>
         have HO1 := Aside0.mk ho
         have HT2 : Aside0 (tailC (tryC kd S0 kk BS LS (chF kd S0 kk BS LS m) st x) (csFrom (j + 1)) = some r) := ⟨ht⟩
         clear ht HO ho HT1
         go_wp2_with (first
          | (go_at_call 81; (with_reducible refine HCL.out.mono ?_); rintro e w1 ⟨u, rfl, hu, hb1⟩; obtain ⟨A1, c1, eu, hc1, hC1⟩ := Kd.R_reads hu; rw [HST.out] at eu hc1; subst eu; have HU := Aside0.mk hu; have HB1 := Aside0.mk hb1; have HCC1 := Aside0.mk hc1; clear hu hb1 hc1 hC1)
          | (go_at_call 82; (with_reducible refine (sweep_family_decide.calls kd gf S0 kk BS LS (fun _ => True) (.slice A1 N c1) st x cv true r2 st1 wr _ ?hI ?hB ?ho1 HDE.out).mono ?_); (case hI => exact (hIr.out.below HB1.out)); (case hB => exact HB1.out); (case ho1 => exact HU.out); rintro e w2 ⟨rfl, _, hu2, hb2, _⟩; obtain ⟨hl2, _, hC2⟩ := Kd.R_reads' hu2; have HC2 := Aside0.mk hC2; have HL2 := Aside0.mk hl2; have HB2 := Aside0.mk hb2; clear hu2 hb2 hC2 hl2)
          | (go_at_call 67; refine (IH.out st1 A1 c1 _ none ?s1 ?s2 ?s3 ?s4 HO1.out).mono ?_; (case s1 => exact HL2.out.symm); (case s2 => exact hIr.out.raise HB2.out); (case s3 => exact HC2.out); (case s4 => (have := HL2.out; have := HCC1.out; omega)); rintro e w3 ⟨v, rfl, hv, hb3⟩; have hv2 : v = .slice none 0 0 := hv; subst hv2; have HB3 := Aside0.mk (below_step HB2.out hb3); clear hb3 hv))
         go_roundg gj
         case measure => omega
         case rel => exact ⟨j + 1, by go_num, by omega, HT2, ⟨blk_below HK.out HB3.out⟩, ⟨below_step HB.out HB3.out⟩⟩
        | some dd =>
         have hr := Option.some.inj ht
         subst hr
         have HO1 := Aside0.mk ho
         clear ht HO ho HT1
         go_wp2_with (first
          | (go_at_call 81; (with_reducible refine HCL.out.mono ?_); rintro e w1 ⟨u, rfl, hu, hb1⟩; obtain ⟨A1, c1, eu, hc1, hC1⟩ := Kd.R_reads hu; rw [HST.out] at eu hc1; subst eu; have HU := Aside0.mk hu; have HB1 := Aside0.mk hb1; have HCC1 := Aside0.mk hc1; clear hu hb1 hc1 hC1)
          | (go_at_call 82; (with_reducible refine (sweep_family_decide.calls kd gf S0 kk BS LS (fun _ => True) (.slice A1 N c1) st x cv true r2 st1 wr _ ?hI ?hB ?ho1 HDE.out).mono ?_); (case hI => exact (hIr.out.below HB1.out)); (case hB => exact HB1.out); (case ho1 => exact HU.out); rintro e w2 ⟨rfl, _, hu2, hb2, _⟩; obtain ⟨hl2, _, hC2⟩ := Kd.R_reads' hu2; have HC2 := Aside0.mk hC2; have HL2 := Aside0.mk hl2; have HB2 := Aside0.mk hb2; clear hu2 hb2 hC2 hl2)
          | (go_at_call 67; refine (IH.out st1 A1 c1 _ (some dd) ?s1 ?s2 ?s3 ?s4 HO1.out).mono ?_; (case s1 => exact HL2.out.symm); (case s2 => exact hIr.out.raise HB2.out); (case s3 => exact HC2.out); (case s4 => (have := HL2.out; have := HCC1.out; omega)); rintro e w3 ⟨v, rfl, hv, hb3⟩; obtain ⟨hd1, A4, c4, rfl, hc4, hC4⟩ := hv; have HD1 := Aside0.mk hd1; have HCC4 := Aside0.mk hc4; have HC4 := Aside0.mk hC4; have HB3 := Aside0.mk (below_step HB2.out hb3); clear hb3 hd1 hc4 hC4))
         go_ret
         exact ⟨_, rfl, ⟨HD1.out, A4, c4, rfl, HCC4.out, HC4.out⟩, below_step HB.out HB3.out⟩
      ·have hk1 : ((j : Int) < 2) = False := eq_false (by omega)
       have hk2 : decide ((j : Int) < 2) = false := decide_eq_false (by omega)
       obtain rfl : gk = 0 := by omega
       obtain rfl : j = 2 := by omega
       have ht := HT.out
       have hr : (none : Option (List Int)) = r := Option.some.inj ht
       subst hr
       clear ht HT
       go_wp2
       go_ret
       exact ⟨_, rfl, rfl, HB.out⟩
end Go.Proofs.YtijfddobandcdaaDoor.X
end
