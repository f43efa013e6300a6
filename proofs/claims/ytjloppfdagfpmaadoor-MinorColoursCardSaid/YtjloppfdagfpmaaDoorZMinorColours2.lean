/- Part 2 of what MinorColours rests on: contracts of the functions that it reaches, and what they compute, in plain words. -/
import Derived.Test.YtjloppfdagfpmaaDoorZMinorColours0
import Derived.Test.YtjloppfdagfpmaaDoorZMinorColours1
import Derived.Shelf.Slices.Delete
set_option linter.unusedVariables false
set_option linter.unusedSimpArgs false
section
namespace Go.Proofs.YtjloppfdagfpmaaDoor.T
open Go.RowKit YtjloppfdagfpmaaDoorW.PrintWords YtjloppfdagfpmaaDoorW.PrintLast YtjloppfdagfpmaaDoorW.PrintMore
section
variable {I : Nat → Prop} {par : Nat → Option Nat} {bg : Nat → Nat} {n : Nat} {G : List Nat} {ρ : Nat → Nat}
def Dn (I : Nat → Prop) (par : Nat → Option Nat) (bg : Nat → Nat) (k v : Nat) : Prop := ∃ m, I m ∧ Anc par m k ∧ bset (bg m) v
noncomputable def dnU (I : Nat → Prop) (par : Nat → Option Nat) (bg : Nat → Nat) (k : Nat) : Nat := ofSet (fun v => Dn I par bg k v ∧ ¬ bset (bg k) v) 9
noncomputable def upto (I : Nat → Prop) (par : Nat → Option Nat) (bg : Nat → Nat) (a i : Nat) : Nat := ofSet (fun v => ¬ bset (bg a) v ∧ ∃ k, k < i ∧ I k ∧ par k = some a ∧ Dn I par bg k v) 9
variable (h : ATD I par (fun k v => bset (bg k) v) (fun v => v < G.length) (Adj G) ρ) (hG : Gr 9 G)
include h
theorem way_in {m k a v : Nat} (hm : I m) (hk : I k) (hmk : Anc par m k) (e : par k = some a) (hv : bset (bg m) v) (ha : bset (bg a) v) : bset (bg k) v := by
 have hI := h.inn k a hk e
 obtain ⟨t, t1, t2, t3⟩ := h.top v (h.sub m v hm hv)
 have h1 := (anc_rank h hI (up_top h t3 _ a (Nat.le_refl _) hI ha)).1
 have h2 := h.rank k a hk e
 exact up_has h t3 hm hmk hv (by omega)
theorem way_only {m m' k a v : Nat} (hm : I m) (hk : I k) (hmk : Anc par m k) (e : par k = some a) (hv : bset (bg m) v) (ha : ¬ bset (bg a) v) (hm' : I m') (hv' : bset (bg m') v) : Anc par m' k := by
 have hI := h.inn k a hk e
 obtain ⟨t, t1, t2, t3⟩ := h.top v (h.sub m v hm hv)
 have hmt := up_top h t3 _ m (Nat.le_refl _) hm hv
 have hmt' := up_top h t3 _ m' (Nat.le_refl _) hm' hv'
 by_cases hr : ρ k ≤ ρ t
 ·exact anc_trans hmt' (anc_cmp h hm hmt hmk hr)
 ·exfalso
  have hkt := anc_cmp h hm hmk hmt (by omega)
  cases hkt with
  | refl => omega
  | @step _ q _ e2 hq =>
   rw [e] at e2
   obtain rfl := Option.some.inj e2
   have h1 := (anc_rank h hI hq).1
   exact ha (up_has h t3 hm (anc_trans hmk (.step e (.refl _))) hv h1)
theorem sib_apart {k k' a v : Nat} (hk : I k) (hk' : I k') (e : par k = some a) (e' : par k' = some a) (hne : k ≠ k') (hv : Dn I par bg k v) (hv' : Dn I par bg k' v) : bset (bg a) v := by
 apply Classical.byContradiction
 intro ha
 obtain ⟨m, m1, m2, m3⟩ := hv
 obtain ⟨m', q1, q2, q3⟩ := hv'
 have hA := way_only h m1 hk m2 e m3 ha q1 q3
 have key : ∀ {x y : Nat}, I x → par x = some a → par y = some a → x ≠ y → Anc par x y → False := fun {x y} hx ex ey hne hxy => by
  cases hxy with
  | refl => exact hne rfl
  | @step _ q _ e2 hq =>
   rw [ex] at e2
   obtain rfl := Option.some.inj e2
   have h1 := (anc_rank h (h.inn x a hx ex) hq).1
   have h2 := h.rank y a (anc_in h (h.inn x a hx ex) hq) ey
   omega
 by_cases hr : ρ k' ≤ ρ k
 ·exact key hk e e' hne (anc_cmp h q1 hA q2 hr)
 ·exact key hk' e' e (Ne.symm hne) (anc_cmp h q1 q2 hA (by omega))
include hG
theorem bg_small {k : Nat} (hk : I k) : bg k < 512 := lt_of_bits (n := 9) fun j hj => by have := h.sub k j hk hj; have := hG.most; omega
theorem dn_lt {k v : Nat} (hv : Dn I par bg k v) : v < 9 := by
 obtain ⟨m, m1, _, m3⟩ := hv
 have := h.sub m v m1 m3
 have := hG.most
 omega
omit h hG in
theorem dnU_bit {k v : Nat} : bset (dnU I par bg k) v ↔ v < 9 ∧ Dn I par bg k v ∧ ¬ bset (bg k) v := ofSet_bit _ _ _
omit h hG in
theorem upto_bit {a i v : Nat} : bset (upto I par bg a i) v ↔ v < 9 ∧ ¬ bset (bg a) v ∧ ∃ k, k < i ∧ I k ∧ par k = some a ∧ Dn I par bg k v := ofSet_bit _ _ _
omit h hG in
theorem dnU_lt (k : Nat) : dnU I par bg k < 512 := ofSet_lt _ 9
omit h hG in
theorem upto_lt (a i : Nat) : upto I par bg a i < 512 := ofSet_lt _ 9
omit h hG in
theorem upto_zero (a : Nat) : upto I par bg a 0 = 0 := eq_of_bits fun j => by
 have := upto_bit (I := I) (par := par) (bg := bg) (a := a) (i := 0) (v := j)
 show bset _ j ↔ bset 0 j
 rw [this]
 exact ⟨fun ⟨_, _, k, hk, _⟩ => absurd hk (by omega), fun h => absurd h (zero_bset j)⟩
omit h hG in
theorem upto_skip {a k : Nat} (hne : ¬ (I k ∧ par k = some a)) : upto I par bg a (k + 1) = upto I par bg a k := eq_of_bits fun j => by
 show bset _ j ↔ bset _ j
 rw [upto_bit, upto_bit]
 constructor
 ·rintro ⟨h1, h2, k', h3, h4, h5, h6⟩
  refine ⟨h1, h2, k', ?_, h4, h5, h6⟩
  by_cases e : k' = k
  ·subst e; exact absurd ⟨h4, h5⟩ hne
  ·omega
 ·rintro ⟨h1, h2, k', h3, h4⟩
  exact ⟨h1, h2, k', by omega, h4⟩
theorem upto_step {a k : Nat} (hk : I k) (e : par k = some a) : upto I par bg a (k + 1) = upto I par bg a k ||| diff (bg k ||| dnU I par bg k) (bg a) := eq_of_bits fun j => by
 show bset _ j ↔ bset _ j
 rw [or_bset, upto_bit, upto_bit, diff_bset, or_bset, dnU_bit]
 constructor
 ·rintro ⟨h1, h2, k', h3, h4, h5, h6⟩
  by_cases ek : k' = k
  ·subst ek
   refine .inr ⟨?_, h2⟩
   by_cases hb : bset (bg k') j
   ·exact .inl hb
   ·exact .inr ⟨h1, h6, hb⟩
  ·exact .inl ⟨h1, h2, k', by omega, h4, h5, h6⟩
 ·rintro (⟨h1, h2, k', h3, h4⟩ | ⟨h1, h2⟩)
  ·exact ⟨h1, h2, k', by omega, h4⟩
  ·have hd : Dn I par bg k j := by
    rcases h1 with h1 | h1
    ·exact ⟨k, hk, .refl k, h1⟩
    ·exact h1.2.1
   exact ⟨dn_lt h hG hd, h2, k, by omega, hk, e, hd⟩
theorem ways_step {K : Nat} (hK : K ≤ 16) {a k c : Nat} (ha : I a) (hk : I k) (e : par k = some a) (hc : c ∈ clL G K 0 0 (els (bg a) 9)) :
  num G K (bg a) c (els (upto I par bg a k) 9) * sm (clL G K 0 0 (els (bg k) 9)) (fun c' => if res c' (bg k &&& bg a) = res c (bg k &&& bg a) then num G K (bg k) c' (els (dnU I par bg k) 9) else 0) = num G K (bg a) c (els (upto I par bg a (k + 1)) 9) := by
 have dk : ∀ v, (bset (bg k) v ∨ bset (dnU I par bg k) v) → Dn I par bg k v := fun v hv => by
  rcases hv with hv | hv
  ·exact ⟨k, hk, .refl k, hv⟩
  ·exact (dnU_bit.1 hv).2.1
 rw [upto_step h hG hk e]
 refine kid_step hG hK (bg_small h hG ha) (bg_small h hG hk) (upto_lt a k) (dnU_lt k) hc (fun v hv => (upto_bit.1 hv).2.1) (fun v hv hb => ?_) (fun v hv => (dnU_bit.1 hv).2.2) (fun v hv => ?_) (fun v u hv hva hu hadj => ?_) (fun v u hv hva hua hadj => ?_)
 ·obtain ⟨_, ⟨m, m1, m2, m3⟩, hnk⟩ := dnU_bit.1 hv
  exact hnk (way_in h m1 hk m2 e m3 hb)
 ·obtain ⟨_, hnb, k', q1, q2, q3, q4⟩ := upto_bit.1 hv
  have hne : ¬ Dn I par bg k v := fun hd => hnb (sib_apart h q2 hk q3 e (by omega) q4 hd)
  exact ⟨fun hb => hne (dk v (.inl hb)), fun hb => hne (dk v (.inr hb))⟩
 ·obtain ⟨_, hnb, k', q1, q2, q3, q4⟩ := upto_bit.1 hu
  obtain ⟨m, m1, m2, m3⟩ := dk v hv
  obtain ⟨m', p1, p2, p3⟩ := h.edge v u hadj
  have hA := way_only h m1 hk m2 e m3 hva p1 p2
  exact hnb (sib_apart h q2 hk q3 e (by omega) q4 ⟨m', p1, hA, p3⟩)
 ·obtain ⟨m, m1, m2, m3⟩ := dk v hv
  obtain ⟨m', p1, p2, p3⟩ := h.edge v u hadj
  have hA := way_only h m1 hk m2 e m3 hva p1 p2
  exact way_in h p1 hk hA e p3 hua
omit hG in
theorem upto_all {a N : Nat} (ha : I a) (hN : ∀ k, I k → k < N) : upto I par bg a N = dnU I par bg a := eq_of_bits fun j => by
 show bset _ j ↔ bset _ j
 rw [upto_bit, dnU_bit]
 constructor
 ·rintro ⟨h1, h2, k, _, h4, h5, ⟨m, m1, m2, m3⟩⟩
  exact ⟨h1, ⟨m, m1, anc_trans m2 (.step h5 (.refl a)), m3⟩, h2⟩
 ·rintro ⟨h1, ⟨m, m1, m2, m3⟩, h2⟩
  refine ⟨h1, h2, ?_⟩
  have key : ∀ {x y : Nat}, Anc par x y → I x → x ≠ y → ∃ k, I k ∧ par k = some y ∧ Anc par x k := by
   intro x y hxy
   induction hxy with
   | refl k => intro _ e; exact absurd rfl e
   | @step k q t e hqt ih =>
    intro hx hne
    by_cases hqt' : q = t
    ·subst hqt'; exact ⟨k, hx, e, .refl k⟩
    ·obtain ⟨c, c1, c2, c3⟩ := ih (h.inn k q hx e) hqt'
     exact ⟨c, c1, c2, .step e c3⟩
  obtain ⟨k, k1, k2, k3⟩ := key m2 m1 (fun e => h2 (e ▸ m3))
  exact ⟨k, hN k k1, k1, k2, ⟨m, m1, k3, m3⟩⟩
theorem ways_root {K : Nat} (hK : K ≤ 16) {r : Nat} (hr : I r) (hr' : ∀ k, I k → par k = none → k = r) : sm (clL G K 0 0 (els (bg r) 9)) (fun c => num G K (bg r) c (els (dnU I par bg r) 9)) = num G K 0 0 (els (2 ^ G.length - 1) 9) := by
 have h2 : 2 ^ G.length ≤ 2 ^ 9 := Nat.pow_le_pow_right (by omega) hG.most
 refine num_all hG hK (bg_small h hG hr) (dnU_lt r) (by have := Nat.two_pow_pos G.length; omega) (fun v hv hd => (dnU_bit.1 hd).2.2 hv) fun v => ?_
 rw [all_bit, dnU_bit]
 constructor
 ·intro hv
  by_cases hb : bset (bg r) v
  ·exact .inl hb
  ·obtain ⟨t, t1, t2, _⟩ := h.top v hv
   exact .inr ⟨by have := hG.most; omega, ⟨t, t1, anc_root h hr' _ t (Nat.le_refl _) t1, t2.1⟩, hb⟩
 ·rintro (hb | ⟨_, ⟨m, m1, _, m3⟩, _⟩)
  ·exact h.sub r v hr hb
  ·exact h.sub m v m1 m3
end
end Go.Proofs.YtjloppfdagfpmaaDoor.T
end
section
namespace Go.Proofs.YtjloppfdagfpmaaDoor.X
open Go.RowKit YtjloppfdagfpmaaDoorW.PrintWords YtjloppfdagfpmaaDoorW.PrintLast YtjloppfdagfpmaaDoorW.PrintMore YtjloppfdagfpmaaDoor.T
def cycB (P : List Int) : Nat → Int → Bool
 | 0, at_ => decide (0 ≤ at_)
 | d + 1, at_ => if at_ < 0 then false else cycB P d (rd P at_)
def InP (P : List Int) : Prop := ∀ i, i < P.length → -1 ≤ rd P (i : Int) ∧ rd P (i : Int) < (P.length : Int)
def bothB (u v : Nat) (b : Int) : Bool := b.toNat.testBit u && b.toNat.testBit v
def bitI (x : Int) (v : Nat) : Bool := x.toNat.testBit v
def tl1 (B P : List Int) (n all_ : Nat) : Nat → Nat → Nat → Nat → Option (Nat × Nat)
 | 0, _, ro, ac => some (ro, ac)
 | d + 1, i, ro, ac => if rd P (i : Int) < -1 then none else if (n : Int) ≤ rd P (i : Int) then none else if rd B (i : Int) < 0 then none else if (all_ : Int) < rd B (i : Int) then none else tl1 B P n all_ d (i + 1) (if rd P (i : Int) < 0 then ro + 1 else ro) (ac ||| (rd B (i : Int)).toNat)
def topsF (B P : List Int) (v : Nat) : Nat → Nat → Nat → Nat
 | 0, _, t => t
 | d + 1, i, t => topsF B P v d (i + 1) (if bitI (rd B (i : Int)) v && (decide (rd P (i : Int) < 0) || !bitI (rd B (rd P (i : Int))) v) then t + 1 else t)
def nbF (B : List Int) (v : Nat) : List Nat → Bool
 | [] => true
 | u :: us => B.any (bothB u v) && nbF B v us
def tl2 (G : List Nat) (B P : List Int) : Nat → Nat → Bool
 | 0, _ => true
 | d + 1, v => if topsF B P v B.length 0 0 = 1 then nbF B v (els (G.getD v 0) 9) && tl2 G B P d (v + 1) else false
def treeB2 (G : List Nat) (B P : List Int) : Option (Nat × Nat) → Bool
 | none => false
 | some r => if r.1 = 1 then if r.2 = 2 ^ G.length - 1 then if P.any (cycB P P.length) then false else tl2 G B P G.length 0 else false else false
def treeB (G : List Nat) (B P : List Int) : Bool := if B.length < 1 then false else if 30 < B.length then false else if P.length = B.length then treeB2 G B P (tl1 B P B.length (2 ^ G.length - 1) B.length 0 0 0) else false
theorem tl1_ok (B P : List Int) (n all_ : Nat) : ∀ (d i ro ac : Nat) (r : Nat × Nat), tl1 B P n all_ d i ro ac = some r → ∀ j, i ≤ j → j < i + d → -1 ≤ rd P (j : Int) ∧ rd P (j : Int) < (n : Int) ∧ 0 ≤ rd B (j : Int) ∧ rd B (j : Int) ≤ (all_ : Int)
 | 0, i, _, _, _, _, j, h1, h2 => by omega
 | d + 1, i, ro, ac, r, h, j, h1, h2 => by
  simp only [tl1] at h
  split at h
  ·cases h
  ·split at h
   ·cases h
   ·split at h
    ·cases h
    ·split at h
     ·cases h
     ·by_cases e : j = i
      ·subst e; omega
      ·exact tl1_ok B P n all_ d (i + 1) _ _ r h j (by omega) (by omega)
def upIV (P : List Int) (a : Int) : Int := if a < 0 then a else rd P a
def upNV (P : List Int) : Nat → Int → Int
 | 0, a => a
 | d + 1, a => upNV P d (upIV P a)
theorem upN_negV (P : List Int) {a : Int} (h : a < 0) : ∀ d, upNV P d a = a
 | 0 => rfl
 | d + 1 => by rw [upNV, upIV, if_pos h, upN_negV P h d]
theorem cycB_upV (P : List Int) : ∀ d a, cycB P d a = decide (0 ≤ upNV P d a)
 | 0, a => rfl
 | d + 1, a => by
  rw [cycB, upNV, upIV]
  by_cases h : a < 0
  ·rw [if_pos h, if_pos h, upN_negV P h d]
   simp; omega
  ·rw [if_neg h, if_neg h, cycB_upV P d]
theorem upN_addV (P : List Int) : ∀ (d e : Nat) (a : Int), upNV P (d + e) a = upNV P e (upNV P d a)
 | 0, e, a => by rw [Nat.zero_add]; rfl
 | d + 1, e, a => by rw [show d + 1 + e = (d + e) + 1 by omega, upNV, upN_addV P d e, upNV]
def rootsFV (P : List Int) : Nat → Nat → Nat → Nat
 | 0, _, t => t
 | d + 1, i, t => rootsFV P d (i + 1) (if rd P (i : Int) < 0 then t + 1 else t)
def unionFV (B : List Int) : Nat → Nat → Nat → Nat
 | 0, _, t => t
 | d + 1, i, t => unionFV B d (i + 1) (t ||| (rd B (i : Int)).toNat)
def InTV (G : List Nat) (B P : List Int) (n i : Nat) : Prop := -1 ≤ rd P (i : Int) ∧ rd P (i : Int) < (n : Int) ∧ 0 ≤ rd B (i : Int) ∧ rd B (i : Int) < ((2 ^ G.length : Nat) : Int)
structure TDV (G : List Nat) (B P : List Int) : Prop where
 pos : 1 ≤ B.length
 most : B.length ≤ 30
 len : P.length = B.length
 inn : ∀ i, i < B.length → InTV G B P B.length i
 root : rootsFV P B.length 0 0 = 1
 acyc : ∀ i : Nat, i < B.length → upNV P B.length (i : Int) < 0
 tops : ∀ v, v < G.length → topsF B P v B.length 0 0 = 1
 edge : ∀ v u, Adj G v u → ∃ i : Nat, i < B.length ∧ bitI (rd B (i : Int)) v = true ∧ bitI (rd B (i : Int)) u = true
theorem tl1_eqV (G : List Nat) (B P : List Int) (n : Nat) : ∀ (d i ro ac : Nat), (∀ j, i ≤ j → j < i + d → InTV G B P n j) → tl1 B P n (2 ^ G.length - 1) d i ro ac = some (rootsFV P d i ro, unionFV B d i ac)
 | 0, i, ro, ac, _ => rfl
 | d + 1, i, ro, ac, h => by
  obtain ⟨h1, h2, h3, h4⟩ := h i (Nat.le_refl _) (by omega)
  have := Nat.two_pow_pos G.length
  rw [tl1, if_neg (by omega), if_neg (by omega), if_neg (by omega), if_neg (by omega), tl1_eqV G B P n d (i + 1) _ _ fun j hj hj2 => h j (by omega) (by omega)]
  rfl
theorem tl1_inV (G : List Nat) (B P : List Int) (n : Nat) {d i ro ac : Nat} {r : Nat × Nat} (h : tl1 B P n (2 ^ G.length - 1) d i ro ac = some r) (j : Nat) (h1 : i ≤ j) (h2 : j < i + d) : InTV G B P n j := by
 have := tl1_ok B P n _ d i ro ac r h j h1 h2
 have := Nat.two_pow_pos G.length
 exact ⟨by omega, by omega, by omega, by omega⟩
theorem unionF_bitV (B : List Int) (v : Nat) : ∀ (d i t : Nat), bset (unionFV B d i t) v ↔ bset t v ∨ ∃ j, i ≤ j ∧ j < i + d ∧ bitI (rd B (j : Int)) v = true
 | 0, i, t => ⟨fun h => .inl h, fun h => by
   rcases h with h | ⟨j, h1, h2, _⟩
   ·exact h
   ·omega⟩
 | d + 1, i, t => by
  rw [unionFV, unionF_bitV B v d (i + 1)]
  have e : bset (t ||| (rd B (i : Int)).toNat) v ↔ bset t v ∨ bitI (rd B (i : Int)) v = true := by
   unfold bset bitI
   rw [Nat.testBit_or, Bool.or_eq_true]
  rw [e]
  constructor
  ·rintro ((h | h) | ⟨j, h1, h2, h3⟩)
   ·exact .inl h
   ·exact .inr ⟨i, Nat.le_refl _, by omega, h⟩
   ·exact .inr ⟨j, by omega, by omega, h3⟩
  ·rintro (h | ⟨j, h1, h2, h3⟩)
   ·exact .inl (.inl h)
   ·by_cases e : j = i
    ·subst e; exact .inl (.inr h3)
    ·exact .inr ⟨j, by omega, by omega, h3⟩
theorem unionF_ltV (B : List Int) {N : Nat} : ∀ (d i t : Nat), t < 2 ^ N → (∀ j, i ≤ j → j < i + d → 0 ≤ rd B (j : Int) ∧ rd B (j : Int) < ((2 ^ N : Nat) : Int)) → unionFV B d i t < 2 ^ N
 | 0, i, t, h, _ => h
 | d + 1, i, t, h, hb => by
  rw [unionFV]
  have := hb i (Nat.le_refl _) (by omega)
  exact unionF_ltV B d (i + 1) _ (Nat.or_lt_two_pow h (by omega)) fun j h1 h2 => hb j (by omega) (by omega)
theorem topsF_noneV (B P : List Int) (v : Nat) : ∀ (d i t : Nat), (∀ j, i ≤ j → j < i + d → bitI (rd B (j : Int)) v = false) → topsF B P v d i t = t
 | 0, i, t, _ => rfl
 | d + 1, i, t, h => by
  rw [topsF, h i (Nat.le_refl _) (by omega), topsF_noneV B P v d (i + 1) _ fun j h1 h2 => h j (by omega) (by omega)]
  simp
theorem nbF_iffV (B : List Int) (v : Nat) : ∀ l : List Nat, nbF B v l = true ↔ ∀ u ∈ l, ∃ i : Nat, i < B.length ∧ bitI (rd B (i : Int)) v = true ∧ bitI (rd B (i : Int)) u = true
 | [] => by simp [nbF]
 | u :: l => by
  rw [nbF, Bool.and_eq_true, nbF_iffV B v l, List.any_eq_true]
  have e : (∃ x ∈ B, bothB u v x = true) ↔ ∃ i : Nat, i < B.length ∧ bitI (rd B (i : Int)) v = true ∧ bitI (rd B (i : Int)) u = true := by
   constructor
   ·rintro ⟨x, hx, h⟩
    obtain ⟨i, hi, rfl⟩ := List.mem_iff_getElem.1 hx
    have hr : rd B (i : Int) = B[i] := by unfold rd; rw [Int.toNat_natCast, List.getD_eq_getElem?_getD, List.getElem?_eq_getElem hi]; rfl
    unfold bothB at h
    rw [Bool.and_eq_true] at h
    exact ⟨i, hi, by rw [hr]; exact h.2, by rw [hr]; exact h.1⟩
   ·rintro ⟨i, hi, h1, h2⟩
    have hr : rd B (i : Int) = B[i] := by unfold rd; rw [Int.toNat_natCast, List.getD_eq_getElem?_getD, List.getElem?_eq_getElem hi]; rfl
    rw [hr] at h1 h2
    exact ⟨B[i], List.getElem_mem hi, by unfold bothB; rw [Bool.and_eq_true]; exact ⟨h2, h1⟩⟩
  rw [e]
  simp
theorem tl2_iffV (G : List Nat) (B P : List Int) : ∀ (d v : Nat), tl2 G B P d v = true ↔ ∀ u, v ≤ u → u < v + d → topsF B P u B.length 0 0 = 1 ∧ nbF B u (els (G.getD u 0) 9) = true
 | 0, v => by
  rw [tl2]
  exact ⟨fun _ u h1 h2 => by omega, fun _ => rfl⟩
 | d + 1, v => by
  rw [tl2]
  constructor
  ·intro h u h1 h2
   by_cases ht : topsF B P v B.length 0 0 = 1
   ·rw [if_pos ht, Bool.and_eq_true, tl2_iffV G B P d (v + 1)] at h
    by_cases e : u = v
    ·subst e; exact ⟨ht, h.1⟩
    ·exact h.2 u (by omega) (by omega)
   ·rw [if_neg ht] at h; cases h
  ·intro h
   obtain ⟨h1, h2⟩ := h v (Nat.le_refl _) (by omega)
   rw [if_pos h1, h2, Bool.true_and, tl2_iffV G B P d (v + 1)]
   exact fun u h3 h4 => h u (by omega) (by omega)
theorem up_withinV {P : List Int} {n : Nat} (hP : ∀ i, i < n → rd P (i : Int) < (n : Int)) {i : Nat} (hi : i < n) {m : Nat} (hm : upNV P m (i : Int) < 0) : upNV P n (i : Int) < 0 := by
 apply Classical.byContradiction
 intro hno
 have stay : ∀ d e : Nat, upNV P d (i : Int) < 0 → upNV P (d + e) (i : Int) < 0 := fun d e h => by rw [upN_addV, upN_negV P h]; exact h
 have hin : ∀ d, d ≤ n → ∃ j : Nat, upNV P d (i : Int) = (j : Int) ∧ j < n := by
  intro d
  induction d with
  | zero => intro _; exact ⟨i, rfl, hi⟩
  | succ d ih =>
   intro hd
   obtain ⟨j, h1, h2⟩ := ih (by omega)
   have h3 : upNV P (d + 1) (i : Int) = rd P (j : Int) := by
    rw [upN_addV P d 1, h1]
    show upIV P (j : Int) = _
    rw [upIV, if_neg (by omega)]
   have h4 : ¬ upNV P (d + 1) (i : Int) < 0 := fun h => hno (by
    have := stay (d + 1) (n - (d + 1)) h
    rwa [show d + 1 + (n - (d + 1)) = n by omega] at this)
   have := hP j h2
   exact ⟨(rd P (j : Int)).toNat, by rw [h3] at h4 ⊢; omega, by rw [h3] at h4; omega⟩
 obtain ⟨a, b, hab, hb, e⟩ : ∃ a b, a < b ∧ b ≤ n ∧ upNV P a (i : Int) = upNV P b (i : Int) := by
  apply Classical.byContradiction
  intro hx
  have hnd : ((List.range (n + 1)).map fun d => (upNV P d (i : Int)).toNat).Nodup := by
   refine List.pairwise_map.2 (List.Pairwise.imp_of_mem (fun {a b} ha hb hlt e => hx ⟨a, b, hlt, by have := List.mem_range.1 hb; omega, ?_⟩) List.pairwise_lt_range)
   obtain ⟨j, h1, _⟩ := hin a (by have := List.mem_range.1 ha; omega)
   obtain ⟨j', h1', _⟩ := hin b (by have := List.mem_range.1 hb; omega)
   rw [h1, h1'] at e ⊢
   have e2 : j = j' := by simpa using e
   rw [e2]
  have := nodup_le hnd (m := List.range n) fun x hx => by
   obtain ⟨d, hd, rfl⟩ := List.mem_map.1 hx
   obtain ⟨j, h1, h2⟩ := hin d (by have := List.mem_range.1 hd; omega)
   rw [h1]
   exact List.mem_range.2 (by simpa using h2)
  simp at this
  omega
 have round : ∀ k, upNV P (a + k * (b - a)) (i : Int) = upNV P a (i : Int) := by
  intro k
  induction k with
  | zero => simp
  | succ k ih =>
   rw [show a + (k + 1) * (b - a) = (a + k * (b - a)) + (b - a) by rw [Nat.succ_mul]; omega, upN_addV, ih, ← upN_addV, show a + (b - a) = b by omega, ← e]
 obtain ⟨j, h1, h2⟩ := hin a (by omega)
 have h3 := round m
 have h4 : m ≤ a + m * (b - a) := by
  have : m * 1 ≤ m * (b - a) := Nat.mul_le_mul_left m (by omega)
  omega
 have h5 := stay m (a + m * (b - a) - m) hm
 rw [show m + (a + m * (b - a) - m) = a + m * (b - a) by omega, h3, h1] at h5
 omega
theorem rd_memV {P : List Int} {i : Nat} (hi : i < P.length) : rd P (i : Int) = P[i] := by unfold rd; rw [Int.toNat_natCast, List.getD_eq_getElem?_getD, List.getElem?_eq_getElem hi]; rfl
theorem acyc_iffV {P : List Int} {n : Nat} (hl : P.length = n) (hP : ∀ i, i < n → rd P (i : Int) < (n : Int)) : P.any (cycB P n) = false ↔ ∀ i : Nat, i < n → upNV P n (i : Int) < 0 := by
 rw [List.any_eq_false]
 have up1 : ∀ i : Nat, upNV P n (rd P (i : Int)) = upNV P (n + 1) (i : Int) := fun i => by
  rw [upNV, upIV, if_neg (by omega)]
 constructor
 ·intro h i hi
  have h1 := h (rd P (i : Int)) (by rw [rd_memV (by omega)]; exact List.getElem_mem _)
  rw [cycB_upV] at h1
  have h2 : upNV P (n + 1) (i : Int) < 0 := by rw [← up1]; simpa using h1
  exact up_withinV hP hi h2
 ·intro h x hx
  obtain ⟨i, hi, rfl⟩ := List.mem_iff_getElem.1 hx
  rw [cycB_upV, ← rd_memV hi, up1, show n + 1 = n + 1 from rfl, upN_addV P n 1]
  have := h i (by omega)
  show ¬ decide (0 ≤ upIV P (upNV P n (i : Int))) = true
  rw [upIV, if_pos this]
  simp; omega
theorem treeB_iffV {G : List Nat} (hG : Gr 9 G) (B P : List Int) : treeB G B P = true ↔ TDV G B P := by
 have hn := hG.most
 have h0 := Nat.two_pow_pos G.length
 unfold treeB
 constructor
 ·intro h
  by_cases h1 : B.length < 1
  ·rw [if_pos h1] at h; cases h
  rw [if_neg h1] at h
  by_cases h2 : 30 < B.length
  ·rw [if_pos h2] at h; cases h
  rw [if_neg h2] at h
  by_cases h3 : P.length = B.length
  ·rw [if_pos h3] at h
   cases ht : tl1 B P B.length (2 ^ G.length - 1) B.length 0 0 0 with
   | none => rw [ht] at h; cases h
   | some r =>
    rw [ht] at h
    have hin : ∀ i, i < B.length → InTV G B P B.length i := fun i hi => tl1_inV G B P B.length ht i (Nat.zero_le _) (by omega)
    rw [tl1_eqV G B P B.length B.length 0 0 0 fun j _ hj => hin j (by omega)] at ht
    obtain rfl := Option.some.inj ht
    simp only [treeB2] at h
    by_cases h4 : rootsFV P B.length 0 0 = 1
    ·rw [if_pos h4] at h
     by_cases h5 : unionFV B B.length 0 0 = 2 ^ G.length - 1
     ·rw [if_pos h5] at h
      by_cases h6 : P.any (cycB P P.length) = true
      ·rw [if_pos h6] at h; cases h
      ·rw [if_neg h6, tl2_iffV] at h
       rw [h3] at h6
       refine ⟨by omega, by omega, h3, hin, h4, (acyc_iffV h3 fun i hi => (hin i hi).2.1).1 (by simpa using h6), fun v hv => (h v (Nat.zero_le _) (by omega)).1, fun v u hvu => ?_⟩
       have hv := hG.adj_lt' hvu
       have hu := hG.adj_lt hvu
       exact (nbF_iffV B v _).1 (h v (Nat.zero_le _) (by omega)).2 u (mem_els.2 ⟨by omega, hvu⟩)
     ·rw [if_neg h5] at h; cases h
    ·rw [if_neg h4] at h; cases h
  ·rw [if_neg h3] at h; cases h
 ·intro h
  have e1 := h.pos
  have e2 := h.most
  rw [if_neg (by omega), if_neg (by omega), if_pos h.len, tl1_eqV G B P B.length B.length 0 0 0 fun j _ hj => h.inn j (by omega)]
  have hun : unionFV B B.length 0 0 = 2 ^ G.length - 1 := Nat.eq_of_testBit_eq fun v => by
   have h1 := unionF_bitV B v B.length 0 0
   have h2 := all_bit G.length v
   have h3 : bset (unionFV B B.length 0 0) v ↔ bset (2 ^ G.length - 1) v := by
    rw [h1, h2]
    constructor
    ·intro h4
     have h5 : unionFV B B.length 0 0 < 2 ^ G.length := unionF_ltV B B.length 0 0 h0 fun j _ hj => ⟨(h.inn j (by omega)).2.2.1, (h.inn j (by omega)).2.2.2⟩
     exact bit_lt h5 (h1.2 h4)
    ·intro hv
     apply Classical.byContradiction
     intro h4
     have h5 := h.tops v hv
     rw [topsF_noneV B P v B.length 0 0 fun j _ hj => by
      cases hb : bitI (rd B (j : Int)) v
      ·rfl
      ·exact absurd (.inr ⟨j, Nat.zero_le _, by omega, hb⟩) h4] at h5
     cases h5
   unfold bset at h3
   exact Bool.eq_iff_iff.2 h3
  simp only [treeB2]
  have hac := (acyc_iffV h.len fun i hi => (h.inn i hi).2.1).2 h.acyc
  rw [if_pos h.root, if_pos hun, h.len, if_neg (by rw [hac]; simp), tl2_iffV]
  intro v _ hv
  refine ⟨h.tops v (by omega), (nbF_iffV B v _).2 fun u hu => h.edge v u (mem_els.1 hu).2⟩
section
variable {G : List Nat} (hG : Gr 9 G) {B P : List Int} {n : Nat} (hB : B.length = n) (hP : P.length = n) (hn : n ≤ 30)
include hG hB hP hn
end
theorem next_findV {G : List Nat} (hn : G.length ≤ 9) {k gone x : Nat} (hx : (els (lft G gone) 9).find? (nextP G k gone) = some x) :
  bset (lft G gone) x ∧ nextP G k gone x = true ∧ ∀ v, v < x → bset (lft G gone) v → nextP G k gone v = false := by
 refine ⟨(mem_els.1 (List.mem_of_find?_eq_some hx)).2, List.find?_some hx, fun v hv hb => ?_⟩
 obtain ⟨_, la, lb, h1, h2⟩ := List.find?_eq_some_iff_append.1 hx
 have hm : v ∈ els (lft G gone) 9 := mem_els.2 ⟨bit_lt (lft_small hn gone) hb, hb⟩
 have hs : (els (lft G gone) 9).Pairwise (· < ·) := List.Pairwise.filter _ List.pairwise_lt_range
 rw [h1] at hm hs
 rcases List.mem_append.1 hm with hm | hm
 ·simpa using h2 v hm
 ·rcases List.mem_cons.1 hm with rfl | hm
  ·omega
  ·have := (List.pairwise_append.1 hs).2.1
   have := (List.pairwise_cons.1 this).1 v hm
   omega
theorem lft_zero_pcV {G : List Nat} (hn : G.length ≤ 9) : pc (lft G 0) 9 = G.length := by
 have e : lft G 0 = 2 ^ G.length - 1 := eq_bits fun j => by rw [lft_bit, all_bit]; simp [bset]
 rw [e]
 have : ∀ i : Fin 10, pc (2 ^ i.val - 1) 9 = i.val := by decide
 exact this ⟨G.length, by omega⟩
noncomputable def alongNV (G : List Nat) : List Nat → Nat → Nat → Nat
 | [], _, o => o
 | v :: l, gone, o => alongNV G l (gone ||| 2 ^ v) (max o (dg G gone v))
end Go.Proofs.YtjloppfdagfpmaaDoor.X
end
section
namespace Go.Proofs.YtjloppfdagfpmaaDoor.X
open Go.RowKit YtjloppfdagfpmaaDoorW.PrintWords YtjloppfdagfpmaaDoorW.PrintLast YtjloppfdagfpmaaDoorW.PrintMore
attribute [local go_sem] max2_int min2_int max_two min_two max_three min_three max_four min_four
noncomputable section
mutual
def width_town_decompose.l0 : Nat → List Int → List Int → Int → List Int → Int → Int → List Int → List Int → Option (List Int × List Int)
 | 0, _, _, _, _, _, _, _, _ => none
 | k + 1, x0, x3, x5, x13, x14, x15, x784000, x784001 => if x15 < x14 then (if 0 ≤ x15 then (if x15 < (x13.length : Int) then (if 0 ≤ (rd x13 x15) then ((width_town_part.f k x0 (shl .i64 1 (rd x13 x15)) (Go.bits .or .i64 x5 (shl .i64 1 (rd x13 x15)))).bind fun t785 => ((width_town_around.f k x0 t785).bind fun t786 => (if x784000.length < 17592186044416 then (width_town_decompose.l1 k x0 x3 (Go.bits .or .i64 x5 (shl .i64 1 (rd x13 x15))) (Go.bits .andNot .i64 (Go.bits .andNot .i64 t786 x5) (shl .i64 1 (rd x13 x15))) (wrap64 (x15 + 1)) (wrap64 (x15 + 1)) x13 x14 x15 (x784000 ++ [Go.bits .or .i64 (Go.bits .andNot .i64 (Go.bits .andNot .i64 t786 x5) (shl .i64 1 (rd x13 x15))) (shl .i64 1 (rd x13 x15))]) x784001) else (none)))) else (none)) else (none)) else (none)) else (some (x784000, x784001))
def width_town_decompose.l1 : Nat → List Int → List Int → Int → Int → Int → Int → List Int → Int → Int → List Int → List Int → Option (List Int × List Int)
 | 0, _, _, _, _, _, _, _, _, _, _, _ => none
 | k + 1, x0, x3, x5, x8, x9, x10, x13, x14, x15, x784000, x784001 => if x10 < (x3.length : Int) then (if 0 ≤ x10 then (if 0 ≤ (rd x3 x10) then (if (Go.bits .and .i64 (shr .i64 x8 (rd x3 x10)) 1) = 1 then (if x10 = (x3.length : Int) then (if x784001.length < 17592186044416 then (width_town_decompose.l0 k x0 x3 x5 x13 x14 (wrap64 (x15 + 1)) x784000 (x784001 ++ [(-1)])) else (none)) else (if x784001.length < 17592186044416 then (width_town_decompose.l0 k x0 x3 x5 x13 x14 (wrap64 (x15 + 1)) x784000 (x784001 ++ [x10])) else (none))) else (width_town_decompose.l1 k x0 x3 x5 x8 x9 (wrap64 (x10 + 1)) x13 x14 x15 x784000 x784001)) else (none)) else (none)) else (if x9 = (x3.length : Int) then (if x784001.length < 17592186044416 then (width_town_decompose.l0 k x0 x3 x5 x13 x14 (wrap64 (x15 + 1)) x784000 (x784001 ++ [(-1)])) else (none)) else (if x784001.length < 17592186044416 then (width_town_decompose.l0 k x0 x3 x5 x13 x14 (wrap64 (x15 + 1)) x784000 (x784001 ++ [x9])) else (none)))
end
def width_town_decompose.f (k : Nat) (l0 : List Int) : Option (List Int × List Int) := (width_town_order.f l0).bind fun t780 => (width_town_decompose.l0 k l0 t780 0 t780 (t780.length : Int) 0 ([] : List Int) ([] : List Int))
def width_town_decompose.T7 : Bool × List (List Nat × List Nat) := (true, [([], []), ([], []), ([], []), ([2], [2]), ([], []), ([], []), ([5], [5]), ([4, 6], [4, 6]), ([1, 3, 7], [1, 3, 7]), ([0, 8, 8], [0, 8]), ([], []), ([9, 10], [9, 10]), ([], []), ([12], [12]), ([11, 13], [11, 13]), ([14, 9, 0, 1, 2, 3, 4, 5, 6, 7, 8, 9, 10, 11, 12, 13, 14], [14])])
def width_town_decompose.B7 : List Nat := [0, 0, 0, 4, 0, 0, 32, 112, 254, 511, 0, 2047, 0, 4096, 16383, 32767]
theorem width_town_decompose.tab7 : rtab .any (opsOf Tryd.f88 7) = width_town_decompose.T7 := by kernel_rfl
theorem width_town_decompose.bits7 : waitsOk width_town_decompose.T7.2 width_town_decompose.B7 = true := by kernel_rfl
def width_town_decompose.T9 : Bool × List (List Nat × List Nat) := (true, [([], []), ([0], [0]), ([], []), ([], []), ([3], [3]), ([2, 4], [2, 4]), ([5], [5]), ([1, 6], [1, 6]), ([0, 1, 2, 3, 4, 5, 6, 7], []), ([8, 7, 7, 0, 1, 2, 3, 4, 5, 6, 7], [7, 8])])
def width_town_decompose.B9 : List Nat := [0, 1, 0, 0, 8, 28, 60, 127, 255, 511]
theorem width_town_decompose.tab9 : rtab .any (opsOf Tryd.f88 9) = width_town_decompose.T9 := by kernel_rfl
theorem width_town_decompose.bits9 : waitsOk width_town_decompose.T9.2 width_town_decompose.B9 = true := by kernel_rfl
set_option maxHeartbeats 8000000 in
set_option maxRecDepth 100000 in
theorem width_town_decompose.calls (k : Nat) (A0 : Option Addr) (c0 : Nat) (l0 : List Int) (r1 : List Int) (r2 : List Int) (w : World) (hGL : GL w) (hr0 : Kd.C (Kd.int .i64) w A0 l0.length l0) (hc0 : l0.length ≤ c0) (h : width_town_decompose.f k l0 = some (r1, r2)) :
  Calls Tryd.prog 88 #[.slice A0 l0.length c0] w fun e w' => ∃ v0_ v1_ : Value, e = .returned (.agg #[v0_, v1_]) ∧ Kd.R (Kd.int .i64) 3 w' w.heap.size (fun k_ => some k_ ≠ (v1_ : Value).ownBlock) v0_ r1 ∧ Kd.R (Kd.int .i64) 3 w' w.heap.size (fun k_ => some k_ ≠ (v0_ : Value).ownBlock) v1_ r2 ∧ Below w.heap.size w w' := by
 have HGL := Aside0.mk hGL
 clear hGL
 have hu75 := Tryd.underlying75
 have HR0 := Aside0.mk hr0
 have HC0 := Aside0.mk hc0
 clear hr0 hc0
 have HB := Aside0.mk (Below.refl w.heap.size w)
 have H : ((width_town_order.f l0).bind fun t780 => (width_town_decompose.l0 k l0 t780 0 t780 (t780.length : Int) 0 ([] : List Int) ([] : List Int))) = some (r1, r2) := h
 clear h
 replace H := Option.bind_eq_some_iff.mp H
 obtain ⟨t780, A20, H⟩ := H
 replace H : (width_town_decompose.l0 k l0 t780 0 t780 (t780.length : Int) 0 ([] : List Int) ([] : List Int)) = some (r1, r2) := H
 have A2 := Aside0.mk A20
 clear A20
 have H' := Aside0.mk H
 clear H
 go_enter Tryd.func88, Tryd.ntmps88
 go_wp2_with (first | ((with_reducible refine gate_dst (N := 2) rfl ?_); refine box_event ?hg (N := 2) ?hd (cs := #[.slice none 0 0, .slice none 0 0]) (t := 75) ?hr ?_; (case hd => rfl); (case hg => rfl); (case hr => first | (go_simp; done) | (go_simp; rfl)); intro gb779 hg w3 hbox hb; have n0_ := Aside0.mk (below_step (Qaw) hb); have n1_ := Aside0.mk (hbox); have n2_ := Aside0.mk ((by rw [hg]; exact (below_size (Qaw)) : w.heap.size ≤ gb779)); have n3_ := Aside0.mk ((by rw [hg]; exact (below_size (Qaw)) : w.heap.size ≤ gb779)); clear HB; have HB := n0_; have BK779 := n1_; have GW779 := n2_; have GE779 := n3_; clear n0_ n1_ n2_ n3_; clear hb hbox hg) | ((with_reducible refine gate_callee (f := 99) rfl ?_); refine goesL_ (some 12) rfl rfl Tryd.func99 (by kernel_rfl) rfl #[.slice A0 l0.length c0] rfl (Qls) ?_; (with_reducible refine (width_town_order.calls (hGL := (Qlg)) _ _ l0 t780 _ ?side1 ?side2 A2.out).mono ?_); (case side1 => exact Qsc (Kd.C_below HR0.out HB.out)); (case side2 => exact HC0.out); rintro e w4 ⟨v781, rfl, ho0, hb⟩; refine ⟨_, rfl, ?_⟩; have n0_ := Aside0.mk (Kd.R_lower ho0 (below_size (Qag GE779.out))); have n1_ := Aside0.mk (blk_below (g := gb779) (o := .cells #[.slice none 0 0, .slice none 0 0] 75 (0, 0)) (Qbl BK779.out) hb); have n2_ := Aside0.mk (below_step (Qag GE779.out) hb); clear BK779; clear HB; have HO782 := n0_; have BK779 := n1_; have HB := n2_; clear n0_ n1_ n2_; (try clear hb); (try clear hb2); (try clear hk); (try clear hi); (try clear ho0)) | ((with_reducible refine gate_dst (N := 4) rfl ?_); refine box_event ?hg (N := 4) ?hd (cs := #[.slice none 0 0, .slice none 0 0]) (t := 75) ?hr ?_; (case hd => rfl); (case hg => rfl); (case hr => first | (go_simp; done) | (go_simp; rfl)); intro gb783 hg w5 hbox hb; have n0_ := Aside0.mk (Kd.R_below (Qro HO782.out) hb); have n1_ := Aside0.mk (blk_below (g := gb779) (o := .cells #[.slice none 0 0, .slice none 0 0] 75 (0, 0)) (Qbl BK779.out) hb); have n2_ := Aside0.mk (below_step (Qag GE779.out) hb); have n3_ := Aside0.mk (hbox); have n4_ := Aside0.mk ((by rw [hg]; exact (below_size (Qag GE779.out)) : w.heap.size ≤ gb783)); have n5_ := Aside0.mk ((by rw [hg]; exact (below_size (Qag GE779.out)) : w.heap.size ≤ gb783)); have n6_ := Aside0.mk ((by rw [hg]; exact Nat.ne_of_lt (blk_lt (g := gb779) (o := .cells #[.slice none 0 0, .slice none 0 0] 75 (0, 0)) (Qbl BK779.out)) : gb779 ≠ gb783)); have n7_ := Aside0.mk ((by rw [hg]; exact Nat.ne_of_gt (blk_lt (g := gb779) (o := .cells #[.slice none 0 0, .slice none 0 0] 75 (0, 0)) (Qbl BK779.out)) : gb783 ≠ gb779)); clear HO782; clear BK779; clear HB; have HO782 := n0_; have BK779 := n1_; have HB := n2_; have BK783 := n3_; have GW783 := n4_; have GE783 := n5_; have NB779_783 := n6_; have NB783_779 := n7_; clear n0_ n1_ n2_ n3_ n4_ n5_ n6_ n7_; clear hb hbox hg; obtain ⟨Ao6, co6, eo6⟩ := Kd.R_slice HO782.out; subst eo6))
 go_loopg [5, 15] k (fun kq v5 v15 w' => ∃ (x5_1 : Int) (x15_1 : Int) (x784000_1 : List Int) (x784001_1 : List Int) (u784000 : Value) (u784001 : Value), v5 = .int .i64 x5_1 ∧ v15 = .int .i64 x15_1 ∧ Aside0 (width_town_decompose.l0 kq l0 t780 x5_1 t780 (t780.length : Int) x15_1 x784000_1 x784001_1 = some (r1, r2)) ∧ Aside0 (kq ≤ k) ∧ Aside0 (Kd.R (Kd.int .i64) 3 w' w.heap.size (fun k_ => some k_ ≠ (u784000 : Value).ownBlock ∧ some k_ ≠ (u784001 : Value).ownBlock) (.slice Ao6 t780.length co6) t780) ∧ Aside0 (Kd.R (Kd.int .i64) 3 w' w.heap.size (fun k_ => some k_ ≠ (u784000 : Value).ownBlock ∧ some k_ ≠ (u784001 : Value).ownBlock) (.slice Ao6 t780.length co6) t780) ∧ Aside0 (Kd.R (Kd.int .i64) 3 w' w.heap.size (fun k_ => some k_ ≠ ((.slice Ao6 t780.length co6) : Value).ownBlock ∧ some k_ ≠ ((.slice Ao6 t780.length co6) : Value).ownBlock ∧ some k_ ≠ (u784001 : Value).ownBlock) u784000 x784000_1) ∧ Aside0 (Kd.R (Kd.int .i64) 3 w' w.heap.size (fun k_ => some k_ ≠ ((.slice Ao6 t780.length co6) : Value).ownBlock ∧ some k_ ≠ ((.slice Ao6 t780.length co6) : Value).ownBlock ∧ some k_ ≠ (u784000 : Value).ownBlock) u784001 x784001_1) ∧ Aside0 (w'.heap[gb779]? = some (.cells #[(.slice none 0 0), (.slice none 0 0)] 75 (0, 0))) ∧ Aside0 (w'.heap[gb783]? = some (.cells #[u784000, u784001] 75 (0, 0))) ∧ Aside0 (Below w.heap.size w w'))
 case atStart => exact ⟨(0), (0), (([] : List Int)), (([] : List Int)), (.slice none 0 0), (.slice none 0 0), (Qrs), (Qrs), H', ⟨Nat.le_refl _⟩, ⟨by (with_reducible repeat (first | apply Kd.R_alloc | apply Kd.R_drewN | apply Kd.R_drew)); exact Kd.R_mono HO782.out (fun _ hk => ⟨(by simp [Value.ownBlock]), (by simp [Value.ownBlock])⟩)⟩, ⟨by (with_reducible repeat (first | apply Kd.R_alloc | apply Kd.R_drewN | apply Kd.R_drew)); exact Kd.R_mono HO782.out (fun _ hk => ⟨(by simp [Value.ownBlock]), (by simp [Value.ownBlock])⟩)⟩, ⟨by first | exact Kd.R_nil _ _ _ _ _ | exact Kd.N_nil _ _ _ _ _ | exact Kd.V_nil _ _ _ _ _ | exact Kd.Q_nil _ _ _ _ _ | exact Kd.S_nil _ _ _ _ _⟩, ⟨by first | exact Kd.R_nil _ _ _ _ _ | exact Kd.N_nil _ _ _ _ _ | exact Kd.V_nil _ _ _ _ _ | exact Kd.Q_nil _ _ _ _ _ | exact Kd.S_nil _ _ _ _ _⟩, ⟨by (with_reducible repeat (first | refine blk_drewN ?_ _ | refine blk_drew ?_ | refine blk_alloc ?_ _)); exact BK779.out⟩, ⟨by (with_reducible repeat (first | refine blk_drewN ?_ _ | refine blk_drew ?_ | refine blk_alloc ?_ _)); exact BK783.out⟩, ⟨by repeat (first | (with_reducible first | exact HB.out | apply below_alloc | apply pw_below_drewN | apply below_drew1 | refine below_set ?_ GE779.out | refine below_set ?_ GE783.out) | exact HB.out)⟩⟩
 case round =>
  clear H'
  try clear p2
  obtain ⟨x5_1, x15_1, x784000_1, x784001_1, u784000, u784001, rfl, rfl, HA, HK1, HO_3, HO_13, HO_784000, HO_784001, BK779, BK783, HB⟩ := hrel
  cases gk with
  | zero => exact absurd HA.out (by simp [width_town_decompose.l0])
  | succ k1 =>
   have H := HA.out
   clear HA
   simp only [width_town_decompose.l0] at H
   by_cases c7 : x15_1 < (t780.length : Int)
   ·rw [if_pos c7] at H
    have c7b0 : decide (x15_1 < (t780.length : Int)) = true := decide_eq_true c7
    clear c7
    by_cases c8 : 0 ≤ x15_1
    ·rw [if_pos c8] at H
     have c8b0 : decide (0 ≤ x15_1) = true := decide_eq_true c8
     clear c8
     by_cases c9 : x15_1 < (t780.length : Int)
     ·rw [if_pos c9] at H
      have c9b0 : decide (x15_1 < (t780.length : Int)) = true := decide_eq_true c9
      clear c9
      by_cases c10 : 0 ≤ (rd t780 x15_1)
      ·rw [if_pos c10] at H
       have c10b0 := eq_true c10
       have c10b1 : decide (0 ≤ (rd t780 x15_1)) = true := decide_eq_true c10
       clear c10
       obtain ⟨ji11, hji11⟩ : ∃ j_ : Int, (shl .i64 1 (rd t780 x15_1)) = j_ := ⟨_, rfl⟩
       replace H : ((width_town_part.f k1 l0 (ji11) (Go.bits .or .i64 x5_1 (ji11))).bind fun t785 => ((width_town_around.f k1 l0 t785).bind fun t786 => (if x784000_1.length < 17592186044416 then (width_town_decompose.l1 k1 l0 t780 (Go.bits .or .i64 x5_1 (ji11)) (Go.bits .andNot .i64 (Go.bits .andNot .i64 t786 x5_1) (ji11)) (wrap64 (x15_1 + 1)) (wrap64 (x15_1 + 1)) t780 (t780.length : Int) x15_1 (x784000_1 ++ [Go.bits .or .i64 (Go.bits .andNot .i64 (Go.bits .andNot .i64 t786 x5_1) (ji11)) (ji11)]) x784001_1) else (none)))) = some (r1, r2) := by first | (rw [hji11] at H; exact H) | (simp only [hji11] at H ⊢; exact H)
       have hji11_ : (IntKind.i64.wrap (1 * 2 ^ min (rd t780 x15_1).toNat 64)) = ji11 := hji11
       have hji11z : (rd t780 x15_1) ≤ 64 → (IntKind.i64.wrap (1 * 2 ^ (rd t780 x15_1).toNat)) = ji11 := shl_small hji11
       have hji11u : (IntKind.i64.wrap (2 ^ min (rd t780 x15_1).toNat 64)) = ji11 := by have h_ := hji11_; rw [Int.one_mul] at h_; exact h_
       have hji11v : (rd t780 x15_1) ≤ 64 → (IntKind.i64.wrap (2 ^ (rd t780 x15_1).toNat)) = ji11 := fun hle_ => by have h_ := hji11z hle_; rw [Int.one_mul] at h_; exact h_
       have hji11y : (wrap64 (1 * 2 ^ min (rd t780 x15_1).toNat 64)) = ji11 := (i64_w _).symm.trans hji11_
       have hji11x : (rd t780 x15_1) ≤ 64 → (wrap64 (1 * 2 ^ (rd t780 x15_1).toNat)) = ji11 := fun h_ => (i64_w _).symm.trans (hji11z h_)
       have c12b0 := eq_true (of_decide_eq_true (Qas) : 0 ≤ (rd t780 x15_1))
       replace H := Option.bind_eq_some_iff.mp H
       obtain ⟨t785, A130, H⟩ := H
       replace H : ((width_town_around.f k1 l0 t785).bind fun t786 => (if x784000_1.length < 17592186044416 then (width_town_decompose.l1 k1 l0 t780 (Go.bits .or .i64 x5_1 (ji11)) (Go.bits .andNot .i64 (Go.bits .andNot .i64 t786 x5_1) (ji11)) (wrap64 (x15_1 + 1)) (wrap64 (x15_1 + 1)) t780 (t780.length : Int) x15_1 (x784000_1 ++ [Go.bits .or .i64 (Go.bits .andNot .i64 (Go.bits .andNot .i64 t786 x5_1) (ji11)) (ji11)]) x784001_1) else (none))) = some (r1, r2) := H
       have A13 := Aside0.mk A130
       clear A130
       replace H := Option.bind_eq_some_iff.mp H
       obtain ⟨t786, A140, H⟩ := H
       replace H : (if x784000_1.length < 17592186044416 then (width_town_decompose.l1 k1 l0 t780 (Go.bits .or .i64 x5_1 (ji11)) (Go.bits .andNot .i64 (Go.bits .andNot .i64 t786 x5_1) (ji11)) (wrap64 (x15_1 + 1)) (wrap64 (x15_1 + 1)) t780 (t780.length : Int) x15_1 (x784000_1 ++ [Go.bits .or .i64 (Go.bits .andNot .i64 (Go.bits .andNot .i64 t786 x5_1) (ji11)) (ji11)]) x784001_1) else (none)) = some (r1, r2) := H
       have A14 := Aside0.mk A140
       clear A140
       have c15b0 := eq_true (of_decide_eq_true (Qas) : 0 ≤ (rd t780 x15_1))
       have c16b0 := eq_true (of_decide_eq_true (Qas) : 0 ≤ (rd t780 x15_1))
       have c17b0 := eq_true (of_decide_eq_true (Qas) : 0 ≤ (rd t780 x15_1))
       by_cases c18 : x784000_1.length < 17592186044416
       ·rw [if_pos c18] at H
        have LMc18 := Aside0.mk c18
        clear c18
        obtain ⟨y787, hy787⟩ : ∃ y_ : List Int, y_ = (x784000_1 ++ [Go.bits .or .i64 (Go.bits .andNot .i64 (Go.bits .andNot .i64 t786 x5_1) (ji11)) (ji11)]) := ⟨_, rfl⟩
        replace H : (width_town_decompose.l1 k1 l0 t780 (Go.bits .or .i64 x5_1 (ji11)) (Go.bits .andNot .i64 (Go.bits .andNot .i64 t786 x5_1) (ji11)) (wrap64 (x15_1 + 1)) (wrap64 (x15_1 + 1)) t780 (t780.length : Int) x15_1 y787 x784001_1) = some (r1, r2) := by first | (rw [hy787]; with_reducible exact H) | (have H2_ := (Option.bind_some _ _).symm.trans H; rw [hy787]; with_reducible exact H2_) | (have H2_ := (Option.bind_some _ _).symm.trans H; with_reducible exact H2_) | with_reducible exact H | (rw [hy787]; exact H) | exact H
        have Ny787 := Aside0.mk hy787
        clear hy787
        have H' := Aside0.mk H
        clear H
        have p784 : 0 ≤ (x15_1 : Int) := of_decide_eq_true (Qas)
        have q784 : x15_1 < (t780.length : Int) := of_decide_eq_true (Qas)
        obtain ⟨ad784, e784, hx784_0⟩ := Kd.at_int (Kd.R_reads' HO_13.out).2.2 x15_1 p784 q784
        cases e784
        replace p784 := eq_true p784
        replace q784 := eq_true q784
        try go_wp2
        have n0_ := Aside0.mk (Kd.R_drew HO_3.out)
        have n1_ := Aside0.mk (Kd.R_drew HO_13.out)
        have n2_ := Aside0.mk (Kd.R_drew HO_784000.out)
        have n3_ := Aside0.mk (Kd.R_drew HO_784001.out)
        have n4_ := Aside0.mk (blk_drew BK779.out)
        have n5_ := Aside0.mk (blk_drew BK783.out)
        have n6_ := Aside0.mk (below_drew1 HB.out)
        clear HO_3
        clear HO_13
        clear HO_784000
        clear HO_784001
        clear BK779
        clear BK783
        clear HB
        have HO_3 := n0_
        have HO_13 := n1_
        have HO_784000 := n2_
        have HO_784001 := n3_
        have BK779 := n4_
        have BK783 := n5_
        have HB := n6_
        clear n0_ n1_ n2_ n3_ n4_ n5_ n6_
        refine start_ (n := 16) (S := fun w' => True) (ds := []) (Qbz 16 0) (by kernel_rfl) rfl rfl trivial (fun hHeld => ?_); refine with_tabW width_town_decompose.tab7 width_town_decompose.bits7 (fun HT_ HW_ => ?_)
        generalize wr.drew = w19 at HO_3 HO_13 HO_784000 HO_784001 BK779 BK783 HB hHeld ⊢
        refine Qpu 0 20 ?_ ?_ (Qbz 16 1) (Qao) ?_
        refine Qpu 1 21 ?_ ?_ (Qbz 16 3) (Qao) ?_
        refine Qpu 2 22 ?_ ?_ (Qbz 16 7) (Qao) ?_
        refine Qpu 3 23 ?_ ?_ (Qbz 16 15) (Qao) ?_
        refine Qpu 4 24 ?_ ?_ (Qbz 16 31) (Qao) ?_
        refine Qpu 5 25 ?_ ?_ (Qbz 16 63) (Qao) ?_
        refine Qpu 6 26 ?_ ?_ (Qbz 16 127) (Qao) ?_
        refine Qpu 7 27 ?_ ?_ (Qbz 16 255) (Qao) ?_
        refine Qpu 10 30 ?_ ?_ (Qbz 16 1279) (Qao) ?_
        refine Qpu 12 32 ?_ ?_ (Qbz 16 5375) (Qao) ?_
        refine Qpu 13 33 ?_ ?_ (Qbz 16 13567) (Qao) ?_
        refine one_ (i := 8) (N := some 28) (Qbz 16 13823) rfl rfl (one_of HT_.out (by kernel_rfl)) (by decide) (fun K hK => ?_)
        refine goes_ Tryd.func101 (by kernel_rfl) rfl #[.slice A0 l0.length c0, .int .i64 ji11, .int .i64 (Go.bits .or .i64 x5_1 (ji11))] (by rfl) rfl rfl (by (try simp only [List.map_toArray, List.map_cons, List.map_nil]); first | done | (simp only [hji11]; rfl) | rfl | (simp only [List.length_drop, List.length_take]; rfl)) ?_
        with_reducible refine (width_town_part.calls (hGL := (Qlg)) k1 _ _ l0 ji11 (Go.bits .or .i64 x5_1 (ji11)) t785 _ ?side1 ?side2 A13.out).mono ?_
        (case side1 => exact Qsc (Kd.C_below HR0.out HB.out))
        (case side2 => exact HC0.out)
        rintro e w20 ⟨rfl, hb⟩
        refine ⟨_, rfl, ?_⟩
        have n0_ := Aside0.mk (Kd.R_below (Qro HO_3.out) hb)
        have n1_ := Aside0.mk (Kd.R_below (Qro HO_13.out) hb)
        have n2_ := Aside0.mk (Kd.R_below (Qro HO_784000.out) hb)
        have n3_ := Aside0.mk (Kd.R_below (Qro HO_784001.out) hb)
        have n4_ := Aside0.mk (blk_below (g := gb779) (o := .cells #[.slice none 0 0, .slice none 0 0] 75 (0, 0)) (Qbl BK779.out) hb)
        have n5_ := Aside0.mk (blk_below (g := gb783) (o := .cells #[u784000, u784001] 75 (0, 0)) (Qbl BK783.out) hb)
        have n6_ := Aside0.mk (below_step (Qah GE779.out GE783.out) hb)
        clear HO_3
        clear HO_13
        clear HO_784000
        clear HO_784001
        clear BK779
        clear BK783
        clear HB
        have HO_3 := n0_
        have HO_13 := n1_
        have HO_784000 := n2_
        have HO_784001 := n3_
        have BK779 := n4_
        have BK783 := n5_
        have HB := n6_
        clear n0_ n1_ n2_ n3_ n4_ n5_ n6_
        (try clear hb)
        (try clear hb2)
        (try clear hk)
        (try clear hi)
        refine hK.out _ _ trivial (fun hHeld => ?_)
        clear hK K
        refine norm_ (a' := ?_) ?_ ?_
        rotate_left
        ·show Act.put _ (some 28) _ = _
         simp only [Act.put, Qp1, Qp2, Qp3, i64_w, i32_w]
         rfl
        refine one_ (i := 9) (N := some 29) (Qbz 16 14335) rfl rfl (one_of HT_.out (by kernel_rfl)) (by decide) (fun K hK => ?_)
        refine goes_ Tryd.func100 (by kernel_rfl) rfl #[.slice A0 l0.length c0, .int .i64 t785] (by rfl) rfl rfl (Qls) ?_
        with_reducible refine (width_town_around.calls (hGL := (Qlg)) k1 _ _ l0 t785 t786 _ ?side1 ?side2 A14.out).mono ?_
        (case side1 => exact Qsc (Kd.C_below HR0.out HB.out))
        (case side2 => exact HC0.out)
        rintro e w21 ⟨rfl, hb⟩
        refine ⟨_, rfl, ?_⟩
        have n0_ := Aside0.mk (Kd.R_below (Qro HO_3.out) hb)
        have n1_ := Aside0.mk (Kd.R_below (Qro HO_13.out) hb)
        have n2_ := Aside0.mk (Kd.R_below (Qro HO_784000.out) hb)
        have n3_ := Aside0.mk (Kd.R_below (Qro HO_784001.out) hb)
        have n4_ := Aside0.mk (blk_below (g := gb779) (o := .cells #[.slice none 0 0, .slice none 0 0] 75 (0, 0)) (Qbl BK779.out) hb)
        have n5_ := Aside0.mk (blk_below (g := gb783) (o := .cells #[u784000, u784001] 75 (0, 0)) (Qbl BK783.out) hb)
        have n6_ := Aside0.mk (below_step (Qah GE779.out GE783.out) hb)
        clear HO_3
        clear HO_13
        clear HO_784000
        clear HO_784001
        clear BK779
        clear BK783
        clear HB
        have HO_3 := n0_
        have HO_13 := n1_
        have HO_784000 := n2_
        have HO_784001 := n3_
        have BK779 := n4_
        have BK783 := n5_
        have HB := n6_
        clear n0_ n1_ n2_ n3_ n4_ n5_ n6_
        (try clear hb)
        (try clear hb2)
        (try clear hk)
        (try clear hi)
        refine hK.out _ _ trivial (fun hHeld => ?_)
        clear hK K
        refine norm_ (a' := ?_) ?_ ?_
        rotate_left
        ·show Act.put _ (some 29) _ = _
         simp only [Act.put, Qp1, Qp2, Qp3, i64_w, i32_w]
         rfl
        refine Qpu 11 31 ?_ ?_ (Qbz 16 16383) (Qao) ?_
        refine Qpu 14 34 ?_ ?_ (Qbz 16 32767) (Qao) ?_
        refine Qpu 15 8 ?_ ?_ (Qbz 16 65535) (Qao) ?_
        refine done_ (done_of HT_.out (by kernel_rfl)) ?_
        try go_wp2
        have n0_ := Aside0.mk (Kd.R_drew HO_3.out)
        have n1_ := Aside0.mk (Kd.R_drew HO_13.out)
        have n2_ := Aside0.mk (Kd.R_drew HO_784000.out)
        have n3_ := Aside0.mk (Kd.R_drew HO_784001.out)
        have n4_ := Aside0.mk (blk_drew BK779.out)
        have n5_ := Aside0.mk (blk_drew BK783.out)
        have n6_ := Aside0.mk (below_drew1 HB.out)
        clear HO_3
        clear HO_13
        clear HO_784000
        clear HO_784001
        clear BK779
        clear BK783
        clear HB
        have HO_3 := n0_
        have HO_13 := n1_
        have HO_784000 := n2_
        have HO_784001 := n3_
        have BK779 := n4_
        have BK783 := n5_
        have HB := n6_
        clear n0_ n1_ n2_ n3_ n4_ n5_ n6_
        refine start_ (n := 10) (S := fun w' => w'.cell? ⟨gb783, 0, none⟩ = some (u784000) ∧ w'.cell? ⟨gb783, 1, none⟩ = some (u784001)) (ds := [9]) (Qbz 10 0) (by kernel_rfl) rfl rfl ⟨(blk_cell BK783.out 0).trans rfl, (blk_cell BK783.out 1).trans rfl⟩ (fun hHeld => ?_); refine with_tabW width_town_decompose.tab9 width_town_decompose.bits9 (fun HT_ HW_ => ?_)
        generalize w21.drew = w22 at HO_3 HO_13 HO_784000 HO_784001 BK779 BK783 HB hHeld ⊢
        refine Qpu 0 39 ?_ ?_ (Qbz 10 1) (Qao) ?_
        refine Qpu 2 41 ?_ ?_ (Qbz 10 5) (Qao) ?_
        refine Qpu 3 42 ?_ ?_ (Qbz 10 13) (Qao) ?_
        refine Qpu 4 43 ?_ ?_ (Qbz 10 29) (Qao) ?_
        refine Qpu 5 44 ?_ ?_ (Qbz 10 61) (Qao) ?_
        refine take_ (i := 1) (N := some 40) (v := ?_) (a' := ?_) (Qbz 10 63) rfl rfl (take_ofW HT_.out HW_.out (by kernel_rfl)) (fun _ _ _ h => h) (Or.inl ⟨by rfl, ?_⟩) hHeld ?_ ?_;rotate_left;(·rintro w' ⟨s0, s1⟩;go_simp;with_reducible rfl);rotate_left;(·simp only [Act.put, Qp1, Qp2, Qp3, i64_w, i32_w];rfl)
        refine one_ (i := 6) (N := some 45) (Qbz 10 127) rfl rfl (one_of HT_.out (by kernel_rfl)) (by decide) (fun K hK => ?_)
        refine value_ (w1 := ?_) (v := ?_) (by rfl) rfl ?_ ?_
        rotate_left 2
        ·go_simp
         constructor
         ·rfl
         ·rfl
        refine hK.out _ _ ⟨(blk_cell (blk_alloc BK783.out _) 0).trans rfl, (blk_cell (blk_alloc BK783.out _) 1).trans rfl⟩ (fun hHeld => ?_)
        clear hK K
        refine norm_ (a' := ?_) ?_ ?_
        rotate_left
        ·show Act.put _ (some 45) _ = _
         simp only [Act.put, Qp1, Qp2, Qp3, i64_w, i32_w]
         rfl
        refine one_ (i := 7) (N := some 46) (Qbz 10 255) rfl rfl (one_of HT_.out (by kernel_rfl)) (by decide) (fun K hK => ?_)
        refine Kd.R_append_step (Kd.int .i64) (w0 := w) w.heap.size (by rfl) (.tmp 40) (.tmp 45) 22 3 (.int .i64 0) 8 rfl Tryd.underlying22 info3 rfl (by decide) (by omega) u784000 x784000_1 (Go.bits .or .i64 (Go.bits .andNot .i64 (Go.bits .andNot .i64 t786 x5_1) (ji11)) (ji11)) [.int .i64 (Go.bits .or .i64 (Go.bits .andNot .i64 (Go.bits .andNot .i64 t786 x5_1) (ji11)) (ji11))] (fun k_ => some k_ ≠ (.slice (some ad784) t780.length co6 : Value).ownBlock ∧ some k_ ≠ (.slice (some ad784) t780.length co6 : Value).ownBlock ∧ some k_ ≠ (u784001 : Value).ownBlock) (fun _ => False) rfl rfl ?aP (fun _ hk => hk.elim) ?aF ?aO ?aB ?aS ?aL ?_
        (case aP => exact rfl)
        (case aB => exact (Qah GE779.out GE783.out))
        (case aF => exact (fun k_ hk => ⟨Kd.fresh' (Kd.R_lt (Qro HO_3.out)) k_ hk, Kd.fresh' (Kd.R_lt (Qro HO_13.out)) k_ hk, Kd.fresh' (Kd.R_lt (Qro HO_784001.out)) k_ hk⟩))
        (case aO => exact (Qro HO_784000.out))
        (case aS => exact (below_size (Qah GE779.out GE783.out)))
        (case aL => have := LMc18.out; omega)
        intro v788 w23 ho hb hg hat
        rw [← Ny787.out] at ho
        have n0_ := Aside0.mk (Kd.R_after (ok := (fun k_ => some k_ ≠ (u784001 : Value).ownBlock)) (by (with_reducible repeat (first | apply Kd.R_alloc | apply Kd.R_drewN | apply Kd.R_drew)); exact Kd.R_mono HO_3.out (fun _ hk => ⟨hk.2, hk.1⟩)) hg hat)
        have n1_ := Aside0.mk (Kd.R_after (ok := (fun k_ => some k_ ≠ (u784001 : Value).ownBlock)) (by (with_reducible repeat (first | apply Kd.R_alloc | apply Kd.R_drewN | apply Kd.R_drew)); exact Kd.R_mono HO_13.out (fun _ hk => ⟨hk.2, hk.1⟩)) hg hat)
        have n2_ := Aside0.mk (Kd.R_after (ok := (fun k_ => some k_ ≠ (.slice (some ad784) t780.length co6 : Value).ownBlock ∧ some k_ ≠ (.slice (some ad784) t780.length co6 : Value).ownBlock)) (by (with_reducible repeat (first | apply Kd.R_alloc | apply Kd.R_drewN | apply Kd.R_drew)); exact Kd.R_mono HO_784001.out (fun _ hk => ⟨⟨hk.1, hk.2.1⟩, hk.2.2⟩)) hg hat)
        have n3_ := Aside0.mk (blk_grown (g := gb779) (o := .cells #[.slice none 0 0, .slice none 0 0] 75 (0, 0)) (Qbl BK779.out) hg (Kd.R_ne HO_784000.out BK779.out (by decide)))
        have n4_ := Aside0.mk (blk_grown (g := gb783) (o := .cells #[u784000, u784001] 75 (0, 0)) (Qbl BK783.out) hg (Kd.R_ne HO_784000.out BK783.out (by decide)))
        have n5_ := Aside0.mk (hb)
        have n6_ := Aside0.mk (ho)
        clear HO_3
        clear HO_13
        clear HO_784001
        clear BK779
        clear BK783
        clear HB
        clear HO_784000
        have HO_3 := n0_
        have HO_13 := n1_
        have HO_784001 := n2_
        have BK779 := n3_
        have BK783 := n4_
        have HB := n5_
        have HO789 := n6_
        clear n0_ n1_ n2_ n3_ n4_ n5_ n6_
        clear ho hb hg hat
        obtain ⟨Ao24, co24, eo24⟩ := Kd.R_slice HO789.out
        (first | subst eo24 | (injection eo24 with f1_ f2_ f3_; have f4_ := f1_.symm; have f5_ := f3_.symm; clear f1_ f2_ f3_; subst f4_; subst f5_))
        refine hK.out _ _ ⟨(blk_cell BK783.out 0).trans rfl, (blk_cell BK783.out 1).trans rfl⟩ (fun hHeld => ?_)
        clear hK K
        refine norm_ (a' := ?_) ?_ ?_
        rotate_left
        ·show Act.put _ (some 46) _ = _
         simp only [Act.put, Qp1, Qp2, Qp3, i64_w, i32_w]
         rfl
        refine Qpu 8 47 ?_ ?_ (Qbz 10 511) (Qao) ?_
        refine last_ (i := 9) (N := none) (Qbz 10 1023) rfl rfl (one_of HT_.out (by kernel_rfl)) (by decide) (fun K hK => ?_)
        have hs25 : w23.cell? ⟨gb783, 0, none⟩ = some (u784000) := (blk_cell BK783.out 0).trans rfl
        have hfs25 := blk_frozen BK783.out 0
        have hns25_0 := NB779_783.out
        have hms25_0 := NB783_779.out
        refine skip_ (w1 := ?_) (by rfl) rfl ?_ ?_
        rotate_left
        ·go_simp
         rfl
        refine hK.out _ _ ?_
        clear hK K
        refine done_ (done_of HT_.out (by kernel_rfl)) ?_
        try go_wp2
        go_loopg [9, 10] k1 (fun kq v9 v10 w' => ∃ (x9_2 : Int) (x10_2 : Int), v9 = .int .i64 x9_2 ∧ v10 = .int .i64 x10_2 ∧ Aside0 (width_town_decompose.l1 kq l0 t780 (Go.bits .or .i64 x5_1 (ji11)) (Go.bits .andNot .i64 (Go.bits .andNot .i64 t786 x5_1) (ji11)) x9_2 x10_2 t780 (t780.length : Int) x15_1 y787 x784001_1 = some (r1, r2)) ∧ Aside0 (kq ≤ k1) ∧ Aside0 (Kd.R (Kd.int .i64) 3 w' w.heap.size (fun k_ => some k_ ≠ ((.slice Ao24 y787.length co24) : Value).ownBlock ∧ some k_ ≠ (u784001 : Value).ownBlock) (.slice (some ad784) t780.length co6) t780) ∧ Aside0 (Kd.R (Kd.int .i64) 3 w' w.heap.size (fun k_ => some k_ ≠ ((.slice Ao24 y787.length co24) : Value).ownBlock ∧ some k_ ≠ (u784001 : Value).ownBlock) (.slice (some ad784) t780.length co6) t780) ∧ Aside0 (Kd.R (Kd.int .i64) 3 w' w.heap.size (fun k_ => some k_ ≠ ((.slice (some ad784) t780.length co6) : Value).ownBlock ∧ some k_ ≠ ((.slice (some ad784) t780.length co6) : Value).ownBlock ∧ some k_ ≠ (u784001 : Value).ownBlock) (.slice Ao24 y787.length co24) y787) ∧ Aside0 (Kd.R (Kd.int .i64) 3 w' w.heap.size (fun k_ => some k_ ≠ ((.slice (some ad784) t780.length co6) : Value).ownBlock ∧ some k_ ≠ ((.slice (some ad784) t780.length co6) : Value).ownBlock ∧ some k_ ≠ ((.slice Ao24 y787.length co24) : Value).ownBlock) u784001 x784001_1) ∧ Aside0 (w'.heap[gb779]? = some (.cells #[(.slice none 0 0), (.slice none 0 0)] 75 (0, 0))) ∧ Aside0 (w'.heap[gb783]? = some (.cells #[(.slice Ao24 y787.length co24), u784001] 75 (0, 0))) ∧ Aside0 (Below w.heap.size w w'))
        case atStart => exact ⟨(wrap64 (x15_1 + 1)), (wrap64 (x15_1 + 1)), (Qrs), (Qrs), H', ⟨Nat.le_refl _⟩, ⟨by (with_reducible repeat (first | apply Kd.R_alloc | apply Kd.R_drewN | apply Kd.R_drew)); exact Kd.R_mono (Kd.R_far (p := ⟨gb783, 0, none⟩) (Kd.R_types HO_3.out BK783.out (by decide)) (fun _ hk => hk.2) (.slice Ao24 y787.length co24)) (fun _ hk => ⟨hk.1.2, hk.1.1⟩)⟩, ⟨by (with_reducible repeat (first | apply Kd.R_alloc | apply Kd.R_drewN | apply Kd.R_drew)); exact Kd.R_mono (Kd.R_far (p := ⟨gb783, 0, none⟩) (Kd.R_types HO_13.out BK783.out (by decide)) (fun _ hk => hk.2) (.slice Ao24 y787.length co24)) (fun _ hk => ⟨hk.1.2, hk.1.1⟩)⟩, ⟨by (with_reducible repeat (first | apply Kd.R_alloc | apply Kd.R_drewN | apply Kd.R_drew)); exact Kd.R_mono (Kd.R_far (p := ⟨gb783, 0, none⟩) (Kd.R_types HO789.out BK783.out (by decide)) (fun _ hk => hk.2) (.slice Ao24 y787.length co24)) (fun _ hk => ⟨hk.1.1, ⟨hk.1.2.1, hk.1.2.2⟩⟩)⟩, ⟨by (with_reducible repeat (first | apply Kd.R_alloc | apply Kd.R_drewN | apply Kd.R_drew)); exact Kd.R_mono (Kd.R_far (p := ⟨gb783, 0, none⟩) (Kd.R_types HO_784001.out BK783.out (by decide)) (fun _ hk => hk.2) (.slice Ao24 y787.length co24)) (fun _ hk => ⟨hk.1.1.1, ⟨hk.1.1.2, hk.1.2⟩⟩)⟩, ⟨by (with_reducible repeat (first | refine blk_drewN ?_ _ | refine blk_drew ?_ | refine blk_alloc ?_ _)); refine blk_far ?_ NB779_783.out _; (with_reducible repeat (first | refine blk_drewN ?_ _ | refine blk_drew ?_ | refine blk_alloc ?_ _)); exact BK779.out⟩, ⟨by (with_reducible repeat (first | refine blk_drewN ?_ _ | refine blk_drew ?_ | refine blk_alloc ?_ _)); refine blk_put (cs := #[u784000, u784001]) ?_ 0 _ rfl; (with_reducible repeat (first | refine blk_drewN ?_ _ | refine blk_drew ?_ | refine blk_alloc ?_ _)); exact BK783.out⟩, ⟨by repeat (first | (with_reducible first | exact HB.out | apply below_alloc | apply pw_below_drewN | apply below_drew1 | refine below_set ?_ GE779.out | refine below_set ?_ GE783.out) | exact HB.out)⟩⟩
        case round =>
         clear H'
         try clear c1
         try clear p2
         try clear p6
         try clear c7
         try clear c7b0
         try clear p7
         try clear q7
         try clear hx7
         try clear c8
         try clear c8b0
         try clear c9
         try clear c9b0
         try clear c10
         try clear c10b0
         try clear c10b1
         try clear c12
         try clear c12b0
         try clear c15
         try clear c15b0
         try clear c16
         try clear c16b0
         try clear c17
         try clear c17b0
         try clear c18
         try clear hx784_0
         try clear p2
         try clear p784
         try clear q784
         obtain ⟨x9_2, x10_2, rfl, rfl, HA, HK2, HO_3, HO_13, HO_784000, HO_784001, BK779, BK783, HB⟩ := hrel
         cases gk with
         | zero => exact absurd HA.out (by simp [width_town_decompose.l1])
         | succ k2 =>
          have H := HA.out
          clear HA
          simp only [width_town_decompose.l1] at H
          by_cases c26 : x10_2 < (t780.length : Int)
          ·rw [if_pos c26] at H
           have c26b0 : decide (x10_2 < (t780.length : Int)) = true := decide_eq_true c26
           clear c26
           by_cases c27 : 0 ≤ x10_2
           ·rw [if_pos c27] at H
            have c27b0 : decide (0 ≤ x10_2) = true := decide_eq_true c27
            clear c27
            by_cases c28 : 0 ≤ (rd t780 x10_2)
            ·rw [if_pos c28] at H
             have c28b0 := eq_true c28
             have c28b1 : decide (0 ≤ (rd t780 x10_2)) = true := decide_eq_true c28
             clear c28
             obtain ⟨ji29, hji29⟩ : ∃ j_ : Int, (shr .i64 (Go.bits .andNot .i64 (Go.bits .andNot .i64 t786 x5_1) (ji11)) (rd t780 x10_2)) = j_ := ⟨_, rfl⟩
             replace H : (if (Go.bits .and .i64 (ji29) 1) = 1 then (if x10_2 = (t780.length : Int) then (if x784001_1.length < 17592186044416 then (width_town_decompose.l0 k2 l0 t780 (Go.bits .or .i64 x5_1 (ji11)) t780 (t780.length : Int) (wrap64 (x15_1 + 1)) y787 (x784001_1 ++ [(-1)])) else (none)) else (if x784001_1.length < 17592186044416 then (width_town_decompose.l0 k2 l0 t780 (Go.bits .or .i64 x5_1 (ji11)) t780 (t780.length : Int) (wrap64 (x15_1 + 1)) y787 (x784001_1 ++ [x10_2])) else (none))) else (width_town_decompose.l1 k2 l0 t780 (Go.bits .or .i64 x5_1 (ji11)) (Go.bits .andNot .i64 (Go.bits .andNot .i64 t786 x5_1) (ji11)) x9_2 (wrap64 (x10_2 + 1)) t780 (t780.length : Int) x15_1 y787 x784001_1)) = some (r1, r2) := by first | (rw [hji29] at H; exact H) | (simp only [hji29] at H ⊢; exact H)
             have hji29_ : ((Go.bits .andNot .i64 (Go.bits .andNot .i64 t786 x5_1) (ji11)) / 2 ^ min (rd t780 x10_2).toNat 64) = ji29 := hji29
             have hji29z : (rd t780 x10_2) ≤ 64 → ((Go.bits .andNot .i64 (Go.bits .andNot .i64 t786 x5_1) (ji11)) / 2 ^ (rd t780 x10_2).toNat) = ji29 := shr_small hji29
             by_cases c30 : (Go.bits .and .i64 (ji29) 1) = 1
             ·rw [if_pos c30] at H
              have c30b0 : ((Go.bits .and .i64 (ji29) 1) == 1) = true := beq_iff_eq.mpr c30
              have c30b1 : ((Go.bits .and .i64 (ji29) 1) != 1) = false := bne_eq_false_iff_eq.mpr c30
              clear c30
              by_cases c31 : x10_2 = (t780.length : Int)
              ·rw [if_pos c31] at H
               have c31b0 : (x10_2 == (t780.length : Int)) = true := beq_iff_eq.mpr c31
               have c31b1 : (x10_2 != (t780.length : Int)) = false := bne_eq_false_iff_eq.mpr c31
               clear c31
               by_cases c32 : x784001_1.length < 17592186044416
               ·rw [if_pos c32] at H
                have LMc32 := Aside0.mk c32
                clear c32
                obtain ⟨y791, hy791⟩ : ∃ y_ : List Int, y_ = (x784001_1 ++ [(-1)]) := ⟨_, rfl⟩
                replace H : (width_town_decompose.l0 k2 l0 t780 (Go.bits .or .i64 x5_1 (ji11)) t780 (t780.length : Int) (wrap64 (x15_1 + 1)) y787 y791) = some (r1, r2) := by first | (rw [hy791]; with_reducible exact H) | (have H2_ := (Option.bind_some _ _).symm.trans H; rw [hy791]; with_reducible exact H2_) | (have H2_ := (Option.bind_some _ _).symm.trans H; with_reducible exact H2_) | with_reducible exact H | (rw [hy791]; exact H) | exact H
                have Ny791 := Aside0.mk hy791
                clear hy791
                have H' := Aside0.mk H
                clear H
                have p790 : 0 ≤ (x10_2 : Int) := of_decide_eq_true (Qas)
                have q790 : x10_2 < (t780.length : Int) := of_decide_eq_true (Qas)
                obtain ⟨ad790, e790, hx790_0⟩ := Kd.at_int (Kd.R_reads' HO_3.out).2.2 x10_2 p790 q790
                obtain rfl : ad784 = ad790 := (by injection e790)
                replace p790 := eq_true p790
                replace q790 := eq_true q790
                have hnb33 := NB783_779.out
                have hnc33 := NB779_783.out
                have hcz34_0 : wr.cell? ⟨gb783, 0, none⟩ = some (.slice Ao24 y787.length co24) := (blk_cell BK783.out 0).trans rfl
                have hcz34_1 : wr.cell? ⟨gb783, 1, none⟩ = some (u784001) := (blk_cell BK783.out 1).trans rfl
                have hfz34_0 := blk_frozen BK783.out 0
                have hfz34_1 := blk_frozen BK783.out 1
                go_wp2_with (first | ((with_reducible refine gate_builtin (b := .append) (xs := #[.tmp 72, .tmp 74]) rfl ?_); at_builtin; refine Kd.R_append (Kd.int .i64) (w0 := w) w.heap.size rfl (.tmp 72) (.tmp 74) 22 3 (.int .i64 0) 8 rfl Tryd.underlying22 info3 rfl (by decide) (by omega) u784001 x784001_1 (-1) [.int .i64 (-1)] (fun k_ => some k_ ≠ (.slice (some ad784) t780.length co6 : Value).ownBlock ∧ some k_ ≠ (.slice (some ad784) t780.length co6 : Value).ownBlock ∧ some k_ ≠ (.slice Ao24 y787.length co24 : Value).ownBlock) (fun _ => False) rfl rfl ?aP (fun _ hk => hk.elim) ?aF ?aO ?aB ?aS ?aL ?_; (case aP => exact rfl); (case aB => exact (Qah GE779.out GE783.out)); (case aF => exact (fun k_ hk => ⟨Kd.fresh' (Kd.R_lt (Qro HO_3.out)) k_ hk, Kd.fresh' (Kd.R_lt (Qro HO_13.out)) k_ hk, Kd.fresh' (Kd.R_lt (Qro HO_784000.out)) k_ hk⟩)); (case aO => exact (Qro HO_784001.out)); (case aS => exact (below_size (Qah GE779.out GE783.out))); (case aL => have := LMc32.out; omega); intro v792 w35 ho hb hg hat; rw [← Ny791.out] at ho; have n0_ := Aside0.mk (Kd.R_after (ok := (fun k_ => some k_ ≠ (.slice Ao24 y787.length co24 : Value).ownBlock)) (Qro HO_3.out) hg hat); have n1_ := Aside0.mk (Kd.R_after (ok := (fun k_ => some k_ ≠ (.slice Ao24 y787.length co24 : Value).ownBlock)) (Qro HO_13.out) hg hat); have n2_ := Aside0.mk (Kd.R_after (ok := (fun k_ => some k_ ≠ (.slice (some ad784) t780.length co6 : Value).ownBlock ∧ some k_ ≠ (.slice (some ad784) t780.length co6 : Value).ownBlock)) (by (with_reducible repeat (first | apply Kd.R_alloc | apply Kd.R_drewN | apply Kd.R_drew)); exact Kd.R_mono HO_784000.out (fun _ hk => ⟨⟨hk.1, hk.2.1⟩, hk.2.2⟩)) hg hat); have n3_ := Aside0.mk (blk_grown (g := gb779) (o := .cells #[.slice none 0 0, .slice none 0 0] 75 (0, 0)) (Qbl BK779.out) hg (Kd.R_ne HO_784001.out BK779.out (by decide))); have n4_ := Aside0.mk (blk_grown (g := gb783) (o := .cells #[.slice Ao24 y787.length co24, u784001] 75 (0, 0)) (Qbl BK783.out) hg (Kd.R_ne HO_784001.out BK783.out (by decide))); have n5_ := Aside0.mk (hb); have n6_ := Aside0.mk (ho); clear HO_3; clear HO_13; clear HO_784000; clear BK779; clear BK783; clear HB; clear HO_784001; have HO_3 := n0_; have HO_13 := n1_; have HO_784000 := n2_; have BK779 := n3_; have BK783 := n4_; have HB := n5_; have HO793 := n6_; clear n0_ n1_ n2_ n3_ n4_ n5_ n6_; clear ho hb hg hat; obtain ⟨Ao36, co36, eo36⟩ := Kd.R_slice HO793.out; subst eo36; have hcz37_0 : w35.cell? ⟨gb783, 0, none⟩ = some (.slice Ao24 y787.length co24) := (blk_cell BK783.out 0).trans rfl; have hcz37_1 : w35.cell? ⟨gb783, 1, none⟩ = some (u784001) := (blk_cell BK783.out 1).trans rfl; have hfz37_0 := blk_frozen BK783.out 0; have hfz37_1 := blk_frozen BK783.out 1))
                go_roundg k2
                case measure => have := HK1.out; have := HK2.out; omega
                case rel => exact ⟨((Go.bits .or .i64 x5_1 (ji11))), (wrap64 (x15_1 + 1)), (y787), (y791), (.slice Ao24 y787.length co24), (.slice Ao36 y791.length co36), (by first | rfl | (simp; done) | (simp only [← hji11] <;> (first | rfl | simp)) | (simp [*]; done)), (Qrs), H', ⟨by have := HK1.out; have := HK2.out; omega⟩, ⟨by (with_reducible repeat (first | apply Kd.R_alloc | apply Kd.R_drewN | apply Kd.R_drew)); exact Kd.R_mono (Kd.R_far (p := ⟨gb783, 1, none⟩) (Kd.R_types HO_3.out BK783.out (by decide)) (fun _ hk => hk.2) (.slice Ao36 y791.length co36)) (fun _ hk => ⟨hk.1.1, hk.1.2⟩)⟩, ⟨by (with_reducible repeat (first | apply Kd.R_alloc | apply Kd.R_drewN | apply Kd.R_drew)); exact Kd.R_mono (Kd.R_far (p := ⟨gb783, 1, none⟩) (Kd.R_types HO_13.out BK783.out (by decide)) (fun _ hk => hk.2) (.slice Ao36 y791.length co36)) (fun _ hk => ⟨hk.1.1, hk.1.2⟩)⟩, ⟨by (with_reducible repeat (first | apply Kd.R_alloc | apply Kd.R_drewN | apply Kd.R_drew)); exact Kd.R_mono (Kd.R_far (p := ⟨gb783, 1, none⟩) (Kd.R_types HO_784000.out BK783.out (by decide)) (fun _ hk => hk.2) (.slice Ao36 y791.length co36)) (fun _ hk => ⟨hk.1.1.1, ⟨hk.1.1.2, hk.1.2⟩⟩)⟩, ⟨by (with_reducible repeat (first | apply Kd.R_alloc | apply Kd.R_drewN | apply Kd.R_drew)); exact Kd.R_mono (Kd.R_far (p := ⟨gb783, 1, none⟩) (Kd.R_types HO793.out BK783.out (by decide)) (fun _ hk => hk.2) (.slice Ao36 y791.length co36)) (fun _ hk => ⟨hk.1.1, ⟨hk.1.2.1, hk.1.2.2⟩⟩)⟩, ⟨by (with_reducible repeat (first | refine blk_drewN ?_ _ | refine blk_drew ?_ | refine blk_alloc ?_ _)); refine blk_far ?_ NB779_783.out _; (with_reducible repeat (first | refine blk_drewN ?_ _ | refine blk_drew ?_ | refine blk_alloc ?_ _)); exact BK779.out⟩, ⟨by (with_reducible repeat (first | refine blk_drewN ?_ _ | refine blk_drew ?_ | refine blk_alloc ?_ _)); refine blk_put (cs := #[.slice Ao24 y787.length co24, u784001]) ?_ 1 _ rfl; (with_reducible repeat (first | refine blk_drewN ?_ _ | refine blk_drew ?_ | refine blk_alloc ?_ _)); exact BK783.out⟩, ⟨by repeat (first | (with_reducible first | exact HB.out | apply below_alloc | apply pw_below_drewN | apply below_drew1 | refine below_set ?_ GE779.out | refine below_set ?_ GE783.out) | exact HB.out)⟩⟩
               ·rw [if_neg c32] at H
                exact absurd H (by simp)
              ·rw [if_neg c31] at H
               have c31b0 : (x10_2 == (t780.length : Int)) = false := beq_eq_false_iff_ne.mpr c31
               have c31b1 : (x10_2 != (t780.length : Int)) = true := bne_iff_ne.mpr c31
               by_cases c38 : x784001_1.length < 17592186044416
               ·rw [if_pos c38] at H
                have LMc38 := Aside0.mk c38
                clear c38
                obtain ⟨y794, hy794⟩ : ∃ y_ : List Int, y_ = (x784001_1 ++ [x10_2]) := ⟨_, rfl⟩
                replace H : (width_town_decompose.l0 k2 l0 t780 (Go.bits .or .i64 x5_1 (ji11)) t780 (t780.length : Int) (wrap64 (x15_1 + 1)) y787 y794) = some (r1, r2) := by first | (rw [hy794]; with_reducible exact H) | (have H2_ := (Option.bind_some _ _).symm.trans H; rw [hy794]; with_reducible exact H2_) | (have H2_ := (Option.bind_some _ _).symm.trans H; with_reducible exact H2_) | with_reducible exact H | (rw [hy794]; exact H) | exact H
                have Ny794 := Aside0.mk hy794
                clear hy794
                have H' := Aside0.mk H
                clear H
                have p790 : 0 ≤ (x10_2 : Int) := of_decide_eq_true (Qas)
                have q790 : x10_2 < (t780.length : Int) := of_decide_eq_true (Qas)
                obtain ⟨ad790, e790, hx790_0⟩ := Kd.at_int (Kd.R_reads' HO_3.out).2.2 x10_2 p790 q790
                obtain rfl : ad784 = ad790 := (by injection e790)
                replace p790 := eq_true p790
                replace q790 := eq_true q790
                have hnb39 := NB783_779.out
                have hnc39 := NB779_783.out
                have hcz40_0 : wr.cell? ⟨gb783, 0, none⟩ = some (.slice Ao24 y787.length co24) := (blk_cell BK783.out 0).trans rfl
                have hcz40_1 : wr.cell? ⟨gb783, 1, none⟩ = some (u784001) := (blk_cell BK783.out 1).trans rfl
                have hfz40_0 := blk_frozen BK783.out 0
                have hfz40_1 := blk_frozen BK783.out 1
                go_wp2_with (first | ((with_reducible refine gate_builtin (b := .append) (xs := #[.tmp 72, .tmp 74]) rfl ?_); at_builtin; refine Kd.R_append (Kd.int .i64) (w0 := w) w.heap.size rfl (.tmp 72) (.tmp 74) 22 3 (.int .i64 0) 8 rfl Tryd.underlying22 info3 rfl (by decide) (by omega) u784001 x784001_1 x10_2 [.int .i64 x10_2] (fun k_ => some k_ ≠ (.slice (some ad784) t780.length co6 : Value).ownBlock ∧ some k_ ≠ (.slice (some ad784) t780.length co6 : Value).ownBlock ∧ some k_ ≠ (.slice Ao24 y787.length co24 : Value).ownBlock) (fun _ => False) rfl rfl ?aP (fun _ hk => hk.elim) ?aF ?aO ?aB ?aS ?aL ?_; (case aP => exact rfl); (case aB => exact (Qah GE779.out GE783.out)); (case aF => exact (fun k_ hk => ⟨Kd.fresh' (Kd.R_lt (Qro HO_3.out)) k_ hk, Kd.fresh' (Kd.R_lt (Qro HO_13.out)) k_ hk, Kd.fresh' (Kd.R_lt (Qro HO_784000.out)) k_ hk⟩)); (case aO => exact (Qro HO_784001.out)); (case aS => exact (below_size (Qah GE779.out GE783.out))); (case aL => have := LMc38.out; omega); intro v795 w41 ho hb hg hat; rw [← Ny794.out] at ho; have n0_ := Aside0.mk (Kd.R_after (ok := (fun k_ => some k_ ≠ (.slice Ao24 y787.length co24 : Value).ownBlock)) (Qro HO_3.out) hg hat); have n1_ := Aside0.mk (Kd.R_after (ok := (fun k_ => some k_ ≠ (.slice Ao24 y787.length co24 : Value).ownBlock)) (Qro HO_13.out) hg hat); have n2_ := Aside0.mk (Kd.R_after (ok := (fun k_ => some k_ ≠ (.slice (some ad784) t780.length co6 : Value).ownBlock ∧ some k_ ≠ (.slice (some ad784) t780.length co6 : Value).ownBlock)) (by (with_reducible repeat (first | apply Kd.R_alloc | apply Kd.R_drewN | apply Kd.R_drew)); exact Kd.R_mono HO_784000.out (fun _ hk => ⟨⟨hk.1, hk.2.1⟩, hk.2.2⟩)) hg hat); have n3_ := Aside0.mk (blk_grown (g := gb779) (o := .cells #[.slice none 0 0, .slice none 0 0] 75 (0, 0)) (Qbl BK779.out) hg (Kd.R_ne HO_784001.out BK779.out (by decide))); have n4_ := Aside0.mk (blk_grown (g := gb783) (o := .cells #[.slice Ao24 y787.length co24, u784001] 75 (0, 0)) (Qbl BK783.out) hg (Kd.R_ne HO_784001.out BK783.out (by decide))); have n5_ := Aside0.mk (hb); have n6_ := Aside0.mk (ho); clear HO_3; clear HO_13; clear HO_784000; clear BK779; clear BK783; clear HB; clear HO_784001; have HO_3 := n0_; have HO_13 := n1_; have HO_784000 := n2_; have BK779 := n3_; have BK783 := n4_; have HB := n5_; have HO796 := n6_; clear n0_ n1_ n2_ n3_ n4_ n5_ n6_; clear ho hb hg hat; obtain ⟨Ao42, co42, eo42⟩ := Kd.R_slice HO796.out; subst eo42; have hcz43_0 : w41.cell? ⟨gb783, 0, none⟩ = some (.slice Ao24 y787.length co24) := (blk_cell BK783.out 0).trans rfl; have hcz43_1 : w41.cell? ⟨gb783, 1, none⟩ = some (u784001) := (blk_cell BK783.out 1).trans rfl; have hfz43_0 := blk_frozen BK783.out 0; have hfz43_1 := blk_frozen BK783.out 1))
                go_roundg k2
                case measure => have := HK1.out; have := HK2.out; omega
                case rel => exact ⟨((Go.bits .or .i64 x5_1 (ji11))), (wrap64 (x15_1 + 1)), (y787), (y794), (.slice Ao24 y787.length co24), (.slice Ao42 y794.length co42), (by first | rfl | (simp; done) | (simp only [← hji11] <;> (first | rfl | simp)) | (simp [*]; done)), (Qrs), H', ⟨by have := HK1.out; have := HK2.out; omega⟩, ⟨by (with_reducible repeat (first | apply Kd.R_alloc | apply Kd.R_drewN | apply Kd.R_drew)); exact Kd.R_mono (Kd.R_far (p := ⟨gb783, 1, none⟩) (Kd.R_types HO_3.out BK783.out (by decide)) (fun _ hk => hk.2) (.slice Ao42 y794.length co42)) (fun _ hk => ⟨hk.1.1, hk.1.2⟩)⟩, ⟨by (with_reducible repeat (first | apply Kd.R_alloc | apply Kd.R_drewN | apply Kd.R_drew)); exact Kd.R_mono (Kd.R_far (p := ⟨gb783, 1, none⟩) (Kd.R_types HO_13.out BK783.out (by decide)) (fun _ hk => hk.2) (.slice Ao42 y794.length co42)) (fun _ hk => ⟨hk.1.1, hk.1.2⟩)⟩, ⟨by (with_reducible repeat (first | apply Kd.R_alloc | apply Kd.R_drewN | apply Kd.R_drew)); exact Kd.R_mono (Kd.R_far (p := ⟨gb783, 1, none⟩) (Kd.R_types HO_784000.out BK783.out (by decide)) (fun _ hk => hk.2) (.slice Ao42 y794.length co42)) (fun _ hk => ⟨hk.1.1.1, ⟨hk.1.1.2, hk.1.2⟩⟩)⟩, ⟨by (with_reducible repeat (first | apply Kd.R_alloc | apply Kd.R_drewN | apply Kd.R_drew)); exact Kd.R_mono (Kd.R_far (p := ⟨gb783, 1, none⟩) (Kd.R_types HO796.out BK783.out (by decide)) (fun _ hk => hk.2) (.slice Ao42 y794.length co42)) (fun _ hk => ⟨hk.1.1, ⟨hk.1.2.1, hk.1.2.2⟩⟩)⟩, ⟨by (with_reducible repeat (first | refine blk_drewN ?_ _ | refine blk_drew ?_ | refine blk_alloc ?_ _)); refine blk_far ?_ NB779_783.out _; (with_reducible repeat (first | refine blk_drewN ?_ _ | refine blk_drew ?_ | refine blk_alloc ?_ _)); exact BK779.out⟩, ⟨by (with_reducible repeat (first | refine blk_drewN ?_ _ | refine blk_drew ?_ | refine blk_alloc ?_ _)); refine blk_put (cs := #[.slice Ao24 y787.length co24, u784001]) ?_ 1 _ rfl; (with_reducible repeat (first | refine blk_drewN ?_ _ | refine blk_drew ?_ | refine blk_alloc ?_ _)); exact BK783.out⟩, ⟨by repeat (first | (with_reducible first | exact HB.out | apply below_alloc | apply pw_below_drewN | apply below_drew1 | refine below_set ?_ GE779.out | refine below_set ?_ GE783.out) | exact HB.out)⟩⟩
               ·rw [if_neg c38] at H
                exact absurd H (by simp)
             ·rw [if_neg c30] at H
              have c30b0 : ((Go.bits .and .i64 (ji29) 1) == 1) = false := beq_eq_false_iff_ne.mpr c30
              have c30b1 : ((Go.bits .and .i64 (ji29) 1) != 1) = true := bne_iff_ne.mpr c30
              have H' := Aside0.mk H
              clear H
              have p790 : 0 ≤ (x10_2 : Int) := of_decide_eq_true (Qas)
              have q790 : x10_2 < (t780.length : Int) := of_decide_eq_true (Qas)
              obtain ⟨ad790, e790, hx790_0⟩ := Kd.at_int (Kd.R_reads' HO_3.out).2.2 x10_2 p790 q790
              obtain rfl : ad784 = ad790 := (by injection e790)
              replace p790 := eq_true p790
              replace q790 := eq_true q790
              go_wp2
              go_roundg k2
              case measure => have := HK1.out; have := HK2.out; omega
              case rel => exact ⟨(x9_2), (wrap64 (x10_2 + 1)), (Qrs), (Qrs), H', ⟨by have := HK1.out; have := HK2.out; omega⟩, ⟨by (with_reducible repeat (first | apply Kd.R_alloc | apply Kd.R_drewN | apply Kd.R_drew)); exact HO_3.out⟩, ⟨by (with_reducible repeat (first | apply Kd.R_alloc | apply Kd.R_drewN | apply Kd.R_drew)); exact HO_13.out⟩, ⟨by (with_reducible repeat (first | apply Kd.R_alloc | apply Kd.R_drewN | apply Kd.R_drew)); exact HO_784000.out⟩, ⟨by (with_reducible repeat (first | apply Kd.R_alloc | apply Kd.R_drewN | apply Kd.R_drew)); exact HO_784001.out⟩, ⟨by (with_reducible repeat (first | refine blk_drewN ?_ _ | refine blk_drew ?_ | refine blk_alloc ?_ _)); exact BK779.out⟩, ⟨by (with_reducible repeat (first | refine blk_drewN ?_ _ | refine blk_drew ?_ | refine blk_alloc ?_ _)); exact BK783.out⟩, ⟨by repeat (first | (with_reducible first | exact HB.out | apply below_alloc | apply pw_below_drewN | apply below_drew1 | refine below_set ?_ GE779.out | refine below_set ?_ GE783.out) | exact HB.out)⟩⟩
            ·rw [if_neg c28] at H
             exact absurd H (by simp)
           ·rw [if_neg c27] at H
            exact absurd H (by simp)
          ·rw [if_neg c26] at H
           have c26b0 : decide (x10_2 < (t780.length : Int)) = false := decide_eq_false c26
           clear c26
           by_cases c44 : x9_2 = (t780.length : Int)
           ·rw [if_pos c44] at H
            have c44b0 : (x9_2 == (t780.length : Int)) = true := beq_iff_eq.mpr c44
            have c44b1 : (x9_2 != (t780.length : Int)) = false := bne_eq_false_iff_eq.mpr c44
            clear c44
            by_cases c45 : x784001_1.length < 17592186044416
            ·rw [if_pos c45] at H
             have LMc45 := Aside0.mk c45
             clear c45
             obtain ⟨y797, hy797⟩ : ∃ y_ : List Int, y_ = (x784001_1 ++ [(-1)]) := ⟨_, rfl⟩
             replace H : (width_town_decompose.l0 k2 l0 t780 (Go.bits .or .i64 x5_1 (ji11)) t780 (t780.length : Int) (wrap64 (x15_1 + 1)) y787 y797) = some (r1, r2) := by first | (rw [hy797]; with_reducible exact H) | (have H2_ := (Option.bind_some _ _).symm.trans H; rw [hy797]; with_reducible exact H2_) | (have H2_ := (Option.bind_some _ _).symm.trans H; with_reducible exact H2_) | with_reducible exact H | (rw [hy797]; exact H) | exact H
             have Ny797 := Aside0.mk hy797
             clear hy797
             have H' := Aside0.mk H
             clear H
             have hnb46 := NB783_779.out
             have hnc46 := NB779_783.out
             have hcz47_0 : wr.cell? ⟨gb783, 0, none⟩ = some (.slice Ao24 y787.length co24) := (blk_cell BK783.out 0).trans rfl
             have hcz47_1 : wr.cell? ⟨gb783, 1, none⟩ = some (u784001) := (blk_cell BK783.out 1).trans rfl
             have hfz47_0 := blk_frozen BK783.out 0
             have hfz47_1 := blk_frozen BK783.out 1
             go_wp2_with (first | ((with_reducible refine gate_builtin (b := .append) (xs := #[.tmp 72, .tmp 74]) rfl ?_); at_builtin; refine Kd.R_append (Kd.int .i64) (w0 := w) w.heap.size rfl (.tmp 72) (.tmp 74) 22 3 (.int .i64 0) 8 rfl Tryd.underlying22 info3 rfl (by decide) (by omega) u784001 x784001_1 (-1) [.int .i64 (-1)] (fun k_ => some k_ ≠ (.slice (some ad784) t780.length co6 : Value).ownBlock ∧ some k_ ≠ (.slice (some ad784) t780.length co6 : Value).ownBlock ∧ some k_ ≠ (.slice Ao24 y787.length co24 : Value).ownBlock) (fun _ => False) rfl rfl ?aP (fun _ hk => hk.elim) ?aF ?aO ?aB ?aS ?aL ?_; (case aP => exact rfl); (case aB => exact (Qah GE779.out GE783.out)); (case aF => exact (fun k_ hk => ⟨Kd.fresh' (Kd.R_lt (Qro HO_3.out)) k_ hk, Kd.fresh' (Kd.R_lt (Qro HO_13.out)) k_ hk, Kd.fresh' (Kd.R_lt (Qro HO_784000.out)) k_ hk⟩)); (case aO => exact (Qro HO_784001.out)); (case aS => exact (below_size (Qah GE779.out GE783.out))); (case aL => have := LMc45.out; omega); intro v798 w48 ho hb hg hat; rw [← Ny797.out] at ho; have n0_ := Aside0.mk (Kd.R_after (ok := (fun k_ => some k_ ≠ (.slice Ao24 y787.length co24 : Value).ownBlock)) (Qro HO_3.out) hg hat); have n1_ := Aside0.mk (Kd.R_after (ok := (fun k_ => some k_ ≠ (.slice Ao24 y787.length co24 : Value).ownBlock)) (Qro HO_13.out) hg hat); have n2_ := Aside0.mk (Kd.R_after (ok := (fun k_ => some k_ ≠ (.slice (some ad784) t780.length co6 : Value).ownBlock ∧ some k_ ≠ (.slice (some ad784) t780.length co6 : Value).ownBlock)) (by (with_reducible repeat (first | apply Kd.R_alloc | apply Kd.R_drewN | apply Kd.R_drew)); exact Kd.R_mono HO_784000.out (fun _ hk => ⟨⟨hk.1, hk.2.1⟩, hk.2.2⟩)) hg hat); have n3_ := Aside0.mk (blk_grown (g := gb779) (o := .cells #[.slice none 0 0, .slice none 0 0] 75 (0, 0)) (Qbl BK779.out) hg (Kd.R_ne HO_784001.out BK779.out (by decide))); have n4_ := Aside0.mk (blk_grown (g := gb783) (o := .cells #[.slice Ao24 y787.length co24, u784001] 75 (0, 0)) (Qbl BK783.out) hg (Kd.R_ne HO_784001.out BK783.out (by decide))); have n5_ := Aside0.mk (hb); have n6_ := Aside0.mk (ho); clear HO_3; clear HO_13; clear HO_784000; clear BK779; clear BK783; clear HB; clear HO_784001; have HO_3 := n0_; have HO_13 := n1_; have HO_784000 := n2_; have BK779 := n3_; have BK783 := n4_; have HB := n5_; have HO799 := n6_; clear n0_ n1_ n2_ n3_ n4_ n5_ n6_; clear ho hb hg hat; obtain ⟨Ao49, co49, eo49⟩ := Kd.R_slice HO799.out; subst eo49; have hcz50_0 : w48.cell? ⟨gb783, 0, none⟩ = some (.slice Ao24 y787.length co24) := (blk_cell BK783.out 0).trans rfl; have hcz50_1 : w48.cell? ⟨gb783, 1, none⟩ = some (u784001) := (blk_cell BK783.out 1).trans rfl; have hfz50_0 := blk_frozen BK783.out 0; have hfz50_1 := blk_frozen BK783.out 1))
             go_roundg k2
             case measure => have := HK1.out; have := HK2.out; omega
             case rel => exact ⟨((Go.bits .or .i64 x5_1 (ji11))), (wrap64 (x15_1 + 1)), (y787), (y797), (.slice Ao24 y787.length co24), (.slice Ao49 y797.length co49), (by first | rfl | (simp; done) | (simp only [← hji11] <;> (first | rfl | simp)) | (simp [*]; done)), (Qrs), H', ⟨by have := HK1.out; have := HK2.out; omega⟩, ⟨by (with_reducible repeat (first | apply Kd.R_alloc | apply Kd.R_drewN | apply Kd.R_drew)); exact Kd.R_mono (Kd.R_far (p := ⟨gb783, 1, none⟩) (Kd.R_types HO_3.out BK783.out (by decide)) (fun _ hk => hk.2) (.slice Ao49 y797.length co49)) (fun _ hk => ⟨hk.1.1, hk.1.2⟩)⟩, ⟨by (with_reducible repeat (first | apply Kd.R_alloc | apply Kd.R_drewN | apply Kd.R_drew)); exact Kd.R_mono (Kd.R_far (p := ⟨gb783, 1, none⟩) (Kd.R_types HO_13.out BK783.out (by decide)) (fun _ hk => hk.2) (.slice Ao49 y797.length co49)) (fun _ hk => ⟨hk.1.1, hk.1.2⟩)⟩, ⟨by (with_reducible repeat (first | apply Kd.R_alloc | apply Kd.R_drewN | apply Kd.R_drew)); exact Kd.R_mono (Kd.R_far (p := ⟨gb783, 1, none⟩) (Kd.R_types HO_784000.out BK783.out (by decide)) (fun _ hk => hk.2) (.slice Ao49 y797.length co49)) (fun _ hk => ⟨hk.1.1.1, ⟨hk.1.1.2, hk.1.2⟩⟩)⟩, ⟨by (with_reducible repeat (first | apply Kd.R_alloc | apply Kd.R_drewN | apply Kd.R_drew)); exact Kd.R_mono (Kd.R_far (p := ⟨gb783, 1, none⟩) (Kd.R_types HO799.out BK783.out (by decide)) (fun _ hk => hk.2) (.slice Ao49 y797.length co49)) (fun _ hk => ⟨hk.1.1, ⟨hk.1.2.1, hk.1.2.2⟩⟩)⟩, ⟨by (with_reducible repeat (first | refine blk_drewN ?_ _ | refine blk_drew ?_ | refine blk_alloc ?_ _)); refine blk_far ?_ NB779_783.out _; (with_reducible repeat (first | refine blk_drewN ?_ _ | refine blk_drew ?_ | refine blk_alloc ?_ _)); exact BK779.out⟩, ⟨by (with_reducible repeat (first | refine blk_drewN ?_ _ | refine blk_drew ?_ | refine blk_alloc ?_ _)); refine blk_put (cs := #[.slice Ao24 y787.length co24, u784001]) ?_ 1 _ rfl; (with_reducible repeat (first | refine blk_drewN ?_ _ | refine blk_drew ?_ | refine blk_alloc ?_ _)); exact BK783.out⟩, ⟨by repeat (first | (with_reducible first | exact HB.out | apply below_alloc | apply pw_below_drewN | apply below_drew1 | refine below_set ?_ GE779.out | refine below_set ?_ GE783.out) | exact HB.out)⟩⟩
            ·rw [if_neg c45] at H
             exact absurd H (by simp)
           ·rw [if_neg c44] at H
            have c44b0 : (x9_2 == (t780.length : Int)) = false := beq_eq_false_iff_ne.mpr c44
            have c44b1 : (x9_2 != (t780.length : Int)) = true := bne_iff_ne.mpr c44
            by_cases c51 : x784001_1.length < 17592186044416
            ·rw [if_pos c51] at H
             have LMc51 := Aside0.mk c51
             clear c51
             obtain ⟨y800, hy800⟩ : ∃ y_ : List Int, y_ = (x784001_1 ++ [x9_2]) := ⟨_, rfl⟩
             replace H : (width_town_decompose.l0 k2 l0 t780 (Go.bits .or .i64 x5_1 (ji11)) t780 (t780.length : Int) (wrap64 (x15_1 + 1)) y787 y800) = some (r1, r2) := by first | (rw [hy800]; with_reducible exact H) | (have H2_ := (Option.bind_some _ _).symm.trans H; rw [hy800]; with_reducible exact H2_) | (have H2_ := (Option.bind_some _ _).symm.trans H; with_reducible exact H2_) | with_reducible exact H | (rw [hy800]; exact H) | exact H
             have Ny800 := Aside0.mk hy800
             clear hy800
             have H' := Aside0.mk H
             clear H
             have hnb52 := NB783_779.out
             have hnc52 := NB779_783.out
             have hcz53_0 : wr.cell? ⟨gb783, 0, none⟩ = some (.slice Ao24 y787.length co24) := (blk_cell BK783.out 0).trans rfl
             have hcz53_1 : wr.cell? ⟨gb783, 1, none⟩ = some (u784001) := (blk_cell BK783.out 1).trans rfl
             have hfz53_0 := blk_frozen BK783.out 0
             have hfz53_1 := blk_frozen BK783.out 1
             go_wp2_with (first | ((with_reducible refine gate_builtin (b := .append) (xs := #[.tmp 72, .tmp 74]) rfl ?_); at_builtin; refine Kd.R_append (Kd.int .i64) (w0 := w) w.heap.size rfl (.tmp 72) (.tmp 74) 22 3 (.int .i64 0) 8 rfl Tryd.underlying22 info3 rfl (by decide) (by omega) u784001 x784001_1 x9_2 [.int .i64 x9_2] (fun k_ => some k_ ≠ (.slice (some ad784) t780.length co6 : Value).ownBlock ∧ some k_ ≠ (.slice (some ad784) t780.length co6 : Value).ownBlock ∧ some k_ ≠ (.slice Ao24 y787.length co24 : Value).ownBlock) (fun _ => False) rfl rfl ?aP (fun _ hk => hk.elim) ?aF ?aO ?aB ?aS ?aL ?_; (case aP => exact rfl); (case aB => exact (Qah GE779.out GE783.out)); (case aF => exact (fun k_ hk => ⟨Kd.fresh' (Kd.R_lt (Qro HO_3.out)) k_ hk, Kd.fresh' (Kd.R_lt (Qro HO_13.out)) k_ hk, Kd.fresh' (Kd.R_lt (Qro HO_784000.out)) k_ hk⟩)); (case aO => exact (Qro HO_784001.out)); (case aS => exact (below_size (Qah GE779.out GE783.out))); (case aL => have := LMc51.out; omega); intro v801 w54 ho hb hg hat; rw [← Ny800.out] at ho; have n0_ := Aside0.mk (Kd.R_after (ok := (fun k_ => some k_ ≠ (.slice Ao24 y787.length co24 : Value).ownBlock)) (Qro HO_3.out) hg hat); have n1_ := Aside0.mk (Kd.R_after (ok := (fun k_ => some k_ ≠ (.slice Ao24 y787.length co24 : Value).ownBlock)) (Qro HO_13.out) hg hat); have n2_ := Aside0.mk (Kd.R_after (ok := (fun k_ => some k_ ≠ (.slice (some ad784) t780.length co6 : Value).ownBlock ∧ some k_ ≠ (.slice (some ad784) t780.length co6 : Value).ownBlock)) (by (with_reducible repeat (first | apply Kd.R_alloc | apply Kd.R_drewN | apply Kd.R_drew)); exact Kd.R_mono HO_784000.out (fun _ hk => ⟨⟨hk.1, hk.2.1⟩, hk.2.2⟩)) hg hat); have n3_ := Aside0.mk (blk_grown (g := gb779) (o := .cells #[.slice none 0 0, .slice none 0 0] 75 (0, 0)) (Qbl BK779.out) hg (Kd.R_ne HO_784001.out BK779.out (by decide))); have n4_ := Aside0.mk (blk_grown (g := gb783) (o := .cells #[.slice Ao24 y787.length co24, u784001] 75 (0, 0)) (Qbl BK783.out) hg (Kd.R_ne HO_784001.out BK783.out (by decide))); have n5_ := Aside0.mk (hb); have n6_ := Aside0.mk (ho); clear HO_3; clear HO_13; clear HO_784000; clear BK779; clear BK783; clear HB; clear HO_784001; have HO_3 := n0_; have HO_13 := n1_; have HO_784000 := n2_; have BK779 := n3_; have BK783 := n4_; have HB := n5_; have HO802 := n6_; clear n0_ n1_ n2_ n3_ n4_ n5_ n6_; clear ho hb hg hat; obtain ⟨Ao55, co55, eo55⟩ := Kd.R_slice HO802.out; subst eo55; have hcz56_0 : w54.cell? ⟨gb783, 0, none⟩ = some (.slice Ao24 y787.length co24) := (blk_cell BK783.out 0).trans rfl; have hcz56_1 : w54.cell? ⟨gb783, 1, none⟩ = some (u784001) := (blk_cell BK783.out 1).trans rfl; have hfz56_0 := blk_frozen BK783.out 0; have hfz56_1 := blk_frozen BK783.out 1))
             go_roundg k2
             case measure => have := HK1.out; have := HK2.out; omega
             case rel => exact ⟨((Go.bits .or .i64 x5_1 (ji11))), (wrap64 (x15_1 + 1)), (y787), (y800), (.slice Ao24 y787.length co24), (.slice Ao55 y800.length co55), (by first | rfl | (simp; done) | (simp only [← hji11] <;> (first | rfl | simp)) | (simp [*]; done)), (Qrs), H', ⟨by have := HK1.out; have := HK2.out; omega⟩, ⟨by (with_reducible repeat (first | apply Kd.R_alloc | apply Kd.R_drewN | apply Kd.R_drew)); exact Kd.R_mono (Kd.R_far (p := ⟨gb783, 1, none⟩) (Kd.R_types HO_3.out BK783.out (by decide)) (fun _ hk => hk.2) (.slice Ao55 y800.length co55)) (fun _ hk => ⟨hk.1.1, hk.1.2⟩)⟩, ⟨by (with_reducible repeat (first | apply Kd.R_alloc | apply Kd.R_drewN | apply Kd.R_drew)); exact Kd.R_mono (Kd.R_far (p := ⟨gb783, 1, none⟩) (Kd.R_types HO_13.out BK783.out (by decide)) (fun _ hk => hk.2) (.slice Ao55 y800.length co55)) (fun _ hk => ⟨hk.1.1, hk.1.2⟩)⟩, ⟨by (with_reducible repeat (first | apply Kd.R_alloc | apply Kd.R_drewN | apply Kd.R_drew)); exact Kd.R_mono (Kd.R_far (p := ⟨gb783, 1, none⟩) (Kd.R_types HO_784000.out BK783.out (by decide)) (fun _ hk => hk.2) (.slice Ao55 y800.length co55)) (fun _ hk => ⟨hk.1.1.1, ⟨hk.1.1.2, hk.1.2⟩⟩)⟩, ⟨by (with_reducible repeat (first | apply Kd.R_alloc | apply Kd.R_drewN | apply Kd.R_drew)); exact Kd.R_mono (Kd.R_far (p := ⟨gb783, 1, none⟩) (Kd.R_types HO802.out BK783.out (by decide)) (fun _ hk => hk.2) (.slice Ao55 y800.length co55)) (fun _ hk => ⟨hk.1.1, ⟨hk.1.2.1, hk.1.2.2⟩⟩)⟩, ⟨by (with_reducible repeat (first | refine blk_drewN ?_ _ | refine blk_drew ?_ | refine blk_alloc ?_ _)); refine blk_far ?_ NB779_783.out _; (with_reducible repeat (first | refine blk_drewN ?_ _ | refine blk_drew ?_ | refine blk_alloc ?_ _)); exact BK779.out⟩, ⟨by (with_reducible repeat (first | refine blk_drewN ?_ _ | refine blk_drew ?_ | refine blk_alloc ?_ _)); refine blk_put (cs := #[.slice Ao24 y787.length co24, u784001]) ?_ 1 _ rfl; (with_reducible repeat (first | refine blk_drewN ?_ _ | refine blk_drew ?_ | refine blk_alloc ?_ _)); exact BK783.out⟩, ⟨by repeat (first | (with_reducible first | exact HB.out | apply below_alloc | apply pw_below_drewN | apply below_drew1 | refine below_set ?_ GE779.out | refine below_set ?_ GE783.out) | exact HB.out)⟩⟩
            ·rw [if_neg c51] at H
             exact absurd H (by simp)
       ·rw [if_neg c18] at H
        exact absurd H (by simp)
      ·rw [if_neg c10] at H
       exact absurd H (by simp)
     ·rw [if_neg c9] at H
      exact absurd H (by simp)
    ·rw [if_neg c8] at H
     exact absurd H (by simp)
   ·rw [if_neg c7] at H
    have c7b0 : decide (x15_1 < (t780.length : Int)) = false := decide_eq_false c7
    clear c7
    simp only [Option.some.injEq, Prod.mk.injEq] at H
    obtain ⟨rfl, rfl⟩ := H
    have hnb57 := NB783_779.out
    have hnc57 := NB779_783.out
    have hcz58_0 : wr.cell? ⟨gb783, 0, none⟩ = some (u784000) := (blk_cell BK783.out 0).trans rfl
    have hcz58_1 : wr.cell? ⟨gb783, 1, none⟩ = some (u784001) := (blk_cell BK783.out 1).trans rfl
    have hfz58_0 := blk_frozen BK783.out 0
    have hfz58_1 := blk_frozen BK783.out 1
    obtain ⟨Ao59, co59, eo59⟩ := Kd.R_slice HO_784000.out
    subst eo59
    have hcz60_0 : wr.cell? ⟨gb779, 0, none⟩ = some (.slice none 0 0) := (blk_cell BK779.out 0).trans rfl
    have hcz60_1 : wr.cell? ⟨gb779, 1, none⟩ = some (.slice none 0 0) := (blk_cell BK779.out 1).trans rfl
    have hfz60_0 := blk_frozen BK779.out 0
    have hfz60_1 := blk_frozen BK779.out 1
    obtain ⟨Ao61, co61, eo61⟩ := Kd.R_slice HO_784001.out
    subst eo61
    go_wp2
    refine bodyPost_ret (results_cell_row rfl _ _ gb779 75 #[.slice Ao59 x784000_1.length co59, .slice Ao61 x784001_1.length co61] (0, 0) _ rfl (by (with_reducible repeat (first | refine blk_drewN ?_ _ | refine blk_drew ?_ | refine blk_alloc ?_ _)); refine blk_put (cs := #[.slice Ao59 x784000_1.length co59, .slice none 0 0]) ?_ 1 _ rfl; (with_reducible repeat (first | refine blk_drewN ?_ _ | refine blk_drew ?_ | refine blk_alloc ?_ _)); refine blk_put (cs := #[.slice none 0 0, .slice none 0 0]) ?_ 0 _ rfl; (with_reducible repeat (first | refine blk_drewN ?_ _ | refine blk_drew ?_ | refine blk_alloc ?_ _)); exact BK779.out) Tryd.underlying75 rfl (by kernel_rfl)) rfl ?_
    exact ⟨_, _, by first | rfl | (simp [errW_none, errW_some] <;> rfl) | (simp [*, errW_none, errW_some] <;> rfl), by (with_reducible repeat (first | apply Kd.R_alloc | apply Kd.R_drewN | apply Kd.R_drew)); exact Kd.R_mono (Kd.R_far (p := ⟨gb779, 1, none⟩) (Kd.R_far (p := ⟨gb779, 0, none⟩) (Kd.R_types HO_784000.out BK779.out (by decide)) (fun _ hk => hk.2) (.slice Ao59 x784000_1.length co59)) (fun _ hk => hk.2) (.slice Ao61 x784001_1.length co61)) (fun _ hk => hk.1.2.2), by (with_reducible repeat (first | apply Kd.R_alloc | apply Kd.R_drewN | apply Kd.R_drew)); exact Kd.R_mono (Kd.R_far (p := ⟨gb779, 1, none⟩) (Kd.R_far (p := ⟨gb779, 0, none⟩) (Kd.R_types HO_784001.out BK779.out (by decide)) (fun _ hk => hk.2) (.slice Ao59 x784000_1.length co59)) (fun _ hk => hk.2) (.slice Ao61 x784001_1.length co61)) (fun _ hk => hk.1.2.2), by repeat (first | (with_reducible first | exact HB.out | apply below_alloc | apply pw_below_drewN | apply below_drew1 | refine below_set ?_ GE779.out | refine below_set ?_ GE783.out) | exact HB.out)⟩
end
end Go.Proofs.YtjloppfdagfpmaaDoor.X
end
section
namespace Go.Proofs.YtjloppfdagfpmaaDoor.X
open Go.RowKit YtjloppfdagfpmaaDoorW.PrintWords YtjloppfdagfpmaaDoorW.PrintLast YtjloppfdagfpmaaDoorW.PrintMore YtjloppfdagfpmaaDoor.T
def goneAtV (O : List Nat) (i : Nat) : Nat := lset (O.take i)
noncomputable def higherV (G O : List Nat) (i : Nat) : Nat := nbset G (goneAtV O i) (O.getD i 0)
noncomputable def bagAtV (G O : List Nat) (i : Nat) : Nat := higherV G O i ||| 2 ^ O.getD i 0
noncomputable def parFromV (G O : List Nat) (i : Nat) : Nat → Nat → Int
 | 0, _ => if i + 1 = O.length then -1 else ((i + 1 : Nat) : Int)
 | d + 1, k => if (higherV G O i).testBit (O.getD k 0) then (k : Int) else parFromV G O i d (k + 1)
noncomputable def parAtV (G O : List Nat) (i : Nat) : Int := parFromV G O i (O.length - (i + 1)) (i + 1)
noncomputable def bagsLV (G O : List Nat) (i : Nat) : List Int := (List.range i).map fun j => ((bagAtV G O j : Nat) : Int)
noncomputable def parsLV (G O : List Nat) (i : Nat) : List Int := (List.range i).map (parAtV G O)
theorem bagsL_succV (G O : List Nat) (i : Nat) : bagsLV G O (i + 1) = bagsLV G O i ++ [((bagAtV G O i : Nat) : Int)] := by simp [bagsLV, List.range_succ]
theorem parsL_succV (G O : List Nat) (i : Nat) : parsLV G O (i + 1) = parsLV G O i ++ [parAtV G O i] := by simp [parsLV, List.range_succ]
theorem goneAt_succV (O : List Nat) {i : Nat} (hi : i < O.length) : goneAtV O (i + 1) = goneAtV O i ||| 2 ^ O.getD i 0 := by
 unfold goneAtV
 rw [List.take_succ_eq_append_getElem hi, lset_snoc, List.getD_eq_getElem?_getD, List.getElem?_eq_getElem hi]
 rfl
section
variable {G O : List Nat} (hG : Gr 9 G) (hO : ∀ v ∈ O, v < G.length) (hl : O.length ≤ 9)
include hG hO hl
omit hG hl in
theorem o_inV {i : Nat} (hi : i < O.length) : O.getD i 0 < G.length := by
 rw [List.getD_eq_getElem?_getD, List.getElem?_eq_getElem hi]
 exact hO _ (List.getElem_mem hi)
omit hG hl in
theorem gone_ltV (i : Nat) : goneAtV O i < 2 ^ G.length := lset_lt fun v hv => hO v (List.mem_of_mem_take hv)
omit hl in
theorem bag_ltV {i : Nat} (hi : i < O.length) : bagAtV G O i < 2 ^ G.length := Nat.or_lt_two_pow (nbset_lt hG _ _) (Nat.pow_lt_pow_right (by omega) (o_inV hO hi))
theorem decomp_l1V (i : Nat) (hi : i < O.length) (X : List Int × List Int) (g0 : Int)
  (next : Ev (fun k => width_town_decompose.l0 k (gi G) (gi O) g0 (gi O) (O.length : Int) ((i + 1 : Nat) : Int) (bagsLV G O (i + 1)) (parsLV G O (i + 1))) X) :
  ∀ d k, k + d = O.length → parFromV G O i d k = parAtV G O i → Ev (fun m => width_town_decompose.l1 m (gi G) (gi O) g0 ((higherV G O i : Nat) : Int) ((i + 1 : Nat) : Int) (k : Int) (gi O) (O.length : Int) (i : Int) (bagsLV G O (i + 1)) (parsLV G O i)) X := by
 have hn := hG.most
 have h29 : 2 ^ G.length ≤ 2 ^ 9 := Nat.pow_le_pow_right (by omega) hn
 have hgl := gi_length O
 have hpl : (parsLV G O i).length = i := by simp [parsLV]
 rw [parsL_succV] at next
 intro d
 induction d with
 | zero =>
  intro k hk hp
  rw [parFromV] at hp
  by_cases h : i + 1 = O.length
  ·rw [if_pos h] at hp
   refine Ev.step (fun m => ?_) next
   rw [width_town_decompose.l1, if_neg (by omega), if_pos (by omega), if_pos (by omega), wrap_succ i (by omega), ← hp]
  ·rw [if_neg h] at hp
   refine Ev.step (fun m => ?_) next
   rw [width_town_decompose.l1, if_neg (by omega), if_neg (by omega), if_pos (by omega), wrap_succ i (by omega), ← hp]
 | succ d ih =>
  intro k hk hp
  have hkl : k < O.length := by omega
  have hv := o_inV hO hkl
  rw [parFromV] at hp
  have hr : rd (gi O) (k : Int) = ((O.getD k 0 : Nat) : Int) := rd_gi O k
  have hh : higherV G O i < 2 ^ G.length := nbset_lt hG _ _
  generalize O.getD k 0 = u at *
  by_cases hb : (higherV G O i).testBit u = true
  ·rw [if_pos hb] at hp
   refine Ev.step (fun m => ?_) next
   rw [width_town_decompose.l1, if_pos (by omega), if_pos (by omega), hr, if_pos (by omega), if_pos ((bit_one _ u (by omega) (by omega)).2 hb), if_neg (by omega), if_pos (by omega), wrap_succ i (by omega), ← hp]
  ·rw [if_neg hb] at hp
   refine Ev.step (fun m => ?_) (ih (k + 1) (by omega) hp)
   rw [width_town_decompose.l1, if_pos (by omega), if_pos (by omega), hr, if_pos (by omega), if_neg (fun h => hb ((bit_one _ u (by omega) (by omega)).1 h)), wrap_succ k (by omega)]
theorem decomp_l0V : ∀ d i, i + d = O.length → Ev (fun m => width_town_decompose.l0 m (gi G) (gi O) ((goneAtV O i : Nat) : Int) (gi O) (O.length : Int) (i : Int) (bagsLV G O i) (parsLV G O i)) (bagsLV G O O.length, parsLV G O O.length) := by
 have hn := hG.most
 have h29 : 2 ^ G.length ≤ 2 ^ 9 := Nat.pow_le_pow_right (by omega) hn
 have hgl := gi_length O
 intro d
 induction d with
 | zero =>
  intro i hi
  obtain rfl : i = O.length := by omega
  exact Ev.step (f := fun _ => some (bagsLV G O O.length, parsLV G O O.length)) (fun m => by rw [width_town_decompose.l0, if_neg (by omega)]) (Ev.some rfl)
 | succ d ih =>
  intro i hi
  have hil : i < O.length := by omega
  have hv := o_inV hO hil
  have hbl : (bagsLV G O i).length = i := by simp [bagsLV]
  have hr : rd (gi O) (i : Int) = ((O.getD i 0 : Nat) : Int) := rd_gi O i
  have hg := gone_ltV (G := G) hO i
  have hgs := goneAt_succV O hil
  have next := ih (i + 1) (by omega)
  have hbs := bagsL_succV G O i
  have hbag : bagAtV G O i = higherV G O i ||| 2 ^ O.getD i 0 := rfl
  have hhd : higherV G O i = diff (diff (Around G (conset G (2 ^ O.getD i 0) (goneAtV O i ||| 2 ^ O.getD i 0))) (goneAtV O i)) (2 ^ O.getD i 0) := rfl
  have hl1 := decomp_l1V hG hO hl i hil _ _ next (O.length - (i + 1)) (i + 1) (by omega) rfl
  rw [hgs] at hl1
  rw [hbs, hbag] at hl1
  generalize O.getD i 0 = u at *
  generalize goneAtV O i = gn at *
  have hp : 2 ^ u < 2 ^ G.length := Nat.pow_lt_pow_right (by omega) hv
  have hc := conset_lt G (2 ^ u) (gn ||| 2 ^ u)
  have hA := Around_lt hG (conset G (2 ^ u) (gn ||| 2 ^ u))
  have hd : diff (Around G (conset G (2 ^ u) (gn ||| 2 ^ u))) gn < 2 ^ G.length := Nat.lt_of_le_of_lt (diff_le _ _) hA
  have hd2 : diff (diff (Around G (conset G (2 ^ u) (gn ||| 2 ^ u))) gn) (2 ^ u) < 2 ^ G.length := Nat.lt_of_le_of_lt (diff_le _ _) hd
  have e1 := s_one u (by omega)
  have e2 := b_or gn (2 ^ u) (by omega) (by omega)
  have e3 := b_andNot _ gn (show Around G (conset G (2 ^ u) (gn ||| 2 ^ u)) < 2 ^ 62 by omega) (by omega)
  have e4 := b_andNot _ (2 ^ u) (show diff (Around G (conset G (2 ^ u) (gn ||| 2 ^ u))) gn < 2 ^ 62 by omega) (by omega)
  rw [hhd] at hl1
  have e5 := b_or _ (2 ^ u) (show diff (diff (Around G (conset G (2 ^ u) (gn ||| 2 ^ u))) gn) (2 ^ u) < 2 ^ 62 by omega) (by omega)
  refine Ev.step (fun m => by rw [width_town_decompose.l0, if_pos (by omega), if_pos (by omega), if_pos (by omega), hr, if_pos (by omega), e1, e2, wrap_succ i (by omega)]) (Ev.bind (part_evV G hG _ _ hp (or_lt hg hp)) (Ev.bind (around_evV G hG _ hc) ?_))
  refine Ev.if_pos (by omega) ?_
  rw [e3, e4, e5]
  exact hl1
end
theorem decompose_evV {G : List Nat} (hG : Gr 9 G) {W : Nat} (hW : IsWidth G W) (hO : ∀ v ∈ ordL G W, v < G.length) (hl : (ordL G W).length ≤ 9) : Ev (fun k => width_town_decompose.f k (gi G)) (bagsLV G (ordL G W) (ordL G W).length, parsLV G (ordL G W) (ordL G W).length) := by
 unfold width_town_decompose.f
 have h : width_town_order.f (gi G) = some (gi (ordL G W)) := by
  unfold width_town_order.f
  rw [if_pos ((chk_iff 9 (by omega) _).2 ⟨G, rfl, hG⟩), gi_toNatO, (widthN_is hG).uniq hW]
 refine Ev.bind1 h ?_
 ·rw [gi_length]
  exact decomp_l0V hG hO hl (ordL G W).length 0 (by omega)
theorem way_transV {adj : Nat → Nat → Prop} {S : Nat → Prop} {a x u : Nat} (h : T.Way adj S a x) (hx : S x) (k : T.Way adj S x u) : T.Way adj S a u := by
 induction k with
 | one e => exact .more h hx e
 | more _ hy e ih => exact .more ih hy e
theorem way_symmV {adj : Nat → Nat → Prop} (hs : ∀ x y, adj x y → adj y x) {S : Nat → Prop} {v u : Nat} (h : T.Way adj S v u) : T.Way adj S u v := by
 induction h with
 | one e => exact .one (hs _ _ e)
 | more _ hx e ih => exact way_transV (.one (hs _ _ e)) hx ih
theorem way_monoV {adj : Nat → Nat → Prop} {S S' : Nat → Prop} (hS : ∀ x, S x → S' x) {v u : Nat} (h : T.Way adj S v u) : T.Way adj S' v u := by
 induction h with
 | one e => exact .one e
 | more _ hx e ih => exact .more ih (hS _ hx) e
structure OrdLV (G O : List Nat) : Prop where
 nd : O.Nodup
 inn : ∀ v ∈ O, v < G.length
 len : O.length = G.length
section
variable {G O : List Nat} (hG : Gr 9 G) (h : OrdLV G O)
include hG h
omit hG in
theorem o_atV {v : Nat} (hv : v < G.length) : ∃ p, p < O.length ∧ O.getD p 0 = v := by
 have hm := covers_of_nodup h.len h.nd h.inn v hv
 obtain ⟨p, hp, e⟩ := List.mem_iff_getElem.1 hm
 exact ⟨p, hp, by rw [List.getD_eq_getElem?_getD, List.getElem?_eq_getElem hp]; exact e⟩
omit hG in
theorem o_injV {p q : Nat} (hp : p < O.length) (hq : q < O.length) (e : O.getD p 0 = O.getD q 0) : p = q := by
 simp only [List.getD_eq_getElem?_getD, List.getElem?_eq_getElem hp, List.getElem?_eq_getElem hq, Option.getD_some] at e
 exact (List.getElem_inj h.nd).1 e
omit hG in
theorem gone_bitV {p i : Nat} (hp : p < O.length) : bset (goneAtV O i) (O.getD p 0) ↔ p < i := by
 unfold goneAtV
 rw [lset_bit, List.mem_take_iff_getElem]
 constructor
 ·rintro ⟨j, hj, e⟩
  have hj2 : j < O.length := by omega
  have : j = p := o_injV h hj2 hp (by rw [List.getD_eq_getElem?_getD, List.getElem?_eq_getElem hj2]; exact e)
  omega
 ·intro hi
  exact ⟨p, by omega, by rw [List.getD_eq_getElem?_getD, List.getElem?_eq_getElem hp]; rfl⟩
theorem higher_bitV {i : Nat} (hi : i < O.length) (u : Nat) : bset (higherV G O i) u ↔ Nb (Adj G) (bset (goneAtV O i)) (O.getD i 0) u := by
 unfold higherV
 exact nbset_bit hG (h.inn _ (by rw [List.getD_eq_getElem?_getD, List.getElem?_eq_getElem hi]; exact List.getElem_mem hi)) u
theorem bag_bitV {i p : Nat} (hi : i < O.length) (hp : p < O.length) : bset (bagAtV G O i) (O.getD p 0) ↔ p = i ∨ (i < p ∧ bset (higherV G O i) (O.getD p 0)) := by
 unfold bagAtV
 rw [or_bit]
 constructor
 ·rintro (hb | e)
  ·have hn := (higher_bitV hG h hi _).1 hb
   have h1 : ¬ p < i := fun hlt => hn.2.1 ((gone_bitV h hp).2 hlt)
   have h2 : p ≠ i := fun e => hn.2.2 (by rw [e])
   exact .inr ⟨by omega, hb⟩
  ·exact .inl (o_injV h hp hi e)
 ·rintro (rfl | ⟨_, hb⟩)
  ·exact .inr rfl
  ·exact .inl hb
omit hG h in
theorem par_specV (i : Nat) : ∀ d k, k + d = O.length → i < k → (∃ j : Nat, parFromV G O i d k = (j : Int) ∧ k ≤ j ∧ j < O.length ∧ bset (higherV G O i) (O.getD j 0) ∧ ∀ m, k ≤ m → m < j → ¬ bset (higherV G O i) (O.getD m 0)) ∨
  ((∀ m, k ≤ m → m < O.length → ¬ bset (higherV G O i) (O.getD m 0)) ∧ parFromV G O i d k = if i + 1 = O.length then -1 else ((i + 1 : Nat) : Int))
 | 0, k, hk, hik => .inr ⟨fun m h1 h2 => by omega, rfl⟩
 | d + 1, k, hk, hik => by
  rw [parFromV]
  by_cases hb : (higherV G O i).testBit (O.getD k 0) = true
  ·rw [if_pos hb]
   exact .inl ⟨k, rfl, Nat.le_refl _, by omega, hb, fun m h1 h2 => by omega⟩
  ·rw [if_neg hb]
   rcases par_specV i d (k + 1) (by omega) (by omega) with ⟨j, h1, h2, h3, h4, h5⟩ | ⟨h1, h2⟩
   ·refine .inl ⟨j, h1, by omega, h3, h4, fun m h6 h7 => ?_⟩
    by_cases e : m = k
    ·subst e; exact hb
    ·exact h5 m (by omega) h7
   ·refine .inr ⟨fun m h6 h7 => ?_, h2⟩
    by_cases e : m = k
    ·subst e; exact hb
    ·exact h1 m (by omega) h7
omit hG h in
theorem par_rngV {i : Nat} (hi : i < O.length) : (i + 1 = O.length ∧ parAtV G O i = -1) ∨ ∃ j : Nat, parAtV G O i = (j : Int) ∧ i < j ∧ j < O.length := by
 unfold parAtV
 rcases par_specV (G := G) (O := O) i (O.length - (i + 1)) (i + 1) (by omega) (by omega) with ⟨j, h1, h2, h3, _⟩ | ⟨_, h2⟩
 ·exact .inr ⟨j, h1, by omega, h3⟩
 ·by_cases e : i + 1 = O.length
  ·rw [if_pos e] at h2; exact .inl ⟨e, h2⟩
  ·rw [if_neg e] at h2; exact .inr ⟨i + 1, h2, by omega, by omega⟩
omit hG h in
theorem bags_rdV {i n : Nat} (hi : i < n) : rd (bagsLV G O n) (i : Int) = ((bagAtV G O i : Nat) : Int) := by
 unfold rd bagsLV
 rw [Int.toNat_natCast, List.getD_eq_getElem?_getD, List.getElem?_map, List.getElem?_range hi]
 rfl
omit hG h in
theorem pars_rdV {i n : Nat} (hi : i < n) : rd (parsLV G O n) (i : Int) = parAtV G O i := by
 unfold rd parsLV
 rw [Int.toNat_natCast, List.getD_eq_getElem?_getD, List.getElem?_map, List.getElem?_range hi]
 rfl
omit hG h in
theorem bags_bitV {i n v : Nat} (hi : i < n) : bitI (rd (bagsLV G O n) (i : Int)) v = (bagAtV G O i).testBit v := by
 rw [bags_rdV hi]; rfl
omit hG h in
theorem roots_oneV : ∀ d i t, i + d = O.length → 0 < d → rootsFV (parsLV G O O.length) d i t = t + 1
 | 0, i, t, hi, h0 => by omega
 | d + 1, i, t, hi, _ => by
  rw [rootsFV, pars_rdV (by omega)]
  rcases par_rngV (G := G) (O := O) (i := i) (by omega) with ⟨e, hp⟩ | ⟨j, hp, h1, h2⟩
  ·obtain rfl : d = 0 := by omega
   rw [hp, if_pos (by omega), rootsFV]
  ·rw [hp, if_neg (by omega)]
   exact roots_oneV d (i + 1) t (by omega) (by omega)
omit hG h in
theorem up_outV : ∀ d (i : Nat), i < O.length → O.length ≤ i + d → upNV (parsLV G O O.length) d (i : Int) < 0
 | 0, i, hi, hd => by omega
 | d + 1, i, hi, hd => by
  rw [upNV, upIV, if_neg (by omega), pars_rdV hi]
  rcases par_rngV (G := G) (O := O) hi with ⟨_, hp⟩ | ⟨j, hp, h1, h2⟩
  ·rw [hp, upN_negV _ (by omega)]; omega
  ·rw [hp]
   exact up_outV d j h2 (by omega)
omit hG h in
theorem tops_oneV (B P : List Int) (v p : Nat) : ∀ (d i t : Nat), (∀ j : Nat, i ≤ j → j < i + d → ((bitI (rd B (j : Int)) v && (decide (rd P (j : Int) < 0) || !bitI (rd B (rd P (j : Int))) v)) = true ↔ j = p)) → topsF B P v d i t = t + (if i ≤ p ∧ p < i + d then 1 else 0)
 | 0, i, t, hc => by
  rw [topsF, if_neg (by omega)]
  rfl
 | d + 1, i, t, hc => by
  rw [topsF, tops_oneV B P v p d (i + 1) _ fun j h1 h2 => hc j (by omega) (by omega)]
  have hi := hc i (Nat.le_refl _) (by omega)
  by_cases e : i = p
  ·rw [if_pos (hi.2 e), if_neg (by omega), if_pos (by omega)]
  ·rw [if_neg (fun hx => e (hi.1 hx))]
   by_cases e2 : i ≤ p ∧ p < i + (d + 1)
   ·rw [if_pos (by omega), if_pos e2]
   ·rw [if_neg (by omega), if_neg e2]
theorem decomp_tdV : TDV G (bagsLV G O O.length) (parsLV G O O.length) := by
 have hn := hG.most
 have hp0 := hG.pos
 have hl := h.len
 have hbl : (bagsLV G O O.length).length = O.length := by simp [bagsLV]
 have hpl : (parsLV G O O.length).length = O.length := by simp [parsLV]
 refine ⟨by omega, by omega, by omega, fun i hi => ?_, ?_, fun i hi => ?_, fun v hv => ?_, fun v u hvu => ?_⟩
 ·rw [hbl] at hi ⊢
  have hb := bag_ltV hG h.inn hi
  unfold InTV
  rw [pars_rdV hi, bags_rdV hi]
  rcases par_rngV (G := G) (O := O) hi with ⟨_, hp⟩ | ⟨j, hp, h1, h2⟩
  ·rw [hp]; omega
  ·rw [hp]; omega
 ·rw [hbl, roots_oneV (G := G) (O := O) O.length 0 0 (by omega) (by omega)]
 ·rw [hbl] at hi ⊢
  exact up_outV (G := G) (O := O) O.length i hi (by omega)
 ·obtain ⟨p, hp, e⟩ := o_atV h hv
  rw [hbl, tops_oneV _ _ v p O.length 0 0 fun j _ hj => ?_, if_pos (by omega)]
  have hjl : j < O.length := by omega
  rw [bags_bitV hjl, pars_rdV hjl, ← e]
  have hbj := bag_bitV hG h hjl hp
  unfold bset at hbj
  rw [Bool.and_eq_true, hbj]
  have par_bit : ∀ k : Nat, k < O.length → bitI (rd (bagsLV G O O.length) (k : Int)) (O.getD p 0) = (bagAtV G O k).testBit (O.getD p 0) := fun k hk => bags_bitV hk
  constructor
  ·rintro ⟨rfl | ⟨hlt, hb⟩, htop⟩
   ·rfl
   ·-- the parent holds the node, too
    exfalso
    rcases par_specV (G := G) (O := O) j (O.length - (j + 1)) (j + 1) (by omega) (by omega) with ⟨k, h1, h2, h3, h4, h5⟩ | ⟨h1, _⟩
    ·have hpk : parAtV G O j = (k : Int) := h1
     rw [hpk, par_bit k h3] at htop
     have hkp : k ≤ p := Nat.le_of_not_lt fun hx => h5 p (by omega) hx hb
     have hbk : (bagAtV G O k).testBit (O.getD p 0) = true := (bag_bitV hG h h3 hp).2 (by
      by_cases ekp : k = p
      ·exact .inl ekp.symm
      ·refine .inr ⟨by omega, (higher_bitV hG h h3 _).2 ⟨?_, fun hx => ?_, fun hx => ?_⟩⟩
       ·have w1 := ((higher_bitV hG h hjl _).1 h4).1
        have w2 := ((higher_bitV hG h hjl _).1 hb).1
        have sub : ∀ x, bset (goneAtV O j) x → bset (goneAtV O k) x := fun x hx => by
         have hxn : x < G.length := bit_lt (gone_ltV (G := G) h.inn j) hx
         obtain ⟨q, hq, eq⟩ := o_atV h hxn
         rw [← eq] at hx ⊢
         rw [gone_bitV h hq] at hx ⊢
         omega
        have hj2 : bset (goneAtV O k) (O.getD j 0) := (gone_bitV h hjl).2 (by omega)
        exact way_transV (way_symmV (fun x y e => hG.adj_symm e) (way_monoV sub w1)) hj2 (way_monoV sub w2)
       ·have := (gone_bitV h hp).1 hx; omega
       ·have := o_injV h hp h3 hx; omega)
     rw [hbk] at htop
     simp at htop
     omega
    ·exact h1 p (by omega) hp hb
  ·rintro rfl
   refine ⟨.inl rfl, ?_⟩
   rcases par_rngV (G := G) (O := O) hjl with ⟨_, hpj⟩ | ⟨k, hpk, h1, h2⟩
   ·rw [hpj]; rfl
   ·rw [hpk, par_bit k h2]
    have : (bagAtV G O k).testBit (O.getD j 0) = false := by
     cases hb : (bagAtV G O k).testBit (O.getD j 0)
     ·rfl
     ·rcases (bag_bitV hG h h2 hjl).1 hb with e | ⟨e, _⟩ <;> omega
    rw [this]
    simp
 ·have hv := hG.adj_lt' hvu
  have hu := hG.adj_lt hvu
  obtain ⟨p, hp, ep⟩ := o_atV h hv
  obtain ⟨q, hq, eq⟩ := o_atV h hu
  have hne : p ≠ q := fun e => by
   rw [e, eq] at ep
   rw [ep] at hvu
   exact hG.adj_irr hvu
  rw [hbl]
  rcases Nat.lt_or_gt_of_ne hne with hlt | hlt
  ·refine ⟨p, hp, ?_, ?_⟩
   ·rw [bags_bitV hp, ← ep]; exact (bag_bitV hG h hp hp).2 (.inl rfl)
   ·rw [bags_bitV hp, ← eq]
    refine (bag_bitV hG h hp hq).2 (.inr ⟨hlt, (higher_bitV hG h hp _).2 ⟨.one (by rw [ep, eq]; exact hvu), fun hx => ?_, fun hx => ?_⟩⟩)
    ·have := (gone_bitV h hq).1 hx; omega
    ·have := o_injV h hq hp hx; omega
  ·refine ⟨q, hq, ?_, ?_⟩
   ·rw [bags_bitV hq, ← ep]
    refine (bag_bitV hG h hq hp).2 (.inr ⟨hlt, (higher_bitV hG h hq _).2 ⟨.one (by rw [ep, eq]; exact hG.adj_symm hvu), fun hx => ?_, fun hx => ?_⟩⟩)
    ·have := (gone_bitV h hp).1 hx; omega
    ·have := o_injV h hp hq hx; omega
   ·rw [bags_bitV hq, ← eq]; exact (bag_bitV hG h hq hq).2 (.inl rfl)
end
def parOV (P : List Int) (k : Nat) : Option Nat := if rd P (k : Int) < 0 then none else some (rd P (k : Int)).toNat
def betV (B : List Int) (k v : Nat) : Prop := bitI (rd B (k : Int)) v = true
theorem parO_someV {P : List Int} {k p : Nat} : parOV P k = some p ↔ rd P (k : Int) = (p : Int) := by
 unfold parOV
 by_cases h : rd P (k : Int) < 0
 ·rw [if_pos h]
  exact ⟨fun e => (by cases e), fun e => by omega⟩
 ·rw [if_neg h]
  constructor
  ·intro e; have := Option.some.inj e; omega
  ·intro e; congr 1; omega
theorem parO_noneV {P : List Int} {k : Nat} : parOV P k = none ↔ rd P (k : Int) < 0 := by
 unfold parOV
 by_cases h : rd P (k : Int) < 0
 ·rw [if_pos h]; exact ⟨fun _ => h, fun _ => rfl⟩
 ·rw [if_neg h]; exact ⟨fun e => (by cases e), fun e => absurd e h⟩
theorem top_condV (B P : List Int) (v k : Nat) : (bitI (rd B (k : Int)) v && (decide (rd P (k : Int) < 0) || !bitI (rd B (rd P (k : Int))) v)) = true ↔ TopOf (parOV P) (betV B) v k := by
 unfold TopOf betV
 rw [Bool.and_eq_true, Bool.or_eq_true, decide_eq_true_eq, Bool.not_eq_true']
 constructor
 ·rintro ⟨h1, h2⟩
  refine ⟨h1, fun p e hp => ?_⟩
  rw [parO_someV] at e
  rcases h2 with h2 | h2
  ·omega
  ·rw [e, hp] at h2; cases h2
 ·rintro ⟨h1, h2⟩
  refine ⟨h1, ?_⟩
  by_cases h : rd P (k : Int) < 0
  ·exact .inl h
  ·right
   have h3 := h2 (rd P (k : Int)).toNat (parO_someV.2 (by omega))
   rw [show (((rd P (k : Int)).toNat : Nat) : Int) = rd P (k : Int) by omega] at h3
   simpa using h3
theorem tops_lenV (B P : List Int) (v : Nat) : ∀ (d i t : Nat), topsF B P v d i t = t + ((List.range' i d).filter fun (k : Nat) => bitI (rd B (k : Int)) v && (decide (rd P (k : Int) < 0) || !bitI (rd B (rd P (k : Int))) v)).length
 | 0, i, t => by simp [topsF]
 | d + 1, i, t => by
  rw [topsF, tops_lenV B P v d (i + 1), List.range'_succ, List.filter_cons]
  split <;> simp <;> omega
theorem roots_lenV (P : List Int) : ∀ (d i t : Nat), rootsFV P d i t = t + ((List.range' i d).filter fun (k : Nat) => decide (rd P (k : Int) < 0)).length
 | 0, i, t => by simp [rootsFV]
 | d + 1, i, t => by
  rw [rootsFV, roots_lenV P d (i + 1), List.range'_succ, List.filter_cons]
  by_cases h : rd P (i : Int) < 0
  ·rw [if_pos h, if_pos (by simp [h])]; simp; omega
  ·rw [if_neg h, if_neg (by simp [h])]
theorem one_lenV (n : Nat) (q : Nat → Bool) : ((List.range' 0 n).filter q).length = 1 ↔ ∃ t, t < n ∧ q t = true ∧ ∀ k, k < n → q k = true → k = t := by
 have hnd : ((List.range' 0 n).filter q).Nodup := List.Pairwise.filter _ (List.nodup_range' (step := 1))
 have hm : ∀ k, k ∈ (List.range' 0 n).filter q ↔ k < n ∧ q k = true := fun k => by
  rw [List.mem_filter, List.mem_range'_1]
  constructor
  ·rintro ⟨h1, h2⟩; exact ⟨by omega, h2⟩
  ·rintro ⟨h1, h2⟩; exact ⟨by omega, h2⟩
 constructor
 ·intro h
  obtain ⟨t, ht⟩ := List.length_eq_one_iff.1 h
  have h1 := (hm t).1 (by rw [ht]; exact List.mem_singleton.2 rfl)
  refine ⟨t, h1.1, h1.2, fun k hk hq => ?_⟩
  have := (hm k).2 ⟨hk, hq⟩
  rw [ht] at this
  exact List.mem_singleton.1 this
 ·rintro ⟨t, h1, h2, h3⟩
  refine Nat.le_antisymm ?_ (List.length_pos_of_mem ((hm t).2 ⟨h1, h2⟩))
  have := nodup_le hnd (m := [t]) fun k hk => by
   have := (hm k).1 hk
   rw [h3 k this.1 this.2]
   exact List.mem_singleton.2 rfl
  simpa using this
def depFV (P : List Int) : Nat → Int → Nat
 | 0, _ => 0
 | d + 1, a => if a < 0 then 0 else depFV P d (rd P a) + 1
theorem depF_moreV (P : List Int) : ∀ (d : Nat) (a : Int), upNV P d a < 0 → depFV P (d + 1) a = depFV P d a
 | 0, a, h => by
  rw [upNV] at h
  show (if a < 0 then 0 else depFV P 0 (rd P a) + 1) = 0
  rw [if_pos h]
 | d + 1, a, h => by
  rw [upNV, upIV] at h
  rw [depFV]
  by_cases h0 : a < 0
  ·rw [if_pos h0, depFV, if_pos h0]
  ·rw [if_neg h0] at h
   rw [if_neg h0, depF_moreV P d _ h]
   conv => rhs; rw [depFV, if_neg h0]
theorem td_toV {G : List Nat} {B P : List Int} (hG : Gr 9 G) (h : TDV G B P) : ATD (fun k => k < B.length) (parOV P) (betV B) (fun v => v < G.length) (Adj G) (fun k => depFV P B.length (k : Int)) := by
 have inn : ∀ k p : Nat, k < B.length → parOV P k = some p → p < B.length := fun k p hk e => by
  rw [parO_someV] at e
  have := (h.inn k hk).2.1
  omega
 refine ⟨inn, fun k p hk e => ?_, ?_, fun k v hk hb => ?_, fun v hv => ?_, fun u v huv => ?_⟩
 ·have hp := inn k p hk e
  rw [parO_someV] at e
  have h1 := depF_moreV P B.length (k : Int) (h.acyc k hk)
  rw [depFV, if_neg (by omega), e] at h1
  show depFV P B.length (p : Int) < depFV P B.length (k : Int)
  omega
 ·have h1 := h.root
  rw [roots_lenV, Nat.zero_add, one_lenV] at h1
  obtain ⟨r, r1, r2, r3⟩ := h1
  exact ⟨r, r1, parO_noneV.2 (by simpa using r2), fun k hk e => r3 k hk (by simpa using parO_noneV.1 e)⟩
 ·have := h.inn k hk
  unfold betV bitI at hb
  exact bit_lt (show (rd B (k : Int)).toNat < 2 ^ G.length by have := this.2.2; omega) hb
 ·have h1 := h.tops v hv
  rw [tops_lenV, Nat.zero_add, one_lenV] at h1
  obtain ⟨t, t1, t2, t3⟩ := h1
  exact ⟨t, t1, (top_condV B P v t).1 t2, fun k hk ht => t3 k hk ((top_condV B P v k).2 ht)⟩
 ·exact h.edge u v huv
end Go.Proofs.YtjloppfdagfpmaaDoor.X
end
section
namespace Go.Proofs.YtjloppfdagfpmaaDoor.T
open Go.RowKit YtjloppfdagfpmaaDoorW.PrintWords YtjloppfdagfpmaaDoorW.PrintLast YtjloppfdagfpmaaDoorW.PrintMore
def up (v u : Nat) : Nat := if u < v then u else u + 1
end Go.Proofs.YtjloppfdagfpmaaDoor.T
end
section
namespace Go.Proofs.YtjloppfdagfpmaaDoor.X
open Go.RowKit YtjloppfdagfpmaaDoorW.PrintWords YtjloppfdagfpmaaDoorW.PrintLast YtjloppfdagfpmaaDoorW.PrintMore YtjloppfdagfpmaaDoor.T
attribute [local go_sem] max2_int min2_int max_two min_two max_three min_three max_four min_four
structure MS (w0 W : World) (xB gB cB gP cP : Nat) (B P : List Int) : Prop where
 blk : W.heap[xB]? = some (.cells #[.slice (some ⟨gB, 0, none⟩) B.length cB, .slice (some ⟨gP, 0, none⟩) P.length cP] 75 (0, 0))
 rB : Kd.R (Kd.int .i64) 3 W w0.heap.size (fun k => k = gB) (.slice (some ⟨gB, 0, none⟩) B.length cB) B
 rP : Kd.R (Kd.int .i64) 3 W w0.heap.size (fun k => k = gP) (.slice (some ⟨gP, 0, none⟩) P.length cP) P
 below : Below w0.heap.size w0 W
 ge : w0.heap.size ≤ xB
 nB : xB ≠ gB
 nP : xB ≠ gP
 nBP : gB ≠ gP
section
variable {w0 W V : World} {xB gB cB gP cP : Nat} {B P : List Int}
theorem MS.low (h : MS w0 W xB gB cB gP cP B P) (hb : Below W.heap.size W V) : MS w0 V xB gB cB gP cP B P :=
 ⟨blk_below h.blk hb, Kd.R_below h.rB hb, Kd.R_below h.rP hb, below_step h.below hb, h.ge, h.nB, h.nP, h.nBP⟩
theorem MS.drew (h : MS w0 W xB gB cB gP cP B P) : MS w0 W.drew xB gB cB gP cP B P := h.low (below_drew (Below.refl _ _))
end
end Go.Proofs.YtjloppfdagfpmaaDoor.X
end
section
namespace Go.Proofs.YtjloppfdagfpmaaDoor.X
open Go.RowKit YtjloppfdagfpmaaDoorW.PrintWords YtjloppfdagfpmaaDoorW.PrintLast YtjloppfdagfpmaaDoorW.PrintMore YtjloppfdagfpmaaDoor.T
attribute [local go_sem] max2_int min2_int max_two min_two max_three min_three max_four min_four run_makeMap
theorem mem_snoc {G : List Nat} {K : Nat} (L : List Nat) (v y : Nat) : y ∈ clL G K 0 0 (L ++ [v]) ↔ outP G K (orL 0 L) v (clL G K 0 0 L) (fun _ => false) y := by
 rw [clL_append, List.mem_flatMap]
 constructor
 ·rintro ⟨c, hc, hy⟩
  simp only [clL, List.mem_flatMap, List.mem_range] at hy
  obtain ⟨k, hk, hy⟩ := hy
  by_cases ho : okC G (orL 0 L) c v k = true
  ·rw [if_pos ho] at hy
   exact ⟨c, hc, rfl, k, hk, ho, List.mem_singleton.1 hy⟩
  ·rw [if_neg ho] at hy; exact absurd hy (by simp)
 ·rintro ⟨c, hc, _, k, hk, ho, rfl⟩
  refine ⟨c, hc, ?_⟩
  simp only [clL, List.mem_flatMap, List.mem_range]
  exact ⟨k, hk, by rw [if_pos ho]; exact List.mem_singleton.2 rfl⟩
theorem clL_lt {G : List Nat} {K : Nat} (hK : K ≤ 16) : ∀ (L : List Nat) (S c : Nat), (∀ v ∈ L, v < 9) → c < 2 ^ 36 → ∀ y ∈ clL G K S c L, y < 2 ^ 36
 | [], S, c, _, hc, y, hy => by rw [clL, List.mem_singleton] at hy; rw [hy]; exact hc
 | v :: L, S, c, hL, hc, y, hy => by
  simp only [clL, List.mem_flatMap, List.mem_range] at hy
  obtain ⟨k, hk, hy⟩ := hy
  by_cases ho : okC G S c v k = true
  ·rw [if_pos ho] at hy
   exact clL_lt hK L _ _ (fun u hu => hL u (List.mem_cons_of_mem _ hu)) (putc36 hc (hL v List.mem_cons_self) (by omega)) y hy
  ·rw [if_neg ho] at hy; exact absurd hy (by simp)
theorem orL_snoc (L : List Nat) (v : Nat) : orL 0 (L ++ [v]) = orL 0 L ||| 2 ^ v := by unfold orL; rw [List.foldl_append]; rfl
theorem bag_step {G : List Nat} (hG : Gr 9 G) {K b i : Nat} (hK : K ≤ 6) (hb : b < 512) (hi : i < (els b 9).length) : (∀ c ∈ clL G K 0 0 ((els b 9).take i), c < 2 ^ 36 ∧ col c (els b 9)[i] = 0) ∧ orL 0 ((els b 9).take i) < 512 ∧ (els b 9)[i] < 9 := by
 have hL9 : ∀ v ∈ els b 9, v < 9 := fun v hv => (mem_els.1 hv).1
 have hnd := els_nodup b 9
 refine ⟨fun c hc => ⟨clL_lt (by omega) _ 0 0 (fun v hv => hL9 v (List.mem_of_mem_take hv)) (by omega) c hc, ?_⟩, ?_, hL9 _ (List.getElem_mem hi)⟩
 ·have h1 := (mem_clL hG (by omega) (List.Nodup.sublist (List.take_sublist i _) hnd) (fun v _ => ⟨zero_bset v, col_zero v⟩) c).1 hc
  rw [h1.1 _ (fun hm => ?_), col_zero]
  obtain ⟨j, hj, e⟩ := List.getElem_of_mem hm
  rw [List.getElem_take] at e
  have hj2 : j < i := by rw [List.length_take] at hj; omega
  have := (List.getElem_inj hnd).1 e
  omega
 ·refine lt_of_bits (n := 9) fun j hj => ?_
  rcases (orL_bit j _ 0).1 hj with h | h
  ·exact absurd h (zero_bset j)
  ·exact hL9 j (List.mem_of_mem_take h)
theorem num6 {G : List Nat} {K : Nat} (hK : K ≤ 6) (S c U : Nat) : num G K S c (els U 9) < 2 ^ 60 := by
 have h1 := num_le G K (els U 9) S c
 have h2 : (els U 9).length ≤ 9 := by rw [els_length]; exact pc_le U 9
 have h3 : K ^ (els U 9).length ≤ 6 ^ (els U 9).length := Nat.pow_le_pow_left hK _
 have h4 : 6 ^ (els U 9).length ≤ 6 ^ 9 := Nat.pow_le_pow_right (by omega) h2
 have h5 : (6 : Nat) ^ 9 < 2 ^ 60 := by decide
 omega
theorem sum6 {G : List Nat} (hG : Gr 9 G) {K : Nat} (hK : K ≤ 6) {b U : Nat} (hb : b < 512) : sm (clL G K 0 0 (els b 9)) (fun c => num G K b c (els U 9)) ≤ 6 ^ 18 := by
 have h0 : num G K 0 0 (els b 9 ++ els U 9) = sm (clL G K 0 0 (els b 9)) (fun c => num G K b c (els U 9)) := by
  rw [num_append, orL_els hb]; simp
 rw [← h0]
 have h1 := num_le G K (els b 9 ++ els U 9) 0 0
 have h2 : (els b 9 ++ els U 9).length ≤ 18 := by rw [List.length_append, els_length, els_length]; have := pc_le U 9; have := pc_le b 9; omega
 have h3 : K ^ (els b 9 ++ els U 9).length ≤ 6 ^ (els b 9 ++ els U 9).length := Nat.pow_le_pow_left hK _
 have h4 : 6 ^ (els b 9 ++ els U 9).length ≤ 6 ^ 18 := Nat.pow_le_pow_right (by omega) h2
 omega
def mulF (f z : Nat → Nat) (left : Lit → Bool) (c : Nat) : Nat := if left (kI c) = true then f c else f c * z c
theorem mul_put {f z : Nat → Nat} {left : Lit → Bool} {g : Nat} (hl : left (kI g) = true) (x : Nat) : (if x = g then f g * z g else mulF f z left x) = mulF f z (fun y => left y && !y.sameKey (kI g)) x := by
 unfold mulF
 by_cases e : x = g
 ·subst e
  have h1 : (kI x).sameKey (kI x) = true := by simp [Lit.sameKey]
  rw [if_pos rfl]
  simp [h1]
 ·have h1 : (kI x).sameKey (kI g) = false := Maps.sameKey_ne fun h => e (kI_inj h)
  rw [if_neg e]
  simp [h1]
theorem or_twoC {a v : Nat} (ha : a < 512) (hv : v < 9) : Go.bits .or .i64 (a : Int) ((2 ^ v : Nat) : Int) = ((a ||| 2 ^ v : Nat) : Int) := by
 have h2 : 2 ^ v < 2 ^ 9 := Nat.pow_lt_pow_right (by omega) hv
 generalize 2 ^ v = x at *
 exact b_or _ _ (by omega) (by omega)
theorem mulC {a b m : Nat} (h : a * b = m) (hm : m < 2 ^ 60) : wrap64 ((a : Int) * (b : Int)) = (m : Int) := by
 rw [show ((a : Int) * (b : Int)) = ((a * b : Nat) : Int) from by push_cast; rfl, h]
 exact w64_small _ (by omega) (by omega)
def bgI (B : List Int) (k : Nat) : Nat := (rd B (k : Int)).toNat
set_option maxHeartbeats 8000000 in
set_option maxRecDepth 100000 in
theorem ways_calls {G : List Nat} (hG : Gr 9 G) {K : Nat} (hK : K ≤ 6) (Ag : Option Addr) (cg : Nat) (hcg : G.length ≤ cg) (A0 : Option Addr) (c0 : Nat) (B : List Int) (hc0 : B.length ≤ c0) (A1 : Option Addr) (c1 : Nat) (P : List Int) (hc1 : P.length ≤ c1) (hT : TDV G B P) (N : Nat) (hN : N < maxLen) (h36 : 2 ^ 36 ≤ N) (M : Nat) (hM : ∀ k : Nat, k < B.length → depFV P B.length (k : Int) ≤ M) :
  ∀ (d at_ : Nat) (w : World), M - depFV P B.length (at_ : Int) = d → at_ < B.length → GL w → Kd.C (Kd.int .i64) w Ag (gi G).length (gi G) → Kd.C (Kd.int .i64) w A0 B.length B → Kd.C (Kd.int .i64) w A1 P.length P →
  Calls Tryd.prog 90 #[.slice Ag G.length cg, .agg #[.slice A0 B.length c0, .slice A1 P.length c1], .int .i64 (at_ : Int), .int .i64 (K : Int)] w fun e w' => ∃ mB E, e = .returned (.map (some mB)) ∧ w.heap.size ≤ mB ∧ w'.ownsMap Tryd.prog 3 pI mB N E ∧ Tab (fun y => y ∈ clL G K 0 0 (els (bgI B at_) 9)) (fun c => num G K (bgI B at_) c (els (dnU (fun k => k < B.length) (parOV P) (bgI B) at_) 9)) E ∧ Below w.heap.size w w' := by
 have hA := td_toV hG hT
 intro d
 induction d using Nat.strongRecOn with
 | _ d ih =>
  intro at_ w hd hat hGL hrg hr0 hr1
  have hb5 : bgI B at_ < 512 := bg_small (bg := bgI B) hA hG hat
  obtain ⟨b, hb⟩ : ∃ b, b = bgI B at_ := ⟨_, rfl⟩
  have hbi := (hT.inn at_ hat).2.2
  have hrb : rd B (at_ : Int) = (b : Int) := by rw [hb]; unfold bgI; omega
  rw [← hb] at hb5
  obtain ⟨adb, e1, hgb⟩ := Kd.at_int hr0 (at_ : Int) (by omega) (by omega)
  subst e1
  rw [hrb, Int.toNat_natCast] at hgb
  have HGB : Aside0 (∀ W, Below w.heap.size w W → W.cell? (adb.add at_) = some (.int .i64 (b : Int))) := ⟨fun W hW => (hW.cell (World.block_lt_of_cell? w _ hgb)).trans hgb⟩
  have HND : Aside0 (∀ W, Below w.heap.size w W → Calls Tryd.prog 104 #[.int .i64 (b : Int)] W fun e w' => ∃ A c, e = .returned (.slice A (els b 9).length c) ∧ Kd.C (Kd.int .i64) w' A (els b 9).length (gi (els b 9)) ∧ Below W.heap.size W w') := ⟨fun W hW => (nodes_callsC hb5 W (GL_below hGL hW)).mono fun e w' ⟨A, c, h1, _, h3, h4⟩ => ⟨A, c, h1, h3, h4⟩⟩
  have hu53 := Tryd.underlying75
  have hhi := pc_le b 9
  have hbl : (els b 9).length ≤ 9 := by rw [els_length]; exact hhi
  have hal : ((at_ : Int) < (B.length : Int)) = True := eq_true (by omega)
  have ha0 : (0 : Int) ≤ (at_ : Int) := by omega
  obtain ⟨f1, hf1⟩ : ∃ f1 : Nat → Nat → Nat, f1 = fun i c => num G K b c (els (upto (fun k => k < B.length) (parOV P) (bgI B) at_ i) 9) := ⟨_, rfl⟩
  have HIH : Aside0 (∀ (k : Nat) (W : World), k < B.length → parOV P k = some at_ → Below w.heap.size w W → Calls Tryd.prog 90 #[.slice Ag G.length cg, .agg #[.slice (some adb) B.length c0, .slice A1 P.length c1], .int .i64 (k : Int), .int .i64 (K : Int)] W fun e w' => ∃ mB E, e = .returned (.map (some mB)) ∧ W.heap.size ≤ mB ∧ w'.ownsMap Tryd.prog 3 pI mB N E ∧ Tab (fun y => y ∈ clL G K 0 0 (els (bgI B k) 9)) (fun c => num G K (bgI B k) c (els (dnU (fun k => k < B.length) (parOV P) (bgI B) k) 9)) E ∧ Below W.heap.size W w') := ⟨fun k W hk hp hW => by
   have h1 := hA.rank k at_ hk hp
   have h2 := hM k hk
   exact ih _ (by have h1 : depFV P B.length (at_ : Int) < depFV P B.length (k : Int) := h1; omega) k W rfl hk (GL_below hGL hW) (Kd.C_below hrg hW) (Kd.C_below hr0 hW) (Kd.C_below hr1 hW)⟩
  have HGR : Aside0 (∀ (i : Nat) (W : World) (mX : Nat) (D : DataW Unit) (hi : i < (els b 9).length), Below w.heap.size w W → W.ownsMap Tryd.prog 3 pI mX N D → Tab (fun g => g ∈ clL G K 0 0 ((els b 9).take i)) (fun _ => 1) D → Calls Tryd.prog 106 #[.slice Ag G.length cg, .map (some mX), .int .i64 (((els b 9)[i] : Nat) : Int), .int .i64 ((orL 0 ((els b 9).take i) : Nat) : Int), .int .i64 (K : Int)] W fun e w' => ∃ mB E, e = .returned (.map (some mB)) ∧ W.heap.size ≤ mB ∧ w'.ownsMap Tryd.prog 3 pI mB N E ∧ Tab (fun g => g ∈ clL G K 0 0 ((els b 9).take (i + 1))) (fun _ => 1) E ∧ Below W.heap.size W w') := ⟨fun i W mX D hi hW hO hTb => by
   obtain ⟨s1, s2, s3⟩ := bag_step hG hK hb5 hi
   have hv : (els b 9)[i] < G.length := hA.sub at_ _ hat (show bset (bgI B at_) _ from hb ▸ (mem_els.1 (List.getElem_mem hi)).2)
   refine (grown_calls hG hK s2 hv Ag cg hcg mX N hN h36 _ s1 D W (GL_below hGL hW) (Kd.C_below hrg hW) hO hTb).mono ?_
   rintro e w' ⟨mB, E, h1, h2, h3, h4, h5⟩
   refine ⟨mB, E, h1, h2, h3, h4.ext (fun y => ?_) (fun _ _ => rfl), h5⟩
   rw [List.take_succ_eq_append_getElem hi, mem_snoc]⟩
  have HP : Aside0 (∀ k : Nat, k < B.length → ∃ ad, A1 = some ad ∧ w.cell? (ad.add k) = some (.int .i64 (rd P (k : Int)))) := ⟨fun k hk => by
   obtain ⟨ad, e2, hgp⟩ := Kd.at_int hr1 (k : Int) (by omega) (by rw [hT.len]; omega)
   rw [Int.toNat_natCast] at hgp
   exact ⟨ad, e2, hgp⟩⟩
  have HBB : Aside0 (∀ k : Nat, k < B.length → w.cell? (adb.add k) = some (.int .i64 ((bgI B k : Nat) : Int)) ∧ bgI B k < 512) := ⟨fun k hk => by
   obtain ⟨ad, e2, hgp⟩ := Kd.at_int hr0 (k : Int) (by omega) (by omega)
   rw [Int.toNat_natCast] at hgp
   have h2 := (hT.inn k hk).2.2
   have h3 : rd B (k : Int) = ((bgI B k : Nat) : Int) := by unfold bgI; omega
   rw [h3] at hgp
   obtain rfl := Option.some.inj e2
   exact ⟨hgp, bg_small (bg := bgI B) hA hG hk⟩⟩
  have HLEN := Aside0.mk hT.len
  have HA := Aside0.mk hA
  have HB5 := Aside0.mk hb5
  have HBE := Aside0.mk hb
  have HGL := Aside0.mk hGL
  have HT := Aside0.mk hT
  have HG := Aside0.mk hG
  have H36 := Aside0.mk h36
  have HF1 := Aside0.mk hf1
  have hL30 := hT.most
  clear hT hA ih hrg hr0 hr1 hGL hb hb5 hd hM hbi hrb hgb hhi hf1 h36
  go_enter Tryd.func90, Tryd.ntmps90
  go_wp2_with (first | ((with_reducible refine gate_dst (N := 5) rfl ?_); refine box_event ?hg (N := 5) ?hd (cs := #[.slice (some adb) B.length c0, .slice A1 P.length c1]) (t := 75) ?hr ?_; (case hd => rfl); (case hg => rfl); (case hr => first | (go_simp; done) | (go_simp; rfl)); intro xB hxB w1 hbox hb1; have HX := Aside0.mk hbox; have HB1 := Aside0.mk hb1; have HXW : Aside0 (w.heap.size ≤ xB ∧ xB < w1.heap.size) := ⟨by rw [hxB]; exact Nat.le_refl _, (Array.getElem?_eq_some_iff.1 hbox).1⟩; clear hbox hb1 hxB) | (refine wpList_insert_own _ rfl _ _ _ _ rfl 3 3 law3 undT pI _ 0 _ rfl (World.ownsMap_made _ _ _ _) (by decide) _ _ (kI 0) rfl rfl (key3 0 (by omega)) _ [] (pI_mk 1 (by omega)) ?_; intro w2 hown2 hgrow2; have HM2 := Aside0.mk hown2; have hX2 := blk_grown (blk_alloc HX.out (Obj.map #[] 0)) hgrow2 (by intro e; have := Option.some.inj e; have := HXW.out.2; omega); have HX2 := Aside0.mk hX2; have HB2 := Aside0.mk (below_grow (below_alloc HB1.out (Obj.map #[] 0)) hgrow2 HB1.out.size); have x0 : w2.cell? ⟨xB, 0, none⟩ = some (.slice (some adb) B.length c0) := (blk_cell hX2 0).trans rfl; have hgb2 := HGB.out _ HB2.out; clear hown2 hgrow2 hX2) | (go_at_call 104; refine (HND.out _ HB2.out).mono ?_; rintro e w3 ⟨A3, c3, rfl, hC3, hb3⟩; have HC3 := Aside0.mk hC3; have HB3 := Aside0.mk (below_step HB2.out hb3); have HX3 := Aside0.mk (blk_below HX2.out hb3); have HM3 := Aside0.mk (HM2.out.kept (grown_of_below hb3 none) (by simp)); clear hC3 hb3))
  clear HM2 HX2 HB2 HX x0 hgb2 HND HGB
  have hst : (0 : Nat) < 2 ^ 36 := by omega
  have HT3 : Aside0 (Tab (fun g => g ∈ clL G K 0 0 ((els b 9).take 0)) (fun _ => 1) ((DataW.map []).put (kI 0) (DataW.lit (Lit.int IntKind.i64 ((1 : Nat) : Int))))) := ⟨((Tab.nil (fun _ => 1)).put 0 1 (by omega)).ext (fun x => by simp [clL]) (fun x _ => by simp)⟩
  have HW1 : Aside0 (w.heap.size ≤ w1.heap.size) := ⟨HB1.out.size⟩
  have HM4 : Aside0 (w3.ownsMap Tryd.prog 3 pI w1.heap.size N ((DataW.map []).put (kI 0) (DataW.lit (Lit.int IntKind.i64 ((1 : Nat) : Int))))) := ⟨HM3.out.mono (by have := H36.out; omega)⟩
  clear HM3 hst HB1
  generalize w1.heap.size = mC0 at *
  go_loopg [9, 10, 27] (els b 9).length (fun kq v9 v10 v27 w' => ∃ (i mC : Nat) (D : DataW Unit), v27 = .int .i64 (i : Int) ∧ v9 = .map (some mC) ∧ v10 = .int .i64 ((orL 0 ((els b 9).take i) : Nat) : Int) ∧ i + kq = (els b 9).length ∧ Aside0 (w.heap.size ≤ mC ∧ w'.ownsMap Tryd.prog 3 pI mC N D ∧ Tab (fun g => g ∈ clL G K 0 0 ((els b 9).take i)) (fun _ => 1) D) ∧ Aside0 (Below w.heap.size w w' ∧ Below w3.heap.size w3 w'))
  case atStart => exact ⟨0, mC0, _, rfl, rfl, rfl, by omega, ⟨HW1.out, HM4.out, HT3.out⟩, ⟨HB3.out, Below.refl _ _⟩⟩
  case round =>
   clear HM4 HT3 HW1
   obtain ⟨i, mC, D, rfl, rfl, rfl, hi, HMC, HBW⟩ := hrel
   by_cases hil : i < (els b 9).length
   ·have hi1 : ((i : Int) < ((els b 9).length : Int)) = True := eq_true (by omega)
    have hi2 : decide ((i : Int) < ((els b 9).length : Int)) = true := decide_eq_true (by omega)
    cases gk with
    | zero => omega
    | succ gi' =>
    obtain ⟨ad, e3, hgx⟩ := Kd.at_int (Kd.C_below HC3.out HBW.out.2) (i : Int) (by omega) (by omega)
    subst e3
    rw [rd_gi, List.getD_eq_getElem?_getD, List.getElem?_eq_getElem hil, Int.toNat_natCast] at hgx
    simp only [Option.getD_some] at hgx
    have HGRc := Aside0.mk (HGR.out i wr mC D hil HBW.out.1 HMC.out.2.1 HMC.out.2.2)
    have hv9 : (els b 9)[i] < 9 := (mem_els.1 (List.getElem_mem hil)).1
    have hO5 : orL 0 ((els b 9).take i) < 512 := (bag_step HG.out hK HB5.out hil).2.1
    have hOr : orL 0 ((els b 9).take (i + 1)) = orL 0 ((els b 9).take i) ||| 2 ^ (els b 9)[i] := by rw [List.take_succ_eq_append_getElem hil, orL_snoc]
    obtain ⟨J, ⟨hJ1, hJ2, hJ3⟩, hJ4⟩ := shK (els b 9)[i] (by omega)
    have hor : Go.bits .or .i64 ((orL 0 ((els b 9).take i) : Nat) : Int) J = ((orL 0 ((els b 9).take (i + 1)) : Nat) : Int) := by
     rw [hJ4, hOr]
     exact or_twoC hO5 hv9
    have HWs : Aside0 (w.heap.size ≤ wr.heap.size) := ⟨HBW.out.1.size⟩
    clear hJ4 hOr hO5
    generalize orL 0 ((els b 9).take i) = o1 at *
    obtain ⟨o2, ho2⟩ : ∃ o2, o2 = orL 0 ((els b 9).take (i + 1)) := ⟨_, rfl⟩
    rw [← ho2] at hor
    have HO2 := Aside0.mk ho2
    clear ho2
    generalize (els b 9)[i] = v at *
    go_wp2_with (go_at_call 106; refine HGRc.out.mono ?_; rintro e w5 ⟨mD, E, rfl, hmD, hE1, hE2, hb5'⟩; have HE := Aside0.mk (And.intro hE1 hE2); have HMD := Aside0.mk hmD; have HB5' := Aside0.mk hb5'; clear hE1 hE2 hmD hb5')
    go_roundg gi'
    case measure => omega
    case rel => exact ⟨i + 1, mD, E, by go_num, rfl, by rw [HO2.out], by omega, ⟨Nat.le_trans HWs.out HMD.out, HE.out.1, HE.out.2⟩, ⟨below_step HBW.out.1 HB5'.out, below_step HBW.out.2 HB5'.out⟩⟩
   ·have hi1 : ((i : Int) < ((els b 9).length : Int)) = False := eq_false (by omega)
    have hi2 : decide ((i : Int) < ((els b 9).length : Int)) = false := decide_eq_false (by omega)
    have hie : i = (els b 9).length := by omega
    subst hie
    rw [List.take_length] at HMC
    have HX4 := Aside0.mk (blk_below HX3.out HBW.out.2)
    have hBw := HBW.out.1
    have HF0 : Aside0 (∀ c, f1 0 c = 1) := ⟨fun c => by
     rw [HF1.out]
     show num _ _ _ _ (els (upto _ _ _ _ 0) 9) = 1
     rw [upto_zero, show els 0 9 = [] from by decide]
     rfl⟩
    have x1 : wr.cell? ⟨xB, 1, none⟩ = some (.slice A1 P.length c1) := (blk_cell HX4.out 1).trans rfl
    have HMC2 : Aside0 (w.heap.size ≤ mC ∧ wr.ownsMap Tryd.prog 3 pI mC N D ∧ Tab (fun g => g ∈ clL G K 0 0 (els b 9)) (f1 0) D) := ⟨HMC.out.1, HMC.out.2.1, HMC.out.2.2.ext (fun _ => Iff.rfl) (fun x _ => (HF0.out x).symm)⟩
    have HBW2 := Aside0.mk hBw
    clear hil hi HMC HGR HF0 HBW HC3 HX3 HB3 hBw
    obtain ⟨l0, hl0⟩ : ∃ l0, l0 = (els b 9).length := ⟨_, rfl⟩
    rw [← hl0] at hi1 hi2 ⊢
    generalize orL 0 ((els b 9).take l0) = oo at *
    clear hl0
    go_wp2
    clear x1
    have HMC1 : Aside0 (w.heap.size ≤ mC) := ⟨HMC2.out.1⟩
    go_loopg [45] P.length (fun kq v45 w' => ∃ (i : Nat) (D : DataW Unit), v45 = .int .i64 (i : Int) ∧ i + kq = P.length ∧ Aside0 (w'.ownsMap Tryd.prog 3 pI mC N D ∧ Tab (fun g => g ∈ clL G K 0 0 (els b 9)) (f1 i) D) ∧ Aside0 (Below w.heap.size w w' ∧ w'.heap[xB]? = some (.cells #[.slice (some adb) B.length c0, .slice A1 P.length c1] 75 (0, 0))))
    case atStart => exact ⟨0, D, rfl, by omega, ⟨HMC2.out.2⟩, ⟨HBW2.out, HX4.out⟩⟩
    case round =>
     clear HMC2 HBW2 HX4
     clear D
     obtain ⟨i, D, rfl, hi, HD, HW⟩ := hrel
     by_cases hil : i < P.length
     ·have hi1 : ((i : Int) < (P.length : Int)) = True := eq_true (by omega)
      have hi2 : decide ((i : Int) < (P.length : Int)) = true := decide_eq_true (by omega)
      cases gk with
      | zero => omega
      | succ gi' =>
      have hib : i < B.length := by rw [← HLEN.out]; exact hil
      obtain ⟨adp, e4, hgp⟩ := HP.out i hib
      subst e4
      have hgp2 : wr.cell? (adp.add i) = some (.int .i64 (rd P (i : Int))) := (HW.out.1.cell (World.block_lt_of_cell? w _ hgp)).trans hgp
      clear hgp
      by_cases hpa : rd P (i : Int) = (at_ : Int)
      ·have hne1 : (rd P (i : Int) != (at_ : Int)) = false := by rw [hpa]; simp
       have hne2 : (rd P (i : Int) = (at_ : Int)) = True := eq_true hpa
       have hpar : parOV P i = some at_ := parO_someV.2 hpa
       obtain ⟨bk, hbk⟩ : ∃ bk, bk = bgI B i := ⟨_, rfl⟩
       obtain ⟨hgk, hbk5⟩ := HBB.out i hib
       obtain ⟨hga, _⟩ := HBB.out at_ hat
       rw [← hbk] at hgk hbk5
       rw [← HBE.out] at hga
       have hand : Go.bits .and .i64 (bk : Int) (b : Int) = ((bk &&& b : Nat) : Int) := b_and _ _ (by omega) (by have := HB5.out; omega)
       have f0d : wr.drew.cell? ⟨xB, 0, none⟩ = some (.slice (some adb) B.length c0) := (blk_cell HW.out.2 0).trans rfl
       have f1d : wr.drew.cell? (adb.add i) = some (.int .i64 (bk : Int)) := (HW.out.1.cell (World.block_lt_of_cell? w _ hgk)).trans hgk
       have f2d : wr.drew.cell? (adb.add at_) = some (.int .i64 (b : Int)) := (HW.out.1.cell (World.block_lt_of_cell? w _ hga)).trans hga
       have f3d : Below wr.heap.size wr wr.drew := below_drew (Below.refl _ _)
       have hib1 : ((i : Int) < (B.length : Int)) = True := eq_true (by omega)
       have HCM5 : Aside0 (bk &&& b < 512) := ⟨Nat.lt_of_le_of_lt Nat.and_le_left hbk5⟩
       have HBK := Aside0.mk hbk
       have HPAR := Aside0.mk hpar
       have HIB := Aside0.mk hib
       have HPA := Aside0.mk hpa
       clear hpar hbk hgk hga hbk5 hpa
       obtain ⟨com, hcom⟩ : ∃ com, com = bk &&& b := ⟨_, rfl⟩
       rw [← hcom] at hand HCM5
       have HCOM := Aside0.mk hcom
       clear hcom hib
       generalize rd P (i : Int) = pv at *
       go_wp2
       refine start_ (n := 12) (S := fun w' => w'.cell? ⟨xB, 0, none⟩ = some (.slice (some adb) B.length c0) ∧ w'.cell? (adb.add i) = some (.int .i64 (bk : Int)) ∧ w'.cell? (adb.add at_) = some (.int .i64 (b : Int)) ∧ Below wr.heap.size wr w') (ds := []) (Qbz 12 0) (by kernel_rfl) rfl rfl ⟨f0d, f1d, f2d, f3d⟩ (fun hHeld => ?_)
       refine Qpu 0 53 ?_ ?_ (Qbz 12 1) (by kernel_rfl) ?_
       refine Qpu 2 55 ?_ ?_ (Qbz 12 5) (by kernel_rfl) ?_
       refine Qpu 5 58 ?_ ?_ (Qbz 12 37) (by kernel_rfl) ?_
       refine Qpu 7 60 ?_ ?_ (Qbz 12 165) (by kernel_rfl) ?_
       refine take_ (i := 1) (N := some 54) (v := ?_) (a' := ?_) (Qbz 12 167) rfl rfl (by kernel_rfl) (fun _ _ _ h => h) (Or.inl ⟨by rfl, ?_⟩) hHeld ?_ ?_;rotate_left;(·rintro w' ⟨s0, s1, s2, s3⟩;go_simp;with_reducible rfl);rotate_left;(·simp only [Act.put, Qp1, Qp2, Qp3, i64_w, i32_w];rfl)
       refine Qpu 3 56 ?_ ?_ (Qbz 12 175) (by kernel_rfl) ?_
       refine take_ (i := 4) (N := some 57) (v := ?_) (a' := ?_) (Qbz 12 191) rfl rfl (by kernel_rfl) (fun _ _ _ h => h) (Or.inl ⟨by rfl, ?_⟩) hHeld ?_ ?_;rotate_left;(·rintro w' ⟨s0, s1, s2, s3⟩;go_simp;with_reducible rfl);rotate_left;(·simp only [Act.put, Qp1, Qp2, Qp3, i64_w, i32_w];rfl)
       refine take_ (i := 6) (N := some 59) (v := ?_) (a' := ?_) (Qbz 12 255) rfl rfl (by kernel_rfl) (fun _ _ _ h => h) (Or.inl ⟨by rfl, ?_⟩) hHeld ?_ ?_;rotate_left;(·rintro w' ⟨s0, s1, s2, s3⟩;go_simp;with_reducible rfl);rotate_left;(·simp only [Act.put, Qp1, Qp2, Qp3, i64_w, i32_w];rfl)
       refine Qpu 8 61 ?_ ?_ (Qbz 12 511) (by kernel_rfl) ?_
       refine take_ (i := 9) (N := some 62) (v := ?_) (a' := ?_) (Qbz 12 1023) rfl rfl (by kernel_rfl) (fun _ _ _ h => h) (Or.inl ⟨by rfl, ?_⟩) hHeld ?_ ?_;rotate_left;(·rintro w' ⟨s0, s1, s2, s3⟩;go_simp;with_reducible rfl);rotate_left;(·simp only [Act.put, Qp1, Qp2, Qp3, i64_w, i32_w];rfl)
       refine Qpu 10 63 ?_ ?_ (Qbz 12 2047) (by kernel_rfl) ?_
       refine Qpu 11 15 ?_ ?_ (Qbz 12 4095) (by kernel_rfl) ?_
       refine done_ (by kernel_rfl) ?_
       obtain ⟨w5, hw5⟩ : ∃ W : World, W = wr.drew := ⟨_, rfl⟩
       have hB5 : Below wr.heap.size wr w5 := by rw [hw5]; exact hHeld.2.2.2
       rw [← hw5]
       clear hw5
       have HX5 := Aside0.mk (blk_below HW.out.2 hB5)
       have HBw5 := Aside0.mk (below_step HW.out.1 hB5)
       have HD5 := Aside0.mk (And.intro (HD.out.1.kept (grown_of_below hB5 none) (by simp)) HD.out.2)
       have y0 : w5.cell? ⟨xB, 0, none⟩ = some (.slice (some adb) B.length c0) := (blk_cell HX5.out 0).trans rfl
       have y1 : w5.cell? ⟨xB, 1, none⟩ = some (.slice (some adp) P.length c1) := (blk_cell HX5.out 1).trans rfl
       clear hHeld f0d f1d f2d f3d hB5 HW HD hgp2
       have HWY := Aside0.mk (HIH.out i w5 HIB.out HPAR.out HBw5.out)
       rw [← HBK.out] at HWY
       obtain ⟨fk, hfk⟩ : ∃ fk : Nat → Nat, fk = fun c => num G K bk c (els (dnU (fun k => k < B.length) (parOV P) (bgI B) i) 9) := ⟨_, rfl⟩
       rw [← hfk] at HWY
       obtain ⟨csk, hcsk⟩ : ∃ csk, csk = clL G K 0 0 (els bk 9) := ⟨_, rfl⟩
       have hbk5 : bk < 512 := by rw [HBK.out]; exact (HBB.out i HIB.out).2
       have HKP : Aside0 (∀ (W : World) (mX : Nat) (D2 : DataW Unit), Below w.heap.size w W → W.ownsMap Tryd.prog 3 pI mX N D2 → Tab (fun g => g ∈ csk) fk D2 → Calls Tryd.prog 107 #[.map (some mX), .int .i64 (com : Int)] W fun e w' => ∃ mB E, e = .returned (.map (some mB)) ∧ W.heap.size ≤ mB ∧ w'.ownsMap Tryd.prog 3 pI mB N E ∧ Tab (kepP com csk (fun _ => false)) (kepF com csk fk (fun _ => false)) E ∧ Below W.heap.size W w') := ⟨fun W mX D2 hW hO hTb => by
        have h1 : ∀ c ∈ csk, c < 2 ^ 36 := by rw [hcsk]; exact clL_lt (by omega) _ 0 0 (fun v hv => (mem_els.1 hv).1) (by omega)
        have h2 : csk.Nodup := by rw [hcsk]; exact nodup_clL HG.out (by omega) (els_nodup _ 9) (fun v _ => ⟨zero_bset v, col_zero v⟩)
        have h3 : sm csk fk ≤ 6 ^ 18 := by rw [hcsk, hfk]; exact sum6 HG.out hK hbk5
        exact kept_calls HCM5.out mX N (6 ^ 18) hN H36.out csk h1 h2 fk h3 (by decide) D2 W (GL_below HGL.out hW) hO hTb⟩
       rw [← hcsk] at HWY
       have HMUL : Aside0 (∀ g, g ∈ clL G K 0 0 (els b 9) → f1 i g * kepF com csk fk (fun _ => false) (res g com) = f1 (i + 1) g) := ⟨fun g hg => by
        rw [HBE.out] at hg
        have h1 := ways_step (bg := bgI B) HA.out HG.out (by omega : K ≤ 16) hat HIB.out HPAR.out hg
        rw [HF1.out, hcsk, hfk, HCOM.out, HBE.out, HBK.out]
        have h2 : ∀ y, kepF (bgI B i &&& bgI B at_) (clL G K 0 0 (els (bgI B i) 9)) (fun c => num G K (bgI B i) c (els (dnU (fun k => k < B.length) (parOV P) (bgI B) i) 9)) (fun _ => false) y = sm (clL G K 0 0 (els (bgI B i) 9)) (fun c' => if res c' (bgI B i &&& bgI B at_) = y then num G K (bgI B i) c' (els (dnU (fun k => k < B.length) (parOV P) (bgI B) i) 9) else 0) := fun y => by
         unfold kepF
         congr 1
         exact List.filter_eq_self.2 fun _ _ => rfl
        rw [h2]
        exact h1⟩
       have HF6 : Aside0 (∀ j g, f1 j g < 2 ^ 60) := ⟨fun j g => by rw [HF1.out]; exact num6 hK _ _ _⟩
       have HCS : Aside0 (∀ c ∈ clL G K 0 0 (els b 9), c < 2 ^ 36) := ⟨clL_lt (by omega) _ 0 0 (fun v hv => (mem_els.1 hv).1) (by omega)⟩
       clear hfk hcsk hbk5 HIH HPAR HCOM HPA
       generalize clL G K 0 0 (els b 9) = cs at *
       go_wp2_with (first | (go_at_call 90; refine HWY.out.mono ?_; rintro e w6 ⟨mW, EW, rfl, hmW, hE1, hE2, hb6⟩; have HE6 := Aside0.mk (And.intro hE1 hE2); have HB6 := Aside0.mk hb6; clear hE1 hE2 hb6 hmW) | (go_at_call 107; refine (HKP.out w6 mW EW (below_step HBw5.out HB6.out) HE6.out.1 HE6.out.2).mono ?_; rintro e w7 ⟨mK, EK, rfl, hmK, hE1, hE2, hb7⟩; have HE7 := Aside0.mk (And.intro hE1 hE2); have HB7 := Aside0.mk (below_step HB6.out hb7); have HMK : Aside0 (w5.heap.size ≤ mK) := ⟨Nat.le_trans HB6.out.size hmK⟩; have hO7 := HD5.out.1.kept (grown_of_below (below_step HB6.out hb7) none) (by simp); have HO7 := Aside0.mk hO7; clear hE1 hE2 hb7 hmK hO7) | (at_range; refine wpList_range_own _ rfl _ _ rfl 3 3 law3 undT pI mC N D rfl HO7.out ?_; intro w8 hrg8 hg8 hs8; have HRG8 := Aside0.mk hrg8; have HG8 := Aside0.mk hg8; clear hrg8 hg8 hs8))
       try go_frame
       obtain ⟨z, hz⟩ : ∃ z : Nat → Nat, z = fun g => kepF com csk fk (fun _ => false) (res g com) := ⟨_, rfl⟩
       have HZ := Aside0.mk hz
       have HB78 := Aside0.mk (grow_below HG8.out)
       have HS0 : Aside0 (w8.ranges Tryd.prog 3 pI mC w7.heap.size N D (Maps.has D) (Maps.size D) ∧ Tab (fun g => g ∈ cs) (mulF (f1 i) z (Maps.has D)) D) := ⟨HRG8.out, HD5.out.2.ext (fun _ => Iff.rfl) fun x hx => by
        have := (HD5.out.2.has x).2 hx
        unfold mulF
        rw [if_pos this]⟩
       have HK8 : Aside0 (w8.ownsMap Tryd.prog 3 pI mK N EK ∧ Tab (kepP com csk (fun _ => false)) (kepF com csk fk (fun _ => false)) EK) := ⟨HE7.out.1.kept HG8.out (by simp), HE7.out.2⟩
       have HBw8 : Aside0 (Below w.heap.size w w8) := ⟨below_step (below_step HBw5.out HB7.out) HB78.out⟩
       have HX8 : Aside0 (w8.heap[xB]? = some (.cells #[.slice (some adb) B.length c0, .slice (some adp) P.length c1] 75 (0, 0))) := ⟨blk_below (blk_below HX5.out HB7.out) HB78.out⟩
       have HNE : Aside0 (xB ≠ mC ∧ mK ≠ mC ∧ mC < w7.heap.size ∧ w.heap.size ≤ w7.heap.size ∧ mK < w7.heap.size ∧ xB < w7.heap.size) := ⟨by
        have q1 := HD5.out.1.lt
        have q2 := HMK.out
        have q3 := HO7.out.lt
        have q4 := HBw5.out.size
        have q5 := HB7.out.size
        exact ⟨cells_ne_map HX8.out HS0.out.1.owns, by omega, q3, by omega, HE7.out.1.lt, (Array.getElem?_eq_some_iff.1 (blk_below HX5.out HB7.out)).1⟩⟩
       have HNE2 := HNE.out.2.2.2
       clear hz HB78 HB7 HB6 HBw5 HE6 HE7 HD5 HRG8 HG8 HO7 HX5 HWY HKP HMK y0 y1
       generalize w7.heap.size = r at *
       obtain ⟨wo, rfl⟩ : ∃ wo : World, wo = wr := ⟨_, rfl⟩
       go_loopg [17] (Maps.size D) (fun kq v17 w' => ∃ left D2, Aside0 (w'.ranges Tryd.prog 3 pI mC r N D2 left kq ∧ Tab (fun g => g ∈ cs) (mulF (f1 i) z left) D2) ∧ Aside0 (w'.ownsMap Tryd.prog 3 pI mK N EK ∧ Below w.heap.size w w' ∧ w'.heap[xB]? = some (.cells #[.slice (some adb) B.length c0, .slice (some adp) P.length c1] 75 (0, 0))))
       case atStart => exact ⟨_, _, HS0, ⟨HK8.out.1, HBw8.out, HX8.out⟩⟩
       case round =>
        clear HS0 HBw8 HX8
        obtain ⟨left, D2, HR, HQ⟩ := hrel
        have hrg := HR.out.1
        go_wp2_with (at_next; refine wpList_next_ranges_ii _ rfl _ rfl 3 3 .i64 .i64 law3 und3 und3 mC r N D2 left gk rfl hrg ?_ ?_)
        ·intro hc0' hl0
         clear hrg
         have e : left = fun _ => false := funext hl0
         subst e
         clear hl0
         go_wp2
         go_roundg gi'
         case measure => omega
         case rel =>
          have hib := HIB.out
          refine ⟨i + 1, D2, by rw [wrap_succ i (by omega)], by omega, ⟨HR.out.1.owns, HR.out.2.ext (fun _ => Iff.rfl) fun x hx => ?_⟩, ⟨HQ.out.2.1, HQ.out.2.2⟩⟩
          show (if false = true then f1 i x else f1 i x * z x) = f1 (i + 1) x
          rw [if_neg (by simp), HZ.out]
          exact HMUL.out x hx
        ·intro x0' cc w9 cnt2 hwx hwc hlx hat hrg9 hlt hg9 hs9 hen
         obtain ⟨g, hgc, rfl, rfl⟩ := HR.out.2.step hat
         have hfg : mulF (f1 i) z left g = f1 i g := by unfold mulF; rw [if_pos hlx]
         rw [hfg] at hen ⊢
         have hkg : keyOf Tryd.prog 3 (.int .i64 (g : Int)) = some (kI g) := key3 g (p36 (HCS.out g hgc))
         have hb9 := below_grow HQ.out.2.1 hg9 (by omega)
         have hK9 := HQ.out.1.kept hg9 (by intro e; have := Option.some.inj e; omega)
         have hX9 := blk_grown HQ.out.2.2 hg9 (by intro e; have := Option.some.inj e; omega)
         have HLK := Aside0.mk hgc
         have hy36 : res g com < 2 ^ 36 := by
          unfold res
          exact Nat.lt_of_le_of_lt Nat.and_le_left (HCS.out g hgc)
         obtain ⟨y, hy⟩ : ∃ y, y = res g com := ⟨_, rfl⟩
         have hzy : z g = kepF com csk fk (fun _ => false) y := by rw [HZ.out, hy]
         rw [← hy] at hy36
         have hky : keyOf Tryd.prog 3 (.int .i64 (y : Int)) = some (kI y) := key3 y (p36 hy36)
         have hmulv := HMUL.out g hgc
         rw [← hy, ← hzy] at hmulv
         have hf60 := HF6.out (i + 1) g
         have hmul := mulC hmulv hf60
         have hval := pI_mk (f1 (i + 1) g) (Nat.lt_trans hf60 (by decide))
         have HFV := Aside0.mk (show f1 i g * z g = f1 (i + 1) g from hmulv)
         have HLF : Aside0 (∀ W, W.ranges Tryd.prog 3 pI mC r N D2 (fun z => left z && !z.sameKey (kI g)) cnt2 → W.ownsMap Tryd.prog 3 pI mK N EK → (Instr.lookup 110 (.map (some mC)) (.int .i64 (g : Int)) false).run Tryd.prog W = .ok (.int .i64 (f1 i g : Int)) W ∧ (Instr.lookup 110 (.map (some mK)) (.int .i64 (y : Int)) false).run Tryd.prog W = .ok (.int .i64 (z g : Int)) W) := ⟨fun W q1 q2 => by
          obtain ⟨u1, p1, p2, _⟩ := q1.owns.lookup_int law3 undT und3 (zero3 W) hkg
          obtain ⟨u2, p3, p4, _⟩ := q2.lookup_int law3 undT und3 (zero3 W) hky
          have e1 : u1 = (f1 i g : Int) := by
           rw [hat] at p2
           injection p2 with p2
           injection p2 with _ p2
           rw [← p2, hfg]
          have e2 : u2 = (z g : Int) := by
           rw [hzy]
           rcases HK8.out.2.look y p4 with ⟨_, h⟩ | ⟨h1, h⟩
           ·exact h
           ·rw [h, kepF_none h1]; rfl
          rw [e1] at p1
          rw [e2] at p3
          exact ⟨p1, p3⟩⟩
         have fRd : w9.drew.ranges Tryd.prog 3 pI mC r N D2 (fun z => left z && !z.sameKey (kI g)) cnt2 := hrg9
         have fKd : w9.drew.ownsMap Tryd.prog 3 pI mK N EK := hK9
         obtain ⟨f1d, f2d⟩ := HLF.out w9.drew fRd fKd
         have f5d : Below w9.heap.size w9 w9.drew := below_drew (Below.refl _ _)
         have HON : Aside0 (∀ W, ((Instr.lookup 110 (.map (some mC)) (.int .i64 (g : Int)) false).run Tryd.prog W = .ok (.int .i64 (f1 i g : Int)) W ∧ (Instr.lookup 110 (.map (some mK)) (.int .i64 (y : Int)) false).run Tryd.prog W = .ok (.int .i64 (z g : Int)) W ∧ W.ranges Tryd.prog 3 pI mC r N D2 (fun z => left z && !z.sameKey (kI g)) cnt2 ∧ W.ownsMap Tryd.prog 3 pI mK N EK ∧ Below w9.heap.size w9 W) → Calls Tryd.prog 108 #[.int .i64 (g : Int), .int .i64 (com : Int)] W fun e w' => e = .returned (.int .i64 (y : Int)) ∧ (Instr.lookup 110 (.map (some mC)) (.int .i64 (g : Int)) false).run Tryd.prog w' = .ok (.int .i64 (f1 i g : Int)) w' ∧ (Instr.lookup 110 (.map (some mK)) (.int .i64 (y : Int)) false).run Tryd.prog w' = .ok (.int .i64 (z g : Int)) w' ∧ w'.ranges Tryd.prog 3 pI mC r N D2 (fun z => left z && !z.sameKey (kI g)) cnt2 ∧ w'.ownsMap Tryd.prog 3 pI mK N EK ∧ Below w9.heap.size w9 w') := ⟨by
          rintro W ⟨_, _, q1, q2, q3⟩
          refine (only_callsC (HCS.out g hgc) HCM5.out W (GL_below HGL.out (below_step hb9 q3))).mono ?_
          rintro e w' ⟨rfl, hb⟩
          have r1 := q1.kept (grown_of_below hb none) (by simp) (by simp)
          have r2 := q2.kept (grown_of_below hb none) (by simp)
          rw [← hy]
          exact ⟨rfl, (HLF.out w' r1 r2).1, (HLF.out w' r1 r2).2, r1, r2, below_step q3 hb⟩⟩
         have hhas : Maps.has D2 (kI g) = true := Maps.has_true_of_atKey hat
         have HHAS := Aside0.mk hhas
         have HX9 := Aside0.mk hX9
         have HB9 := Aside0.mk hb9
         have HLX := Aside0.mk hlx
         generalize hfv : f1 i g = fv at *
         have HFVE := Aside0.mk hfv
         generalize hzv : z g = zv at *
         have HZVE := Aside0.mk hzv
         clear hhas hX9 hb9 hrg9 hK9 hrg hwx hwc hlx hat hg9 hgc hfg hy36 hy hzy hmulv hf60 hfv hzv
         go_wp2
         refine start_ (n := 10) (S := fun w' => (Instr.lookup 110 (.map (some mC)) (.int .i64 (g : Int)) false).run Tryd.prog w' = .ok (.int .i64 (fv : Int)) w' ∧ (Instr.lookup 110 (.map (some mK)) (.int .i64 (y : Int)) false).run Tryd.prog w' = .ok (.int .i64 (zv : Int)) w' ∧ w'.ranges Tryd.prog 3 pI mC r N D2 (fun z => left z && !z.sameKey (kI g)) cnt2 ∧ w'.ownsMap Tryd.prog 3 pI mK N EK ∧ Below w9.heap.size w9 w') (ds := [9]) (Qbz 10 0) (by kernel_rfl) rfl rfl ⟨f1d, f2d, fRd, fKd, f5d⟩ (fun hHeld => ?_)
         refine Qpu 0 77 ?_ ?_ (Qbz 10 1) (by kernel_rfl) ?_
         refine Qpu 1 78 ?_ ?_ (Qbz 10 3) (by kernel_rfl) ?_
         refine Qpu 3 80 ?_ ?_ (Qbz 10 11) (by kernel_rfl) ?_
         refine Qpu 4 81 ?_ ?_ (Qbz 10 27) (by kernel_rfl) ?_
         refine Qpu 5 82 ?_ ?_ (Qbz 10 59) (by kernel_rfl) ?_
         refine take_ (i := 2) (N := some 79) (v := ?_) (a' := ?_) (Qbz 10 63) rfl rfl (by kernel_rfl) (fun _ _ _ h => h) (Or.inl ⟨by rfl, ?_⟩) hHeld ?_ ?_;rotate_left;(·rintro w' ⟨s0, s1, s2, s3, s4⟩;go_simp;with_reducible rfl);rotate_left;(·simp only [Act.put, Qp1, Qp2, Qp3, i64_w, i32_w];rfl)
         refine one_ (i := 6) (N := some 83) (Qbz 10 127) rfl rfl (by kernel_rfl) (by decide) (fun K hK => ?_)
         refine goes_ Tryd.func108 (by kernel_rfl) rfl #[.int .i64 (g : Int), .int .i64 (com : Int)] (by rfl) rfl rfl (by simp only [List.map_toArray, List.map_cons, List.map_nil]; rfl) ?_
         with_reducible refine (HON.out _ hHeld).mono ?_
         rintro e w10 ⟨rfl, k0, k1, k2, k3, k4⟩
         refine ⟨_, rfl, ?_⟩
         refine hK.out _ _ ⟨k0, k1, k2, k3, k4⟩ (fun hHeld => ?_)
         clear hK K
         refine norm_ (a' := ?_) ?_ ?_
         rotate_left
         ·show Act.put _ (some 83) _ = _
          simp only [Act.put, Qp1, Qp2, Qp3, i64_w, i32_w]
          rfl
         refine take_ (i := 7) (N := some 84) (v := ?_) (a' := ?_) (Qbz 10 255) rfl rfl (by kernel_rfl) (fun _ _ _ h => h) (Or.inl ⟨by rfl, ?_⟩) hHeld ?_ ?_;rotate_left;(·rintro w' ⟨s0, s1, s2, s3, s4⟩;go_simp;with_reducible rfl);rotate_left;(·simp only [Act.put, Qp1, Qp2, Qp3, i64_w, i32_w];rfl)
         refine Qpu 8 85 ?_ ?_ (Qbz 10 511) (by kernel_rfl) ?_
         refine last_ (i := 9) (N := none) (Qbz 10 1023) rfl rfl (by kernel_rfl) (by decide) (fun K hK => ?_)
         obtain ⟨w11, hrun11, hrg11, hgrow11, hsz11⟩ := ranges_put hHeld.2.2.1 law3 undT hN hkg HHAS.out hval
         have HR11 := Aside0.mk hrg11
         have HG11 := Aside0.mk hgrow11
         clear hrg11 hgrow11 hsz11
         refine skip_ (w1 := w11) (by rfl) rfl ?_ ?_
         ·go_simp
         refine hK.out _ _ ?_
         clear hK K
         refine done_ (by kernel_rfl) ?_
         go_wp2
         go_roundg cnt2
         case measure => exact hlt
         case rel =>
          refine ⟨_, _, ⟨HR11.out, ?_⟩, ⟨hHeld.2.2.2.1.kept HG11.out (by intro e; have := Option.some.inj e; have := HNE.out.2.1; omega), below_grow (below_step HB9.out hHeld.2.2.2.2) HG11.out HMC1.out, blk_grown (blk_below HX9.out hHeld.2.2.2.2) HG11.out (by intro e; have := Option.some.inj e; have := HNE.out.1; omega)⟩⟩
          have hp := HR.out.2.put g (f1 (i + 1) g) (p36 (HCS.out g HLK.out))
          refine hp.ext (fun x => ⟨fun h => h.elim id fun e => e ▸ HLK.out, .inl⟩) (fun x hx => ?_)
          rw [← mul_put HLX.out x, HFVE.out, HZVE.out]
          by_cases e : x = g
          ·rw [if_pos e, if_pos e, HFV.out]
          ·rw [if_neg e, if_neg e]
      ·have hne1 : (rd P (i : Int) != (at_ : Int)) = true := by simpa using hpa
       have hne2 : (rd P (i : Int) = (at_ : Int)) = False := eq_false hpa
       have hskip : ∀ c, f1 i c = f1 (i + 1) c := fun c => by
        rw [HF1.out]
        show num _ _ _ _ (els (upto _ _ _ _ i) 9) = num _ _ _ _ (els (upto _ _ _ _ (i + 1)) 9)
        rw [upto_skip fun h => hpa (parO_someV.1 h.2)]
       have HSK := Aside0.mk hskip
       clear hskip
       generalize rd P (i : Int) = pv at *
       go_wp2
       go_roundg gi'
       case measure => omega
       case rel => exact ⟨i + 1, D, by go_num, by omega, ⟨HD.out.1, HD.out.2.ext (fun _ => Iff.rfl) (fun x _ => HSK.out x)⟩, HW⟩
     ·have hi1 : ((i : Int) < (P.length : Int)) = False := eq_false (by omega)
      have hi2 : decide ((i : Int) < (P.length : Int)) = false := decide_eq_false (by omega)
      have hib : i = B.length := by have := HLEN.out; omega
      have HEND : Aside0 (∀ c, f1 i c = num G K b c (els (dnU (fun k => k < B.length) (parOV P) (bgI B) at_) 9)) := ⟨fun c => by
       rw [HF1.out, hib]
       show num _ _ _ _ (els (upto _ _ _ _ B.length) 9) = _
       rw [upto_all (bg := bgI B) HA.out hat fun k hk => hk]⟩
      clear hil hib
      go_wp2
      go_ret
      refine ⟨_, D, rfl, HMC1.out, HD.out.1, ?_, HW.out.1⟩
      rw [← HBE.out]
      exact HD.out.2.ext (fun _ => Iff.rfl) (fun x _ => HEND.out x)
end Go.Proofs.YtjloppfdagfpmaaDoor.X
end
section
namespace Go.Proofs.YtjloppfdagfpmaaDoor.X
open Go.RowKit YtjloppfdagfpmaaDoorW.PrintWords YtjloppfdagfpmaaDoorW.PrintLast YtjloppfdagfpmaaDoorW.PrintMore YtjloppfdagfpmaaDoor.T
attribute [local go_sem] max2_int min2_int max_two min_two max_three min_three max_four min_four
theorem gi_toNatT (G : List Nat) : (gi G).map Int.toNat = G := by
 unfold gi
 rw [List.map_map]
 conv => rhs; rw [← List.map_id G]
 exact List.map_congr_left fun x _ => by simp
theorem p9T {n : Nat} (h : n ≤ 9) : 2 ^ n ≤ 512 := Nat.pow_le_pow_right (n := 2) (by omega) h
theorem bitJT (a y : Nat) (ha : a < 2 ^ 62) (hy : y < 62) : ∃ J : Int, ((a : Int) / 2 ^ min y 64) = J ∧ ((a : Int) / 2 ^ y) = J ∧ shr .i64 (a : Int) (y : Int) = J ∧ (Go.bits .and .i64 J 1 == 1) = a.testBit y ∧ (Go.bits .and .i64 J 1 == 0) = !a.testBit y := by
 have e := s_shr a y hy
 refine ⟨_, rfl, ?_, ?_, ?_, ?_⟩
 ·rw [Nat.min_eq_left (by omega)]
 ·rw [e, Nat.min_eq_left (by omega)]; simp
 ·rw [show ((a : Int) / 2 ^ min y 64) = shr .i64 (a : Int) (y : Int) by rw [e, Nat.min_eq_left (by omega)]; simp, bit_at a y ha hy]
  cases a.testBit y <;> rfl
 ·rw [show ((a : Int) / 2 ^ min y 64) = shr .i64 (a : Int) (y : Int) by rw [e, Nat.min_eq_left (by omega)]; simp, bit_at a y ha hy]
  cases a.testBit y <;> rfl
theorem cell_sameT {W V : World} {a : Addr} (h : V.heap[a.block]? = W.heap[a.block]?) : V.cell? a = W.cell? a := by
 unfold World.cell?
 rw [h]
theorem heap_setT (W : World) (a : Addr) (v : Value) (b : Nat) (h : b ≠ a.block) : (W.setCell a v).heap[b]? = W.heap[b]? := Below.heap_setCell W a v b h
theorem blk_ltT {W : World} {g : Nat} {o : Obj} (h : W.heap[g]? = some o) : g < W.heap.size := (Array.getElem?_eq_some_iff.1 h).1
set_option maxHeartbeats 4000000 in
set_option maxRecDepth 100000 in
theorem cyclic_calls (A0 : Option Addr) (n0 c0 : Nat) (A1 : Option Addr) (c1 : Nat) (P : List Int) (at_ : Int) (hP : InP P) (hn : P.length ≤ 30) (ha1 : at_ < (P.length : Int)) (w : World) (hr : Kd.C (Kd.int .i64) w A1 P.length P) :
  Calls Tryd.prog 103 #[.agg #[.slice A0 n0 c0, .slice A1 P.length c1], .int .i64 at_] w fun e w' => e = .returned (.bool (cycB P P.length at_)) ∧ Below w.heap.size w w' := by
 have HR := Aside0.mk hr
 have HP := Aside0.mk hP
 obtain ⟨R, hR⟩ : ∃ r, cycB P P.length at_ = r := ⟨_, rfl⟩
 rw [hR]
 have HC := Aside0.mk hR
 clear hr hP hR
 go_enter Tryd.func103, Tryd.ntmps103
 go_wp2_with (first | ((with_reducible refine gate_dst (N := 2) rfl ?_); refine box_event ?hg (N := 2) ?hd (cs := #[.slice A0 n0 c0, .slice A1 P.length c1]) (t := 75) ?hr ?_; (case hd => rfl); (case hg => rfl); (case hr => first | (go_simp; done) | (go_simp; rfl)); intro ga hga w7 hbox hb7; have HBOX := Aside0.mk hbox; have HB7 := Aside0.mk hb7; have hz1 : w7.cell? ⟨ga, 1, none⟩ = some (.slice A1 P.length c1) := (blk_cell hbox 1).trans rfl; clear hbox hb7 hga))
 go_loopg [1, 8] P.length (fun kq v1 v8 w' => ∃ (i : Nat) (x : Int), v1 = .int .i64 x ∧ v8 = .int .i64 (i : Int) ∧ i + kq = P.length ∧ Aside0 (cycB P kq x = R ∧ x < (P.length : Int)) ∧ w' = w7)
 case atStart => exact ⟨0, at_, rfl, rfl, by omega, ⟨HC.out, ha1⟩, rfl⟩
 case round =>
  clear HC
  obtain ⟨i, x, rfl, rfl, hi, HC, rfl⟩ := hrel
  obtain ⟨hc, hx⟩ := HC.out
  clear HC
  by_cases hil : i < P.length
  ·have hi1 : ((i : Int) < (P.length : Int)) = True := eq_true (by omega)
   have hi2 : decide ((i : Int) < (P.length : Int)) = true := decide_eq_true (by omega)
   cases gk with
   | zero => omega
   | succ gi =>
   simp only [cycB] at hc
   by_cases hx0 : x < 0
   ·rw [if_pos hx0] at hc
    subst hc
    have hd1 : decide (x < 0) = true := decide_eq_true hx0
    clear hx0
    go_wp2
    go_ret
    exact ⟨rfl, HB7.out⟩
   ·rw [if_neg hx0] at hc
    have hd1 : decide (x < 0) = false := decide_eq_false hx0
    obtain ⟨xn, rfl⟩ := Int.eq_ofNat_of_zero_le (show 0 ≤ x by omega)
    have hxl : xn < P.length := by omega
    obtain ⟨ad, e1, hgx⟩ := Kd.at_int (Kd.C_below HR.out HB7.out) (xn : Int) (by omega) (by omega)
    subst e1
    rw [Int.toNat_natCast] at hgx
    obtain ⟨h1, h2⟩ := HP.out xn hxl
    have hj1 : ((xn : Int) < (P.length : Int)) = True := eq_true (by omega)
    have hj2 : decide ((xn : Int) < (P.length : Int)) = true := decide_eq_true (by omega)
    generalize rd P (xn : Int) = y at *
    have HC2 := Aside0.mk hc
    clear hc hx0
    go_wp2
    go_roundg gi
    case measure => omega
    case rel => exact ⟨i + 1, y, rfl, by go_num, by omega, ⟨HC2.out, h2⟩, rfl⟩
  ·have hi1 : ((i : Int) < (P.length : Int)) = False := eq_false (by omega)
   have hi2 : decide ((i : Int) < (P.length : Int)) = false := decide_eq_false (by omega)
   obtain rfl : gk = 0 := by omega
   simp only [cycB] at hc
   have hd3 : decide (x ≥ 0) = R := hc
   have hd4 : decide (0 ≤ x) = R := hc
   clear hc
   go_wp2
   go_ret
   exact ⟨by first | rfl | (rw [hd4]), HB7.out⟩
theorem cyc1 (xB : Nat) (A0 : Option Addr) (n0 c0 : Nat) (A1 : Option Addr) (c1 : Nat) (P : List Int) (at_ : Int) (hP : InP P) (hn : P.length ≤ 30) (ha1 : at_ < (P.length : Int)) (w : World) (hr : Kd.C (Kd.int .i64) w A1 P.length P) (h0 : w.cell? ⟨xB, 0, none⟩ = some (.slice A0 n0 c0)) (h1 : w.cell? ⟨xB, 1, none⟩ = some (.slice A1 P.length c1)) :
  Calls Tryd.prog 102 #[.int .i64 at_, .pointer (some ⟨xB, 0, none⟩)] w fun e w' => e = .returned (.bool (cycB P P.length at_)) ∧ Below w.heap.size w w' := by
 have HC := Aside0.mk (cyclic_calls A0 n0 c0 A1 c1 P at_ hP hn ha1 w hr)
 clear hP hn ha1 hr
 go_enter Tryd.func102, Tryd.ntmps102
 go_wp2_with (go_at_call 103; refine HC.out.mono ?_; rintro e w3 ⟨rfl, hb⟩)
 go_ret
 exact ⟨rfl, hb⟩
theorem both1 (uB vB : Nat) (u v b : Nat) (hu : u < 62) (hv : v < 62) (hb : b < 2 ^ 62) (w : World) (h0 : w.cell? ⟨uB, 0, none⟩ = some (.int .i64 (u : Int))) (h1 : w.cell? ⟨vB, 0, none⟩ = some (.int .i64 (v : Int))) :
  Calls Tryd.prog 105 #[.int .i64 (b : Int), .pointer (some ⟨uB, 0, none⟩), .pointer (some ⟨vB, 0, none⟩)] w fun e w' => e = .returned (.bool (bothB u v (b : Int))) ∧ Below w.heap.size w w' := by
 obtain ⟨J, hJ1, hJ2, hJ3, hJ4, hJ5⟩ := bitJT b u hb hu
 obtain ⟨K, hK1, hK2, hK3, hK4, hK5⟩ := bitJT b v hb hv
 have HB := Aside0.mk (show bothB u v (b : Int) = (b.testBit u && b.testBit v) from rfl)
 have hz1 : (0 : Int) ≤ (u : Int) := by omega
 have hz2 : (0 : Int) ≤ (v : Int) := by omega
 clear hb hJ3 hJ5 hK3 hK5
 rw [HB.out]
 cases hbt : b.testBit u
 ·rw [hbt] at hJ4
  clear hbt
  generalize b.testBit v = bv at *
  go_enter Tryd.func105, Tryd.ntmps105
  go_wp2
  go_ret
  exact ⟨rfl, Below.refl _ _⟩
 ·rw [hbt] at hJ4
  clear hbt
  generalize b.testBit v = bv at *
  go_enter Tryd.func105, Tryd.ntmps105
  go_wp2
  go_ret
  exact ⟨rfl, Below.refl _ _⟩
set_option maxHeartbeats 2000000 in
theorem index_cyc (A : Option Addr) (c : Nat) (l : List Int) (p : Int → Bool) (xB : Nat) (w : World) (hx : Kd.C (Kd.int .i64) w A l.length l) (hl : l.length ≤ 1000)
  (hp : ∀ W, Below w.heap.size w W → ∀ x ∈ l, Calls Tryd.prog 102 #[.int .i64 x, .pointer (some ⟨xB, 0, none⟩)] W fun e w' => e = .returned (.bool (p x)) ∧ Below W.heap.size W w') :
  Calls Tryd.prog 93 #[.slice A l.length c, .func (.func 102) #[] #[.pointer (some ⟨xB, 0, none⟩)]] w fun e w' => ∃ z, e = .returned (.int .i64 z) ∧ decide (z ≥ 0) = l.any p ∧ Below w.heap.size w w' := by
 have HX := Aside0.mk hx
 have HP := Aside0.mk hp
 clear hx hp
 go_enter Tryd.func93, Tryd.ntmps93
 go_wp2
 go_loopg [8] l.length (fun kq v8 w' => ∃ i : Nat, v8 = .int .i64 (i : Int) ∧ i + kq = l.length ∧ Aside0 ((l.drop i).any p = l.any p) ∧ Aside0 (Below w.heap.size w w'))
 case atStart => exact ⟨0, rfl, by omega, ⟨rfl⟩, ⟨Below.refl _ _⟩⟩
 case round =>
  obtain ⟨i, rfl, hi, HA, HB⟩ := hrel
  by_cases hil : i < l.length
  ·have hi1 : ((i : Int) < (l.length : Int)) = True := eq_true (by omega)
   have hi2 : decide ((i : Int) < (l.length : Int)) = true := decide_eq_true (by omega)
   cases gk with
   | zero => omega
   | succ gi =>
   obtain ⟨ad, e1, hgx⟩ := Kd.at_int (Kd.C_below HX.out HB.out) (i : Int) (by omega) (by omega)
   subst e1
   have hra : rd l (i : Int) = l[i] := by unfold rd; rw [Int.toNat_natCast, List.getD_eq_getElem?_getD, List.getElem?_eq_getElem hil]; rfl
   rw [hra, Int.toNat_natCast] at hgx
   have hm : l[i] ∈ l := List.getElem_mem hil
   have ha := HA.out
   rw [List.drop_eq_getElem_cons hil, List.any_cons] at ha
   have HC := Aside0.mk (HP.out wr HB.out _ hm)
   generalize l[i] = x at *
   clear hra HA
   cases hpx : p x
   ·rw [hpx] at HC ha
    have HA2 : Aside0 ((l.drop (i + 1)).any p = l.any p) := ⟨by simpa using ha⟩
    clear ha hpx hm
    go_wp2_with (go_at_call 102; refine HC.out.mono ?_; rintro e w3 ⟨rfl, hb⟩)
    go_roundg gi
    case measure => omega
    case rel => exact ⟨i + 1, by go_num, by omega, HA2, ⟨below_step HB.out hb⟩⟩
   ·rw [hpx] at HC ha
    have HA2 : Aside0 (true = l.any p) := ⟨by simpa using ha⟩
    clear ha hpx hm
    go_wp2_with (go_at_call 102; refine HC.out.mono ?_; rintro e w3 ⟨rfl, hb⟩)
    go_ret
    exact ⟨_, rfl, by rw [← HA2.out]; exact decide_eq_true (by omega), below_step HB.out hb⟩
  ·have hi1 : ((i : Int) < (l.length : Int)) = False := eq_false (by omega)
   have hi2 : decide ((i : Int) < (l.length : Int)) = false := decide_eq_false (by omega)
   have ha := HA.out
   rw [List.drop_eq_nil_of_le (by omega)] at ha
   have HA2 : Aside0 (false = l.any p) := ⟨ha⟩
   clear ha HA
   go_wp2
   go_ret
   exact ⟨_, rfl, by rw [← HA2.out]; rfl, HB.out⟩
theorem contains_cyc (A : Option Addr) (c : Nat) (l : List Int) (p : Int → Bool) (xB : Nat) (w : World) (hx : Kd.C (Kd.int .i64) w A l.length l) (hl : l.length ≤ 1000)
  (hp : ∀ W, Below w.heap.size w W → ∀ x ∈ l, Calls Tryd.prog 102 #[.int .i64 x, .pointer (some ⟨xB, 0, none⟩)] W fun e w' => e = .returned (.bool (p x)) ∧ Below W.heap.size W w') :
  Calls Tryd.prog 68 #[.slice A l.length c, .func (.func 102) #[] #[.pointer (some ⟨xB, 0, none⟩)]] w fun e w' => e = .returned (.bool (l.any p)) ∧ Below w.heap.size w w' := by
 have HI := Aside0.mk (index_cyc A c l p xB w hx hl hp)
 clear hx hl hp
 go_enter Tryd.func68, Tryd.ntmps68
 go_wp2_with (go_at_call 93; refine HI.out.mono ?_; rintro e w3 ⟨z, rfl, hz, hb⟩)
 go_ret
 exact ⟨by rw [← hz]; rfl, hb⟩
set_option maxHeartbeats 2000000 in
theorem index_both (A : Option Addr) (c : Nat) (l : List Int) (p : Int → Bool) (uB vB : Nat) (w : World) (hx : Kd.C (Kd.int .i64) w A l.length l) (hl : l.length ≤ 1000)
  (hp : ∀ W, Below w.heap.size w W → ∀ x ∈ l, Calls Tryd.prog 105 #[.int .i64 x, .pointer (some ⟨uB, 0, none⟩), .pointer (some ⟨vB, 0, none⟩)] W fun e w' => e = .returned (.bool (p x)) ∧ Below W.heap.size W w') :
  Calls Tryd.prog 93 #[.slice A l.length c, .func (.func 105) #[] #[.pointer (some ⟨uB, 0, none⟩), .pointer (some ⟨vB, 0, none⟩)]] w fun e w' => ∃ z, e = .returned (.int .i64 z) ∧ decide (z ≥ 0) = l.any p ∧ Below w.heap.size w w' := by
 have HX := Aside0.mk hx
 have HP := Aside0.mk hp
 clear hx hp
 go_enter Tryd.func93, Tryd.ntmps93
 go_wp2
 go_loopg [8] l.length (fun kq v8 w' => ∃ i : Nat, v8 = .int .i64 (i : Int) ∧ i + kq = l.length ∧ Aside0 ((l.drop i).any p = l.any p) ∧ Aside0 (Below w.heap.size w w'))
 case atStart => exact ⟨0, rfl, by omega, ⟨rfl⟩, ⟨Below.refl _ _⟩⟩
 case round =>
  obtain ⟨i, rfl, hi, HA, HB⟩ := hrel
  by_cases hil : i < l.length
  ·have hi1 : ((i : Int) < (l.length : Int)) = True := eq_true (by omega)
   have hi2 : decide ((i : Int) < (l.length : Int)) = true := decide_eq_true (by omega)
   cases gk with
   | zero => omega
   | succ gi =>
   obtain ⟨ad, e1, hgx⟩ := Kd.at_int (Kd.C_below HX.out HB.out) (i : Int) (by omega) (by omega)
   subst e1
   have hra : rd l (i : Int) = l[i] := by unfold rd; rw [Int.toNat_natCast, List.getD_eq_getElem?_getD, List.getElem?_eq_getElem hil]; rfl
   rw [hra, Int.toNat_natCast] at hgx
   have hm : l[i] ∈ l := List.getElem_mem hil
   have ha := HA.out
   rw [List.drop_eq_getElem_cons hil, List.any_cons] at ha
   have HC := Aside0.mk (HP.out wr HB.out _ hm)
   generalize l[i] = x at *
   clear hra HA
   cases hpx : p x
   ·rw [hpx] at HC ha
    have HA2 : Aside0 ((l.drop (i + 1)).any p = l.any p) := ⟨by simpa using ha⟩
    clear ha hpx hm
    go_wp2_with (go_at_call 105; refine HC.out.mono ?_; rintro e w3 ⟨rfl, hb⟩)
    go_roundg gi
    case measure => omega
    case rel => exact ⟨i + 1, by go_num, by omega, HA2, ⟨below_step HB.out hb⟩⟩
   ·rw [hpx] at HC ha
    have HA2 : Aside0 (true = l.any p) := ⟨by simpa using ha⟩
    clear ha hpx hm
    go_wp2_with (go_at_call 105; refine HC.out.mono ?_; rintro e w3 ⟨rfl, hb⟩)
    go_ret
    exact ⟨_, rfl, by rw [← HA2.out]; exact decide_eq_true (by omega), below_step HB.out hb⟩
  ·have hi1 : ((i : Int) < (l.length : Int)) = False := eq_false (by omega)
   have hi2 : decide ((i : Int) < (l.length : Int)) = false := decide_eq_false (by omega)
   have ha := HA.out
   rw [List.drop_eq_nil_of_le (by omega)] at ha
   have HA2 : Aside0 (false = l.any p) := ⟨ha⟩
   clear ha HA
   go_wp2
   go_ret
   exact ⟨_, rfl, by rw [← HA2.out]; rfl, HB.out⟩
theorem contains_both (A : Option Addr) (c : Nat) (l : List Int) (p : Int → Bool) (uB vB : Nat) (w : World) (hx : Kd.C (Kd.int .i64) w A l.length l) (hl : l.length ≤ 1000)
  (hp : ∀ W, Below w.heap.size w W → ∀ x ∈ l, Calls Tryd.prog 105 #[.int .i64 x, .pointer (some ⟨uB, 0, none⟩), .pointer (some ⟨vB, 0, none⟩)] W fun e w' => e = .returned (.bool (p x)) ∧ Below W.heap.size W w') :
  Calls Tryd.prog 68 #[.slice A l.length c, .func (.func 105) #[] #[.pointer (some ⟨uB, 0, none⟩), .pointer (some ⟨vB, 0, none⟩)]] w fun e w' => e = .returned (.bool (l.any p)) ∧ Below w.heap.size w w' := by
 have HI := Aside0.mk (index_both A c l p uB vB w hx hl hp)
 clear hx hl hp
 go_enter Tryd.func68, Tryd.ntmps68
 go_wp2_with (go_at_call 93; refine HI.out.mono ?_; rintro e w3 ⟨z, rfl, hz, hb⟩)
 go_ret
 exact ⟨by rw [← hz]; rfl, hb⟩
theorem wnodes_all : ∀ x : Fin 512, width_nodes.f 12 (x.val : Int) = some (gi (els x.val 9)) := by decide +kernel
theorem wall_f {G : List Nat} (hG : Gr 9 G) : width_town_all.f (gi G) = some ((2 ^ G.length - 1 : Nat) : Int) := all_eqV G hG.most
set_option maxHeartbeats 16000000 in
set_option maxRecDepth 100000 in
theorem tree_calls (Ag : Option Addr) (cg : Nat) (G : List Nat) (hG : Gr 9 G) (hcg : G.length ≤ cg) (A0 : Option Addr) (c0 : Nat) (B : List Int) (A1 : Option Addr) (c1 : Nat) (P : List Int) (R : Bool) (hR : treeB G B P = R) (w : World) (hGL : GL w) (hrg : Kd.C (Kd.int .i64) w Ag (gi G).length (gi G)) (hr0 : Kd.C (Kd.int .i64) w A0 B.length B) (hr1 : Kd.C (Kd.int .i64) w A1 P.length P) :
  Calls Tryd.prog 89 #[.slice Ag G.length cg, .agg #[.slice A0 B.length c0, .slice A1 P.length c1]] w fun e w' => e = .returned (.bool R) ∧ Below w.heap.size w w' := by
 have hn := hG.most
 have HG := Aside0.mk hG
 have HGL := Aside0.mk hGL
 have HRG := Aside0.mk hrg
 have HR0 := Aside0.mk hr0
 have HR1 := Aside0.mk hr1
 have HL := Aside0.mk (gi_length G)
 have HALL := Aside0.mk (wall_f hG)
 have HN7 := Aside0.mk (p9T hn)
 unfold treeB at hR
 clear hG hGL hrg hr0 hr1
 by_cases hb1 : B.length < 1
 ·rw [if_pos hb1] at hR
  subst hR
  have hd1 : decide ((B.length : Int) < 1) = true := decide_eq_true (by omega)
  clear hb1
  go_enter Tryd.func89, Tryd.ntmps89
  go_wp2_with (first | ((with_reducible refine gate_dst (N := 3) rfl ?_); refine box_event ?hg (N := 3) ?hd (cs := #[.slice A0 B.length c0, .slice A1 P.length c1]) (t := 75) ?hr ?_; (case hd => rfl); (case hg => rfl); (case hr => first | (go_simp; done) | (go_simp; rfl)); intro xB hga w7 hbox hb7; have HBOX := Aside0.mk hbox; have HB7 := Aside0.mk hb7; have hz0 : w7.cell? ⟨xB, 0, none⟩ = some (.slice A0 B.length c0) := (blk_cell hbox 0).trans rfl; have hz1 : w7.cell? ⟨xB, 1, none⟩ = some (.slice A1 P.length c1) := (blk_cell hbox 1).trans rfl; clear hbox hb7 hga))
  go_ret
  exact ⟨rfl, HB7.out⟩
 ·rw [if_neg hb1] at hR
  have hd1 : decide ((B.length : Int) < 1) = false := decide_eq_false (by omega)
  by_cases hb30 : 30 < B.length
  ·rw [if_pos hb30] at hR
   subst hR
   have hd2 : decide ((B.length : Int) > 30) = true := decide_eq_true (by omega)
   clear hb1 hb30
   go_enter Tryd.func89, Tryd.ntmps89
   go_wp2_with (first | ((with_reducible refine gate_dst (N := 3) rfl ?_); refine box_event ?hg (N := 3) ?hd (cs := #[.slice A0 B.length c0, .slice A1 P.length c1]) (t := 75) ?hr ?_; (case hd => rfl); (case hg => rfl); (case hr => first | (go_simp; done) | (go_simp; rfl)); intro xB hga w7 hbox hb7; have HBOX := Aside0.mk hbox; have HB7 := Aside0.mk hb7; have hz0 : w7.cell? ⟨xB, 0, none⟩ = some (.slice A0 B.length c0) := (blk_cell hbox 0).trans rfl; have hz1 : w7.cell? ⟨xB, 1, none⟩ = some (.slice A1 P.length c1) := (blk_cell hbox 1).trans rfl; clear hbox hb7 hga))
   go_ret
   exact ⟨rfl, HB7.out⟩
  ·rw [if_neg hb30] at hR
   have hd2 : decide ((B.length : Int) > 30) = false := decide_eq_false (by omega)
   by_cases hpl : P.length = B.length
   ·rw [if_pos hpl] at hR
    have hd3 : ((P.length : Int) == (B.length : Int)) = true := by rw [hpl]; simp
    have hd4 : ((P.length : Int) != (B.length : Int)) = false := by rw [hpl]; simp
    have HPL := Aside0.mk hpl
    have hn1 : 1 ≤ B.length := by omega
    have hn30 : B.length ≤ 30 := by omega
    obtain ⟨T1, hT1⟩ : ∃ r, tl1 B P B.length (2 ^ G.length - 1) B.length 0 0 0 = r := ⟨_, rfl⟩
    rw [hT1] at hR
    have HT1 := Aside0.mk hT1
    have HR := Aside0.mk hR
    have HOK : Aside0 (∀ r, T1 = some r → ∀ j, j < B.length → -1 ≤ rd P (j : Int) ∧ rd P (j : Int) < (B.length : Int) ∧ 0 ≤ rd B (j : Int) ∧ rd B (j : Int) ≤ ((2 ^ G.length - 1 : Nat) : Int)) := ⟨fun r e j hj => tl1_ok B P B.length (2 ^ G.length - 1) B.length 0 0 0 r (by rw [hT1, e]) j (Nat.zero_le _) (by omega)⟩
    obtain ⟨PA, hPA⟩ : ∃ x, 2 ^ G.length - 1 = x := ⟨_, rfl⟩
    rw [hPA] at HT1 HOK HALL
    have HPA := Aside0.mk hPA
    have hPA7 : PA < 512 := by rw [← hPA]; have := HN7.out; omega
    clear hb1 hb30 hpl hT1 hR hPA
    go_enter Tryd.func89, Tryd.ntmps89
    go_wp2_with (first | ((with_reducible refine gate_dst (N := 3) rfl ?_); refine box_event ?hg (N := 3) ?hd (cs := #[.slice A0 B.length c0, .slice A1 P.length c1]) (t := 75) ?hr ?_; (case hd => rfl); (case hg => rfl); (case hr => first | (go_simp; done) | (go_simp; rfl)); intro xB hga w7 hbox hb7; have HBOX := Aside0.mk hbox; have HB7 := Aside0.mk hb7; have hz0 : w7.cell? ⟨xB, 0, none⟩ = some (.slice A0 B.length c0) := (blk_cell hbox 0).trans rfl; have hz1 : w7.cell? ⟨xB, 1, none⟩ = some (.slice A1 P.length c1) := (blk_cell hbox 1).trans rfl; clear hbox hb7 hga))
    go_loopg [6, 7, 35] B.length (fun kq v6 v7 v35 w' => ∃ (i ro ac : Nat), v6 = .int .i64 (ro : Int) ∧ v7 = .int .i64 (ac : Int) ∧ v35 = .int .i64 (i : Int) ∧ i + kq = B.length ∧ Aside0 (tl1 B P B.length PA kq i ro ac = T1 ∧ ro ≤ i ∧ ac < 512) ∧ Aside0 (Below w7.heap.size w7 w'))
    case atStart => exact ⟨0, 0, 0, rfl, rfl, rfl, by omega, ⟨HT1.out, Nat.le_refl _, by decide⟩, ⟨Below.refl _ _⟩⟩
    case round =>
     clear HT1
     obtain ⟨i, ro, ac, rfl, rfl, rfl, hi, HT, HB⟩ := hrel
     by_cases hil : i < B.length
     ·have hi1 : ((i : Int) < (B.length : Int)) = True := eq_true (by omega)
      have hi2 : decide ((i : Int) < (B.length : Int)) = true := decide_eq_true (by omega)
      have hi3 : ((i : Int) < (P.length : Int)) = True := eq_true (by have := HPL.out; omega)
      have hi4 : decide ((i : Int) < (P.length : Int)) = true := decide_eq_true (by have := HPL.out; omega)
      cases gk with
      | zero => omega
      | succ gq =>
      obtain ⟨ht, hro, hac⟩ := HT.out
      simp only [tl1] at ht
      obtain ⟨adP, e1, hgp⟩ := Kd.at_int (Kd.C_below (Kd.C_below HR1.out HB7.out) HB.out) (i : Int) (by omega) (by have := HPL.out; omega)
      subst e1
      obtain ⟨adB, e2, hgb⟩ := Kd.at_int (Kd.C_below (Kd.C_below HR0.out HB7.out) HB.out) (i : Int) (by omega) (by omega)
      subst e2
      rw [Int.toNat_natCast] at hgp hgb
      have hgb0 := hgb
      generalize rd P (i : Int) = p at *
      generalize rd B (i : Int) = b at *
      have hbc := blk_below HBOX.out HB.out
      have f0d : wr.drew.cell? ⟨xB, 0, none⟩ = some (.slice (some adB) B.length c0) := (blk_cell hbc 0).trans rfl
      have f1d : wr.drew.cell? (adB.add i) = some (.int .i64 b) := hgb
      have fbd : Below w7.heap.size w7 wr.drew := below_drew HB.out
      clear HT hbc
      by_cases hp1 : p < -1
      ·rw [if_pos hp1] at ht
       have hd5 : decide (p < -1) = true := decide_eq_true hp1
       subst ht
       have hr := HR.out
       simp only [treeB2] at hr
       subst hr
       clear hp1
       go_wp2_with (fail)
       refine start_ (n := 25) (S := fun w' => Below w7.heap.size w7 w') (ds := []) (Qbz 25 0) (by kernel_rfl) rfl rfl (fbd) (fun hHeld => ?_)
       refine Qpu 0 40 ?_ ?_ (Qbz 25 1) (by kernel_rfl) ?_
       refine Qpu 1 41 ?_ ?_ (Qbz 25 3) (by kernel_rfl) ?_
       refine Qpu 2 42 ?_ ?_ (Qbz 25 7) (by kernel_rfl) ?_
       refine Qpn 3 43 ?_ (Qbz 25 15) (by kernel_rfl) ?_
       refine Qpn 4 44 ?_ (Qbz 25 31) (by kernel_rfl) ?_
       refine Qpn 5 45 ?_ (Qbz 25 63) (by kernel_rfl) ?_
       refine Qpu 6 46 ?_ ?_ (Qbz 25 127) (by kernel_rfl) ?_
       refine Qpu 7 47 ?_ ?_ (Qbz 25 255) (by kernel_rfl) ?_
       refine Qpn 8 48 ?_ (Qbz 25 511) (by kernel_rfl) ?_
       refine Qpn 9 49 ?_ (Qbz 25 1023) (by kernel_rfl) ?_
       refine Qpn 10 50 ?_ (Qbz 25 2047) (by kernel_rfl) ?_
       refine Qpn 11 51 ?_ (Qbz 25 4095) (by kernel_rfl) ?_
       refine Qpn 12 52 ?_ (Qbz 25 8191) (by kernel_rfl) ?_
       refine Qpn 13 53 ?_ (Qbz 25 16383) (by kernel_rfl) ?_
       refine Qpu 14 54 ?_ ?_ (Qbz 25 32767) (by kernel_rfl) ?_
       refine Qpu 15 55 ?_ ?_ (Qbz 25 65535) (by kernel_rfl) ?_
       refine Qpn 16 56 ?_ (Qbz 25 131071) (by kernel_rfl) ?_
       refine Qpn 17 57 ?_ (Qbz 25 262143) (by kernel_rfl) ?_
       refine Qpn 18 58 ?_ (Qbz 25 524287) (by kernel_rfl) ?_
       refine Qpn 19 59 ?_ (Qbz 25 1048575) (by kernel_rfl) ?_
       refine Qpn 20 60 ?_ (Qbz 25 2097151) (by kernel_rfl) ?_
       refine Qpn 21 61 ?_ (Qbz 25 4194303) (by kernel_rfl) ?_
       refine Qpn 22 62 ?_ (Qbz 25 8388607) (by kernel_rfl) ?_
       refine Qpn 23 63 ?_ (Qbz 25 16777215) (by kernel_rfl) ?_
       refine Qpu 24 64 ?_ ?_ (Qbz 25 33554431) (by kernel_rfl) ?_
       refine done_ (by kernel_rfl) ?_
       go_wp2
       go_ret
       exact ⟨rfl, below_step HB7.out fbd⟩
      ·rw [if_neg hp1] at ht
       have hd5 : decide (p < -1) = false := decide_eq_false hp1
       by_cases hp2 : (B.length : Int) ≤ p
       ·rw [if_pos hp2] at ht
        have hd6 : decide (p ≥ (B.length : Int)) = true := decide_eq_true hp2
        have hd7 : decide ((B.length : Int) ≤ p) = true := decide_eq_true hp2
        subst ht
        have hr := HR.out
        simp only [treeB2] at hr
        subst hr
        clear hp1 hp2
        go_wp2_with (fail)
        refine start_ (n := 25) (S := fun w' => Below w7.heap.size w7 w') (ds := []) (Qbz 25 0) (by kernel_rfl) rfl rfl (fbd) (fun hHeld => ?_)
        refine Qpu 0 40 ?_ ?_ (Qbz 25 1) (by kernel_rfl) ?_
        refine Qpu 1 41 ?_ ?_ (Qbz 25 3) (by kernel_rfl) ?_
        refine Qpu 2 42 ?_ ?_ (Qbz 25 7) (by kernel_rfl) ?_
        refine Qpu 3 43 ?_ ?_ (Qbz 25 15) (by kernel_rfl) ?_
        refine Qpu 4 44 ?_ ?_ (Qbz 25 31) (by kernel_rfl) ?_
        refine Qpu 5 45 ?_ ?_ (Qbz 25 63) (by kernel_rfl) ?_
        refine Qpu 6 46 ?_ ?_ (Qbz 25 127) (by kernel_rfl) ?_
        refine Qpu 7 47 ?_ ?_ (Qbz 25 255) (by kernel_rfl) ?_
        refine Qpn 8 48 ?_ (Qbz 25 511) (by kernel_rfl) ?_
        refine Qpn 9 49 ?_ (Qbz 25 1023) (by kernel_rfl) ?_
        refine Qpn 10 50 ?_ (Qbz 25 2047) (by kernel_rfl) ?_
        refine Qpn 11 51 ?_ (Qbz 25 4095) (by kernel_rfl) ?_
        refine Qpn 12 52 ?_ (Qbz 25 8191) (by kernel_rfl) ?_
        refine Qpn 13 53 ?_ (Qbz 25 16383) (by kernel_rfl) ?_
        refine Qpu 14 54 ?_ ?_ (Qbz 25 32767) (by kernel_rfl) ?_
        refine Qpu 15 55 ?_ ?_ (Qbz 25 65535) (by kernel_rfl) ?_
        refine Qpn 16 56 ?_ (Qbz 25 131071) (by kernel_rfl) ?_
        refine Qpn 17 57 ?_ (Qbz 25 262143) (by kernel_rfl) ?_
        refine Qpn 18 58 ?_ (Qbz 25 524287) (by kernel_rfl) ?_
        refine Qpn 19 59 ?_ (Qbz 25 1048575) (by kernel_rfl) ?_
        refine Qpn 20 60 ?_ (Qbz 25 2097151) (by kernel_rfl) ?_
        refine Qpn 21 61 ?_ (Qbz 25 4194303) (by kernel_rfl) ?_
        refine Qpn 22 62 ?_ (Qbz 25 8388607) (by kernel_rfl) ?_
        refine Qpn 23 63 ?_ (Qbz 25 16777215) (by kernel_rfl) ?_
        refine Qpu 24 64 ?_ ?_ (Qbz 25 33554431) (by kernel_rfl) ?_
        refine done_ (by kernel_rfl) ?_
        go_wp2
        go_ret
        exact ⟨rfl, below_step HB7.out fbd⟩
       ·rw [if_neg hp2] at ht
        have hd6 : decide (p ≥ (B.length : Int)) = false := decide_eq_false hp2
        have hd7 : decide ((B.length : Int) ≤ p) = false := decide_eq_false hp2
        by_cases hb1 : b < 0
        ·rw [if_pos hb1] at ht
         have hd8 : decide (b < 0) = true := decide_eq_true hb1
         subst ht
         have hr := HR.out
         simp only [treeB2] at hr
         subst hr
         clear hp1 hp2 hb1
         go_wp2_with (fail)
         refine start_ (n := 25) (S := fun w' => w'.cell? ⟨xB, 0, none⟩ = some (.slice (some adB) B.length c0) ∧ w'.cell? (adB.add i) = some (.int .i64 b) ∧ Below w7.heap.size w7 w') (ds := []) (Qbz 25 0) (by kernel_rfl) rfl rfl ⟨f0d, f1d, fbd⟩ (fun hHeld => ?_)
         refine Qpu 0 40 ?_ ?_ (Qbz 25 1) (by kernel_rfl) ?_
         refine Qpu 1 41 ?_ ?_ (Qbz 25 3) (by kernel_rfl) ?_
         refine Qpu 2 42 ?_ ?_ (Qbz 25 7) (by kernel_rfl) ?_
         refine Qpu 3 43 ?_ ?_ (Qbz 25 15) (by kernel_rfl) ?_
         refine Qpu 4 44 ?_ ?_ (Qbz 25 31) (by kernel_rfl) ?_
         refine Qpu 5 45 ?_ ?_ (Qbz 25 63) (by kernel_rfl) ?_
         refine Qpu 6 46 ?_ ?_ (Qbz 25 127) (by kernel_rfl) ?_
         refine Qpu 7 47 ?_ ?_ (Qbz 25 255) (by kernel_rfl) ?_
         refine Qpu 8 48 ?_ ?_ (Qbz 25 511) (by kernel_rfl) ?_
         refine Qpu 10 50 ?_ ?_ (Qbz 25 1535) (by kernel_rfl) ?_
         refine take_ (i := 9) (N := some 49) (v := ?_) (a' := ?_) (Qbz 25 2047) rfl rfl (by kernel_rfl) (fun _ _ _ h => h) (Or.inl ⟨by rfl, ?_⟩) hHeld ?_ ?_;rotate_left;(·rintro w' ⟨s0, s1, s2⟩;go_simp;with_reducible rfl);rotate_left;(·simp only [Act.put, Qp1, Qp2, Qp3, i64_w, i32_w];rfl)
         refine Qpu 11 51 ?_ ?_ (Qbz 25 4095) (by kernel_rfl) ?_
         refine take_ (i := 12) (N := some 52) (v := ?_) (a' := ?_) (Qbz 25 8191) rfl rfl (by kernel_rfl) (fun _ _ _ h => h) (Or.inl ⟨by rfl, ?_⟩) hHeld ?_ ?_;rotate_left;(·rintro w' ⟨s0, s1, s2⟩;go_simp;with_reducible rfl);rotate_left;(·simp only [Act.put, Qp1, Qp2, Qp3, i64_w, i32_w];rfl)
         refine Qpu 13 53 ?_ ?_ (Qbz 25 16383) (by kernel_rfl) ?_
         refine Qpu 14 54 ?_ ?_ (Qbz 25 32767) (by kernel_rfl) ?_
         refine Qpu 15 55 ?_ ?_ (Qbz 25 65535) (by kernel_rfl) ?_
         refine Qpn 16 56 ?_ (Qbz 25 131071) (by kernel_rfl) ?_
         refine Qpn 17 57 ?_ (Qbz 25 262143) (by kernel_rfl) ?_
         refine Qpn 18 58 ?_ (Qbz 25 524287) (by kernel_rfl) ?_
         refine Qpn 19 59 ?_ (Qbz 25 1048575) (by kernel_rfl) ?_
         refine Qpn 20 60 ?_ (Qbz 25 2097151) (by kernel_rfl) ?_
         refine Qpn 21 61 ?_ (Qbz 25 4194303) (by kernel_rfl) ?_
         refine Qpn 22 62 ?_ (Qbz 25 8388607) (by kernel_rfl) ?_
         refine Qpn 23 63 ?_ (Qbz 25 16777215) (by kernel_rfl) ?_
         refine Qpu 24 64 ?_ ?_ (Qbz 25 33554431) (by kernel_rfl) ?_
         refine done_ (by kernel_rfl) ?_
         go_wp2
         go_ret
         exact ⟨rfl, below_step HB7.out fbd⟩
        ·rw [if_neg hb1] at ht
         have hd8 : decide (b < 0) = false := decide_eq_false hb1
         have CALL : Aside0 (∀ W, (W.cell? ⟨xB, 0, none⟩ = some (.slice (some adB) B.length c0) ∧ W.cell? (adB.add i) = some (.int .i64 b) ∧ Below w7.heap.size w7 W) → Calls Tryd.prog 98 #[.slice Ag G.length cg] W fun e w' => e = .returned (.int .i64 (PA : Int)) ∧ w'.cell? ⟨xB, 0, none⟩ = some (.slice (some adB) B.length c0) ∧ w'.cell? (adB.add i) = some (.int .i64 b) ∧ Below w7.heap.size w7 w') := ⟨fun W hW => by
          have := width_town_all.calls Ag cg (gi G) _ W (Kd.C_below (Kd.C_below HRG.out HB7.out) hW.2.2) (by rw [HL.out]; exact hcg) HALL.out
          rw [HL.out] at this
          exact this.mono fun e w' ⟨h, m, hm⟩ => ⟨h, by rw [hm]; exact ⟨hW.1, hW.2.1, pw_below_drewN hW.2.2 m⟩⟩⟩
         by_cases hb2 : (PA : Int) < b
         ·rw [if_pos hb2] at ht
          have hd9 : decide (b > (PA : Int)) = true := decide_eq_true hb2
          have hd10 : decide ((PA : Int) < b) = true := decide_eq_true hb2
          subst ht
          have hr := HR.out
          simp only [treeB2] at hr
          subst hr
          clear hp1 hp2 hb1 hb2
          go_wp2_with (fail)
          refine start_ (n := 25) (S := fun w' => w'.cell? ⟨xB, 0, none⟩ = some (.slice (some adB) B.length c0) ∧ w'.cell? (adB.add i) = some (.int .i64 b) ∧ Below w7.heap.size w7 w') (ds := []) (Qbz 25 0) (by kernel_rfl) rfl rfl ⟨f0d, f1d, fbd⟩ (fun hHeld => ?_)
          refine Qpu 0 40 ?_ ?_ (Qbz 25 1) (by kernel_rfl) ?_
          refine Qpu 1 41 ?_ ?_ (Qbz 25 3) (by kernel_rfl) ?_
          refine Qpu 2 42 ?_ ?_ (Qbz 25 7) (by kernel_rfl) ?_
          refine Qpu 3 43 ?_ ?_ (Qbz 25 15) (by kernel_rfl) ?_
          refine Qpu 4 44 ?_ ?_ (Qbz 25 31) (by kernel_rfl) ?_
          refine Qpu 5 45 ?_ ?_ (Qbz 25 63) (by kernel_rfl) ?_
          refine Qpu 6 46 ?_ ?_ (Qbz 25 127) (by kernel_rfl) ?_
          refine Qpu 7 47 ?_ ?_ (Qbz 25 255) (by kernel_rfl) ?_
          refine Qpu 8 48 ?_ ?_ (Qbz 25 511) (by kernel_rfl) ?_
          refine Qpu 10 50 ?_ ?_ (Qbz 25 1535) (by kernel_rfl) ?_
          refine take_ (i := 9) (N := some 49) (v := ?_) (a' := ?_) (Qbz 25 2047) rfl rfl (by kernel_rfl) (fun _ _ _ h => h) (Or.inl ⟨by rfl, ?_⟩) hHeld ?_ ?_;rotate_left;(·rintro w' ⟨s0, s1, s2⟩;go_simp;with_reducible rfl);rotate_left;(·simp only [Act.put, Qp1, Qp2, Qp3, i64_w, i32_w];rfl)
          refine Qpu 11 51 ?_ ?_ (Qbz 25 4095) (by kernel_rfl) ?_
          refine take_ (i := 12) (N := some 52) (v := ?_) (a' := ?_) (Qbz 25 8191) rfl rfl (by kernel_rfl) (fun _ _ _ h => h) (Or.inl ⟨by rfl, ?_⟩) hHeld ?_ ?_;rotate_left;(·rintro w' ⟨s0, s1, s2⟩;go_simp;with_reducible rfl);rotate_left;(·simp only [Act.put, Qp1, Qp2, Qp3, i64_w, i32_w];rfl)
          refine Qpu 13 53 ?_ ?_ (Qbz 25 16383) (by kernel_rfl) ?_
          refine Qpu 14 54 ?_ ?_ (Qbz 25 32767) (by kernel_rfl) ?_
          refine Qpu 15 55 ?_ ?_ (Qbz 25 65535) (by kernel_rfl) ?_
          refine Qpu 16 56 ?_ ?_ (Qbz 25 131071) (by kernel_rfl) ?_
          refine Qpu 18 58 ?_ ?_ (Qbz 25 393215) (by kernel_rfl) ?_
          refine Qpu 21 61 ?_ ?_ (Qbz 25 2490367) (by kernel_rfl) ?_
          refine take_ (i := 17) (N := some 57) (v := ?_) (a' := ?_) (Qbz 25 2621439) rfl rfl (by kernel_rfl) (fun _ _ _ h => h) (Or.inl ⟨by rfl, ?_⟩) hHeld ?_ ?_;rotate_left;(·rintro w' ⟨s0, s1, s2⟩;go_simp;with_reducible rfl);rotate_left;(·simp only [Act.put, Qp1, Qp2, Qp3, i64_w, i32_w];rfl)
          refine Qpu 19 59 ?_ ?_ (Qbz 25 3145727) (by kernel_rfl) ?_
          refine take_ (i := 20) (N := some 60) (v := ?_) (a' := ?_) (Qbz 25 4194303) rfl rfl (by kernel_rfl) (fun _ _ _ h => h) (Or.inl ⟨by rfl, ?_⟩) hHeld ?_ ?_;rotate_left;(·rintro w' ⟨s0, s1, s2⟩;go_simp;with_reducible rfl);rotate_left;(·simp only [Act.put, Qp1, Qp2, Qp3, i64_w, i32_w];rfl)
          refine one_ (i := 22) (N := some 62) (Qbz 25 8388607) rfl rfl (by kernel_rfl) (by decide) (fun K hK => ?_)
          refine goes_ Tryd.func98 (by kernel_rfl) rfl #[.slice Ag G.length cg] (by rfl) rfl rfl (by simp only [List.map_toArray, List.map_cons, List.map_nil]; rfl) ?_
          with_reducible refine (CALL.out _ hHeld).mono ?_
          rintro e w3 ⟨rfl, g0, g1, gB⟩
          refine ⟨_, rfl, ?_⟩
          refine hK.out _ _ ⟨g0, g1, gB⟩ (fun hHeld => ?_)
          clear hK K
          refine norm_ (a' := ?_) ?_ ?_
          rotate_left
          ·show Act.put _ (some 62) _ = _
           simp only [Act.put, Qp1, Qp2, Qp3, i64_w, i32_w]
           rfl
          refine Qpu 23 63 ?_ ?_ (Qbz 25 16777215) (by kernel_rfl) ?_
          refine Qpu 24 64 ?_ ?_ (Qbz 25 33554431) (by kernel_rfl) ?_
          refine done_ (by kernel_rfl) ?_
          go_wp2
          go_ret
          exact ⟨rfl, below_step HB7.out gB⟩
         ·rw [if_neg hb2] at ht
          have hd9 : decide (b > (PA : Int)) = false := decide_eq_false hb2
          have hd10 : decide ((PA : Int) < b) = false := decide_eq_false hb2
          obtain ⟨bn, rfl⟩ := Int.eq_ofNat_of_zero_le (show 0 ≤ b by omega)
          rw [Int.toNat_natCast] at ht
          have hd12 : decide (PA < bn) = false := decide_eq_false (by omega)
          have hd13 : decide (bn > PA) = false := decide_eq_false (by omega)
          have hor := b_or ac bn (by omega) (by omega)
          have hac2 : ac ||| bn < 512 := Nat.or_lt_two_pow (n := 9) hac (by omega)
          generalize ac ||| bn = a2 at *
          by_cases hp0 : p < 0
          ·rw [if_pos hp0] at ht
           have hd11 : decide (p < 0) = true := decide_eq_true hp0
           have HT2 := Aside0.mk ht
           clear hp1 hp2 hb1 hb2 ht hp0
           go_wp2_with (fail)
           refine start_ (n := 25) (S := fun w' => w'.cell? ⟨xB, 0, none⟩ = some (.slice (some adB) B.length c0) ∧ w'.cell? (adB.add i) = some (.int .i64 (bn : Int)) ∧ Below w7.heap.size w7 w') (ds := []) (Qbz 25 0) (by kernel_rfl) rfl rfl ⟨f0d, f1d, fbd⟩ (fun hHeld => ?_)
           refine Qpu 0 40 ?_ ?_ (Qbz 25 1) (by kernel_rfl) ?_
           refine Qpu 1 41 ?_ ?_ (Qbz 25 3) (by kernel_rfl) ?_
           refine Qpu 2 42 ?_ ?_ (Qbz 25 7) (by kernel_rfl) ?_
           refine Qpu 3 43 ?_ ?_ (Qbz 25 15) (by kernel_rfl) ?_
           refine Qpu 4 44 ?_ ?_ (Qbz 25 31) (by kernel_rfl) ?_
           refine Qpu 5 45 ?_ ?_ (Qbz 25 63) (by kernel_rfl) ?_
           refine Qpu 6 46 ?_ ?_ (Qbz 25 127) (by kernel_rfl) ?_
           refine Qpu 7 47 ?_ ?_ (Qbz 25 255) (by kernel_rfl) ?_
           refine Qpu 8 48 ?_ ?_ (Qbz 25 511) (by kernel_rfl) ?_
           refine Qpu 10 50 ?_ ?_ (Qbz 25 1535) (by kernel_rfl) ?_
           refine take_ (i := 9) (N := some 49) (v := ?_) (a' := ?_) (Qbz 25 2047) rfl rfl (by kernel_rfl) (fun _ _ _ h => h) (Or.inl ⟨by rfl, ?_⟩) hHeld ?_ ?_;rotate_left;(·rintro w' ⟨s0, s1, s2⟩;go_simp;with_reducible rfl);rotate_left;(·simp only [Act.put, Qp1, Qp2, Qp3, i64_w, i32_w];rfl)
           refine Qpu 11 51 ?_ ?_ (Qbz 25 4095) (by kernel_rfl) ?_
           refine take_ (i := 12) (N := some 52) (v := ?_) (a' := ?_) (Qbz 25 8191) rfl rfl (by kernel_rfl) (fun _ _ _ h => h) (Or.inl ⟨by rfl, ?_⟩) hHeld ?_ ?_;rotate_left;(·rintro w' ⟨s0, s1, s2⟩;go_simp;with_reducible rfl);rotate_left;(·simp only [Act.put, Qp1, Qp2, Qp3, i64_w, i32_w];rfl)
           refine Qpu 13 53 ?_ ?_ (Qbz 25 16383) (by kernel_rfl) ?_
           refine Qpu 14 54 ?_ ?_ (Qbz 25 32767) (by kernel_rfl) ?_
           refine Qpu 15 55 ?_ ?_ (Qbz 25 65535) (by kernel_rfl) ?_
           refine Qpu 16 56 ?_ ?_ (Qbz 25 131071) (by kernel_rfl) ?_
           refine Qpu 18 58 ?_ ?_ (Qbz 25 393215) (by kernel_rfl) ?_
           refine Qpu 21 61 ?_ ?_ (Qbz 25 2490367) (by kernel_rfl) ?_
           refine take_ (i := 17) (N := some 57) (v := ?_) (a' := ?_) (Qbz 25 2621439) rfl rfl (by kernel_rfl) (fun _ _ _ h => h) (Or.inl ⟨by rfl, ?_⟩) hHeld ?_ ?_;rotate_left;(·rintro w' ⟨s0, s1, s2⟩;go_simp;with_reducible rfl);rotate_left;(·simp only [Act.put, Qp1, Qp2, Qp3, i64_w, i32_w];rfl)
           refine Qpu 19 59 ?_ ?_ (Qbz 25 3145727) (by kernel_rfl) ?_
           refine take_ (i := 20) (N := some 60) (v := ?_) (a' := ?_) (Qbz 25 4194303) rfl rfl (by kernel_rfl) (fun _ _ _ h => h) (Or.inl ⟨by rfl, ?_⟩) hHeld ?_ ?_;rotate_left;(·rintro w' ⟨s0, s1, s2⟩;go_simp;with_reducible rfl);rotate_left;(·simp only [Act.put, Qp1, Qp2, Qp3, i64_w, i32_w];rfl)
           refine one_ (i := 22) (N := some 62) (Qbz 25 8388607) rfl rfl (by kernel_rfl) (by decide) (fun K hK => ?_)
           refine goes_ Tryd.func98 (by kernel_rfl) rfl #[.slice Ag G.length cg] (by rfl) rfl rfl (by simp only [List.map_toArray, List.map_cons, List.map_nil]; rfl) ?_
           with_reducible refine (CALL.out _ hHeld).mono ?_
           rintro e w3 ⟨rfl, g0, g1, gB⟩
           refine ⟨_, rfl, ?_⟩
           refine hK.out _ _ ⟨g0, g1, gB⟩ (fun hHeld => ?_)
           clear hK K
           refine norm_ (a' := ?_) ?_ ?_
           rotate_left
           ·show Act.put _ (some 62) _ = _
            simp only [Act.put, Qp1, Qp2, Qp3, i64_w, i32_w]
            rfl
           refine Qpu 23 63 ?_ ?_ (Qbz 25 16777215) (by kernel_rfl) ?_
           refine Qpu 24 64 ?_ ?_ (Qbz 25 33554431) (by kernel_rfl) ?_
           refine done_ (by kernel_rfl) ?_
           go_wp2
           go_roundg gq
           case measure => omega
           case rel => exact ⟨i + 1, ro + 1, a2, by go_num, rfl, by go_num, by omega, ⟨HT2.out, by omega, hac2⟩, ⟨gB⟩⟩
          ·rw [if_neg hp0] at ht
           have hd11 : decide (p < 0) = false := decide_eq_false hp0
           have HT2 := Aside0.mk ht
           clear hp1 hp2 hb1 hb2 ht hp0
           go_wp2_with (fail)
           refine start_ (n := 25) (S := fun w' => w'.cell? ⟨xB, 0, none⟩ = some (.slice (some adB) B.length c0) ∧ w'.cell? (adB.add i) = some (.int .i64 (bn : Int)) ∧ Below w7.heap.size w7 w') (ds := []) (Qbz 25 0) (by kernel_rfl) rfl rfl ⟨f0d, f1d, fbd⟩ (fun hHeld => ?_)
           refine Qpu 0 40 ?_ ?_ (Qbz 25 1) (by kernel_rfl) ?_
           refine Qpu 1 41 ?_ ?_ (Qbz 25 3) (by kernel_rfl) ?_
           refine Qpu 2 42 ?_ ?_ (Qbz 25 7) (by kernel_rfl) ?_
           refine Qpu 3 43 ?_ ?_ (Qbz 25 15) (by kernel_rfl) ?_
           refine Qpu 4 44 ?_ ?_ (Qbz 25 31) (by kernel_rfl) ?_
           refine Qpu 5 45 ?_ ?_ (Qbz 25 63) (by kernel_rfl) ?_
           refine Qpu 6 46 ?_ ?_ (Qbz 25 127) (by kernel_rfl) ?_
           refine Qpu 7 47 ?_ ?_ (Qbz 25 255) (by kernel_rfl) ?_
           refine Qpu 8 48 ?_ ?_ (Qbz 25 511) (by kernel_rfl) ?_
           refine Qpu 10 50 ?_ ?_ (Qbz 25 1535) (by kernel_rfl) ?_
           refine take_ (i := 9) (N := some 49) (v := ?_) (a' := ?_) (Qbz 25 2047) rfl rfl (by kernel_rfl) (fun _ _ _ h => h) (Or.inl ⟨by rfl, ?_⟩) hHeld ?_ ?_;rotate_left;(·rintro w' ⟨s0, s1, s2⟩;go_simp;with_reducible rfl);rotate_left;(·simp only [Act.put, Qp1, Qp2, Qp3, i64_w, i32_w];rfl)
           refine Qpu 11 51 ?_ ?_ (Qbz 25 4095) (by kernel_rfl) ?_
           refine take_ (i := 12) (N := some 52) (v := ?_) (a' := ?_) (Qbz 25 8191) rfl rfl (by kernel_rfl) (fun _ _ _ h => h) (Or.inl ⟨by rfl, ?_⟩) hHeld ?_ ?_;rotate_left;(·rintro w' ⟨s0, s1, s2⟩;go_simp;with_reducible rfl);rotate_left;(·simp only [Act.put, Qp1, Qp2, Qp3, i64_w, i32_w];rfl)
           refine Qpu 13 53 ?_ ?_ (Qbz 25 16383) (by kernel_rfl) ?_
           refine Qpu 14 54 ?_ ?_ (Qbz 25 32767) (by kernel_rfl) ?_
           refine Qpu 15 55 ?_ ?_ (Qbz 25 65535) (by kernel_rfl) ?_
           refine Qpu 16 56 ?_ ?_ (Qbz 25 131071) (by kernel_rfl) ?_
           refine Qpu 18 58 ?_ ?_ (Qbz 25 393215) (by kernel_rfl) ?_
           refine Qpu 21 61 ?_ ?_ (Qbz 25 2490367) (by kernel_rfl) ?_
           refine take_ (i := 17) (N := some 57) (v := ?_) (a' := ?_) (Qbz 25 2621439) rfl rfl (by kernel_rfl) (fun _ _ _ h => h) (Or.inl ⟨by rfl, ?_⟩) hHeld ?_ ?_;rotate_left;(·rintro w' ⟨s0, s1, s2⟩;go_simp;with_reducible rfl);rotate_left;(·simp only [Act.put, Qp1, Qp2, Qp3, i64_w, i32_w];rfl)
           refine Qpu 19 59 ?_ ?_ (Qbz 25 3145727) (by kernel_rfl) ?_
           refine take_ (i := 20) (N := some 60) (v := ?_) (a' := ?_) (Qbz 25 4194303) rfl rfl (by kernel_rfl) (fun _ _ _ h => h) (Or.inl ⟨by rfl, ?_⟩) hHeld ?_ ?_;rotate_left;(·rintro w' ⟨s0, s1, s2⟩;go_simp;with_reducible rfl);rotate_left;(·simp only [Act.put, Qp1, Qp2, Qp3, i64_w, i32_w];rfl)
           refine one_ (i := 22) (N := some 62) (Qbz 25 8388607) rfl rfl (by kernel_rfl) (by decide) (fun K hK => ?_)
           refine goes_ Tryd.func98 (by kernel_rfl) rfl #[.slice Ag G.length cg] (by rfl) rfl rfl (by simp only [List.map_toArray, List.map_cons, List.map_nil]; rfl) ?_
           with_reducible refine (CALL.out _ hHeld).mono ?_
           rintro e w3 ⟨rfl, g0, g1, gB⟩
           refine ⟨_, rfl, ?_⟩
           refine hK.out _ _ ⟨g0, g1, gB⟩ (fun hHeld => ?_)
           clear hK K
           refine norm_ (a' := ?_) ?_ ?_
           rotate_left
           ·show Act.put _ (some 62) _ = _
            simp only [Act.put, Qp1, Qp2, Qp3, i64_w, i32_w]
            rfl
           refine Qpu 23 63 ?_ ?_ (Qbz 25 16777215) (by kernel_rfl) ?_
           refine Qpu 24 64 ?_ ?_ (Qbz 25 33554431) (by kernel_rfl) ?_
           refine done_ (by kernel_rfl) ?_
           go_wp2
           go_roundg gq
           case measure => omega
           case rel => exact ⟨i + 1, ro, a2, rfl, rfl, by go_num, by omega, ⟨HT2.out, by omega, hac2⟩, ⟨gB⟩⟩
     ·have hi1 : ((i : Int) < (B.length : Int)) = False := eq_false (by omega)
      have hi2 : decide ((i : Int) < (B.length : Int)) = false := decide_eq_false (by omega)
      have hi3 : ((i : Int) < (P.length : Int)) = False := eq_false (by have := HPL.out; omega)
      have hi4 : decide ((i : Int) < (P.length : Int)) = false := decide_eq_false (by have := HPL.out; omega)
      obtain rfl : gk = 0 := by omega
      obtain ⟨ht, hro, hac⟩ := HT.out
      simp only [tl1] at ht
      subst ht
      clear HT
      have hr := HR.out
      simp only [treeB2] at hr
      have CAL2 : Aside0 (∀ W, Below wr.heap.size wr W → Calls Tryd.prog 98 #[.slice Ag G.length cg] W fun e w' => e = .returned (.int .i64 (PA : Int)) ∧ Below wr.heap.size wr w') := ⟨fun W hW => by
       have := width_town_all.calls Ag cg (T.gi G) _ W (Kd.C_below (Kd.C_below (Kd.C_below HRG.out HB7.out) HB.out) hW) (by rw [HL.out]; exact hcg) HALL.out
       rw [HL.out] at this
       exact this.mono fun e w' ⟨h, m, hm⟩ => ⟨h, by rw [hm]; exact pw_below_drewN hW m⟩⟩
      have hinp : InP P := fun j hj => by
       have := HOK.out _ rfl j (by have := HPL.out; omega)
       have e := HPL.out
       omega
      have hbc := blk_below HBOX.out HB.out
      have hz1' : wr.cell? ⟨xB, 1, none⟩ = some (.slice A1 P.length c1) := (blk_cell hbc 1).trans rfl
      have CCY : Aside0 (∀ W, Below wr.heap.size wr W → Calls Tryd.prog 68 #[.slice A1 P.length c1, .func (.func 102) #[] #[.pointer (some ⟨xB, 0, none⟩)]] W fun e w' => e = .returned (.bool (P.any (cycB P P.length))) ∧ Below W.heap.size W w') := ⟨fun W hW => contains_cyc A1 c1 P (cycB P P.length) xB W (Kd.C_below (Kd.C_below (Kd.C_below HR1.out HB7.out) HB.out) hW) (by have := HPL.out; omega) (fun V hV x hx => by
       have hb2 := below_step hW hV
       refine cyc1 xB A0 B.length c0 A1 c1 P x hinp (by have := HPL.out; omega) ?_ V (Kd.C_below (Kd.C_below (Kd.C_below HR1.out HB7.out) HB.out) hb2) ((blk_cell (blk_below hbc hb2) 0).trans rfl) ((blk_cell (blk_below hbc hb2) 1).trans rfl)
       obtain ⟨j, hj, e⟩ := List.getElem_of_mem hx
       have := (hinp j hj).2
       unfold rd at this
       rw [Int.toNat_natCast, List.getD_eq_getElem?_getD, List.getElem?_eq_getElem hj] at this
       rw [← e]
       exact this)⟩
      have HBC := Aside0.mk hbc
      have hro30 : ro ≤ 30 := by omega
      by_cases h1 : ro = 1
      ·subst h1
       rw [if_pos rfl] at hr
       by_cases h2 : ac = PA
       ·subst h2
        rw [if_pos HPA.out.symm] at hr
        have hx5 : ((ac : Int) == (ac : Int)) = true := by simp
        have hx6 : ((ac : Int) != (ac : Int)) = false := by simp
        obtain ⟨cy, hcy⟩ : ∃ b, P.any (cycB P P.length) = b := ⟨_, rfl⟩
        rw [hcy] at CCY hr
        clear hcy hbc
        cases cy
        ·rw [if_neg (by simp)] at hr
         have HR2 := Aside0.mk hr
         clear hr hz1
         go_wp2_with (first
          | (go_at_call 98; refine (CAL2.out _ (Below.refl _ _)).mono ?_; rintro e w3 ⟨rfl, hb3⟩; have HB3 := Aside0.mk hb3; have hz3 : w3.cell? ⟨xB, 1, none⟩ = some (.slice A1 P.length c1) := (blk_cell (blk_below HBC.out hb3) 1).trans rfl; clear hb3)
          | (go_at_call 68; refine (CCY.out _ HB3.out).mono ?_; rintro e w4 ⟨rfl, hb4⟩; have HB4 := Aside0.mk (below_step HB3.out hb4); clear hb4))
         have HB5 : Aside0 (Below w7.heap.size w7 w4) := ⟨below_step HB.out HB4.out⟩
         have HOK2 : Aside0 (∀ j, j < B.length → -1 ≤ rd P (j : Int) ∧ rd P (j : Int) < (B.length : Int) ∧ 0 ≤ rd B (j : Int) ∧ rd B (j : Int) < 512) := ⟨fun j hj => by
          have := HOK.out _ rfl j hj
          omega⟩
         obtain ⟨adB, eB, _⟩ := Kd.at_int HR0.out 0 (by omega) (by omega)
         subst eB
         obtain ⟨adP, eP, _⟩ := Kd.at_int HR1.out 0 (by omega) (by have := HPL.out; omega)
         subst eP
         clear HB4 HB3 CAL2 CCY HALL HOK hz0
         clear HB
         go_loopg [93] G.length (fun kq v93 w' => ∃ v : Nat, v93 = .int .i64 (v : Int) ∧ v + kq = G.length ∧ Aside0 (tl2 G B P kq v = R) ∧ Aside0 (Below w7.heap.size w7 w'))
         case atStart => exact ⟨0, rfl, by omega, HR2, HB5⟩
         case round =>
          clear HR2 HB5
          obtain ⟨v, rfl, hv, HT2, HB⟩ := hrel
          by_cases hvl : v < G.length
          ·have hv1 : ((v : Int) < (G.length : Int)) = True := eq_true (by omega)
           have hv2 : decide ((v : Int) < (G.length : Int)) = true := decide_eq_true (by omega)
           cases gk with
           | zero => omega
           | succ gq =>
           have ht := HT2.out
           simp only [tl2] at ht
           obtain ⟨TP, hTP⟩ : ∃ t, topsF B P v B.length 0 0 = t := ⟨_, rfl⟩
           rw [hTP] at ht
           have HTP := Aside0.mk hTP
           have HT3 := Aside0.mk ht
           clear HT2 ht hTP
           go_wp2_with (first | ((with_reducible refine gate_dst (N := 10) rfl ?_); refine box_event ?hg (N := 10) ?hd (cs := #[.int .i64 0]) (t := 3) ?hr ?_; (case hd => rfl); (case hg => rfl); (case hr => first | (go_simp; done) | (go_simp; rfl)); intro vB hgv w8' hbox hb8; have HGV := Aside0.mk (show wr.heap.size ≤ vB by rw [hgv]; exact Nat.le_refl _); clear hgv; have hv0 : w8'.cell? ⟨vB, 0, none⟩ = some (.int .i64 0) := (blk_cell hbox 0).trans rfl; have hvf := blk_frozen hbox 0; have hx0 : ∀ u : Value, (w8'.setCell ⟨vB, 0, none⟩ u).cell? ⟨xB, 0, none⟩ = some (.slice (some adB) B.length c0) := (fun u => (cell_sameT (heap_setT _ ⟨vB, 0, none⟩ u _ (by have := HGV.out; have := HB.out.size; have := blk_ltT HBOX.out; show xB ≠ vB; omega))).trans ((blk_cell (blk_below (blk_below HBOX.out HB.out) hb8) 0).trans rfl)); have HBV := Aside0.mk hbox; have HB8 := Aside0.mk hb8; clear hbox hb8))
           have hcv := blk_set HBV.out 0 (.int .i64 (v : Int))
           have HB9 : Aside0 (Below w7.heap.size w7 (w8'.setCell ⟨vB, 0, none⟩ (.int .i64 (v : Int)))) := ⟨below_then HB.out HB.out.size (below_set HB8.out HGV.out)⟩
           generalize w8'.setCell ⟨vB, 0, none⟩ (.int .i64 (v : Int)) = w9 at *
           have HCV := Aside0.mk hcv
           have HBOX9 := Aside0.mk (blk_below HBOX.out HB9.out)
           clear hcv HBV HB8 HGV hv0 hvf hx0 HB
           go_loopg [11, 99] B.length (fun kq v11 v99 w' => ∃ i t : Nat, v11 = .int .i64 (t : Int) ∧ v99 = .int .i64 (i : Int) ∧ i + kq = B.length ∧ Aside0 (topsF B P v kq i t = TP ∧ t ≤ i) ∧ Aside0 (Below w9.heap.size w9 w'))
           case atStart => exact ⟨0, 0, rfl, rfl, by omega, ⟨HTP.out, Nat.le_refl _⟩, ⟨Below.refl _ _⟩⟩
           case round =>
            clear HTP
            obtain ⟨i, t, rfl, rfl, hi, HT, HB⟩ := hrel
            by_cases hil : i < B.length
            ·have hi1 : ((i : Int) < (B.length : Int)) = True := eq_true (by omega)
             have hi2 : decide ((i : Int) < (B.length : Int)) = true := decide_eq_true (by omega)
             have hi3 : ((i : Int) < (P.length : Int)) = True := eq_true (by have := HPL.out; omega)
             have hi4 : decide ((i : Int) < (P.length : Int)) = true := decide_eq_true (by have := HPL.out; omega)
             cases gk with
             | zero => omega
             | succ gx =>
             obtain ⟨ht, hti⟩ := HT.out
             simp only [topsF] at ht
             obtain ⟨hk1, hk2, hk3, hk4⟩ := HOK2.out i hil
             have hcB := Kd.C_below (Kd.C_below (Kd.C_below HR0.out HB7.out) HB9.out) HB.out
             have hcP := Kd.C_below (Kd.C_below (Kd.C_below HR1.out HB7.out) HB9.out) HB.out
             obtain ⟨adP', e1, hgp⟩ := Kd.at_int hcP (i : Int) (by omega) (by have := HPL.out; omega)
             injection e1 with e1
             subst e1
             obtain ⟨adB', e2, hgb⟩ := Kd.at_int hcB (i : Int) (by omega) (by omega)
             injection e2 with e2
             subst e2
             rw [Int.toNat_natCast] at hgp hgb
             obtain ⟨p, hp⟩ : ∃ p, rd P (i : Int) = p := ⟨_, rfl⟩
             rw [hp] at hgp ht hk1 hk2
             obtain ⟨bn, hbn⟩ := Int.eq_ofNat_of_zero_le hk3
             rw [hbn] at hgb ht hk4
             have hbn7 : bn < 512 := by omega
             have hcv2 := blk_below HCV.out HB.out
             have hcx2 := blk_below HBOX9.out HB.out
             have fvd : wr.drew.cell? ⟨vB, 0, none⟩ = some (.int .i64 (v : Int)) := (blk_cell hcv2 0).trans rfl
             have f0d : wr.drew.cell? ⟨xB, 0, none⟩ = some (.slice (some adB) B.length c0) := (blk_cell hcx2 0).trans rfl
             have f1d : wr.drew.cell? ⟨xB, 1, none⟩ = some (.slice (some adP) P.length c1) := (blk_cell hcx2 1).trans rfl
             have fpd : wr.drew.cell? (adP.add i) = some (.int .i64 p) := hgp
             have hzv : (0 : Int) ≤ (v : Int) := by omega
             obtain ⟨J, hJ1, hJ2, hJ3, hJ4, hJ5⟩ := bitJT bn v (by omega) (by omega)
             have hbi : bitI (bn : Int) v = bn.testBit v := rfl
             rw [hbi] at ht
             clear HT hk3 hbn hp hcv2 hcx2 hbi hJ3 hJ5 hcP
             cases hbt : bn.testBit v
             ·rw [hbt] at hJ4 ht
              have HT4 : Aside0 (topsF B P v gx (i + 1) t = TP) := ⟨by simpa using ht⟩
              clear ht hbt hcB
              go_wp2_with (fail)
              refine start_ (n := 28) (S := fun w' => w'.cell? ⟨vB, 0, none⟩ = some (.int .i64 (v : Int))) (ds := []) (Qbz 28 0) (by kernel_rfl) rfl rfl (fvd) (fun hHeld => ?_)
              refine Qpu 0 104 ?_ ?_ (Qbz 28 1) (by kernel_rfl) ?_
              refine take_ (i := 1) (N := some 105) (v := ?_) (a' := ?_) (Qbz 28 3) rfl rfl (by kernel_rfl) (fun _ _ _ h => h) (Or.inl ⟨by rfl, ?_⟩) hHeld ?_ ?_;rotate_left;(·intro w' s0;go_simp;with_reducible rfl);rotate_left;(·simp only [Act.put, Qp1, Qp2, Qp3, i64_w, i32_w];rfl)
              refine Qpu 2 106 ?_ ?_ (Qbz 28 7) (by kernel_rfl) ?_
              refine Qpu 3 107 ?_ ?_ (Qbz 28 15) (by kernel_rfl) ?_
              refine Qpu 4 108 ?_ ?_ (Qbz 28 31) (by kernel_rfl) ?_
              refine Qpu 5 109 ?_ ?_ (Qbz 28 63) (by kernel_rfl) ?_
              refine Qpn 6 110 ?_ (Qbz 28 127) (by kernel_rfl) ?_
              refine Qpn 7 111 ?_ (Qbz 28 255) (by kernel_rfl) ?_
              refine Qpn 8 112 ?_ (Qbz 28 511) (by kernel_rfl) ?_
              refine Qpn 9 113 ?_ (Qbz 28 1023) (by kernel_rfl) ?_
              refine Qpn 10 114 ?_ (Qbz 28 2047) (by kernel_rfl) ?_
              refine Qpn 11 115 ?_ (Qbz 28 4095) (by kernel_rfl) ?_
              refine Qpn 12 116 ?_ (Qbz 28 8191) (by kernel_rfl) ?_
              refine Qpn 13 117 ?_ (Qbz 28 16383) (by kernel_rfl) ?_
              refine Qpn 14 118 ?_ (Qbz 28 32767) (by kernel_rfl) ?_
              refine Qpn 15 119 ?_ (Qbz 28 65535) (by kernel_rfl) ?_
              refine Qpn 16 120 ?_ (Qbz 28 131071) (by kernel_rfl) ?_
              refine Qpn 17 121 ?_ (Qbz 28 262143) (by kernel_rfl) ?_
              refine Qpn 18 122 ?_ (Qbz 28 524287) (by kernel_rfl) ?_
              refine Qpn 19 123 ?_ (Qbz 28 1048575) (by kernel_rfl) ?_
              refine Qpn 20 124 ?_ (Qbz 28 2097151) (by kernel_rfl) ?_
              refine Qpn 21 125 ?_ (Qbz 28 4194303) (by kernel_rfl) ?_
              refine Qpn 22 126 ?_ (Qbz 28 8388607) (by kernel_rfl) ?_
              refine Qpn 23 127 ?_ (Qbz 28 16777215) (by kernel_rfl) ?_
              refine Qpn 24 128 ?_ (Qbz 28 33554431) (by kernel_rfl) ?_
              refine Qpn 25 129 ?_ (Qbz 28 67108863) (by kernel_rfl) ?_
              refine Qpn 26 130 ?_ (Qbz 28 134217727) (by kernel_rfl) ?_
              refine Qpu 27 131 ?_ ?_ (Qbz 28 268435455) (by kernel_rfl) ?_
              refine done_ (by kernel_rfl) ?_
              go_wp2
              go_roundg gx
              case measure => omega
              case rel => exact ⟨i + 1, t, rfl, by go_num, by omega, ⟨HT4.out, by omega⟩, ⟨below_drew HB.out⟩⟩
             ·rw [hbt] at hJ4 ht
              by_cases hp0 : p < 0
              ·have hd1' : decide (p < 0) = true := decide_eq_true hp0
               rw [hd1'] at ht
               have HT4 : Aside0 (topsF B P v gx (i + 1) (t + 1) = TP) := ⟨by simpa using ht⟩
               clear ht hbt hcB hp0
               go_wp2_with (fail)
               refine start_ (n := 28) (S := fun w' => w'.cell? ⟨vB, 0, none⟩ = some (.int .i64 (v : Int)) ∧ w'.cell? ⟨xB, 1, none⟩ = some (.slice (some adP) P.length c1) ∧ w'.cell? (adP.add i) = some (.int .i64 p)) (ds := []) (Qbz 28 0) (by kernel_rfl) rfl rfl ⟨fvd, f1d, fpd⟩ (fun hHeld => ?_)
               refine Qpu 0 104 ?_ ?_ (Qbz 28 1) (by kernel_rfl) ?_
               refine take_ (i := 1) (N := some 105) (v := ?_) (a' := ?_) (Qbz 28 3) rfl rfl (by kernel_rfl) (fun _ _ _ h => h) (Or.inl ⟨by rfl, ?_⟩) hHeld ?_ ?_;rotate_left;(·rintro w' ⟨s0, s1, s2⟩;go_simp;with_reducible rfl);rotate_left;(·simp only [Act.put, Qp1, Qp2, Qp3, i64_w, i32_w];rfl)
               refine Qpu 2 106 ?_ ?_ (Qbz 28 7) (by kernel_rfl) ?_
               refine Qpu 3 107 ?_ ?_ (Qbz 28 15) (by kernel_rfl) ?_
               refine Qpu 4 108 ?_ ?_ (Qbz 28 31) (by kernel_rfl) ?_
               refine Qpu 5 109 ?_ ?_ (Qbz 28 63) (by kernel_rfl) ?_
               refine Qpu 6 110 ?_ ?_ (Qbz 28 127) (by kernel_rfl) ?_
               refine Qpu 8 112 ?_ ?_ (Qbz 28 383) (by kernel_rfl) ?_
               refine take_ (i := 7) (N := some 111) (v := ?_) (a' := ?_) (Qbz 28 511) rfl rfl (by kernel_rfl) (fun _ _ _ h => h) (Or.inl ⟨by rfl, ?_⟩) hHeld ?_ ?_;rotate_left;(·rintro w' ⟨s0, s1, s2⟩;go_simp;with_reducible rfl);rotate_left;(·simp only [Act.put, Qp1, Qp2, Qp3, i64_w, i32_w];rfl)
               refine Qpu 9 113 ?_ ?_ (Qbz 28 1023) (by kernel_rfl) ?_
               refine take_ (i := 10) (N := some 114) (v := ?_) (a' := ?_) (Qbz 28 2047) rfl rfl (by kernel_rfl) (fun _ _ _ h => h) (Or.inl ⟨by rfl, ?_⟩) hHeld ?_ ?_;rotate_left;(·rintro w' ⟨s0, s1, s2⟩;go_simp;with_reducible rfl);rotate_left;(·simp only [Act.put, Qp1, Qp2, Qp3, i64_w, i32_w];rfl)
               refine Qpu 11 115 ?_ ?_ (Qbz 28 4095) (by kernel_rfl) ?_
               refine Qpu 12 116 ?_ ?_ (Qbz 28 8191) (by kernel_rfl) ?_
               refine Qpn 13 117 ?_ (Qbz 28 16383) (by kernel_rfl) ?_
               refine Qpn 14 118 ?_ (Qbz 28 32767) (by kernel_rfl) ?_
               refine Qpn 15 119 ?_ (Qbz 28 65535) (by kernel_rfl) ?_
               refine Qpn 16 120 ?_ (Qbz 28 131071) (by kernel_rfl) ?_
               refine Qpn 17 121 ?_ (Qbz 28 262143) (by kernel_rfl) ?_
               refine Qpn 18 122 ?_ (Qbz 28 524287) (by kernel_rfl) ?_
               refine Qpn 19 123 ?_ (Qbz 28 1048575) (by kernel_rfl) ?_
               refine Qpn 20 124 ?_ (Qbz 28 2097151) (by kernel_rfl) ?_
               refine Qpn 21 125 ?_ (Qbz 28 4194303) (by kernel_rfl) ?_
               refine Qpn 22 126 ?_ (Qbz 28 8388607) (by kernel_rfl) ?_
               refine Qpn 23 127 ?_ (Qbz 28 16777215) (by kernel_rfl) ?_
               refine Qpn 24 128 ?_ (Qbz 28 33554431) (by kernel_rfl) ?_
               refine Qpn 25 129 ?_ (Qbz 28 67108863) (by kernel_rfl) ?_
               refine Qpu 26 130 ?_ ?_ (Qbz 28 134217727) (by kernel_rfl) ?_
               refine Qpu 27 131 ?_ ?_ (Qbz 28 268435455) (by kernel_rfl) ?_
               refine done_ (by kernel_rfl) ?_
               go_wp2
               go_roundg gx
               case measure => omega
               case rel => exact ⟨i + 1, t + 1, by go_num, by go_num, by omega, ⟨HT4.out, by omega⟩, ⟨below_drew HB.out⟩⟩
              ·have hd1' : decide (p < 0) = false := decide_eq_false hp0
               rw [hd1'] at ht
               obtain ⟨pn, rfl⟩ := Int.eq_ofNat_of_zero_le (show 0 ≤ p by omega)
               have hpn : pn < B.length := by omega
               obtain ⟨hm1, hm2, hm3, hm4⟩ := HOK2.out pn hpn
               obtain ⟨adB'', e3, hgc⟩ := Kd.at_int hcB (pn : Int) (by omega) (by omega)
               injection e3 with e3
               subst e3
               rw [Int.toNat_natCast] at hgc
               obtain ⟨cn, hcn⟩ := Int.eq_ofNat_of_zero_le hm3
               rw [hcn] at hgc ht hm4
               have hcn7 : cn < 512 := by omega
               have fcd : wr.drew.cell? (adB.add pn) = some (.int .i64 (cn : Int)) := hgc
               have hci : bitI (cn : Int) v = cn.testBit v := rfl
               rw [hci] at ht
               obtain ⟨J2, hK1, hK2, hK3, hK4, hK5⟩ := bitJT cn v (by omega) (by omega)
               have hp5 : ((pn : Int) < (B.length : Int)) = True := eq_true (by omega)
               have hp6 : decide ((pn : Int) < (B.length : Int)) = true := decide_eq_true (by omega)
               have hd1n : decide ((pn : Int) < 0) = false := hd1'
               clear hm1 hm2 hm3 hcn hci hK3 hK4 hcB hbt hp0
               cases hct : cn.testBit v
               ·rw [hct] at hK5 ht
                have HT4 : Aside0 (topsF B P v gx (i + 1) (t + 1) = TP) := ⟨by simpa using ht⟩
                clear ht hct
                go_wp2_with (fail)
                refine start_ (n := 28) (S := fun w' => w'.cell? ⟨vB, 0, none⟩ = some (.int .i64 (v : Int)) ∧ w'.cell? ⟨xB, 0, none⟩ = some (.slice (some adB) B.length c0) ∧ w'.cell? ⟨xB, 1, none⟩ = some (.slice (some adP) P.length c1) ∧ w'.cell? (adP.add i) = some (.int .i64 (pn : Int)) ∧ w'.cell? (adB.add pn) = some (.int .i64 (cn : Int))) (ds := []) (Qbz 28 0) (by kernel_rfl) rfl rfl ⟨fvd, f0d, f1d, fpd, fcd⟩ (fun hHeld => ?_)
                refine Qpu 0 104 ?_ ?_ (Qbz 28 1) (by kernel_rfl) ?_
                refine take_ (i := 1) (N := some 105) (v := ?_) (a' := ?_) (Qbz 28 3) rfl rfl (by kernel_rfl) (fun _ _ _ h => h) (Or.inl ⟨by rfl, ?_⟩) hHeld ?_ ?_;rotate_left;(·rintro w' ⟨s0, s1, s2, s3, s4⟩;go_simp;with_reducible rfl);rotate_left;(·simp only [Act.put, Qp1, Qp2, Qp3, i64_w, i32_w];rfl)
                refine Qpu 2 106 ?_ ?_ (Qbz 28 7) (by kernel_rfl) ?_
                refine Qpu 3 107 ?_ ?_ (Qbz 28 15) (by kernel_rfl) ?_
                refine Qpu 4 108 ?_ ?_ (Qbz 28 31) (by kernel_rfl) ?_
                refine Qpu 5 109 ?_ ?_ (Qbz 28 63) (by kernel_rfl) ?_
                refine Qpu 6 110 ?_ ?_ (Qbz 28 127) (by kernel_rfl) ?_
                refine Qpu 8 112 ?_ ?_ (Qbz 28 383) (by kernel_rfl) ?_
                refine take_ (i := 7) (N := some 111) (v := ?_) (a' := ?_) (Qbz 28 511) rfl rfl (by kernel_rfl) (fun _ _ _ h => h) (Or.inl ⟨by rfl, ?_⟩) hHeld ?_ ?_;rotate_left;(·rintro w' ⟨s0, s1, s2, s3, s4⟩;go_simp;with_reducible rfl);rotate_left;(·simp only [Act.put, Qp1, Qp2, Qp3, i64_w, i32_w];rfl)
                refine Qpu 9 113 ?_ ?_ (Qbz 28 1023) (by kernel_rfl) ?_
                refine take_ (i := 10) (N := some 114) (v := ?_) (a' := ?_) (Qbz 28 2047) rfl rfl (by kernel_rfl) (fun _ _ _ h => h) (Or.inl ⟨by rfl, ?_⟩) hHeld ?_ ?_;rotate_left;(·rintro w' ⟨s0, s1, s2, s3, s4⟩;go_simp;with_reducible rfl);rotate_left;(·simp only [Act.put, Qp1, Qp2, Qp3, i64_w, i32_w];rfl)
                refine Qpu 11 115 ?_ ?_ (Qbz 28 4095) (by kernel_rfl) ?_
                refine Qpu 12 116 ?_ ?_ (Qbz 28 8191) (by kernel_rfl) ?_
                refine Qpu 13 117 ?_ ?_ (Qbz 28 16383) (by kernel_rfl) ?_
                refine Qpu 15 119 ?_ ?_ (Qbz 28 49151) (by kernel_rfl) ?_
                refine Qpu 17 121 ?_ ?_ (Qbz 28 180223) (by kernel_rfl) ?_
                refine take_ (i := 14) (N := some 118) (v := ?_) (a' := ?_) (Qbz 28 196607) rfl rfl (by kernel_rfl) (fun _ _ _ h => h) (Or.inl ⟨by rfl, ?_⟩) hHeld ?_ ?_;rotate_left;(·rintro w' ⟨s0, s1, s2, s3, s4⟩;go_simp;with_reducible rfl);rotate_left;(·simp only [Act.put, Qp1, Qp2, Qp3, i64_w, i32_w];rfl)
                refine take_ (i := 16) (N := some 120) (v := ?_) (a' := ?_) (Qbz 28 262143) rfl rfl (by kernel_rfl) (fun _ _ _ h => h) (Or.inl ⟨by rfl, ?_⟩) hHeld ?_ ?_;rotate_left;(·rintro w' ⟨s0, s1, s2, s3, s4⟩;go_simp;with_reducible rfl);rotate_left;(·simp only [Act.put, Qp1, Qp2, Qp3, i64_w, i32_w];rfl)
                refine Qpu 18 122 ?_ ?_ (Qbz 28 524287) (by kernel_rfl) ?_
                refine take_ (i := 19) (N := some 123) (v := ?_) (a' := ?_) (Qbz 28 1048575) rfl rfl (by kernel_rfl) (fun _ _ _ h => h) (Or.inl ⟨by rfl, ?_⟩) hHeld ?_ ?_;rotate_left;(·rintro w' ⟨s0, s1, s2, s3, s4⟩;go_simp;with_reducible rfl);rotate_left;(·simp only [Act.put, Qp1, Qp2, Qp3, i64_w, i32_w];rfl)
                refine Qpu 20 124 ?_ ?_ (Qbz 28 2097151) (by kernel_rfl) ?_
                refine take_ (i := 21) (N := some 125) (v := ?_) (a' := ?_) (Qbz 28 4194303) rfl rfl (by kernel_rfl) (fun _ _ _ h => h) (Or.inl ⟨by rfl, ?_⟩) hHeld ?_ ?_;rotate_left;(·rintro w' ⟨s0, s1, s2, s3, s4⟩;go_simp;with_reducible rfl);rotate_left;(·simp only [Act.put, Qp1, Qp2, Qp3, i64_w, i32_w];rfl)
                refine take_ (i := 22) (N := some 126) (v := ?_) (a' := ?_) (Qbz 28 8388607) rfl rfl (by kernel_rfl) (fun _ _ _ h => h) (Or.inl ⟨by rfl, ?_⟩) hHeld ?_ ?_;rotate_left;(·rintro w' ⟨s0, s1, s2, s3, s4⟩;go_simp;with_reducible rfl);rotate_left;(·simp only [Act.put, Qp1, Qp2, Qp3, i64_w, i32_w];rfl)
                refine Qpu 23 127 ?_ ?_ (Qbz 28 16777215) (by kernel_rfl) ?_
                refine Qpu 24 128 ?_ ?_ (Qbz 28 33554431) (by kernel_rfl) ?_
                refine Qpu 25 129 ?_ ?_ (Qbz 28 67108863) (by kernel_rfl) ?_
                refine Qpu 26 130 ?_ ?_ (Qbz 28 134217727) (by kernel_rfl) ?_
                refine Qpu 27 131 ?_ ?_ (Qbz 28 268435455) (by kernel_rfl) ?_
                refine done_ (by kernel_rfl) ?_
                go_wp2
                go_roundg gx
                case measure => omega
                case rel => exact ⟨i + 1, t + 1, by go_num, by go_num, by omega, ⟨HT4.out, by omega⟩, ⟨below_drew HB.out⟩⟩
               ·rw [hct] at hK5 ht
                have HT4 : Aside0 (topsF B P v gx (i + 1) t = TP) := ⟨by simpa using ht⟩
                clear ht hct
                go_wp2_with (fail)
                refine start_ (n := 28) (S := fun w' => w'.cell? ⟨vB, 0, none⟩ = some (.int .i64 (v : Int)) ∧ w'.cell? ⟨xB, 0, none⟩ = some (.slice (some adB) B.length c0) ∧ w'.cell? ⟨xB, 1, none⟩ = some (.slice (some adP) P.length c1) ∧ w'.cell? (adP.add i) = some (.int .i64 (pn : Int)) ∧ w'.cell? (adB.add pn) = some (.int .i64 (cn : Int))) (ds := []) (Qbz 28 0) (by kernel_rfl) rfl rfl ⟨fvd, f0d, f1d, fpd, fcd⟩ (fun hHeld => ?_)
                refine Qpu 0 104 ?_ ?_ (Qbz 28 1) (by kernel_rfl) ?_
                refine take_ (i := 1) (N := some 105) (v := ?_) (a' := ?_) (Qbz 28 3) rfl rfl (by kernel_rfl) (fun _ _ _ h => h) (Or.inl ⟨by rfl, ?_⟩) hHeld ?_ ?_;rotate_left;(·rintro w' ⟨s0, s1, s2, s3, s4⟩;go_simp;with_reducible rfl);rotate_left;(·simp only [Act.put, Qp1, Qp2, Qp3, i64_w, i32_w];rfl)
                refine Qpu 2 106 ?_ ?_ (Qbz 28 7) (by kernel_rfl) ?_
                refine Qpu 3 107 ?_ ?_ (Qbz 28 15) (by kernel_rfl) ?_
                refine Qpu 4 108 ?_ ?_ (Qbz 28 31) (by kernel_rfl) ?_
                refine Qpu 5 109 ?_ ?_ (Qbz 28 63) (by kernel_rfl) ?_
                refine Qpu 6 110 ?_ ?_ (Qbz 28 127) (by kernel_rfl) ?_
                refine Qpu 8 112 ?_ ?_ (Qbz 28 383) (by kernel_rfl) ?_
                refine take_ (i := 7) (N := some 111) (v := ?_) (a' := ?_) (Qbz 28 511) rfl rfl (by kernel_rfl) (fun _ _ _ h => h) (Or.inl ⟨by rfl, ?_⟩) hHeld ?_ ?_;rotate_left;(·rintro w' ⟨s0, s1, s2, s3, s4⟩;go_simp;with_reducible rfl);rotate_left;(·simp only [Act.put, Qp1, Qp2, Qp3, i64_w, i32_w];rfl)
                refine Qpu 9 113 ?_ ?_ (Qbz 28 1023) (by kernel_rfl) ?_
                refine take_ (i := 10) (N := some 114) (v := ?_) (a' := ?_) (Qbz 28 2047) rfl rfl (by kernel_rfl) (fun _ _ _ h => h) (Or.inl ⟨by rfl, ?_⟩) hHeld ?_ ?_;rotate_left;(·rintro w' ⟨s0, s1, s2, s3, s4⟩;go_simp;with_reducible rfl);rotate_left;(·simp only [Act.put, Qp1, Qp2, Qp3, i64_w, i32_w];rfl)
                refine Qpu 11 115 ?_ ?_ (Qbz 28 4095) (by kernel_rfl) ?_
                refine Qpu 12 116 ?_ ?_ (Qbz 28 8191) (by kernel_rfl) ?_
                refine Qpu 13 117 ?_ ?_ (Qbz 28 16383) (by kernel_rfl) ?_
                refine Qpu 15 119 ?_ ?_ (Qbz 28 49151) (by kernel_rfl) ?_
                refine Qpu 17 121 ?_ ?_ (Qbz 28 180223) (by kernel_rfl) ?_
                refine take_ (i := 14) (N := some 118) (v := ?_) (a' := ?_) (Qbz 28 196607) rfl rfl (by kernel_rfl) (fun _ _ _ h => h) (Or.inl ⟨by rfl, ?_⟩) hHeld ?_ ?_;rotate_left;(·rintro w' ⟨s0, s1, s2, s3, s4⟩;go_simp;with_reducible rfl);rotate_left;(·simp only [Act.put, Qp1, Qp2, Qp3, i64_w, i32_w];rfl)
                refine take_ (i := 16) (N := some 120) (v := ?_) (a' := ?_) (Qbz 28 262143) rfl rfl (by kernel_rfl) (fun _ _ _ h => h) (Or.inl ⟨by rfl, ?_⟩) hHeld ?_ ?_;rotate_left;(·rintro w' ⟨s0, s1, s2, s3, s4⟩;go_simp;with_reducible rfl);rotate_left;(·simp only [Act.put, Qp1, Qp2, Qp3, i64_w, i32_w];rfl)
                refine Qpu 18 122 ?_ ?_ (Qbz 28 524287) (by kernel_rfl) ?_
                refine take_ (i := 19) (N := some 123) (v := ?_) (a' := ?_) (Qbz 28 1048575) rfl rfl (by kernel_rfl) (fun _ _ _ h => h) (Or.inl ⟨by rfl, ?_⟩) hHeld ?_ ?_;rotate_left;(·rintro w' ⟨s0, s1, s2, s3, s4⟩;go_simp;with_reducible rfl);rotate_left;(·simp only [Act.put, Qp1, Qp2, Qp3, i64_w, i32_w];rfl)
                refine Qpu 20 124 ?_ ?_ (Qbz 28 2097151) (by kernel_rfl) ?_
                refine take_ (i := 21) (N := some 125) (v := ?_) (a' := ?_) (Qbz 28 4194303) rfl rfl (by kernel_rfl) (fun _ _ _ h => h) (Or.inl ⟨by rfl, ?_⟩) hHeld ?_ ?_;rotate_left;(·rintro w' ⟨s0, s1, s2, s3, s4⟩;go_simp;with_reducible rfl);rotate_left;(·simp only [Act.put, Qp1, Qp2, Qp3, i64_w, i32_w];rfl)
                refine take_ (i := 22) (N := some 126) (v := ?_) (a' := ?_) (Qbz 28 8388607) rfl rfl (by kernel_rfl) (fun _ _ _ h => h) (Or.inl ⟨by rfl, ?_⟩) hHeld ?_ ?_;rotate_left;(·rintro w' ⟨s0, s1, s2, s3, s4⟩;go_simp;with_reducible rfl);rotate_left;(·simp only [Act.put, Qp1, Qp2, Qp3, i64_w, i32_w];rfl)
                refine Qpu 23 127 ?_ ?_ (Qbz 28 16777215) (by kernel_rfl) ?_
                refine Qpu 24 128 ?_ ?_ (Qbz 28 33554431) (by kernel_rfl) ?_
                refine Qpu 25 129 ?_ ?_ (Qbz 28 67108863) (by kernel_rfl) ?_
                refine Qpu 26 130 ?_ ?_ (Qbz 28 134217727) (by kernel_rfl) ?_
                refine Qpu 27 131 ?_ ?_ (Qbz 28 268435455) (by kernel_rfl) ?_
                refine done_ (by kernel_rfl) ?_
                go_wp2
                go_roundg gx
                case measure => omega
                case rel => exact ⟨i + 1, t, rfl, by go_num, by omega, ⟨HT4.out, by omega⟩, ⟨below_drew HB.out⟩⟩
            ·have hi1 : ((i : Int) < (B.length : Int)) = False := eq_false (by omega)
             have hi2 : decide ((i : Int) < (B.length : Int)) = false := decide_eq_false (by omega)
             obtain rfl : gk = 0 := by omega
             obtain ⟨ht, hti⟩ := HT.out
             simp only [topsF] at ht
             subst ht
             have ht := HT3.out
             clear HT HT3
             by_cases htp : t = 1
             ·subst htp
              rw [if_pos rfl] at ht
              have hx7 : ((1 : Int) != 1) = false := by decide
              obtain ⟨s, hs⟩ : ∃ s, G.getD v 0 = s := ⟨_, rfl⟩
              obtain ⟨adG, e4, hgg⟩ := Kd.at_int (Kd.C_below (Kd.C_below (Kd.C_below HRG.out HB7.out) HB9.out) HB.out) (v : Int) (by omega) (by rw [HL.out]; omega)
              subst e4
              have hsl := HG.out.row v
              rw [rd_gi, Int.toNat_natCast, hs] at hgg
              rw [hs] at ht hsl
              have hs7 : s < 512 := Nat.lt_of_lt_of_le hsl HN7.out
              have HWN := Aside0.mk (wnodes_all ⟨s, hs7⟩)
              obtain ⟨L, hL⟩ : ∃ L, els s 9 = L := ⟨_, rfl⟩
              have HLM : Aside0 (∀ u ∈ L, u < 62) := ⟨fun u hu => by
               rw [← hL] at hu
               have := (mem_els.1 hu).1
               omega⟩
              have HWN2 : Aside0 (width_nodes.f 12 (s : Int) = some (gi L)) := ⟨by rw [← hL]; exact HWN.out⟩
              rw [hL] at ht
              have hll : L.length ≤ 9 := by rw [← hL]; rw [els_length]; exact pc_le s 9
              have hfv : wr.cell? ⟨vB, 0, none⟩ = some (.int .i64 (v : Int)) := (blk_cell (blk_below HCV.out HB.out) 0).trans rfl
              have HND := Aside0.mk (width_nodes.calls 12 (s : Int) (gi L) wr (GL_below HGL.out (below_step HB7.out (below_step HB9.out HB.out))) HWN2.out)
              have HT5 := Aside0.mk ht
              have HLG := Aside0.mk (gi_length L)
              clear ht hL hs hsl hs7 HWN
              go_wp2_with (go_at_call 104; refine HND.out.mono ?_; rintro e w10 ⟨u5, rfl, hu, hb10⟩; obtain ⟨A5, c5, eu, hc5, hC5⟩ := Kd.R_reads hu; subst eu; have HC5 := Aside0.mk hC5; have HB10 := Aside0.mk hb10; clear hu hb10 hC5 hc5)
              rw [HLG.out]
              have HBT : Aside0 (Below w9.heap.size w9 w10) := ⟨below_step HB.out HB10.out⟩
              have HBOX9 := Aside0.mk (blk_below HBOX9.out HBT.out)
              have HCV9 := Aside0.mk (blk_below HCV.out HBT.out)
              have HB11 : Aside0 (Below w7.heap.size w7 w10) := ⟨below_step HB9.out HBT.out⟩
              clear HB HB10 HND hfv hgg
              have HCBOTH : Aside0 (∀ (uB u : Nat), u < 62 → ∀ W, Below w10.heap.size w10 W → W.cell? ⟨uB, 0, none⟩ = some (.int .i64 (u : Int)) → Calls Tryd.prog 68 #[.slice (some adB) B.length c0, .func (.func 105) #[] #[.pointer (some ⟨uB, 0, none⟩), .pointer (some ⟨vB, 0, none⟩)]] W fun e w' => e = .returned (.bool (B.any (bothB u v))) ∧ Below W.heap.size W w') := ⟨fun uB u hu W hW hc => contains_both (some adB) c0 B (bothB u v) uB vB W (Kd.C_below (Kd.C_below (Kd.C_below HR0.out HB7.out) HB11.out) hW) (by omega) (fun V hV x hx => by
               obtain ⟨j, hj, e⟩ := List.getElem_of_mem hx
               obtain ⟨_, _, q3, q4⟩ := HOK2.out j hj
               unfold rd at q3 q4
               rw [Int.toNat_natCast, List.getD_eq_getElem?_getD, List.getElem?_eq_getElem hj] at q3 q4
               rw [← e]
               obtain ⟨xn, hxn⟩ := Int.eq_ofNat_of_zero_le (show 0 ≤ B[j] from q3)
               have q5 : B[j] < 512 := q4
               rw [hxn] at q5 ⊢
               exact both1 uB vB u v xn hu (by omega) (by omega) V ((hV.cell (World.block_lt_of_cell? W _ hc)).trans hc) ((blk_cell (blk_below HCV9.out (below_step hW hV)) 0).trans rfl))⟩
              go_loopg [143] L.length (fun kq v143 w' => ∃ j : Nat, v143 = .int .i64 (j : Int) ∧ j + kq = L.length ∧ Aside0 ((nbF B v (L.drop j) && tl2 G B P gq (v + 1)) = R) ∧ Aside0 (Below w10.heap.size w10 w'))
              case atStart => exact ⟨0, rfl, by omega, HT5, ⟨Below.refl _ _⟩⟩
              case round =>
               clear HT5
               obtain ⟨j, rfl, hj, HT5, HB⟩ := hrel
               by_cases hjl : j < L.length
               ·have hj1 : ((j : Int) < (L.length : Int)) = True := eq_true (by omega)
                have hj2 : decide ((j : Int) < (L.length : Int)) = true := decide_eq_true (by omega)
                cases gk with
                | zero => omega
                | succ gy =>
                obtain ⟨ad5, e5, hg5⟩ := Kd.at_int (Kd.C_below HC5.out HB.out) (j : Int) (by omega) (by rw [HLG.out]; omega)
                subst e5
                have hra : L.getD j 0 = L[j] := by rw [List.getD_eq_getElem?_getD, List.getElem?_eq_getElem hjl]; rfl
                rw [rd_gi, hra, Int.toNat_natCast] at hg5
                have hu62 := HLM.out L[j] (List.getElem_mem hjl)
                have ht := HT5.out
                rw [List.drop_eq_getElem_cons hjl] at ht
                simp only [nbF] at ht
                generalize L[j] = u at *
                clear HT5 hra
                obtain ⟨an, han⟩ : ∃ b, B.any (bothB u v) = b := ⟨_, rfl⟩
                have HCBU : Aside0 (∀ uB W, Below wr.heap.size wr W → W.cell? ⟨uB, 0, none⟩ = some (.int .i64 (u : Int)) → Calls Tryd.prog 68 #[.slice (some adB) B.length c0, .func (.func 105) #[] #[.pointer (some ⟨uB, 0, none⟩), .pointer (some ⟨vB, 0, none⟩)]] W fun e w' => e = .returned (.bool an) ∧ Below W.heap.size W w') := ⟨fun uB W hW hc => by rw [← han]; exact HCBOTH.out uB u hu62 W (below_step HB.out hW) hc⟩
                rw [han] at ht
                clear han
                cases an
                ·obtain rfl : false = R := by simpa using ht
                 clear ht
                 go_wp2_with (first
               | ((with_reducible refine gate_dst (N := 15) rfl ?_); refine box_event ?hg (N := 15) ?hd (cs := #[.int .i64 0]) (t := 3) ?hr ?_; (case hd => rfl); (case hg => rfl); (case hr => first | (go_simp; done) | (go_simp; rfl)); intro uB hgu w12' hbox hb12; have HGU := Aside0.mk (show wr.heap.size ≤ uB by rw [hgu]; exact Nat.le_refl _); clear hgu; have hu0 : w12'.cell? ⟨uB, 0, none⟩ = some (.int .i64 0) := (blk_cell hbox 0).trans rfl; have huf := blk_frozen hbox 0; have hux0 : ∀ x : Value, (w12'.setCell ⟨uB, 0, none⟩ x).cell? ⟨xB, 0, none⟩ = some (.slice (some adB) B.length c0) := (fun x => (cell_sameT (heap_setT _ ⟨uB, 0, none⟩ x _ (by have := HGU.out; have := HB.out.size; have := blk_ltT HBOX9.out; show xB ≠ uB; omega))).trans ((blk_cell (blk_below (blk_below HBOX9.out HB.out) hb12) 0).trans rfl)); have HBU := Aside0.mk hbox; have HB12 := Aside0.mk hb12; have HBS : Aside0 (Below wr.heap.size wr (w12'.setCell ⟨uB, 0, none⟩ (.int .i64 (u : Int)))) := ⟨below_set hb12 HGU.out⟩; have HCB := Aside0.mk (HCBU.out uB _ HBS.out (by have := HGU.out; exact (blk_cell (blk_set hbox 0 (.int .i64 (u : Int))) 0).trans rfl)); clear hbox hb12)
               | (go_at_call 68; refine HCB.out.mono ?_; rintro e w13 ⟨rfl, hb13⟩; have HB13 := Aside0.mk (below_step HBS.out hb13); clear hb13))
                 go_ret
                 exact ⟨rfl, below_step HB7.out (below_step HB11.out (below_step HB.out HB13.out))⟩
                ·have HT6 : Aside0 ((nbF B v (L.drop (j + 1)) && tl2 G B P gq (v + 1)) = R) := ⟨by simpa using ht⟩
                 clear ht
                 go_wp2_with (first
               | ((with_reducible refine gate_dst (N := 15) rfl ?_); refine box_event ?hg (N := 15) ?hd (cs := #[.int .i64 0]) (t := 3) ?hr ?_; (case hd => rfl); (case hg => rfl); (case hr => first | (go_simp; done) | (go_simp; rfl)); intro uB hgu w12' hbox hb12; have HGU := Aside0.mk (show wr.heap.size ≤ uB by rw [hgu]; exact Nat.le_refl _); clear hgu; have hu0 : w12'.cell? ⟨uB, 0, none⟩ = some (.int .i64 0) := (blk_cell hbox 0).trans rfl; have huf := blk_frozen hbox 0; have hux0 : ∀ x : Value, (w12'.setCell ⟨uB, 0, none⟩ x).cell? ⟨xB, 0, none⟩ = some (.slice (some adB) B.length c0) := (fun x => (cell_sameT (heap_setT _ ⟨uB, 0, none⟩ x _ (by have := HGU.out; have := HB.out.size; have := blk_ltT HBOX9.out; show xB ≠ uB; omega))).trans ((blk_cell (blk_below (blk_below HBOX9.out HB.out) hb12) 0).trans rfl)); have HBU := Aside0.mk hbox; have HB12 := Aside0.mk hb12; have HBS : Aside0 (Below wr.heap.size wr (w12'.setCell ⟨uB, 0, none⟩ (.int .i64 (u : Int)))) := ⟨below_set hb12 HGU.out⟩; have HCB := Aside0.mk (HCBU.out uB _ HBS.out (by have := HGU.out; exact (blk_cell (blk_set hbox 0 (.int .i64 (u : Int))) 0).trans rfl)); clear hbox hb12)
               | (go_at_call 68; refine HCB.out.mono ?_; rintro e w13 ⟨rfl, hb13⟩; have HB13 := Aside0.mk (below_step HBS.out hb13); clear hb13))
                 go_roundg gy
                 case measure => omega
                 case rel => exact ⟨j + 1, by go_num, by omega, HT6, ⟨below_step HB.out HB13.out⟩⟩
               ·have hj1 : ((j : Int) < (L.length : Int)) = False := eq_false (by omega)
                have hj2 : decide ((j : Int) < (L.length : Int)) = false := decide_eq_false (by omega)
                obtain rfl : gk = 0 := by omega
                have ht := HT5.out
                rw [List.drop_eq_nil_of_le (by omega)] at ht
                simp only [nbF, Bool.true_and] at ht
                have HT6 := Aside0.mk ht
                clear ht HT5
                go_wp2
                go_roundg gq
                case measure => omega
                case rel => exact ⟨v + 1, by go_num, by omega, HT6, ⟨below_step HB11.out HB.out⟩⟩
             ·rw [if_neg htp] at ht
              subst ht
              have hx1 : ((t : Int) == 1) = false := by simp; omega
              have hx2 : ((t : Int) != 1) = true := by simp; omega
              have hx3 : (t = 1) = False := eq_false htp
              clear htp
              go_wp2
              go_ret
              exact ⟨rfl, below_step HB7.out (below_step HB9.out HB.out)⟩
          ·have hv1 : ((v : Int) < (G.length : Int)) = False := eq_false (by omega)
           have hv2 : decide ((v : Int) < (G.length : Int)) = false := decide_eq_false (by omega)
           obtain rfl : gk = 0 := by omega
           have ht := HT2.out
           simp only [tl2] at ht
           subst ht
           clear HT2
           go_wp2
           go_ret
           exact ⟨rfl, below_step HB7.out HB.out⟩
        ·rw [if_pos rfl] at hr
         subst hr
         clear hz1
         go_wp2_with (first
          | (go_at_call 98; refine (CAL2.out _ (Below.refl _ _)).mono ?_; rintro e w3 ⟨rfl, hb3⟩; have HB3 := Aside0.mk hb3; have hz3 : w3.cell? ⟨xB, 1, none⟩ = some (.slice A1 P.length c1) := (blk_cell (blk_below HBC.out hb3) 1).trans rfl; clear hb3)
          | (go_at_call 68; refine (CCY.out _ HB3.out).mono ?_; rintro e w4 ⟨rfl, hb4⟩; have HB4 := Aside0.mk (below_step HB3.out hb4); clear hb4))
         go_ret
         exact ⟨rfl, below_step HB7.out (below_step HB.out HB4.out)⟩
       ·rw [if_neg (by rw [HPA.out]; exact h2)] at hr
        subst hr
        have hx5 : ((ac : Int) == (PA : Int)) = false := by simp; omega
        have hx6 : ((ac : Int) != (PA : Int)) = true := by simp; omega
        clear h2 hbc
        go_wp2_with (go_at_call 98; refine (CAL2.out _ (Below.refl _ _)).mono ?_; rintro e w3 ⟨rfl, hb3⟩)
        go_ret
        exact ⟨rfl, below_step HB7.out (below_step HB.out hb3)⟩
      ·rw [if_neg h1] at hr
       subst hr
       have hx1 : ((ro : Int) == 1) = false := by simp; omega
       have hx2 : ((ro : Int) != 1) = true := by simp; omega
       have hx3 : (ro = 1) = False := eq_false h1
       clear h1 hbc
       go_wp2
       go_ret
       exact ⟨rfl, below_step HB7.out HB.out⟩
   ·rw [if_neg hpl] at hR
    subst hR
    have hd3 : ((P.length : Int) == (B.length : Int)) = false := by simp; omega
    have hd4 : ((P.length : Int) != (B.length : Int)) = true := by simp; omega
    clear hb1 hb30 hpl
    go_enter Tryd.func89, Tryd.ntmps89
    go_wp2_with (first | ((with_reducible refine gate_dst (N := 3) rfl ?_); refine box_event ?hg (N := 3) ?hd (cs := #[.slice A0 B.length c0, .slice A1 P.length c1]) (t := 75) ?hr ?_; (case hd => rfl); (case hg => rfl); (case hr => first | (go_simp; done) | (go_simp; rfl)); intro xB hga w7 hbox hb7; have HBOX := Aside0.mk hbox; have HB7 := Aside0.mk hb7; have hz0 : w7.cell? ⟨xB, 0, none⟩ = some (.slice A0 B.length c0) := (blk_cell hbox 0).trans rfl; have hz1 : w7.cell? ⟨xB, 1, none⟩ = some (.slice A1 P.length c1) := (blk_cell hbox 1).trans rfl; clear hbox hb7 hga))
    go_ret
    exact ⟨rfl, HB7.out⟩
def width_town_tree.f (g : List Int) (B P : List Int) : Option Bool := if chk 9 g = true then some (treeB (g.map Int.toNat) B P) else none
theorem width_town_tree.calls (Ag : Option Addr) (cg : Nat) (g : List Int) (A0 : Option Addr) (c0 : Nat) (B : List Int) (A1 : Option Addr) (c1 : Nat) (P : List Int) (r : Bool) (w : World) (hGL : GL w) (hrg : Kd.C (Kd.int .i64) w Ag g.length g) (hcg : g.length ≤ cg) (hr0 : Kd.C (Kd.int .i64) w A0 B.length B) (hc0 : B.length ≤ c0) (hr1 : Kd.C (Kd.int .i64) w A1 P.length P) (hc1 : P.length ≤ c1) (h : width_town_tree.f g B P = some r) :
  Calls Tryd.prog 89 #[.slice Ag g.length cg, .agg #[.slice A0 B.length c0, .slice A1 P.length c1]] w fun e w' => e = .returned (.bool r) ∧ Below w.heap.size w w' := by
 unfold width_town_tree.f at h
 by_cases hchk : chk 9 g = true
 ·rw [if_pos hchk] at h
  obtain ⟨G, rfl, hG⟩ := (chk_iff 9 (by omega) _).1 hchk
  rw [gi_toNatT] at h
  rw [gi_length] at hcg ⊢
  exact tree_calls Ag cg G hG hcg A0 c0 B A1 c1 P r (Option.some.inj h) w hGL hrg hr0 hr1
 ·rw [if_neg hchk] at h
  cases h
theorem gi_toNatN (G : List Nat) : (gi G).map Int.toNat = G := by
 unfold gi
 rw [List.map_map]
 exact (List.map_congr_left (fun x _ => Int.toNat_natCast x)).trans (List.map_id _)
theorem readN_yes {G : List Nat} (hG : Gr 9 G) (A0 : Option Addr) (c0 : Nat) (w : World) (hr0 : Kd.C (Kd.int .i64) w A0 (gi G).length (gi G)) (hc0 : (gi G).length ≤ c0) :
  Calls Tryd.prog 86 #[.slice A0 (gi G).length c0] w fun e w' => ∃ A1 c1, e = .returned (.tuple #[.slice A1 (gi G).length c1, .bool true]) ∧ (gi G).length ≤ c1 ∧ Kd.C (Kd.int .i64) w' A1 (gi G).length (gi G) ∧ Below w.heap.size w w' := by
 obtain ⟨K, hK⟩ := read_evV (gi G) (by rw [gi_length]; have := hG.most; omega)
 have hk := hK K (Nat.le_refl _)
 rw [(chk_iff 9 (by omega) _).2 ⟨G, rfl, hG⟩] at hk
 have := width_read.calls K (fun k_ => k_ < w.heap.size) A0 c0 (gi G) (gi G) true w (Kd.V_mk hc0 (Kd.F_below (Kd.C_F (Kd.heap_int .i64) hr0) (Below.refl _ _))) hk
 refine this.mono ?_
 rintro e w' ⟨v, rfl, hv, hb⟩
 obtain ⟨A1, c1, rfl⟩ := Kd.V_slice hv
 have h2 := Kd.V_reads' hv
 exact ⟨A1, c1, rfl, h2.2.1, h2.2.2, hb⟩
theorem readN_no {g : List Int} (hl : g.length < 2 ^ 60) (hg : chk 9 g = false) (A0 : Option Addr) (c0 : Nat) (w : World) (hr0 : Kd.C (Kd.int .i64) w A0 g.length g) (hc0 : g.length ≤ c0) :
  Calls Tryd.prog 86 #[.slice A0 g.length c0] w fun e w' => ∃ v, e = .returned (.tuple #[v, .bool false]) ∧ Below w.heap.size w w' := by
 obtain ⟨K, hK⟩ := read_evV g hl
 have hk := hK K (Nat.le_refl _)
 rw [hg] at hk
 refine (width_read.calls K (fun k_ => k_ < w.heap.size) A0 c0 g [] false w (Kd.V_mk hc0 (Kd.F_below (Kd.C_F (Kd.heap_int .i64) hr0) (Below.refl _ _))) hk).mono ?_
 rintro e w' ⟨v, rfl, hv, hb⟩
 exact ⟨v, rfl, hb⟩
section
variable {w4 W w3 w5 : World} {gB cB gP cP gO : Nat} {B P : List Int}
end
end Go.Proofs.YtjloppfdagfpmaaDoor.X
end
section
namespace Go.Proofs.YtjloppfdagfpmaaDoor.X
open Go.RowKit YtjloppfdagfpmaaDoorW.PrintWords YtjloppfdagfpmaaDoorW.PrintLast YtjloppfdagfpmaaDoorW.PrintMore YtjloppfdagfpmaaDoor.T
def RestLV (G : List Nat) (gone : Nat) (l : List Nat) : Prop := l.Nodup ∧ ∀ u, u ∈ l ↔ bset (lft G gone) u
theorem RestLV.tail {G : List Nat} {gone v : Nat} {l : List Nat} (h : RestLV G gone (v :: l)) : RestLV G (gone ||| 2 ^ v) l := by
 obtain ⟨h1, h2⟩ := h
 rw [List.nodup_cons] at h1
 refine ⟨h1.2, fun u => ?_⟩
 rw [lft_or, diff_bset, two_pow_bit, ← h2 u, List.mem_cons]
 constructor
 ·intro hu; exact ⟨.inr hu, fun e => h1.1 (e ▸ hu)⟩
 ·rintro ⟨rfl | hu, hne⟩
  ·exact absurd rfl hne
  ·exact hu
theorem alongN_geV (G : List Nat) : ∀ (l : List Nat) (gone o : Nat), o ≤ alongNV G l gone o
 | [], gone, o => Nat.le_refl _
 | v :: l, gone, o => by
  rw [alongNV]
  have := alongN_geV G l (gone ||| 2 ^ v) (max o (dg G gone v))
  omega
section
variable {G : List Nat} (hn : G.length ≤ 9)
include hn
theorem can_of_alongV {m : Nat} : ∀ (l : List Nat) (gone o : Nat), RestLV G gone l → gone < 2 ^ G.length → alongNV G l gone o ≤ m → canB G m gone = true
 | [], gone, o, h, hg, ha => by
  have : gone = 2 ^ G.length - 1 := Classical.byContradiction fun hne => by
   obtain ⟨v, hv⟩ := some_bit (lft_ne hg hne)
   have := (h.2 v).2 hv
   cases this
  rw [this]; exact canB_all m
 | v :: l, gone, o, h, hg, ha => by
  have hv := (h.2 v).1 List.mem_cons_self
  have hne : gone ≠ 2 ^ G.length - 1 := fun e => by rw [e, lft_all] at hv; simp [bset] at hv
  rw [alongNV] at ha
  have h1 := alongN_geV G l (gone ||| 2 ^ v) (max o (dg G gone v))
  exact (canB_true hn hg hne).2 ⟨v, hv, by omega, can_of_alongV l _ _ h.tail (or_in hg hv) ha⟩
theorem find_nextV {k gone : Nat} (hg : gone < 2 ^ G.length) (hne : gone ≠ 2 ^ G.length - 1) (hc : canB G k gone = true) : ∃ x, (els (lft G gone) 9).find? (nextP G k gone) = some x := by
 obtain ⟨v, h1, h2, h3⟩ := (canB_true hn hg hne).1 hc
 have hm : v ∈ els (lft G gone) 9 := mem_els.2 ⟨bit_lt (lft_small hn gone) h1, h1⟩
 cases hf : (els (lft G gone) 9).find? (nextP G k gone) with
 | some x => exact ⟨x, rfl⟩
 | none =>
  have := List.find?_eq_none.1 hf v hm
  unfold nextP at this
  rw [h3, decide_eq_true h2] at this
  simp at this
theorem ordD_isV {k : Nat} : ∀ d gone, pc (lft G gone) 9 = d → gone < 2 ^ G.length → canB G k gone = true → RestLV G gone (ordD G k d gone) ∧ ∀ o, alongNV G (ordD G k d gone) gone o ≤ max o k := by
 intro d
 induction d with
 | zero =>
  intro gone hd hg hc
  have : gone = 2 ^ G.length - 1 := Classical.byContradiction fun hne => pc_pos (lft_small hn gone) (lft_ne hg hne) hd
  rw [ordD]
  refine ⟨⟨List.nodup_nil, fun u => ?_⟩, fun o => by rw [alongNV]; omega⟩
  rw [this, lft_all]
  simp [bset]
 | succ d ih =>
  intro gone hd hg hc
  have hne : gone ≠ 2 ^ G.length - 1 := fun h => by rw [h, lft_all] at hd; simp [pc] at hd
  obtain ⟨x, hx⟩ := find_nextV hn hg hne hc
  obtain ⟨h1, h2, h3⟩ := next_findV hn hx
  have hpc := pc_lft hn h1
  unfold nextP at h2
  rw [Bool.and_eq_true, decide_eq_true_eq] at h2
  obtain ⟨⟨i1, i2⟩, i3⟩ := ih (gone ||| 2 ^ x) (by omega) (or_in hg h1) h2.2
  rw [ordD, hx]
  refine ⟨⟨?_, fun u => ?_⟩, fun o => ?_⟩
  ·show (x :: ordD G k d (gone ||| 2 ^ x)).Nodup
   refine List.nodup_cons.2 ⟨fun hm => ?_, i1⟩
   have := (i2 x).1 hm
   rw [lft_or, diff_bset, two_pow_bit] at this
   exact this.2 rfl
  ·show u ∈ x :: ordD G k d (gone ||| 2 ^ x) ↔ _
   rw [List.mem_cons, i2 u, lft_or, diff_bset, two_pow_bit]
   constructor
   ·rintro (rfl | h)
    ·exact h1
    ·exact h.1
   ·intro h
    by_cases e : u = x
    ·exact .inl e
    ·exact .inr ⟨h, e⟩
  ·show alongNV G (x :: ordD G k d (gone ||| 2 ^ x)) gone o ≤ max o k
   rw [alongNV]
   have := i3 (max o (dg G gone x))
   omega
end
theorem ordL_isV {G : List Nat} (hG : Gr 9 G) {W : Nat} (hW : IsWidth G W) : (ordL G W).Nodup ∧ (∀ v ∈ ordL G W, v < G.length) ∧ (ordL G W).length = G.length ∧ alongNV G (ordL G W) 0 0 = W := by
 have hn := hG.most
 have h2n := Nat.two_pow_pos G.length
 have hc0 : canB G W 0 = true := (canB_zero hn hG).2 ((hW W).1 (Nat.le_refl _))
 obtain ⟨⟨o1, o2⟩, o3⟩ := ordD_isV hn (k := W) G.length 0 (lft_zero_pcV hn) h2n hc0
 have oin : ∀ v ∈ ordL G W, v < G.length := fun v hv => ((lft_bit G 0 v).1 ((o2 v).1 hv)).1
 have olen : (ordL G W).length = G.length := by
  refine Nat.le_antisymm (by have := nodup_le o1 (m := List.range G.length) fun v hv => List.mem_range.2 (oin v hv); rw [List.length_range] at this; exact this) ?_
  have := nodup_le (List.nodup_range (n := G.length)) (m := ordL G W) fun v hv => (o2 v).2 ((lft_bit G 0 v).2 ⟨List.mem_range.1 hv, by simp [bset]⟩)
  simpa using this
 refine ⟨o1, oin, olen, Nat.le_antisymm (by have := o3 0; unfold ordL; omega) ?_⟩
 have := can_of_alongV hn (ordL G W) 0 0 ⟨o1, o2⟩ h2n (Nat.le_refl _)
 exact (hW _).2 ((canB_zero hn hG).1 this)
end Go.Proofs.YtjloppfdagfpmaaDoor.X
end
section
namespace Go.Proofs.YtjloppfdagfpmaaDoor.X
open Go.RowKit YtjloppfdagfpmaaDoorW.PrintWords YtjloppfdagfpmaaDoorW.PrintLast YtjloppfdagfpmaaDoorW.PrintMore
attribute [local go_sem] max2_int min2_int max_two min_two max_three min_three max_four min_four
noncomputable section
def slices_Index_int_int.l0 : Nat → List Int → Int → Int → Int → Option (Int)
 | 0, _, _, _, _ => none
 | k + 1, x0, x1, x7, x8 => if x8 < x7 then (if 0 ≤ x8 then (if x8 < (x0.length : Int) then (if x1 = (rd x0 x8) then (some x8) else (slices_Index_int_int.l0 k x0 x1 x7 (wrap64 (x8 + 1)))) else (none)) else (none)) else (some (-1))
def slices_Index_int_int.f (k : Nat) (l0 : List Int) (a1 : Int) : Option (Int) := slices_Index_int_int.l0 k l0 a1 (l0.length : Int) 0
set_option maxHeartbeats 8000000 in
set_option maxRecDepth 100000 in
theorem slices_Index_int_int.calls (k : Nat) (A0 : Option Addr) (c0 : Nat) (l0 : List Int) (a1 : Int) (r : Int) (w : World) (hr0 : Kd.C (Kd.int .i64) w A0 l0.length l0) (hc0 : l0.length ≤ c0) (h : slices_Index_int_int.f k l0 a1 = some r) :
  Calls Tryd.prog 91 #[.slice A0 l0.length c0, .int .i64 a1] w fun e w' => e = .returned (.int .i64 r) ∧ Drawn0 w w' := by
 have HR0 := Aside0.mk hr0
 have HC0 := Aside0.mk hc0
 clear hr0 hc0
 have H : (slices_Index_int_int.l0 k l0 a1 (l0.length : Int) 0) = some r := h
 clear h
 have H' := Aside0.mk H
 clear H
 go_enter Tryd.func91, Tryd.ntmps91
 go_wp2
 go_loopg [8] k (fun kq v8 w' => ∃ (x8_1 : Int), v8 = .int .i64 x8_1 ∧ Aside0 (slices_Index_int_int.l0 kq l0 a1 (l0.length : Int) x8_1 = some r) ∧ Aside0 (kq ≤ k) ∧ Drawn0 w w')
 case atStart => exact ⟨(0), (Qrs), H', ⟨Nat.le_refl _⟩, by repeat (first | exact Drawn0.refl _ | apply Drawn0.step)⟩
 case round =>
  clear H'
  try clear p2
  obtain ⟨x8_1, rfl, HA, HK1, ⟨m1, rfl⟩⟩ := hrel
  cases gk with
  | zero => exact absurd HA.out (by simp [slices_Index_int_int.l0])
  | succ k1 =>
   have H := HA.out
   clear HA
   simp only [slices_Index_int_int.l0] at H
   by_cases c3 : x8_1 < (l0.length : Int)
   ·rw [if_pos c3] at H
    have c3b0 : decide (x8_1 < (l0.length : Int)) = true := decide_eq_true c3
    clear c3
    by_cases c4 : 0 ≤ x8_1
    ·rw [if_pos c4] at H
     have c4b0 : decide (0 ≤ x8_1) = true := decide_eq_true c4
     clear c4
     by_cases c5 : x8_1 < (l0.length : Int)
     ·rw [if_pos c5] at H
      have c5b0 : decide (x8_1 < (l0.length : Int)) = true := decide_eq_true c5
      clear c5
      by_cases c6 : a1 = (rd l0 x8_1)
      ·rw [if_pos c6] at H
       have c6b0 : (a1 == (rd l0 x8_1)) = true := beq_iff_eq.mpr c6
       have c6b1 : (a1 != (rd l0 x8_1)) = false := bne_eq_false_iff_eq.mpr c6
       clear c6
       obtain rfl := Option.some.inj H
       have p819 : 0 ≤ (x8_1 : Int) := of_decide_eq_true (Qas)
       have q819 : x8_1 < (l0.length : Int) := of_decide_eq_true (Qas)
       obtain ⟨ad819, e819, hx819_0⟩ := Kd.at_int HR0.out x8_1 p819 q819
       cases e819
       replace p819 := eq_true p819
       replace q819 := eq_true q819
       go_wp2
       go_ret
       exact ⟨by first | rfl | (simp; done) | (simp [*]; done), by repeat (first | exact Drawn0.refl _ | apply Drawn0.step)⟩
      ·rw [if_neg c6] at H
       have c6b0 : (a1 == (rd l0 x8_1)) = false := beq_eq_false_iff_ne.mpr c6
       have c6b1 : (a1 != (rd l0 x8_1)) = true := bne_iff_ne.mpr c6
       have H' := Aside0.mk H
       clear H
       have p819 : 0 ≤ (x8_1 : Int) := of_decide_eq_true (Qas)
       have q819 : x8_1 < (l0.length : Int) := of_decide_eq_true (Qas)
       obtain ⟨ad819, e819, hx819_0⟩ := Kd.at_int HR0.out x8_1 p819 q819
       cases e819
       replace p819 := eq_true p819
       replace q819 := eq_true q819
       go_wp2
       go_roundg k1
       case measure => have := HK1.out; omega
       case rel => exact ⟨(wrap64 (x8_1 + 1)), (Qrs), H', ⟨by have := HK1.out; omega⟩, by repeat (first | exact Drawn0.refl _ | apply Drawn0.step)⟩
     ·rw [if_neg c5] at H
      exact absurd H (by simp)
    ·rw [if_neg c4] at H
     exact absurd H (by simp)
   ·rw [if_neg c3] at H
    have c3b0 : decide (x8_1 < (l0.length : Int)) = false := decide_eq_false c3
    clear c3
    obtain rfl := Option.some.inj H
    go_wp2
    go_ret
    exact ⟨by first | rfl | (simp; done) | (simp [*]; done), by repeat (first | exact Drawn0.refl _ | apply Drawn0.step)⟩
end
end Go.Proofs.YtjloppfdagfpmaaDoor.X
end
